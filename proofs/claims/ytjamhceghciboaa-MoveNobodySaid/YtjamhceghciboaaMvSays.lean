/- What a move says, at whatever phase. -/
import Derived.Test.YtjamhceghciboaaMvS1
import Derived.Test.YtjamhceghciboaaMvS2
import Derived.Test.YtjamhceghciboaaMvS3
import Derived.Test.YtjamhceghciboaaMvS4
import Derived.Test.YtjamhceghciboaaMvS5
import Derived.Test.YtjamhceghciboaaMvS7
import Derived.Test.YtjamhceghciboaaMvS8
namespace Go.Proofs.Ytjamhceghciboaa
open Go.RowKit

set_option maxHeartbeats 1000000 in
theorem says_none (b : Nat) (m : MoveS) (w : World) (h : MoveAt w b m) (hp : m.ph ≠ 1 ∧ m.ph ≠ 2 ∧ m.ph ≠ 3 ∧ m.ph ≠ 4 ∧ m.ph ≠ 5 ∧ m.ph ≠ 7 ∧ m.ph ≠ 8) :
    Calls Try.prog 17 #[.pointer (some ⟨b, 0, none⟩)] w fun e w' => e = .returned (.tuple #[.int .i64 m.saysTo, .agg m.saysMsg, .bool m.saysOk]) ∧ Below w.heap.size w w' := by
  obtain ⟨h0, h1, h2, h3, h4, h5, h6, h7, hne, hlt⟩ := h.all
  have hto : m.saysTo = -1 := by simp [MoveS.saysTo, hp]
  have hok : m.saysOk = false := by simp [MoveS.saysOk, hp]
  have hmsg : m.saysMsg = msgOf 0 0 0 0 0 ⟨#[]⟩ := by unfold MoveS.saysMsg; rw [if_neg (by rw [hok]; decide)]
  rw [hto, hok, hmsg]
  obtain ⟨p1, p2, p3, p4, p5, p7, p8⟩ := hp
  have q1 : (m.ph == 1) = false := beq_eq_false_iff_ne.2 p1
  have q2 : (m.ph == 2) = false := beq_eq_false_iff_ne.2 p2
  have q3 : (m.ph == 3) = false := beq_eq_false_iff_ne.2 p3
  have q4 : (m.ph == 4) = false := beq_eq_false_iff_ne.2 p4
  have q5 : (m.ph == 5) = false := beq_eq_false_iff_ne.2 p5
  have q7 : (m.ph == 7) = false := beq_eq_false_iff_ne.2 p7
  have q8 : (m.ph == 8) = false := beq_eq_false_iff_ne.2 p8
  clear h hto hok hmsg p1 p2 p3 p4 p5 p7 p8
  generalize m.num = num at *
  generalize m.epo = epo at *
  generalize m.sh = sh at *
  generalize m.fr = fr at *
  generalize m.to = to at *
  generalize m.ph = ph at *
  generalize m.ver = ver at *
  generalize m.txt = txt at *
  go_enter Try.func17, Try.ntmps17
  go_wp2
  go_region
  go_wp2
  refine bodyPost_ret (v := .tuple #[.int .i64 _, .agg (msgOf _ _ _ _ _ _), .bool false]) (by simp [results, Try.results17, go_sem, msgOf]; try rfl) rfl ⟨rfl, ?_⟩
  go_grown

theorem says_any (b : Nat) (m : MoveS) (w : World) (h : MoveAt w b m) :
    Calls Try.prog 17 #[.pointer (some ⟨b, 0, none⟩)] w fun e w' => e = .returned (.tuple #[.int .i64 m.saysTo, .agg m.saysMsg, .bool m.saysOk]) ∧ Below w.heap.size w w' := by
  rcases m.ways with hp | hp | hp | hp | hp | hp | hp | hp
  · exact says_1 b m w h hp
  · exact says_2 b m w h hp
  · exact says_3 b m w h hp
  · exact says_4 b m w h hp
  · exact says_5 b m w h hp
  · exact says_7 b m w h hp
  · exact says_8 b m w h hp
  · exact says_none b m w h hp
end Go.Proofs.Ytjamhceghciboaa
