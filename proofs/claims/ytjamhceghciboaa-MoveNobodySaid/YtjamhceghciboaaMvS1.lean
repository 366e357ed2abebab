/- What a move says at phase 1. -/
import Derived.Test.YtjamhceghciboaaMvW
namespace Go.Proofs.Ytjamhceghciboaa
open Go.RowKit

set_option maxHeartbeats 4000000 in
theorem says_1 (b : Nat) (m : MoveS) (w : World) (h : MoveAt w b m) (hp : m.ph = 1) :
    Calls Try.prog 17 #[.pointer (some ⟨b, 0, none⟩)] w fun e w' => e = .returned (.tuple #[.int .i64 m.saysTo, .agg m.saysMsg, .bool m.saysOk]) ∧ Below w.heap.size w w' := by
  obtain ⟨h0, h1, h2, h3, h4, h5, h6, h7, hne, hlt⟩ := h.all
  have hto : m.saysTo = m.fr := by simp [MoveS.saysTo, hp]
  have hok : m.saysOk = true := by simp [MoveS.saysOk, hp]
  have hmsg : m.saysMsg = msgOf 7 m.sh 0 m.num 0 ⟨#[]⟩ := by unfold MoveS.saysMsg; rw [if_pos hok]; simp [MoveS.saysKind, hp]
  rw [hto, hok, hmsg]
  rw [hp] at h5
  clear h hp hto hok hmsg
  generalize m.num = num at *
  generalize m.epo = epo at *
  generalize m.sh = sh at *
  generalize m.fr = fr at *
  generalize m.to = to at *
  generalize m.ver = ver at *
  generalize m.txt = txt at *
  go_enter Try.func17, Try.ntmps17
  go_wp2
  go_region
  go_wp2
  go_region
  go_wp2
  refine bodyPost_ret (v := .tuple #[.int .i64 _, .agg (msgOf _ _ _ _ _ _), .bool true]) (by simp [results, Try.results17, go_sem, msgOf]; try rfl) rfl ⟨rfl, ?_⟩
  go_grown
end Go.Proofs.Ytjamhceghciboaa
