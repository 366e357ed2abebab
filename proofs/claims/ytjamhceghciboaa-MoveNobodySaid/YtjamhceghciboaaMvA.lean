/- The walks: a move that nobody made; that two messages are the same; what must come. -/
import Derived.Test.YtjamhceghciboaaMvY
import Derived.Test.YtjamhceghciboaaMvN
namespace Go.Proofs.Ytjamhceghciboaa
open Go.RowKit

set_option maxHeartbeats 400000 in
theorem says_nil (w : World) :
    Calls Try.prog 17 #[.pointer none] w fun e w' => e = .returned (.tuple #[.int .i64 (-1), .agg (msgOf 0 0 0 0 0 ⟨#[]⟩), .bool false]) ∧ Below w.heap.size w w' := by
  go_enter Try.func17, Try.ntmps17
  go_wp2
  refine bodyPost_ret (v := .tuple #[.int .i64 _, .agg (msgOf _ _ _ _ _ _), .bool false]) (by simp [results, Try.results17, go_sem, msgOf]; try rfl) rfl ⟨rfl, ?_⟩
  go_grown
set_option maxHeartbeats 400000 in
theorem phase_nil (w : World) :
    Calls Try.prog 18 #[.pointer none] w fun e w' => e = .returned (.int .i64 0) ∧ w = w' := by
  go_enter Try.func18, Try.ntmps18
  go_wp2
  go_ret
  exact ⟨rfl, rfl⟩
set_option maxHeartbeats 400000 in
theorem abort_nil (w : World) :
    Calls Try.prog 13 #[.pointer none] w fun e w' => e = .returned (.int .i64 1) ∧ w = w' := by
  go_enter Try.func13, Try.ntmps13
  go_wp2
  go_ret
  exact ⟨rfl, rfl⟩
set_option maxHeartbeats 400000 in
theorem abort_zero (b : Nat) (m : MoveS) (w : World) (h : MoveAt w b m) (h0 : m.ph = 0) :
    Calls Try.prog 13 #[.pointer (some ⟨b, 0, none⟩)] w fun e w' => e = .returned (.int .i64 1) ∧ w = w' := by
  have m5 : w.cell? ⟨b, 5, none⟩ = some (.int .i64 0) := by rw [← h0]; exact h.cell 5
  clear h h0
  go_enter Try.func13, Try.ntmps13
  go_wp2
  go_ret
  exact ⟨rfl, rfl⟩
set_option maxHeartbeats 400000 in
theorem hears_nil (fr k s n ver : Int) (t : ByteArray) (v2 v3 v4 v7 v8 v9 v10 v11 v12 v13 v14 : Value) (w : World) :
    Calls Try.prog 15 #[.pointer none, .int .i64 fr, .agg (msgAny k s n ver t v2 v3 v4 v7 v8 v9 v10 v11 v12 v13 v14)] w fun e w' => e = .returned (.bool false) ∧ Below w.heap.size w w' := by
  unfold msgAny
  go_enter Try.func15, Try.ntmps15
  go_wp2_with fail
  refine (says_nil _).mono ?_
  rintro e w1 ⟨rfl, hb1⟩
  have HB : Veil (Below w.heap.size w w1) := veil (((Below.refl _ _).alloc (Nat.le_refl _) _).trans (hb1.mono (by simp)))
  clear hb1
  unfold msgOf
  go_wp2
  go_ret
  exact ⟨rfl, HB.out.alloc HB.out.size _⟩

set_option maxHeartbeats 400000 in
theorem sameInts_nil (w : World) :
    Calls Try.prog 27 #[.slice none 0 0, .slice none 0 0] w fun e w' => e = .returned (.bool true) ∧ w = w' := by
  go_enter Try.func27, Try.ntmps27
  go_wp2
  refine wp_loop_rounds 1 ?_
  rw [rounds_succ]
  go_wp2
  go_ret
  exact ⟨rfl, rfl⟩
set_option maxHeartbeats 400000 in
theorem sameHits_nil (w : World) :
    Calls Try.prog 26 #[.slice none 0 0, .slice none 0 0] w fun e w' => e = .returned (.bool true) ∧ w = w' := by
  go_enter Try.func26, Try.ntmps26
  go_wp2
  refine wp_loop_rounds 1 ?_
  rw [rounds_succ]
  go_wp2
  go_ret
  exact ⟨rfl, rfl⟩
set_option maxHeartbeats 400000 in
theorem sameOp_nil (w : World) :
    Calls Try.prog 25 #[.agg #[.int .i64 0, .int .i64 0, .slice none 0 0, .int .i64 0], .agg #[.int .i64 0, .int .i64 0, .slice none 0 0, .int .i64 0]] w fun e w' => e = .returned (.bool true) ∧ Below w.heap.size w w' := by
  go_enter Try.func25, Try.ntmps25
  go_wp2_with fail
  refine (sameInts_nil _).mono ?_
  rintro e w1 ⟨rfl, rfl⟩
  go_wp2
  go_ret
  exact ⟨rfl, by go_grown⟩
end Go.Proofs.Ytjamhceghciboaa
