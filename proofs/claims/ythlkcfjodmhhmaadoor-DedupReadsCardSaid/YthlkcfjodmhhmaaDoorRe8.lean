/- Texts put together by prune.py: DdO, DdP, DdQ, LayB. -/
import Derived.BigQuiet
import Derived.Test.YthlkcfjodmhhmaaDoorRows
import Derived.Lib.LaidIn
import Derived.Lib.LaidU8T
import Derived.Deep.DeepHandedRow
import Derived.Deep.DeepWitnessRowRef
import Derived.ProofKit
import Derived.SizedLaws
import Derived.Test.YthlkcfjodmhhmaaDoorRe7
namespace Go.Proofs.YthlkcfjodmhhmaaDoor.Dd
open Go.RowKit Go.Lib Go.Proofs.YthlkcfjodmhhmaaDoor.Giv Go.Proofs.YthlkcfjodmhhmaaDoor.Pure Go.Proofs.YthlkcfjodmhhmaaDoorW.PrintWords Go.Proofs.YthlkcfjodmhhmaaDoorW.PrintLast Go.Proofs.YthlkcfjodmhhmaaDoorW.PrintMore
set_option linter.unusedVariables false
set_option linter.unusedSimpArgs false
theorem number_calls (n : Int) (w : World) :
    Calls Tryd.prog 25 #[.int .i64 n] w fun e w' => e = .returned (.agg #[.int .i64 1, .int .i64 n, .string ⟨#[]⟩, .slice none 0 0]) ∧ Below w.heap.size w w' := by
  have hu := Tryd.underlying66
  go_enter Tryd.func25, Tryd.ntmps25
  go_wp2
  go_returns
  refine ⟨rfl, ?_⟩
  exact (Below.refl _ _).alloc (Nat.le_refl _) _
theorem R_but2 {d : Kd V} {e : Nat} {w w' : World} {base g : Nat} {ok : Nat → Prop} {v : Value} {xs : List V} (h : d.R e w base ok v xs) (hok : ∀ k, ok k → k ≠ g) (hb : But g w w') : d.R e w' base ok v xs := by
  refine Kd.R_mono (Kd.R_move (Kd.R_bound h) (fun k hk => ?_)) (fun k hk => hk.1)
  obtain ⟨h1, h2, h3, _⟩ := hk
  have : w.heap[k]? = some w.heap[k] := Array.getElem?_eq_getElem h3
  rw [this]
  exact hb.2 k _ (hok k h1) this
def okR (w0 : World) (k : Nat) : Prop := k ≠ w0.heap.size ∧ k ≠ w0.heap.size + 1
def TX (w0 w : World) (T : List Ent) (v3 : Value) : Prop := w0.heap.size + 2 ≤ w.heap.size ∧ Below w0.heap.size w0 w ∧ RTab w w0.heap.size T ∧ w.heap[w0.heap.size + 1]? = some (.cells #[.int .i64 3, .int .i64 0, .string ⟨#[]⟩, v3] 66 (0, 0))
theorem TX.kept {w0 w w' : World} {T : List Ent} {v3 : Value} (h : TX w0 w T v3) (hb : Below w.heap.size w w') : TX w0 w' T v3 := ⟨Nat.le_trans h.1 hb.size, below_step h.2.1 hb, h.2.2.1.kept hb, blk_below h.2.2.2 hb⟩
theorem TX.drew {w0 w : World} {T : List Ent} {v3 : Value} (h : TX w0 w T v3) : TX w0 w.drew T v3 := h.kept (below_drew (Below.refl _ _))
theorem TX.alloc {w0 w : World} {T : List Ent} {v3 : Value} (h : TX w0 w T v3) (o : Obj) : TX w0 (w.alloc o) T v3 := h.kept (below_alloc (Below.refl _ _) o)
theorem TX.below {w0 w : World} {T : List Ent} {v3 : Value} (h : TX w0 w T v3) : Below w0.heap.size w0 w := h.2.1
theorem TX.ge {w0 w : World} {T : List Ent} {v3 : Value} (h : TX w0 w T v3) : w0.heap.size + 2 ≤ w.heap.size := h.1
theorem TX.fresh {w0 w : World} {T : List Ent} {v3 : Value} (h : TX w0 w T v3) : ∀ k, w.heap.size ≤ k → okR w0 k := fun k hk => ⟨by have := h.1; omega, by have := h.1; omega⟩
theorem TX.at {w0 w : World} {T : List Ent} {v3 : Value} (h : TX w0 w T v3) (i : Nat) (hi : i < 8) {xs xe : Int} {xw : Bool} (hx : T.getD i zE = ⟨xs, xe, xw⟩) :
    w.cell? ⟨w0.heap.size, i * 3, none⟩ = some (.int .i64 xs) ∧ w.cell? ⟨w0.heap.size, i * 3 + 1, none⟩ = some (.int .i64 xe) ∧ w.cell? ⟨w0.heap.size, i * 3 + 2, none⟩ = some (.bool xw) ∧ w.cell? ⟨w0.heap.size + 1, 3, none⟩ = some v3 := by
  obtain ⟨a, b, c⟩ := h.2.2.1.cell i hi
  rw [hx] at a b c
  exact ⟨a, b, c, blk_cell h.2.2.2 3⟩
theorem TX.v {w0 w : World} {T : List Ent} {v3 : Value} (h : TX w0 w T v3) : w.cell? ⟨w0.heap.size + 1, 0, none⟩ = some (.int .i64 3) ∧ w.cell? ⟨w0.heap.size + 1, 1, none⟩ = some (.int .i64 0) ∧ w.cell? ⟨w0.heap.size + 1, 2, none⟩ = some (.string ⟨#[]⟩) ∧ w.cell? ⟨w0.heap.size + 1, 3, none⟩ = some v3 :=
  ⟨blk_cell h.2.2.2 0, blk_cell h.2.2.2 1, blk_cell h.2.2.2 2, blk_cell h.2.2.2 3⟩
theorem TX.frozen {w0 w : World} {T : List Ent} {v3 : Value} (h : TX w0 w T v3) (i : Nat) : w.frozen? ⟨w0.heap.size + 1, i, none⟩ = false := blk_frozen h.2.2.2 i
theorem TX.grown {w0 w w' : World} {T : List Ent} {v3 : Value} {row : Option Nat} (h : TX w0 w T v3) (hg : w.grownBy w' row) (h0 : some w0.heap.size ≠ row) (h1 : some (w0.heap.size + 1) ≠ row) (hb : Below w0.heap.size w0 w') (hs : w.heap.size ≤ w'.heap.size) : TX w0 w' T v3 := ⟨Nat.le_trans h.1 hs, hb, ⟨h.2.2.1.1, blk_grown h.2.2.1.2 hg h0⟩, blk_grown h.2.2.2 hg h1⟩
theorem TX.set {w0 w : World} {T : List Ent} {v3 : Value} (h : TX w0 w T v3) (v9 : Value) : TX w0 (w.setCell ⟨w0.heap.size + 1, 3, none⟩ v9) T v9 := by
  have hB := But.set1 (w0.heap.size + 1) 3 w v9
  refine ⟨?_, hB.1 _ _ h.2.1 (by omega), h.2.2.1.other hB (by omega), blk_put h.2.2.2 3 v9 rfl⟩
  exact Nat.le_trans h.1 (hB.1 0 w (Below.refl 0 w) (Nat.zero_le _)).size
set_option maxHeartbeats 8000000 in
set_option maxRecDepth 100000 in
theorem rtext_calls {w : World} (T : List Ent) (hT : T.length = 8) (k : Nat) (t : ByteArray) (er : Int) (ht : P.ploverref02_Put.f k 3 0 ⟨#[]⟩ (rowsM 0 T) = some (t, er)) :
    Calls Tryd.prog 17 #[.agg (T.flatMap Ent.cells).toArray] w fun e w' => e = .returned (.string t) ∧ Below w.heap.size w w' := by
  have HP := Aside0.mk ht
  have HX0 := Aside0.mk (show TX w ((w.alloc (.cells (T.flatMap Ent.cells).toArray 50)).alloc (.cells #[.int .i64 3, .int .i64 0, .string ⟨#[]⟩, .slice none 0 0] 66)) T (.slice none 0 0) from by
    have a2 := blk_new (w.alloc (.cells (T.flatMap Ent.cells).toArray 50)) (.cells #[.int .i64 3, .int .i64 0, .string ⟨#[]⟩, .slice none 0 0] 66)
    rw [show (w.alloc (.cells (T.flatMap Ent.cells).toArray 50)).heap.size = w.heap.size + 1 by simp] at a2
    exact ⟨by simp, below_alloc (below_alloc (Below.refl _ _) _) _, ⟨hT, blk_alloc (blk_new w _) _⟩, a2⟩)
  clear ht
  go_enter Tryd.func17, Tryd.ntmps17
  go_wp2_with fail
  go_loopw [4] (fun v4 wr => ∃ (i : Nat) (v3 : Value), i ≤ 8 ∧ v4 = .int .i64 (i : Int) ∧ Aside0 (Kd.R P.k66 66 wr w.heap.size (okR w) v3 (rowsM 0 (T.take i))) ∧ Aside0 (TX w wr T v3)) (fun v4 _ => 8 - (RowKit.intOf v4).toNat)
  case atStart => exact ⟨0, _, Nat.zero_le _, rfl, ⟨Kd.R_nil _ _ _ _ _⟩, HX0⟩
  case round =>
    obtain ⟨i, v3, hi, rfl, HR, HX⟩ := hrel
    clear HX0
    by_cases hlt : i < 8
    · have c0 : decide ((i : Int) < 8) = true := decide_eq_true (by omega)
      have i0 : (0 : Int) ≤ (i : Int) := by omega
      have i2 : (i : Int) < 8 := by omega
      have HLEN := Aside0.mk (show ((rowsM 0 (T.take i)).length + 1) * 56 ≤ 140737488355328 by have := rowsM_len (T.take i) 0; rw [List.length_take] at this; omega)
      have HS := Aside0.mk (rowsM_step T i (by omega))
      have HLT := Aside0.mk (fun k hk => HR.out.1 k hk)
      obtain ⟨X, hX⟩ : ∃ X, T.getD i zE = X := ⟨_, rfl⟩
      have HXE := Aside0.mk hX
      rw [hX] at HS
      clear hX
      obtain ⟨xs, xe, xw⟩ := X
      dsimp only at *
      obtain ⟨x0, x1, x2, x3⟩ := HX.out.at i hlt HXE.out
      by_cases hz : xs = 0
      · subst hz
        have d0 : ((0 : Int) == 0) = true := rfl
        go_wp2_with fail
        go_roundw
        case rel => exact ⟨i + 1, v3, by omega, by go_num, by rw [HS.out, if_pos rfl]; exact HR, HX⟩
        case measure => simp [RowKit.intOf]; omega
      · have d0 : (xs == 0) = false := beq_eq_false_iff_ne.2 hz
        cases xw with
        | false =>
          go_wp2_with fail
          -- REGION
          refine Cut.wp_region_cut (S := (fun w' : World => w'.cell? ⟨w.heap.size, i * 3, none⟩ = some (.int .i64 xs) ∧ w'.cell? ⟨w.heap.size, i * 3 + 1, none⟩ = some (.int .i64 xe) ∧ w'.cell? ⟨w.heap.size + 1, 3, none⟩ = some v3)) (by kernel_rfl) rfl rfl (by kernel_rfl) (by kernel_rfl) ?_
          simp only [List.pop_toArray, List.dropLast, List.size_toArray, List.length_cons, List.length_nil]
          have HSW : (fun w' : World => w'.cell? ⟨w.heap.size, i * 3, none⟩ = some (.int .i64 xs) ∧ w'.cell? ⟨w.heap.size, i * 3 + 1, none⟩ = some (.int .i64 xe) ∧ w'.cell? ⟨w.heap.size + 1, 3, none⟩ = some v3) wr.drew := ⟨x0, x1, x3⟩
          refine wpAnyH_take (i := 0) (v := ?vf0) rfl (by kernel_rfl) (by kernel_rfl) (by kernel_rfl) (fun _ _ _ h => h) (Or.inl ⟨by rfl, ?hyf0⟩) HSW ?restf0
          case hyf0 => (intro w hSw; (try dsimp only at hSw); go_simp; first | done | with_reducible rfl)
          try simp only [Act.put, List.getElem_toArray, List.getElem_cons_zero, List.getElem_cons_succ, List.setIfInBounds_toArray, List.set_cons_zero, List.set_cons_succ]
          refine wpAnyH_take (i := 1) (v := ?vf1) rfl (by kernel_rfl) (by kernel_rfl) (by kernel_rfl) (fun _ _ _ h => h) (Or.inl ⟨by rfl, ?hyf1⟩) HSW ?restf1
          case hyf1 => (intro w hSw; (try dsimp only at hSw); go_simp; first | done | with_reducible rfl)
          try simp only [Act.put, List.getElem_toArray, List.getElem_cons_zero, List.getElem_cons_succ, List.setIfInBounds_toArray, List.set_cons_zero, List.set_cons_succ]
          refine wpAnyH_take (i := 2) (v := ?vf2) rfl (by kernel_rfl) (by kernel_rfl) (by kernel_rfl) (fun _ _ _ h => h) (Or.inl ⟨by rfl, ?hyf2⟩) HSW ?restf2
          case hyf2 => (intro w hSw; (try dsimp only at hSw); go_simp; first | done | with_reducible rfl)
          try simp only [Act.put, List.getElem_toArray, List.getElem_cons_zero, List.getElem_cons_succ, List.setIfInBounds_toArray, List.set_cons_zero, List.set_cons_succ]
          refine wpAnyH_take (i := 4) (v := ?vf4) rfl (by kernel_rfl) (by kernel_rfl) (by kernel_rfl) (fun _ _ _ h => h) (Or.inl ⟨by rfl, ?hyf4⟩) HSW ?restf4
          case hyf4 => (intro w hSw; (try dsimp only at hSw); go_simp; first | done | with_reducible rfl)
          try simp only [Act.put, List.getElem_toArray, List.getElem_cons_zero, List.getElem_cons_succ, List.setIfInBounds_toArray, List.set_cons_zero, List.set_cons_succ]
          refine wpAnyH_take (i := 5) (v := ?vf5) rfl (by kernel_rfl) (by kernel_rfl) (by kernel_rfl) (fun _ _ _ h => h) (Or.inl ⟨by rfl, ?hyf5⟩) HSW ?restf5
          case hyf5 => (intro w hSw; (try dsimp only at hSw); go_simp; first | done | with_reducible rfl)
          try simp only [Act.put, List.getElem_toArray, List.getElem_cons_zero, List.getElem_cons_succ, List.setIfInBounds_toArray, List.set_cons_zero, List.set_cons_succ]
          refine wpAnyH_take (i := 6) (v := ?vf6) rfl (by kernel_rfl) (by kernel_rfl) (by kernel_rfl) (fun _ _ _ h => h) (Or.inl ⟨by rfl, ?hyf6⟩) HSW ?restf6
          case hyf6 => (intro w hSw; (try dsimp only at hSw); go_simp; first | done | with_reducible rfl)
          try simp only [Act.put, List.getElem_toArray, List.getElem_cons_zero, List.getElem_cons_succ, List.setIfInBounds_toArray, List.set_cons_zero, List.set_cons_succ]
          refine wpAnyH_take (i := 7) (v := ?vf7) rfl (by kernel_rfl) (by kernel_rfl) (by kernel_rfl) (fun _ _ _ h => h) (Or.inl ⟨by rfl, ?hyf7⟩) HSW ?restf7
          case hyf7 => (intro w hSw; (try dsimp only at hSw); go_simp; first | done | with_reducible rfl)
          try simp only [Act.put, List.getElem_toArray, List.getElem_cons_zero, List.getElem_cons_succ, List.setIfInBounds_toArray, List.set_cons_zero, List.set_cons_succ]
          refine wpAnyH_take (i := 9) (v := ?vf9) rfl (by kernel_rfl) (by kernel_rfl) (by kernel_rfl) (fun _ _ _ h => h) (Or.inl ⟨by rfl, ?hyf9⟩) HSW ?restf9
          case hyf9 => (intro w hSw; (try dsimp only at hSw); go_simp; first | done | with_reducible rfl)
          try simp only [Act.put, List.getElem_toArray, List.getElem_cons_zero, List.getElem_cons_succ, List.setIfInBounds_toArray, List.set_cons_zero, List.set_cons_succ]
          refine wpAnyH_take (i := 10) (v := ?vf10) rfl (by kernel_rfl) (by kernel_rfl) (by kernel_rfl) (fun _ _ _ h => h) (Or.inl ⟨by rfl, ?hyf10⟩) HSW ?restf10
          case hyf10 => (intro w hSw; (try dsimp only at hSw); go_simp; first | done | with_reducible rfl)
          try simp only [Act.put, List.getElem_toArray, List.getElem_cons_zero, List.getElem_cons_succ, List.setIfInBounds_toArray, List.set_cons_zero, List.set_cons_succ]
          refine wpAnyH_take (i := 11) (v := ?vf11) rfl (by kernel_rfl) (by kernel_rfl) (by kernel_rfl) (fun _ _ _ h => h) (Or.inl ⟨by rfl, ?hyf11⟩) HSW ?restf11
          case hyf11 => (intro w hSw; (try dsimp only at hSw); go_simp; first | done | with_reducible rfl)
          try simp only [Act.put, List.getElem_toArray, List.getElem_cons_zero, List.getElem_cons_succ, List.setIfInBounds_toArray, List.set_cons_zero, List.set_cons_succ]
          refine wpAnyH_take (i := 12) (v := ?vf12) rfl (by kernel_rfl) (by kernel_rfl) (by kernel_rfl) (fun _ _ _ h => h) (Or.inl ⟨by rfl, ?hyf12⟩) HSW ?restf12
          case hyf12 => (intro w hSw; (try dsimp only at hSw); go_simp; first | done | with_reducible rfl)
          try simp only [Act.put, List.getElem_toArray, List.getElem_cons_zero, List.getElem_cons_succ, List.setIfInBounds_toArray, List.set_cons_zero, List.set_cons_succ]
          refine wpAnyH_take (i := 14) (v := ?vf14) rfl (by kernel_rfl) (by kernel_rfl) (by kernel_rfl) (fun _ _ _ h => h) (Or.inl ⟨by rfl, ?hyf14⟩) HSW ?restf14
          case hyf14 => (intro w hSw; (try dsimp only at hSw); go_simp; first | done | with_reducible rfl)
          try simp only [Act.put, List.getElem_toArray, List.getElem_cons_zero, List.getElem_cons_succ, List.setIfInBounds_toArray, List.set_cons_zero, List.set_cons_succ]
          refine wpAnyH_ready (rs := [3]) (by kernel_rfl) (by simp) ?_
          refine AllReadyH.cons (i := 3) rfl (fun K hK => ?_) AllReadyH.nil
          go_simp
          refine (number_calls _ _).mono ?_
          rintro e w5 ⟨rfl, hb5⟩
          have HX := Aside0.mk (TX.kept (by first | with_reducible exact HX.out | with_reducible exact TX.drew HX.out) hb5)
          have HR := Aside0.mk (Kd.R_below (by first | with_reducible exact HR.out | with_reducible exact Kd.R_drew HR.out) hb5)
          obtain ⟨x0, x1, x2, x3⟩ := TX.at HX.out i hlt HXE.out
          clear hb5
          dsimp only
          refine hK.out _ _ (⟨x0, x1, x3⟩) (fun hHeld => ?_)
          have HSW := hHeld
          clear hK K hHeld
          try simp only [Act.put, List.getElem_toArray, List.getElem_cons_zero, List.getElem_cons_succ, List.setIfInBounds_toArray, List.set_cons_zero, List.set_cons_succ]
          refine wpAnyH_ready (rs := [8]) (by kernel_rfl) (by simp) ?_
          refine AllReadyH.cons (i := 8) rfl (fun K hK => ?_) AllReadyH.nil
          go_simp
          refine (number_calls _ _).mono ?_
          rintro e w5 ⟨rfl, hb5⟩
          have HX := Aside0.mk (TX.kept (by first | with_reducible exact HX.out | with_reducible exact TX.drew HX.out) hb5)
          have HR := Aside0.mk (Kd.R_below (by first | with_reducible exact HR.out | with_reducible exact Kd.R_drew HR.out) hb5)
          obtain ⟨x0, x1, x2, x3⟩ := TX.at HX.out i hlt HXE.out
          clear hb5
          dsimp only
          refine hK.out _ _ (⟨x0, x1, x3⟩) (fun hHeld => ?_)
          have HSW := hHeld
          clear hK K hHeld
          try simp only [Act.put, List.getElem_toArray, List.getElem_cons_zero, List.getElem_cons_succ, List.setIfInBounds_toArray, List.set_cons_zero, List.set_cons_succ]
          refine wpAnyH_ready (rs := [13]) (by kernel_rfl) (by simp) ?_
          refine AllReadyH.cons (i := 13) rfl (fun K hK => ?_) AllReadyH.nil
          go_simp
          refine (number_calls _ _).mono ?_
          rintro e w5 ⟨rfl, hb5⟩
          have HX := Aside0.mk (TX.kept (by first | with_reducible exact HX.out | with_reducible exact TX.drew HX.out) hb5)
          have HR := Aside0.mk (Kd.R_below (by first | with_reducible exact HR.out | with_reducible exact Kd.R_drew HR.out) hb5)
          obtain ⟨x0, x1, x2, x3⟩ := TX.at HX.out i hlt HXE.out
          clear hb5
          dsimp only
          refine hK.out _ _ (⟨x0, x1, x3⟩) (fun hHeld => ?_)
          have HSW := hHeld
          clear hK K hHeld
          try simp only [Act.put, List.getElem_toArray, List.getElem_cons_zero, List.getElem_cons_succ, List.setIfInBounds_toArray, List.set_cons_zero, List.set_cons_succ]
          refine wpAnyH_ready (rs := [15]) (by kernel_rfl) (by simp) ?_
          refine AllReadyH.cons (i := 15) rfl (fun K hK => ?_) AllReadyH.nil
          go_simp
          refine (number_calls _ _).mono ?_
          rintro e w5 ⟨rfl, hb5⟩
          have HX := Aside0.mk (TX.kept (by first | with_reducible exact HX.out | with_reducible exact TX.drew HX.out) hb5)
          have HR := Aside0.mk (Kd.R_below (by first | with_reducible exact HR.out | with_reducible exact Kd.R_drew HR.out) hb5)
          obtain ⟨x0, x1, x2, x3⟩ := TX.at HX.out i hlt HXE.out
          clear hb5
          dsimp only
          refine hK.out _ _ (⟨x0, x1, x3⟩) (fun hHeld => ?_)
          have HSW := hHeld
          clear hK K hHeld
          try simp only [Act.put, List.getElem_toArray, List.getElem_cons_zero, List.getElem_cons_succ, List.setIfInBounds_toArray, List.set_cons_zero, List.set_cons_succ]
          refine wpAnyH_ready (rs := [16]) (by kernel_rfl) (by simp) ?_
          refine AllReadyH.cons (i := 16) rfl (fun K hK => ?_) AllReadyH.nil
          go_simp
          have HG := Aside0.mk (show w.heap.size ≤ w5.heap.size from Nat.le_trans (Nat.le_add_right _ 2) (TX.ge HX.out))
          have HF := Aside0.mk (fun k hk => TX.fresh HX.out k hk)
          have HLR := Aside0.mk (fun k hk => Kd.R_lt HR.out k hk)
          have B4 := Aside0.mk (blk_new w5 (.cells #[.int .i64 1, .int .i64 (i : Int), .string ⟨#[]⟩, .slice none 0 0, .int .i64 1, .int .i64 xs, .string ⟨#[]⟩, .slice none 0 0, .int .i64 1, .int .i64 xe, .string ⟨#[]⟩, .slice none 0 0, .int .i64 1, .int .i64 0, .string ⟨#[]⟩, .slice none 0 0] 66))
          have HX := Aside0.mk (TX.alloc HX.out (.cells #[.int .i64 1, .int .i64 (i : Int), .string ⟨#[]⟩, .slice none 0 0, .int .i64 1, .int .i64 xs, .string ⟨#[]⟩, .slice none 0 0, .int .i64 1, .int .i64 xe, .string ⟨#[]⟩, .slice none 0 0, .int .i64 1, .int .i64 0, .string ⟨#[]⟩, .slice none 0 0] 66))
          have HR := Aside0.mk (Kd.R_alloc HR.out (.cells #[.int .i64 1, .int .i64 (i : Int), .string ⟨#[]⟩, .slice none 0 0, .int .i64 1, .int .i64 xs, .string ⟨#[]⟩, .slice none 0 0, .int .i64 1, .int .i64 xe, .string ⟨#[]⟩, .slice none 0 0, .int .i64 1, .int .i64 0, .string ⟨#[]⟩, .slice none 0 0] 66))
          obtain ⟨x0, x1, x2, x3⟩ := TX.at HX.out i hlt HXE.out
          refine hK.out _ _ (⟨x0, x1, x3⟩) (fun hHeld => ?_)
          have HSW := hHeld
          clear hK K hHeld
          try simp only [Act.put, List.getElem_toArray, List.getElem_cons_zero, List.getElem_cons_succ, List.setIfInBounds_toArray, List.set_cons_zero, List.set_cons_succ]
          refine wpAnyH_take (i := 17) (v := ?vf17) rfl (by kernel_rfl) (by kernel_rfl) (by kernel_rfl) (fun _ _ _ h => h) (Or.inl ⟨by rfl, ?hyf17⟩) HSW ?restf17
          case hyf17 => (intro w hSw; (try dsimp only at hSw); go_simp; first | done | with_reducible rfl)
          try simp only [Act.put, List.getElem_toArray, List.getElem_cons_zero, List.getElem_cons_succ, List.setIfInBounds_toArray, List.set_cons_zero, List.set_cons_succ]
          refine wpAnyH_ready (rs := [18]) (by kernel_rfl) (by simp) ?_
          refine AllReadyH.cons (i := 18) rfl (fun K hK => ?_) AllReadyH.nil
          go_simp
          obtain ⟨x0', x1', x2', x3'⟩ := TX.at (TX.alloc HX.out (.cells #[.int .i64 3, .int .i64 0, .string ⟨#[]⟩, .slice (some ⟨w5.heap.size, 0, none⟩) 4 4] 66)) i hlt HXE.out
          refine hK.out _ _ (⟨x0', x1', x3'⟩) (fun hHeld => ?_)
          have HSW := hHeld
          clear hK K hHeld
          try simp only [Act.put, List.getElem_toArray, List.getElem_cons_zero, List.getElem_cons_succ, List.setIfInBounds_toArray, List.set_cons_zero, List.set_cons_succ]
          refine wpAnyH_ready (rs := [19]) (by kernel_rfl) (by simp) ?_
          refine AllReadyH.cons (i := 19) rfl (fun K hK => ?_) AllReadyH.nil
          refine Kd.R_append_step P.k66 (w0 := w) (W := w5.alloc (.cells #[.int .i64 1, .int .i64 (i : Int), .string ⟨#[]⟩, .slice none 0 0, .int .i64 1, .int .i64 xs, .string ⟨#[]⟩, .slice none 0 0, .int .i64 1, .int .i64 xe, .string ⟨#[]⟩, .slice none 0 0, .int .i64 1, .int .i64 0, .string ⟨#[]⟩, .slice none 0 0] 66)) w.heap.size rfl (.tmp 23) (.tmp 40) 64 66 _ 56 rfl Tryd.underlying64 P.info66 rfl (by decide) (by decide) v3 (rowsM 0 (T.take i)) (rowV (i : Int) ⟨xs, xe, false⟩) [.int .i64 3, .int .i64 0, .string ⟨#[]⟩, .slice (some ⟨w5.heap.size, 0, none⟩) 4 4] (okR w) (fun k => okR w k ∧ some k ≠ v3.ownBlock) rfl ?aXf ?aPf (fun _ hk => hk) ?aFf HR.out (TX.below HX.out) (TX.below HX.out).size HLEN.out ?_
          case aXf => (rw [World.size_alloc]; rfl)
          case aPf => exact P.k66_mkM _ w.heap.size _ (rowV (i : Int) ⟨xs, xe, false⟩) (R_row4 (i : Int) xs xe _ HG.out ⟨HF.out _ (Nat.le_refl _), fun hk => Nat.lt_irrefl _ (HLR.out _ hk.symm)⟩ B4.out)
          case aFf => exact fun k hk => TX.fresh HX.out k hk
          intro v9 w9 ho hb9 hg9 hat9
          obtain ⟨A9, c9, rfl⟩ := Kd.R_slice ho
          have HO9 := Aside0.mk ho
          have HX9 := Aside0.mk (TX.grown HX.out hg9 (fun hk => (HLT.out _ hk.symm).1 rfl) (fun hk => (HLT.out _ hk.symm).2 rfl) hb9 hg9.size)
          obtain ⟨x0, x1, x2, x3⟩ := TX.at HX9.out i hlt HXE.out
          have f3 := TX.frozen HX9.out 3
          clear ho hb9 hg9 hat9
          refine hK.out _ _ (⟨x0, x1, x3⟩) (fun hHeld => ?_)
          have HSW := hHeld
          clear hK K hHeld
          try simp only [Act.put, List.getElem_toArray, List.getElem_cons_zero, List.getElem_cons_succ, List.setIfInBounds_toArray, List.set_cons_zero, List.set_cons_succ]
          refine wpAnyH_take (i := 20) (v := ?vf20) rfl (by kernel_rfl) (by kernel_rfl) (by kernel_rfl) (fun _ _ _ h => h) (Or.inl ⟨by rfl, ?hyf20⟩) HSW ?restf20
          case hyf20 => (intro w hSw; (try dsimp only at hSw); go_simp; first | done | with_reducible rfl)
          try simp only [Act.put, List.getElem_toArray, List.getElem_cons_zero, List.getElem_cons_succ, List.setIfInBounds_toArray, List.set_cons_zero, List.set_cons_succ]
          refine wpAnyH_done (by kernel_rfl) ?_ _
          unfold Cut.cutQ
          clear HSW HF HLR B4 HG x0 x1 x2
          go_wp2_with fail
          refine ⟨⟨i + 1, .slice A9 ((rowsM 0 (T.take i)).length + 1) c9, by omega, rfl, ⟨?_⟩, ⟨TX.set HX9.out _⟩⟩, by simp [RowKit.intOf]; omega⟩
          have h := HO9.out
          rw [List.length_append] at h
          rw [HS.out, if_neg hz]
          exact R_but2 (g := w.heap.size + 1) h (fun k hk => hk.2) (But.set1 (w.heap.size + 1) 3 w9 _)
        | true =>
          go_wp2_with fail
          -- REGION
          refine Cut.wp_region_cut (S := (fun w' : World => w'.cell? ⟨w.heap.size, i * 3, none⟩ = some (.int .i64 xs) ∧ w'.cell? ⟨w.heap.size, i * 3 + 1, none⟩ = some (.int .i64 xe) ∧ w'.cell? ⟨w.heap.size + 1, 3, none⟩ = some v3)) (by kernel_rfl) rfl rfl (by kernel_rfl) (by kernel_rfl) ?_
          simp only [List.pop_toArray, List.dropLast, List.size_toArray, List.length_cons, List.length_nil]
          have HSW : (fun w' : World => w'.cell? ⟨w.heap.size, i * 3, none⟩ = some (.int .i64 xs) ∧ w'.cell? ⟨w.heap.size, i * 3 + 1, none⟩ = some (.int .i64 xe) ∧ w'.cell? ⟨w.heap.size + 1, 3, none⟩ = some v3) wr.drew := ⟨x0, x1, x3⟩
          refine wpAnyH_take (i := 0) (v := ?vt0) rfl (by kernel_rfl) (by kernel_rfl) (by kernel_rfl) (fun _ _ _ h => h) (Or.inl ⟨by rfl, ?hyt0⟩) HSW ?restt0
          case hyt0 => (intro w hSw; (try dsimp only at hSw); go_simp; first | done | with_reducible rfl)
          try simp only [Act.put, List.getElem_toArray, List.getElem_cons_zero, List.getElem_cons_succ, List.setIfInBounds_toArray, List.set_cons_zero, List.set_cons_succ]
          refine wpAnyH_take (i := 1) (v := ?vt1) rfl (by kernel_rfl) (by kernel_rfl) (by kernel_rfl) (fun _ _ _ h => h) (Or.inl ⟨by rfl, ?hyt1⟩) HSW ?restt1
          case hyt1 => (intro w hSw; (try dsimp only at hSw); go_simp; first | done | with_reducible rfl)
          try simp only [Act.put, List.getElem_toArray, List.getElem_cons_zero, List.getElem_cons_succ, List.setIfInBounds_toArray, List.set_cons_zero, List.set_cons_succ]
          refine wpAnyH_take (i := 2) (v := ?vt2) rfl (by kernel_rfl) (by kernel_rfl) (by kernel_rfl) (fun _ _ _ h => h) (Or.inl ⟨by rfl, ?hyt2⟩) HSW ?restt2
          case hyt2 => (intro w hSw; (try dsimp only at hSw); go_simp; first | done | with_reducible rfl)
          try simp only [Act.put, List.getElem_toArray, List.getElem_cons_zero, List.getElem_cons_succ, List.setIfInBounds_toArray, List.set_cons_zero, List.set_cons_succ]
          refine wpAnyH_take (i := 4) (v := ?vt4) rfl (by kernel_rfl) (by kernel_rfl) (by kernel_rfl) (fun _ _ _ h => h) (Or.inl ⟨by rfl, ?hyt4⟩) HSW ?restt4
          case hyt4 => (intro w hSw; (try dsimp only at hSw); go_simp; first | done | with_reducible rfl)
          try simp only [Act.put, List.getElem_toArray, List.getElem_cons_zero, List.getElem_cons_succ, List.setIfInBounds_toArray, List.set_cons_zero, List.set_cons_succ]
          refine wpAnyH_take (i := 5) (v := ?vt5) rfl (by kernel_rfl) (by kernel_rfl) (by kernel_rfl) (fun _ _ _ h => h) (Or.inl ⟨by rfl, ?hyt5⟩) HSW ?restt5
          case hyt5 => (intro w hSw; (try dsimp only at hSw); go_simp; first | done | with_reducible rfl)
          try simp only [Act.put, List.getElem_toArray, List.getElem_cons_zero, List.getElem_cons_succ, List.setIfInBounds_toArray, List.set_cons_zero, List.set_cons_succ]
          refine wpAnyH_take (i := 6) (v := ?vt6) rfl (by kernel_rfl) (by kernel_rfl) (by kernel_rfl) (fun _ _ _ h => h) (Or.inl ⟨by rfl, ?hyt6⟩) HSW ?restt6
          case hyt6 => (intro w hSw; (try dsimp only at hSw); go_simp; first | done | with_reducible rfl)
          try simp only [Act.put, List.getElem_toArray, List.getElem_cons_zero, List.getElem_cons_succ, List.setIfInBounds_toArray, List.set_cons_zero, List.set_cons_succ]
          refine wpAnyH_take (i := 7) (v := ?vt7) rfl (by kernel_rfl) (by kernel_rfl) (by kernel_rfl) (fun _ _ _ h => h) (Or.inl ⟨by rfl, ?hyt7⟩) HSW ?restt7
          case hyt7 => (intro w hSw; (try dsimp only at hSw); go_simp; first | done | with_reducible rfl)
          try simp only [Act.put, List.getElem_toArray, List.getElem_cons_zero, List.getElem_cons_succ, List.setIfInBounds_toArray, List.set_cons_zero, List.set_cons_succ]
          refine wpAnyH_take (i := 9) (v := ?vt9) rfl (by kernel_rfl) (by kernel_rfl) (by kernel_rfl) (fun _ _ _ h => h) (Or.inl ⟨by rfl, ?hyt9⟩) HSW ?restt9
          case hyt9 => (intro w hSw; (try dsimp only at hSw); go_simp; first | done | with_reducible rfl)
          try simp only [Act.put, List.getElem_toArray, List.getElem_cons_zero, List.getElem_cons_succ, List.setIfInBounds_toArray, List.set_cons_zero, List.set_cons_succ]
          refine wpAnyH_take (i := 10) (v := ?vt10) rfl (by kernel_rfl) (by kernel_rfl) (by kernel_rfl) (fun _ _ _ h => h) (Or.inl ⟨by rfl, ?hyt10⟩) HSW ?restt10
          case hyt10 => (intro w hSw; (try dsimp only at hSw); go_simp; first | done | with_reducible rfl)
          try simp only [Act.put, List.getElem_toArray, List.getElem_cons_zero, List.getElem_cons_succ, List.setIfInBounds_toArray, List.set_cons_zero, List.set_cons_succ]
          refine wpAnyH_take (i := 11) (v := ?vt11) rfl (by kernel_rfl) (by kernel_rfl) (by kernel_rfl) (fun _ _ _ h => h) (Or.inl ⟨by rfl, ?hyt11⟩) HSW ?restt11
          case hyt11 => (intro w hSw; (try dsimp only at hSw); go_simp; first | done | with_reducible rfl)
          try simp only [Act.put, List.getElem_toArray, List.getElem_cons_zero, List.getElem_cons_succ, List.setIfInBounds_toArray, List.set_cons_zero, List.set_cons_succ]
          refine wpAnyH_take (i := 12) (v := ?vt12) rfl (by kernel_rfl) (by kernel_rfl) (by kernel_rfl) (fun _ _ _ h => h) (Or.inl ⟨by rfl, ?hyt12⟩) HSW ?restt12
          case hyt12 => (intro w hSw; (try dsimp only at hSw); go_simp; first | done | with_reducible rfl)
          try simp only [Act.put, List.getElem_toArray, List.getElem_cons_zero, List.getElem_cons_succ, List.setIfInBounds_toArray, List.set_cons_zero, List.set_cons_succ]
          refine wpAnyH_take (i := 14) (v := ?vt14) rfl (by kernel_rfl) (by kernel_rfl) (by kernel_rfl) (fun _ _ _ h => h) (Or.inl ⟨by rfl, ?hyt14⟩) HSW ?restt14
          case hyt14 => (intro w hSw; (try dsimp only at hSw); go_simp; first | done | with_reducible rfl)
          try simp only [Act.put, List.getElem_toArray, List.getElem_cons_zero, List.getElem_cons_succ, List.setIfInBounds_toArray, List.set_cons_zero, List.set_cons_succ]
          refine wpAnyH_ready (rs := [3]) (by kernel_rfl) (by simp) ?_
          refine AllReadyH.cons (i := 3) rfl (fun K hK => ?_) AllReadyH.nil
          go_simp
          refine (number_calls _ _).mono ?_
          rintro e w5 ⟨rfl, hb5⟩
          have HX := Aside0.mk (TX.kept (by first | with_reducible exact HX.out | with_reducible exact TX.drew HX.out) hb5)
          have HR := Aside0.mk (Kd.R_below (by first | with_reducible exact HR.out | with_reducible exact Kd.R_drew HR.out) hb5)
          obtain ⟨x0, x1, x2, x3⟩ := TX.at HX.out i hlt HXE.out
          clear hb5
          dsimp only
          refine hK.out _ _ (⟨x0, x1, x3⟩) (fun hHeld => ?_)
          have HSW := hHeld
          clear hK K hHeld
          try simp only [Act.put, List.getElem_toArray, List.getElem_cons_zero, List.getElem_cons_succ, List.setIfInBounds_toArray, List.set_cons_zero, List.set_cons_succ]
          refine wpAnyH_ready (rs := [8]) (by kernel_rfl) (by simp) ?_
          refine AllReadyH.cons (i := 8) rfl (fun K hK => ?_) AllReadyH.nil
          go_simp
          refine (number_calls _ _).mono ?_
          rintro e w5 ⟨rfl, hb5⟩
          have HX := Aside0.mk (TX.kept (by first | with_reducible exact HX.out | with_reducible exact TX.drew HX.out) hb5)
          have HR := Aside0.mk (Kd.R_below (by first | with_reducible exact HR.out | with_reducible exact Kd.R_drew HR.out) hb5)
          obtain ⟨x0, x1, x2, x3⟩ := TX.at HX.out i hlt HXE.out
          clear hb5
          dsimp only
          refine hK.out _ _ (⟨x0, x1, x3⟩) (fun hHeld => ?_)
          have HSW := hHeld
          clear hK K hHeld
          try simp only [Act.put, List.getElem_toArray, List.getElem_cons_zero, List.getElem_cons_succ, List.setIfInBounds_toArray, List.set_cons_zero, List.set_cons_succ]
          refine wpAnyH_ready (rs := [13]) (by kernel_rfl) (by simp) ?_
          refine AllReadyH.cons (i := 13) rfl (fun K hK => ?_) AllReadyH.nil
          go_simp
          refine (number_calls _ _).mono ?_
          rintro e w5 ⟨rfl, hb5⟩
          have HX := Aside0.mk (TX.kept (by first | with_reducible exact HX.out | with_reducible exact TX.drew HX.out) hb5)
          have HR := Aside0.mk (Kd.R_below (by first | with_reducible exact HR.out | with_reducible exact Kd.R_drew HR.out) hb5)
          obtain ⟨x0, x1, x2, x3⟩ := TX.at HX.out i hlt HXE.out
          clear hb5
          dsimp only
          refine hK.out _ _ (⟨x0, x1, x3⟩) (fun hHeld => ?_)
          have HSW := hHeld
          clear hK K hHeld
          try simp only [Act.put, List.getElem_toArray, List.getElem_cons_zero, List.getElem_cons_succ, List.setIfInBounds_toArray, List.set_cons_zero, List.set_cons_succ]
          refine wpAnyH_ready (rs := [15]) (by kernel_rfl) (by simp) ?_
          refine AllReadyH.cons (i := 15) rfl (fun K hK => ?_) AllReadyH.nil
          go_simp
          refine (number_calls _ _).mono ?_
          rintro e w5 ⟨rfl, hb5⟩
          have HX := Aside0.mk (TX.kept (by first | with_reducible exact HX.out | with_reducible exact TX.drew HX.out) hb5)
          have HR := Aside0.mk (Kd.R_below (by first | with_reducible exact HR.out | with_reducible exact Kd.R_drew HR.out) hb5)
          obtain ⟨x0, x1, x2, x3⟩ := TX.at HX.out i hlt HXE.out
          clear hb5
          dsimp only
          refine hK.out _ _ (⟨x0, x1, x3⟩) (fun hHeld => ?_)
          have HSW := hHeld
          clear hK K hHeld
          try simp only [Act.put, List.getElem_toArray, List.getElem_cons_zero, List.getElem_cons_succ, List.setIfInBounds_toArray, List.set_cons_zero, List.set_cons_succ]
          refine wpAnyH_ready (rs := [16]) (by kernel_rfl) (by simp) ?_
          refine AllReadyH.cons (i := 16) rfl (fun K hK => ?_) AllReadyH.nil
          go_simp
          have HG := Aside0.mk (show w.heap.size ≤ w5.heap.size from Nat.le_trans (Nat.le_add_right _ 2) (TX.ge HX.out))
          have HF := Aside0.mk (fun k hk => TX.fresh HX.out k hk)
          have HLR := Aside0.mk (fun k hk => Kd.R_lt HR.out k hk)
          have B4 := Aside0.mk (blk_new w5 (.cells #[.int .i64 1, .int .i64 (i : Int), .string ⟨#[]⟩, .slice none 0 0, .int .i64 1, .int .i64 xs, .string ⟨#[]⟩, .slice none 0 0, .int .i64 1, .int .i64 xe, .string ⟨#[]⟩, .slice none 0 0, .int .i64 1, .int .i64 1, .string ⟨#[]⟩, .slice none 0 0] 66))
          have HX := Aside0.mk (TX.alloc HX.out (.cells #[.int .i64 1, .int .i64 (i : Int), .string ⟨#[]⟩, .slice none 0 0, .int .i64 1, .int .i64 xs, .string ⟨#[]⟩, .slice none 0 0, .int .i64 1, .int .i64 xe, .string ⟨#[]⟩, .slice none 0 0, .int .i64 1, .int .i64 1, .string ⟨#[]⟩, .slice none 0 0] 66))
          have HR := Aside0.mk (Kd.R_alloc HR.out (.cells #[.int .i64 1, .int .i64 (i : Int), .string ⟨#[]⟩, .slice none 0 0, .int .i64 1, .int .i64 xs, .string ⟨#[]⟩, .slice none 0 0, .int .i64 1, .int .i64 xe, .string ⟨#[]⟩, .slice none 0 0, .int .i64 1, .int .i64 1, .string ⟨#[]⟩, .slice none 0 0] 66))
          obtain ⟨x0, x1, x2, x3⟩ := TX.at HX.out i hlt HXE.out
          refine hK.out _ _ (⟨x0, x1, x3⟩) (fun hHeld => ?_)
          have HSW := hHeld
          clear hK K hHeld
          try simp only [Act.put, List.getElem_toArray, List.getElem_cons_zero, List.getElem_cons_succ, List.setIfInBounds_toArray, List.set_cons_zero, List.set_cons_succ]
          refine wpAnyH_take (i := 17) (v := ?vt17) rfl (by kernel_rfl) (by kernel_rfl) (by kernel_rfl) (fun _ _ _ h => h) (Or.inl ⟨by rfl, ?hyt17⟩) HSW ?restt17
          case hyt17 => (intro w hSw; (try dsimp only at hSw); go_simp; first | done | with_reducible rfl)
          try simp only [Act.put, List.getElem_toArray, List.getElem_cons_zero, List.getElem_cons_succ, List.setIfInBounds_toArray, List.set_cons_zero, List.set_cons_succ]
          refine wpAnyH_ready (rs := [18]) (by kernel_rfl) (by simp) ?_
          refine AllReadyH.cons (i := 18) rfl (fun K hK => ?_) AllReadyH.nil
          go_simp
          obtain ⟨x0', x1', x2', x3'⟩ := TX.at (TX.alloc HX.out (.cells #[.int .i64 3, .int .i64 0, .string ⟨#[]⟩, .slice (some ⟨w5.heap.size, 0, none⟩) 4 4] 66)) i hlt HXE.out
          refine hK.out _ _ (⟨x0', x1', x3'⟩) (fun hHeld => ?_)
          have HSW := hHeld
          clear hK K hHeld
          try simp only [Act.put, List.getElem_toArray, List.getElem_cons_zero, List.getElem_cons_succ, List.setIfInBounds_toArray, List.set_cons_zero, List.set_cons_succ]
          refine wpAnyH_ready (rs := [19]) (by kernel_rfl) (by simp) ?_
          refine AllReadyH.cons (i := 19) rfl (fun K hK => ?_) AllReadyH.nil
          refine Kd.R_append_step P.k66 (w0 := w) (W := w5.alloc (.cells #[.int .i64 1, .int .i64 (i : Int), .string ⟨#[]⟩, .slice none 0 0, .int .i64 1, .int .i64 xs, .string ⟨#[]⟩, .slice none 0 0, .int .i64 1, .int .i64 xe, .string ⟨#[]⟩, .slice none 0 0, .int .i64 1, .int .i64 1, .string ⟨#[]⟩, .slice none 0 0] 66)) w.heap.size rfl (.tmp 23) (.tmp 40) 64 66 _ 56 rfl Tryd.underlying64 P.info66 rfl (by decide) (by decide) v3 (rowsM 0 (T.take i)) (rowV (i : Int) ⟨xs, xe, true⟩) [.int .i64 3, .int .i64 0, .string ⟨#[]⟩, .slice (some ⟨w5.heap.size, 0, none⟩) 4 4] (okR w) (fun k => okR w k ∧ some k ≠ v3.ownBlock) rfl ?aXt ?aPt (fun _ hk => hk) ?aFt HR.out (TX.below HX.out) (TX.below HX.out).size HLEN.out ?_
          case aXt => (rw [World.size_alloc]; rfl)
          case aPt => exact P.k66_mkM _ w.heap.size _ (rowV (i : Int) ⟨xs, xe, true⟩) (R_row4 (i : Int) xs xe _ HG.out ⟨HF.out _ (Nat.le_refl _), fun hk => Nat.lt_irrefl _ (HLR.out _ hk.symm)⟩ B4.out)
          case aFt => exact fun k hk => TX.fresh HX.out k hk
          intro v9 w9 ho hb9 hg9 hat9
          obtain ⟨A9, c9, rfl⟩ := Kd.R_slice ho
          have HO9 := Aside0.mk ho
          have HX9 := Aside0.mk (TX.grown HX.out hg9 (fun hk => (HLT.out _ hk.symm).1 rfl) (fun hk => (HLT.out _ hk.symm).2 rfl) hb9 hg9.size)
          obtain ⟨x0, x1, x2, x3⟩ := TX.at HX9.out i hlt HXE.out
          have f3 := TX.frozen HX9.out 3
          clear ho hb9 hg9 hat9
          refine hK.out _ _ (⟨x0, x1, x3⟩) (fun hHeld => ?_)
          have HSW := hHeld
          clear hK K hHeld
          try simp only [Act.put, List.getElem_toArray, List.getElem_cons_zero, List.getElem_cons_succ, List.setIfInBounds_toArray, List.set_cons_zero, List.set_cons_succ]
          refine wpAnyH_take (i := 20) (v := ?vt20) rfl (by kernel_rfl) (by kernel_rfl) (by kernel_rfl) (fun _ _ _ h => h) (Or.inl ⟨by rfl, ?hyt20⟩) HSW ?restt20
          case hyt20 => (intro w hSw; (try dsimp only at hSw); go_simp; first | done | with_reducible rfl)
          try simp only [Act.put, List.getElem_toArray, List.getElem_cons_zero, List.getElem_cons_succ, List.setIfInBounds_toArray, List.set_cons_zero, List.set_cons_succ]
          refine wpAnyH_done (by kernel_rfl) ?_ _
          unfold Cut.cutQ
          clear HSW HF HLR B4 HG x0 x1 x2
          go_wp2_with fail
          refine ⟨⟨i + 1, .slice A9 ((rowsM 0 (T.take i)).length + 1) c9, by omega, rfl, ⟨?_⟩, ⟨TX.set HX9.out _⟩⟩, by simp [RowKit.intOf]; omega⟩
          have h := HO9.out
          rw [List.length_append] at h
          rw [HS.out, if_neg hz]
          exact R_but2 (g := w.heap.size + 1) h (fun k hk => hk.2) (But.set1 (w.heap.size + 1) 3 w9 _)
    · obtain rfl : i = 8 := by omega
      have c0 : decide (((8 : Nat) : Int) < 8) = false := by decide
      rw [List.take_of_length_le (by omega)] at HR
      obtain ⟨A3, c3, rfl⟩ := Kd.R_slice HR.out
      have HR2 := Kd.R_reads' HR.out
      have HPC := Aside0.mk (P.ploverref02_Put.calls k 3 0 ⟨#[]⟩ A3 c3 (rowsM 0 T) t er wr HR2.2.2 HR2.2.1 HP.out)
      obtain ⟨z0, z1, z2, z3⟩ := TX.v HX.out
      clear HR2
      go_wp2_with fail
      refine HPC.out.mono ?_
      rintro e w4 ⟨rfl, hb4⟩
      have HX := Aside0.mk (TX.kept HX.out hb4)
      clear hb4
      go_wp2_with fail
      go_returns
      exact ⟨rfl, TX.below HX.out⟩
end Go.Proofs.YthlkcfjodmhhmaaDoor.Dd
namespace Go.Proofs.YthlkcfjodmhhmaaDoor.Dd
open Go.RowKit Go.Lib Go.Proofs.YthlkcfjodmhhmaaDoor.Giv Go.Proofs.YthlkcfjodmhhmaaDoor.Pure Go.Proofs.YthlkcfjodmhhmaaDoorW.PrintWords Go.Proofs.YthlkcfjodmhhmaaDoorW.PrintLast Go.Proofs.YthlkcfjodmhhmaaDoorW.PrintMore
set_option linter.unusedVariables false
set_option linter.unusedSimpArgs false
def rokS (x : V) : Bool := x.f3.length == 4 && ((P.rd_T66 x.f3 0).f0 == 1 && (mayM (P.rd_T66 x.f3 0).f1 (P.rd_T66 x.f3 1).f1 && (decide (0 ≤ (P.rd_T66 x.f3 2).f1) && decide ((P.rd_T66 x.f3 2).f1 ≤ 255))))
def rofL : List V → List Ent → Option (List Ent)
  | [], T => some T
  | x :: xs, T => if rokS x = true then rofL xs (T.set (P.rd_T66 x.f3 0).f1.toNat ⟨(P.rd_T66 x.f3 1).f1, (P.rd_T66 x.f3 2).f1, (P.rd_T66 x.f3 3).f1 == 1⟩) else none
def rofM (s : ByteArray) : Option (List Ent) := if (onlyM s).2 = 0 then (match rofL (onlyM s).1.f3 T0 with | some T => if (textM T).toList = s.toList then some T else none | none => none) else none
def RofPost (R : Option (List Ent)) (w : World) (e : Ending) (w' : World) : Prop :=
  e = .returned (.tuple #[.agg ((R.getD T0).flatMap Ent.cells).toArray, .int .i64 (if R.isSome = true then 0 else 20)]) ∧ Below w.heap.size w w'
def RX (w0 w : World) (T : List Ent) : Prop := Below w0.heap.size w0 w ∧ w.heap[w0.heap.size]? = some (.cells (T0.flatMap Ent.cells).toArray 50 (0, 0)) ∧ RTab w (w0.heap.size + 1) T
theorem RX.below {w0 w : World} {T : List Ent} (h : RX w0 w T) : Below w0.heap.size w0 w := h.1
theorem RX.res {w0 w : World} {T : List Ent} (h : RX w0 w T) : w.heap[w0.heap.size]? = some (.cells (T0.flatMap Ent.cells).toArray 50 (0, 0)) := h.2.1
theorem RX.tab {w0 w : World} {T : List Ent} (h : RX w0 w T) : RTab w (w0.heap.size + 1) T := h.2.2
theorem RX.len {w0 w : World} {T : List Ent} (h : RX w0 w T) : T.length = 8 := h.2.2.1
theorem RX.lt {w0 w : World} {T : List Ent} (h : RX w0 w T) : w0.heap.size + 1 < w.heap.size := blk_lt h.2.2.2
theorem RX.kept {w0 w w' : World} {T : List Ent} (h : RX w0 w T) (hb : Below w.heap.size w w') : RX w0 w' T := ⟨below_step h.1 hb, blk_below h.2.1 hb, h.2.2.kept hb⟩
theorem RX.drew {w0 w : World} {T : List Ent} (h : RX w0 w T) : RX w0 w.drew T := h.kept (below_drew (Below.refl _ _))
theorem RX.alloc {w0 w : World} {T : List Ent} (h : RX w0 w T) (o : Obj) : RX w0 (w.alloc o) T := h.kept (below_alloc (Below.refl _ _) o)
theorem RX.set {w0 w : World} {T : List Ent} (h : RX w0 w T) (k : Nat) (hk : k < 8) (x : Ent) : RX w0 (((w.setCell ⟨w0.heap.size + 1, k * 3, none⟩ (.int .i64 x.s)).setCell ⟨w0.heap.size + 1, k * 3 + 1, none⟩ (.int .i64 x.e)).setCell ⟨w0.heap.size + 1, k * 3 + 2, none⟩ (.bool x.w)) (T.set k x) := by
  have hB := ((But.set1 (w0.heap.size + 1) (k * 3) w (.int .i64 x.s)).trans (But.set1 (w0.heap.size + 1) (k * 3 + 1) _ (.int .i64 x.e))).trans (But.set1 (w0.heap.size + 1) (k * 3 + 2) _ (.bool x.w))
  exact ⟨hB.1 _ _ h.1 (Nat.le_succ _), hB.2 _ _ (by omega) h.2.1, h.2.2.set k hk x⟩
theorem okT_set {T : List Ent} (h : okT T) {k : Nat} (hk : k < 8) {x : Ent} (hx : okE x) : okT (T.set k x) := ⟨by rw [List.length_set]; exact h.1, fun y hy => by
  rcases List.mem_or_eq_of_mem_set hy with hy | rfl
  · exact h.2 y hy
  · exact hx⟩
theorem cell_kept {w w' : World} {p : Addr} {v : Value} (hb : Below w.heap.size w w') (hc : w.cell? p = some v) : w'.cell? p = some v := by
  refine (Below.cell hb ?_).trans hc
  unfold World.cell? at hc
  cases h : w.heap[p.block]? with
  | none => rw [h] at hc; cases hc
  | some o => exact (Array.getElem?_eq_some_iff.1 h).1
theorem gate_load {P : Program} {ops : Array Oper} {rest : List Oper} {o : Oper} {a : Act} {w : World} {Q : Exit → Act → World → Prop} {ty : TypeId} {x : Operand} (_ : o.op = .load ty x) (h : wpList P ops Q (o :: rest) a w) : wpList P ops Q (o :: rest) a w := h
theorem tab_ref {T : List Ent} (h : okT T) : ∃ k, P.ploverref02_Put.f k 3 0 ⟨#[]⟩ (rowsM 0 T) = some (textM T, 0) := by
  obtain ⟨a1, a2, a3, a4, a5, a6⟩ := tab_facts h
  have := (refPut_ev (tabV T) (by omega) a2).rounds
  rw [putM_of a3 (by omega) (by omega)] at this
  exact this
theorem four_more {w : World} {base : Nat} {ok : Nat → Prop} {v : Value} {l : List V} (h : Kd.R P.k66 66 w base ok v l) (h4 : l.length = 4) : ∃ b c, v = .slice (some ⟨b, 0, none⟩) 4 c ∧ ok b ∧ w.cell? ⟨b, 0, none⟩ = some (.int .i64 (P.rd_T66 l 0).f0) ∧ w.cell? ⟨b, 1, none⟩ = some (.int .i64 (P.rd_T66 l 0).f1) ∧ w.cell? ⟨b, 5, none⟩ = some (.int .i64 (P.rd_T66 l 1).f1) ∧ w.cell? ⟨b, 9, none⟩ = some (.int .i64 (P.rd_T66 l 2).f1) ∧ w.cell? ⟨b, 13, none⟩ = some (.int .i64 (P.rd_T66 l 3).f1) := by
  match l, h4 with
  | [a0, a1, a2, a3], _ =>
    obtain ⟨g0, c0, _, rfl, k0, t0, u0, _⟩ := R_at h 0 a0 rfl
    obtain ⟨g1, c1, _, e1, _, _, u1, _⟩ := R_at h 1 a1 rfl
    obtain ⟨g2, c2, _, e2, _, _, u2, _⟩ := R_at h 2 a2 rfl
    obtain ⟨g3, c3, _, e3, _, _, u3, _⟩ := R_at h 3 a3 rfl
    cases e1; cases e2; cases e3
    exact ⟨g0, c0, rfl, k0, t0, u0, u1, u2, u3⟩
set_option maxHeartbeats 1000000 in
set_option maxRecDepth 100000 in
theorem rof_fail {w : World} (s : ByteArray) (v : V) (er : Int) (k : Nat) (hO : P.ploverref02_Only.f k s = some (v.f0, v.f1, v.f2, v.f3, er)) (he : er ≠ 0) :
    Calls Tryd.prog 19 #[.string s] w (RofPost none w) := by
  have d0 : (er != 0) = true := bne_iff_ne.2 he
  have d1 : (er == 0) = false := beq_eq_false_iff_ne.2 he
  have HC := Aside0.mk (fun (W : World) => P.ploverref02_Only.calls k s v.f0 v.f1 v.f2 v.f3 er W hO)
  have HRN : (none : Option (List Ent)) = none := rfl
  clear hO he
  have hu := Tryd.underlying50
  have LEN0 : T0.length = 8 := rfl
  have HX0 := Aside0.mk (show RX w ((w.alloc (.cells (T0.flatMap Ent.cells).toArray 50)).alloc (.cells (T0.flatMap Ent.cells).toArray 50)) T0 from by
    have a2 := blk_new (w.alloc (.cells (T0.flatMap Ent.cells).toArray 50)) (.cells (T0.flatMap Ent.cells).toArray 50)
    rw [World.size_alloc] at a2
    exact ⟨below_alloc (below_alloc (Below.refl _ _) _) _, blk_alloc (blk_new w _) _, rfl, a2⟩)
  go_enter Tryd.func19, Tryd.ntmps19
  go_wp2_with ((with_reducible refine gate_store (ty := 50) (x := .tmp 4) rfl ?_); refine ev_store rfl rfl 50 (.tmp 4) _ rfl _ rfl (w.heap.size + 1) 50 rfl (T0.flatMap Ent.cells) (T0.flatMap Ent.cells) rfl rfl (cells_one_ent _) rfl (RX.tab HX0.out).2 ?_; intro w9 a9 b9; have HX := Aside0.mk (show RX w w9 T0 from ⟨b9.1 _ _ (RX.below HX0.out) (Nat.le_succ _), b9.2 _ _ (by omega) (RX.res HX0.out), rfl, a9⟩); clear a9 b9 HX0)
  refine (HC.out _).mono ?_
  rintro e w1 ⟨v3, rfl, hV, hb⟩
  obtain ⟨A3, c3, rfl⟩ := Kd.R_slice hV
  have LEN := Aside0.mk LEN0
  have HX := Aside0.mk (RX.alloc (RX.kept HX.out hb) (.cells #[.int .i64 v.f0, .int .i64 v.f1, .string v.f2, .slice A3 v.f3.length c3] 66))
  clear hV hb
  go_wp2_with (first | ((with_reducible refine gate_load (ty := 50) (x := .tmp 4) rfl ?_); refine ev_load rfl 50 (.tmp 4) rfl _ rfl (fun w => by kernel_rfl) (w.heap.size + 1) 0 rfl (T0.flatMap Ent.cells) (by rw [flat_len, LEN.out]; kernel_rfl) (RTab.all (RX.tab HX.out)) ?_) | ((with_reducible refine gate_store (ty := 50) (x := .tmp 2) rfl ?_); refine ev_store rfl rfl 50 (.tmp 2) _ rfl _ rfl w.heap.size 50 rfl (T0.flatMap Ent.cells) (T0.flatMap Ent.cells) rfl (by rw [flat_len, LEN0]; kernel_rfl) (cells_one_ent _) rfl (RX.res HX.out) ?_; intro w9 a9 b9; have HW9 := Aside0.mk (b9.1 _ _ (RX.below HX.out) (Nat.le_refl _)); have HA9 := Aside0.mk a9; clear a9 b9))
  refine bodyPost_ret (results_ct rfl _ _ w.heap.size 50 (T0.flatMap Ent.cells).toArray (0, 0) _ rfl HA9.out hu rfl (by rw [List.size_toArray, flat_len, LEN0]; kernel_rfl)) rfl ?_
  exact ⟨by rfl, HW9.out⟩
set_option maxHeartbeats 1000000 in
set_option maxRecDepth 100000 in
theorem rof_calls {w : World} (s : ByteArray) (v : V) (k : Nat) (hO : P.ploverref02_Only.f k s = some (v.f0, v.f1, v.f2, v.f3, 0)) (R : Option (List Ent)) (hR : R = match rofL v.f3 T0 with | some T => if (textM T).toList = s.toList then some T else none | none => none) :
    Calls Tryd.prog 19 #[.string s] w (RofPost R w) := by
  have HC := Aside0.mk (fun (W : World) => P.ploverref02_Only.calls k s v.f0 v.f1 v.f2 v.f3 0 W hO)
  have HRR := Aside0.mk hR
  clear hO hR
  have hu := Tryd.underlying50
  have LEN0 : T0.length = 8 := rfl
  have HX0 := Aside0.mk (show RX w ((w.alloc (.cells (T0.flatMap Ent.cells).toArray 50)).alloc (.cells (T0.flatMap Ent.cells).toArray 50)) T0 from by
    have a2 := blk_new (w.alloc (.cells (T0.flatMap Ent.cells).toArray 50)) (.cells (T0.flatMap Ent.cells).toArray 50)
    rw [World.size_alloc] at a2
    exact ⟨below_alloc (below_alloc (Below.refl _ _) _) _, blk_alloc (blk_new w _) _, rfl, a2⟩)
  go_enter Tryd.func19, Tryd.ntmps19
  go_wp2_with ((with_reducible refine gate_store (ty := 50) (x := .tmp 4) rfl ?_); refine ev_store rfl rfl 50 (.tmp 4) _ rfl _ rfl (w.heap.size + 1) 50 rfl (T0.flatMap Ent.cells) (T0.flatMap Ent.cells) rfl rfl (cells_one_ent _) rfl (RX.tab HX0.out).2 ?_; intro w9 a9 b9; have HX := Aside0.mk (show RX w w9 T0 from ⟨b9.1 _ _ (RX.below HX0.out) (Nat.le_succ _), b9.2 _ _ (by omega) (RX.res HX0.out), rfl, a9⟩); clear a9 b9 HX0)
  refine (HC.out _).mono ?_
  rintro e w1 ⟨v3, rfl, hV, hb⟩
  obtain ⟨A3, c3, rfl⟩ := Kd.R_slice hV
  have hgl := RX.lt HX.out
  have HV0 := Kd.R_mono (Kd.R_bound (Kd.R_alloc hV (.cells #[.int .i64 v.f0, .int .i64 v.f1, .string v.f2, .slice A3 v.f3.length c3] 66))) (ok' := fun k => k ≠ w.heap.size + 1) (fun k hk => by have := hk.2.1; omega)
  have HX := Aside0.mk (RX.alloc (RX.kept HX.out hb) (.cells #[.int .i64 v.f0, .int .i64 v.f1, .string v.f2, .slice A3 v.f3.length c3] 66))
  have HVR := Aside0.mk HV0
  have HVB := Aside0.mk (blk_new w1 (.cells #[.int .i64 v.f0, .int .i64 v.f1, .string v.f2, .slice A3 v.f3.length c3] 66))
  have HNE := Aside0.mk (show w1.heap.size ≠ w.heap.size + 1 by have := hb.size; omega)
  clear hV hb HV0
  have HXI := HX
  generalize w9.heap.size = base at *
  go_wp2_with fail
  go_loopw [7] (fun v7 wr => ∃ (i : Nat) (T : List Ent), i ≤ v.f3.length ∧ v7 = .int .i64 (i : Int) ∧ Aside0 (RX w wr T) ∧ Aside0 (okT T) ∧ Aside0 (rofL v.f3 T0 = rofL (v.f3.drop i) T) ∧ Aside0 (Kd.R P.k66 66 wr base (fun k => k ≠ w.heap.size + 1) (.slice A3 v.f3.length c3) v.f3) ∧ Aside0 (wr.heap[w1.heap.size]? = some (.cells #[.int .i64 v.f0, .int .i64 v.f1, .string v.f2, .slice A3 v.f3.length c3] 66 (0, 0)))) (fun v7 _ => v.f3.length - (RowKit.intOf v7).toNat)
  case atStart => exact ⟨0, T0, Nat.zero_le _, rfl, HX, ⟨okT_T0⟩, ⟨rfl⟩, HVR, HVB⟩
  case round =>
    clear HX HVR HVB HXI
    obtain ⟨i, T, hi, rfl, HX, HO, HL, HVR, HVB⟩ := hrel
    obtain ⟨z0, z1, z2, z3⟩ := cells4 HVB.out
    have LEN := Aside0.mk (RX.len HX.out)
    by_cases hlt : i < v.f3.length
    · have c0 : decide ((i : Int) < (v.f3.length : Int)) = true := decide_eq_true (by omega)
      have i0 : (0 : Int) ≤ (i : Int) := by omega
      have i2 : (i : Int) < (v.f3.length : Int) := by omega
      have HM := Aside0.mk (Kd.C_max (Kd.R_reads' HVR.out).2.2)
      have HW := Aside0.mk (show wrap64 ((i : Int) + 1) = (i : Int) + 1 from w64 (by omega) (by have := HM.out; omega))
      obtain ⟨g0, c0', v4, ev, k0, y0, y1, y2, y3, hR4⟩ := R_at HVR.out i v.f3[i] (List.getElem?_eq_getElem hlt)
      cases ev
      have HLS := Aside0.mk (show v.f3.drop i = v.f3[i] :: v.f3.drop (i + 1) from List.drop_eq_getElem_cons hlt)
      generalize v.f3[i] = x at *
      obtain ⟨A4, c4, rfl⟩ := Kd.R_slice hR4
      by_cases e4 : x.f3.length = 4
      · obtain ⟨b4, c4', ev4, hne4, n0, n1, n2, n3, n4⟩ := four_more hR4 e4
        rw [e4] at ev4
        cases ev4
        have E4 := Aside0.mk e4
        have HOK := Aside0.mk (show rokS x = _ from rfl)
        have HST := Aside0.mk (show rofL v.f3 T0 = if rokS x = true then rofL (v.f3.drop (i + 1)) (T.set (P.rd_T66 x.f3 0).f1.toNat ⟨(P.rd_T66 x.f3 1).f1, (P.rd_T66 x.f3 2).f1, (P.rd_T66 x.f3 3).f1 == 1⟩) else none by rw [HL.out, HLS.out]; rfl)
        simp only [e4] at y3
        clear hR4 e4 HLS
        unfold rokS at HOK HST
        rw [E4.out] at HOK HST
        generalize (P.rd_T66 x.f3 0).f0 = kd at *
        generalize (P.rd_T66 x.f3 0).f1 = m0 at *
        generalize (P.rd_T66 x.f3 1).f1 = m1 at *
        generalize (P.rd_T66 x.f3 2).f1 = m2 at *
        generalize (P.rd_T66 x.f3 3).f1 = m3 at *
        by_cases hk : kd = 1
        · subst hk
          cases hm : mayM m0 m1 with
          | false =>
            have HMC := Aside0.mk (fun (W : World) => (show Calls Tryd.prog 24 #[.int .i64 m0, .int .i64 m1] W (fun e w' => e = .returned (.bool false) ∧ Below W.heap.size W w') from by have h := rmay_calls m0 m1 W; rw [hm] at h; exact h))
            have hRN : R = none := by rw [HRR.out, HST.out, hm]; rfl
            clear HST hm
            have N0 : ∀ x : Later wr, x.1.cell? ⟨b4, 0, none⟩ = some (.int .i64 1) := fun x => cell_kept x.2 n0
            have N1 : ∀ x : Later wr, x.1.cell? ⟨b4, 1, none⟩ = some (.int .i64 m0) := fun x => cell_kept x.2 n1
            have N2 : ∀ x : Later wr, x.1.cell? ⟨b4, 5, none⟩ = some (.int .i64 m1) := fun x => cell_kept x.2 n2
            have N3 : ∀ x : Later wr, x.1.cell? ⟨b4, 9, none⟩ = some (.int .i64 m2) := fun x => cell_kept x.2 n3
            go_wp2_with fail
            refine wp_region_later (by kernel_rfl) (by kernel_rfl) ?_
            iterate 36 go_big_quiet_step ((exact Later.call (HMC.out _)))
            refine wpQuiet_nil ?_
            rintro w5 ⟨⟨w6, hb⟩, hw⟩
            have hb5 := Aside0.mk (show Below wr.heap.size wr w5 from by rw [show w5 = w6 from hw]; exact hb)
            clear hb hw
            clear w6
            have HX := Aside0.mk (RX.kept HX.out hb5.out)
            go_wp2_with ((with_reducible refine gate_store (ty := 50) (x := .tmp 2) rfl ?_); refine ev_store rfl rfl 50 (.tmp 2) _ rfl _ rfl w.heap.size 50 rfl (T0.flatMap Ent.cells) (T0.flatMap Ent.cells) rfl (by rw [flat_len, LEN0]; kernel_rfl) (cells_one_ent _) rfl (RX.res HX.out) ?_; intro w9 a9 b9; have HW9 := Aside0.mk (b9.1 _ _ (RX.below HX.out) (Nat.le_refl _)); have HA9 := Aside0.mk a9; clear a9 b9)
            refine bodyPost_ret (results_ct rfl _ _ w.heap.size 50 (T0.flatMap Ent.cells).toArray (0, 0) _ rfl HA9.out hu rfl (by rw [List.size_toArray, flat_len, LEN0]; kernel_rfl)) rfl ?_
            exact ⟨by rw [hRN]; rfl, HW9.out⟩
        
          | true =>
            have HMC := Aside0.mk (fun (W : World) => (show Calls Tryd.prog 24 #[.int .i64 m0, .int .i64 m1] W (fun e w' => e = .returned (.bool true) ∧ Below W.heap.size W w') from by have h := rmay_calls m0 m1 W; rw [hm] at h; exact h))
            by_cases h2 : 0 ≤ m2
            · have d2 : decide (m2 < 0) = false := decide_eq_false (by omega)
              by_cases h3 : m2 ≤ 255
              · have d3 : decide (255 < m2) = false := decide_eq_false (by omega)
                have HSS := Aside0.mk (show rofL v.f3 T0 = rofL (v.f3.drop (i + 1)) (T.set m0.toNat ⟨m1, m2, m3 == 1⟩) by rw [HST.out, hm, decide_eq_true h2, decide_eq_true h3]; rfl)
                obtain ⟨q0, q1, q2, q3⟩ := mayM_iff.1 hm
                have HO2 := Aside0.mk (okT_set HO.out (k := m0.toNat) (by omega) (x := ⟨m1, m2, m3 == 1⟩) ⟨by show (0 : Int) ≤ m1; omega, q3, h2, h3, fun hz => by have : m1 = 0 := hz; omega⟩)
                obtain ⟨k, rfl⟩ : ∃ k : Nat, m0 = (k : Int) := ⟨m0.toNat, by omega⟩
                rw [Int.toNat_natCast] at HSS HO2
                have q0' : (0 : Int) ≤ (k : Int) := q0
                have hk8 : k < 8 := by omega
                clear HST hm h2 h3 q2 q3
                have N0 : ∀ x : Later wr, x.1.cell? ⟨b4, 0, none⟩ = some (.int .i64 1) := fun x => cell_kept x.2 n0
                have N1 : ∀ x : Later wr, x.1.cell? ⟨b4, 1, none⟩ = some (.int .i64 (k : Int)) := fun x => cell_kept x.2 n1
                have N2 : ∀ x : Later wr, x.1.cell? ⟨b4, 5, none⟩ = some (.int .i64 m1) := fun x => cell_kept x.2 n2
                have N3 : ∀ x : Later wr, x.1.cell? ⟨b4, 9, none⟩ = some (.int .i64 m2) := fun x => cell_kept x.2 n3
                go_wp2_with fail
                refine wp_region_later (by kernel_rfl) (by kernel_rfl) ?_
                iterate 36 go_big_quiet_step ((exact Later.call (HMC.out _)))
                refine wpQuiet_nil ?_
                rintro w5 ⟨⟨w6, hb⟩, hw⟩
                have hb5 := Aside0.mk (show Below wr.heap.size wr w5 from by rw [show w5 = w6 from hw]; exact hb)
                clear hb hw
                clear w6
                have n1 := cell_kept hb5.out n1
                have n2 := cell_kept hb5.out n2
                have n3 := cell_kept hb5.out n3
                have n4 := cell_kept hb5.out n4
                clear N0 N1 N2 N3
                have HX := Aside0.mk (RX.kept HX.out hb5.out)
                have HVR := Aside0.mk (Kd.R_below HVR.out hb5.out)
                have HVB := Aside0.mk (blk_below HVB.out hb5.out)
                obtain ⟨x0, x1, x2⟩ := (RX.tab HX.out).cell k hk8
                have f0 := (RX.tab HX.out).frozen (k * 3)
                have f1 := (RX.tab HX.out).frozen (k * 3 + 1)
                have f2 := (RX.tab HX.out).frozen (k * 3 + 2)
                have hne5 : ¬ b4 = w.heap.size + 1 := hne4
                have hne6 : ¬ w.heap.size + 1 = b4 := fun h => hne4 h.symm
                go_wp2_with fail
                go_region_held3 (fun w' => w'.cell? ⟨b4, 1, none⟩ = some (.int .i64 (k : Int)) ∧ w'.cell? ⟨b4, 5, none⟩ = some (.int .i64 m1) ∧ w'.cell? ⟨b4, 9, none⟩ = some (.int .i64 m2) ∧ w'.cell? ⟨b4, 13, none⟩ = some (.int .i64 m3)) (first | exact ⟨n1, n2, n3, n4⟩ | go_keep) (fail)
                have HX := Aside0.mk (RX.set HX.out k hk8 ⟨m1, m2, m3 == 1⟩)
                dsimp only at HX
                have hB := ((But.set1 (w.heap.size + 1) (k * 3) w5 (.int .i64 m1)).trans (But.set1 (w.heap.size + 1) (k * 3 + 1) _ (.int .i64 m2))).trans (But.set1 (w.heap.size + 1) (k * 3 + 2) _ (.bool (m3 == 1)))
                have HVR := Aside0.mk (R_but2 HVR.out (fun _ h => h) hB)
                have HVB := Aside0.mk (hB.2 _ _ HNE.out HVB.out)
                clear hB x0 x1 x2 f0 f1 f2 n0 n1 n2 n3 n4
                go_wp2_with fail
                refine ⟨⟨i + 1, T.set k ⟨m1, m2, m3 == 1⟩, by omega, congrArg (Value.int .i64) HW.out, ⟨RX.drew HX.out⟩, HO2, HSS, ⟨Kd.R_drew HVR.out⟩, ⟨HVB.out⟩⟩, ?_⟩
                rw [HW.out]; simp [RowKit.intOf]; omega
              · have d3 : decide (255 < m2) = true := decide_eq_true (by omega)
                have hRN : R = none := by rw [HRR.out, HST.out, hm, decide_eq_false h3]; simp
                clear HST hm h2 h3
                have N0 : ∀ x : Later wr, x.1.cell? ⟨b4, 0, none⟩ = some (.int .i64 1) := fun x => cell_kept x.2 n0
                have N1 : ∀ x : Later wr, x.1.cell? ⟨b4, 1, none⟩ = some (.int .i64 m0) := fun x => cell_kept x.2 n1
                have N2 : ∀ x : Later wr, x.1.cell? ⟨b4, 5, none⟩ = some (.int .i64 m1) := fun x => cell_kept x.2 n2
                have N3 : ∀ x : Later wr, x.1.cell? ⟨b4, 9, none⟩ = some (.int .i64 m2) := fun x => cell_kept x.2 n3
                go_wp2_with fail
                refine wp_region_later (by kernel_rfl) (by kernel_rfl) ?_
                iterate 36 go_big_quiet_step ((exact Later.call (HMC.out _)))
                refine wpQuiet_nil ?_
                rintro w5 ⟨⟨w6, hb⟩, hw⟩
                have hb5 := Aside0.mk (show Below wr.heap.size wr w5 from by rw [show w5 = w6 from hw]; exact hb)
                clear hb hw
                clear w6
                have HX := Aside0.mk (RX.kept HX.out hb5.out)
                go_wp2_with ((with_reducible refine gate_store (ty := 50) (x := .tmp 2) rfl ?_); refine ev_store rfl rfl 50 (.tmp 2) _ rfl _ rfl w.heap.size 50 rfl (T0.flatMap Ent.cells) (T0.flatMap Ent.cells) rfl (by rw [flat_len, LEN0]; kernel_rfl) (cells_one_ent _) rfl (RX.res HX.out) ?_; intro w9 a9 b9; have HW9 := Aside0.mk (b9.1 _ _ (RX.below HX.out) (Nat.le_refl _)); have HA9 := Aside0.mk a9; clear a9 b9)
                refine bodyPost_ret (results_ct rfl _ _ w.heap.size 50 (T0.flatMap Ent.cells).toArray (0, 0) _ rfl HA9.out hu rfl (by rw [List.size_toArray, flat_len, LEN0]; kernel_rfl)) rfl ?_
                exact ⟨by rw [hRN]; rfl, HW9.out⟩
        
            · have d2 : decide (m2 < 0) = true := decide_eq_true (by omega)
              have hRN : R = none := by rw [HRR.out, HST.out, hm, decide_eq_false h2]; simp
              clear HST hm h2
              have N0 : ∀ x : Later wr, x.1.cell? ⟨b4, 0, none⟩ = some (.int .i64 1) := fun x => cell_kept x.2 n0
              have N1 : ∀ x : Later wr, x.1.cell? ⟨b4, 1, none⟩ = some (.int .i64 m0) := fun x => cell_kept x.2 n1
              have N2 : ∀ x : Later wr, x.1.cell? ⟨b4, 5, none⟩ = some (.int .i64 m1) := fun x => cell_kept x.2 n2
              have N3 : ∀ x : Later wr, x.1.cell? ⟨b4, 9, none⟩ = some (.int .i64 m2) := fun x => cell_kept x.2 n3
              go_wp2_with fail
              refine wp_region_later (by kernel_rfl) (by kernel_rfl) ?_
              iterate 36 go_big_quiet_step ((exact Later.call (HMC.out _)))
              refine wpQuiet_nil ?_
              rintro w5 ⟨⟨w6, hb⟩, hw⟩
              have hb5 := Aside0.mk (show Below wr.heap.size wr w5 from by rw [show w5 = w6 from hw]; exact hb)
              clear hb hw
              clear w6
              have HX := Aside0.mk (RX.kept HX.out hb5.out)
              go_wp2_with ((with_reducible refine gate_store (ty := 50) (x := .tmp 2) rfl ?_); refine ev_store rfl rfl 50 (.tmp 2) _ rfl _ rfl w.heap.size 50 rfl (T0.flatMap Ent.cells) (T0.flatMap Ent.cells) rfl (by rw [flat_len, LEN0]; kernel_rfl) (cells_one_ent _) rfl (RX.res HX.out) ?_; intro w9 a9 b9; have HW9 := Aside0.mk (b9.1 _ _ (RX.below HX.out) (Nat.le_refl _)); have HA9 := Aside0.mk a9; clear a9 b9)
              refine bodyPost_ret (results_ct rfl _ _ w.heap.size 50 (T0.flatMap Ent.cells).toArray (0, 0) _ rfl HA9.out hu rfl (by rw [List.size_toArray, flat_len, LEN0]; kernel_rfl)) rfl ?_
              exact ⟨by rw [hRN]; rfl, HW9.out⟩
        
        · have dk : (kd != 1) = true := bne_iff_ne.2 hk
          have hRN : R = none := by rw [HRR.out, HST.out, beq_eq_false_iff_ne.2 hk]; simp
          clear HST hk
          have N0 : ∀ x : Later wr, x.1.cell? ⟨b4, 0, none⟩ = some (.int .i64 kd) := fun x => cell_kept x.2 n0
          have N1 : ∀ x : Later wr, x.1.cell? ⟨b4, 1, none⟩ = some (.int .i64 m0) := fun x => cell_kept x.2 n1
          have N2 : ∀ x : Later wr, x.1.cell? ⟨b4, 5, none⟩ = some (.int .i64 m1) := fun x => cell_kept x.2 n2
          have N3 : ∀ x : Later wr, x.1.cell? ⟨b4, 9, none⟩ = some (.int .i64 m2) := fun x => cell_kept x.2 n3
          go_wp2_with fail
          refine wp_region_later (by kernel_rfl) (by kernel_rfl) ?_
          iterate 36 go_big_quiet_step (fail)
          refine wpQuiet_nil ?_
          rintro w5 ⟨⟨w6, hb⟩, hw⟩
          have hb5 := Aside0.mk (show Below wr.heap.size wr w5 from by rw [show w5 = w6 from hw]; exact hb)
          clear hb hw
          clear w6
          have HX := Aside0.mk (RX.kept HX.out hb5.out)
          go_wp2_with ((with_reducible refine gate_store (ty := 50) (x := .tmp 2) rfl ?_); refine ev_store rfl rfl 50 (.tmp 2) _ rfl _ rfl w.heap.size 50 rfl (T0.flatMap Ent.cells) (T0.flatMap Ent.cells) rfl (by rw [flat_len, LEN0]; kernel_rfl) (cells_one_ent _) rfl (RX.res HX.out) ?_; intro w9 a9 b9; have HW9 := Aside0.mk (b9.1 _ _ (RX.below HX.out) (Nat.le_refl _)); have HA9 := Aside0.mk a9; clear a9 b9)
          refine bodyPost_ret (results_ct rfl _ _ w.heap.size 50 (T0.flatMap Ent.cells).toArray (0, 0) _ rfl HA9.out hu rfl (by rw [List.size_toArray, flat_len, LEN0]; kernel_rfl)) rfl ?_
          exact ⟨by rw [hRN]; rfl, HW9.out⟩
      · have d4 : ((x.f3.length : Int) != 4) = true := bne_iff_ne.2 (by omega)
        have hRN : R = none := by rw [HRR.out, HL.out, HLS.out, rofL, if_neg (by unfold rokS; rw [beq_eq_false_iff_ne.2 e4]; simp)]
        clear hR4
        go_wp2_with fail
        refine wp_region_later (by kernel_rfl) (by kernel_rfl) ?_
        iterate 36 go_big_quiet_step (fail)
        refine wpQuiet_nil ?_
        rintro w5 ⟨⟨w6, hb⟩, hw⟩
        have hb5 := Aside0.mk (show Below wr.heap.size wr w5 from by rw [show w5 = w6 from hw]; exact hb)
        clear hb hw
        clear w6
        have HX := Aside0.mk (RX.kept HX.out hb5.out)
        go_wp2_with ((with_reducible refine gate_store (ty := 50) (x := .tmp 2) rfl ?_); refine ev_store rfl rfl 50 (.tmp 2) _ rfl _ rfl w.heap.size 50 rfl (T0.flatMap Ent.cells) (T0.flatMap Ent.cells) rfl (by rw [flat_len, LEN0]; kernel_rfl) (cells_one_ent _) rfl (RX.res HX.out) ?_; intro w9 a9 b9; have HW9 := Aside0.mk (b9.1 _ _ (RX.below HX.out) (Nat.le_refl _)); have HA9 := Aside0.mk a9; clear a9 b9)
        refine bodyPost_ret (results_ct rfl _ _ w.heap.size 50 (T0.flatMap Ent.cells).toArray (0, 0) _ rfl HA9.out hu rfl (by rw [List.size_toArray, flat_len, LEN0]; kernel_rfl)) rfl ?_
        exact ⟨by rw [hRN]; rfl, HW9.out⟩
    · have c0 : decide ((i : Int) < (v.f3.length : Int)) = false := decide_eq_false (by omega)
      obtain rfl : i = v.f3.length := by omega
      rw [List.drop_length] at HL
      obtain ⟨kk, htr⟩ := tab_ref HO.out
      have HTR := Aside0.mk (fun (W : World) => rtext_calls (w := W) T LEN.out kk (textM T) 0 htr)
      clear htr
      go_wp2_with ((with_reducible refine gate_load (ty := 50) (x := .tmp 4) rfl ?_); refine ev_load rfl 50 (.tmp 4) rfl _ rfl (fun w => by kernel_rfl) (w.heap.size + 1) 0 rfl (T.flatMap Ent.cells) (by rw [flat_len, LEN.out]; kernel_rfl) (RTab.all (RX.tab HX.out)) ?_)
      refine (HTR.out _).mono ?_
      rintro e w5 ⟨rfl, hb5⟩
      have HX := Aside0.mk (RX.kept HX.out hb5)
      clear hb5 z0 z1 z2 z3
      by_cases hs : (textM T).toList = s.toList
      · have ds : (!(textM T).toList == s.toList) = false := by rw [hs]; exact bne_self_eq_false s.toList
        have hRS : R = some T := by rw [HRR.out, HL.out]; exact if_pos hs
        clear hs
        go_wp2_with (first | ((with_reducible refine gate_load (ty := 50) (x := .tmp 4) rfl ?_); refine ev_load rfl 50 (.tmp 4) rfl _ rfl (fun w => by kernel_rfl) (w.heap.size + 1) 0 rfl (T.flatMap Ent.cells) (by rw [flat_len, LEN.out]; kernel_rfl) (RTab.all (RX.tab HX.out)) ?_) | ((with_reducible refine gate_store (ty := 50) (x := .tmp 2) rfl ?_); refine ev_store rfl rfl 50 (.tmp 2) _ rfl _ rfl w.heap.size 50 rfl (T.flatMap Ent.cells) (T0.flatMap Ent.cells) rfl (by rw [flat_len, LEN.out]; kernel_rfl) (cells_one_ent _) (by rw [flat_len, flat_len, LEN.out]; rfl) (RX.res HX.out) ?_; intro w9 a9 b9; have HW9 := Aside0.mk (b9.1 _ _ (RX.below HX.out) (Nat.le_refl _)); have HA9 := Aside0.mk a9; clear a9 b9))
        refine bodyPost_ret (results_ct rfl _ _ w.heap.size 50 (T.flatMap Ent.cells).toArray (0, 0) _ rfl HA9.out hu rfl (by rw [List.size_toArray, flat_len, LEN.out]; kernel_rfl)) rfl ?_
        exact ⟨by rw [hRS]; rfl, HW9.out⟩
      · have ds : (!(textM T).toList == s.toList) = true := bne_iff_ne.2 hs
        have hRN : R = none := by rw [HRR.out, HL.out]; exact if_neg hs
        clear hs
        go_wp2_with ((with_reducible refine gate_store (ty := 50) (x := .tmp 2) rfl ?_); refine ev_store rfl rfl 50 (.tmp 2) _ rfl _ rfl w.heap.size 50 rfl (T0.flatMap Ent.cells) (T0.flatMap Ent.cells) rfl (by rw [flat_len, LEN0]; kernel_rfl) (cells_one_ent _) rfl (RX.res HX.out) ?_; intro w9 a9 b9; have HW9 := Aside0.mk (b9.1 _ _ (RX.below HX.out) (Nat.le_refl _)); have HA9 := Aside0.mk a9; clear a9 b9)
        refine bodyPost_ret (results_ct rfl _ _ w.heap.size 50 (T0.flatMap Ent.cells).toArray (0, 0) _ rfl HA9.out hu rfl (by rw [List.size_toArray, flat_len, LEN0]; kernel_rfl)) rfl ?_
        exact ⟨by rw [hRN]; rfl, HW9.out⟩
theorem rof_any {w : World} (s : ByteArray) (hs : s.size ≤ 1000000) : Calls Tryd.prog 19 #[.string s] w (RofPost (rofM s) w) := by
  obtain ⟨k, hk⟩ := (refOnly_ev s hs).rounds
  by_cases c : (onlyM s).2 = 0
  · refine rof_calls s (onlyM s).1 k ?_ _ ?_
    · rw [hk, ← c]; rfl
    · unfold rofM; rw [if_pos c] <;> rfl
  · have e : rofM s = none := if_neg c
    rw [e]
    exact rof_fail s (onlyM s).1 (onlyM s).2 k hk c
end Go.Proofs.YthlkcfjodmhhmaaDoor.Dd
namespace Go.Proofs.YthlkcfjodmhhmaaDoor.Dd
open Go.RowKit Go.Lib Go.Proofs.YthlkcfjodmhhmaaDoor.Giv Go.Proofs.YthlkcfjodmhhmaaDoor.Pure Go.Proofs.YthlkcfjodmhhmaaDoorW.PrintWords Go.Proofs.YthlkcfjodmhhmaaDoorW.PrintLast Go.Proofs.YthlkcfjodmhhmaaDoorW.PrintMore
set_option linter.unusedVariables false
set_option linter.unusedSimpArgs false
theorem Tab.heap {w : World} {g : Nat} {T : List Ent} (h : Tab w g T) : w.heap[g]? = some (.cells (tabA T) 43 (0, 0)) := h.2
theorem Tab.oth {w w' : World} {g h : Nat} {T : List Ent} (ht : Tab w h T) (hb : But g w w') (hne : h ≠ g) : Tab w' h T := ⟨ht.1, hb.2 h _ hne ht.2⟩
theorem ofL_ok : ∀ (L : List V) (T T' : List Ent), okT T → ofL L T = some T' → okT T'
  | [], T, T', h, e => by rw [ofL] at e; exact Option.some.inj e ▸ h
  | x :: L, T, T', h, e => by
    rw [ofL] at e
    split at e
    · split at e
      · exact ofL_ok L _ T' (okT_put h _ _ _ _) e
      · cases e
    · cases e
theorem rofL_ok : ∀ (L : List V) (T T' : List Ent), okT T → rofL L T = some T' → okT T'
  | [], T, T', h, e => by rw [rofL] at e; exact Option.some.inj e ▸ h
  | x :: L, T, T', h, e => by
    rw [rofL] at e
    split at e
    · rename_i hc
      unfold rokS at hc
      simp only [Bool.and_eq_true, decide_eq_true_eq] at hc
      obtain ⟨_, _, hm, h2, h3⟩ := hc
      obtain ⟨q0, q1, q2, q3⟩ := mayM_iff.1 hm
      refine rofL_ok L _ T' (okT_set h (by omega) ⟨?_, q3, h2, h3, fun hz => ?_⟩) e
      · show (0 : Int) ≤ (P.rd_T66 x.f3 1).f1; omega
      · have : (P.rd_T66 x.f3 1).f1 = 0 := hz
        omega
    · cases e
theorem rofL_rows : ∀ (T A : List Ent) (k : Nat), A.length = k → k + T.length = 8 → (∀ x ∈ T, okE x) → rofL (rowsM k T) (A ++ List.replicate T.length zE) = some (A ++ T)
  | [], A, k, hA, hk, h => by simp [rowsM, rofL]
  | x :: T, A, k, hA, hk, h => by
    rw [List.length_cons] at hk
    have ih := rofL_rows T (A ++ [x]) (k + 1) (by simp [hA]) (by omega) (fun y hy => h y (.tail _ hy))
    have hx := h x (.head _)
    rw [rowsM]
    split
    · rename_i hz
      rw [hx.2.2.2.2 hz] at ih ⊢
      simpa [List.replicate_succ] using ih
    · rename_i hz
      obtain ⟨h0, h1, h2, h3, _⟩ := hx
      have hst : (A ++ List.replicate (x :: T).length zE).set k x = A ++ [x] ++ List.replicate T.length zE := by
        rw [List.set_append_right _ _ (by omega)]
        simp [hA, List.replicate_succ]
      have hm : mayM (k : Int) x.s = true := mayM_iff.2 ⟨by omega, by omega, by omega, h1⟩
      have hc : rokS (rowV (k : Int) x) = true := by
        show ((4 : Nat) == 4 && ((1 : Int) == 1 && (mayM (k : Int) x.s && (decide (0 ≤ x.e) && decide (x.e ≤ 255))))) = true
        rw [hm, decide_eq_true h2, decide_eq_true h3]
        rfl
      have hw : ((if x.w = true then (1 : Int) else 0) == 1) = x.w := by cases x.w <;> rfl
      rw [rofL, if_pos hc]
      show rofL (rowsM (k + 1) T) ((A ++ List.replicate (x :: T).length zE).set ((k : Int)).toNat ⟨x.s, x.e, (if x.w = true then (1 : Int) else 0) == 1⟩) = _
      rw [hw, Int.toNat_natCast]
      show rofL (rowsM (k + 1) T) ((A ++ List.replicate (x :: T).length zE).set k x) = _
      rw [hst, ih]
      simp
theorem rofL_text {T : List Ent} (h : okT T) : rofL (rowsM 0 T) T0 = some T := by
  have := rofL_rows T [] 0 rfl (by rw [h.1]) h.2
  rw [h.1] at this
  exact this
theorem rof_back {T : List Ent} (h : okT T) : rofM (textM T) = some T := by
  unfold rofM
  rw [only_back h]
  show (match rofL (rowsM 0 T) T0 with | some T' => _ | none => _) = _
  rw [rofL_text h]
  simp
theorem text_is {T : List Ent} {s : ByteArray} (h : (textM T).toList = s.toList) : s = textM T := by
  rw [toList_data, toList_data] at h
  exact data_ext h.symm
theorem ofM_some {s : ByteArray} {T : List Ent} (h : ofM s = some T) : okT T ∧ s = textM T := by
  unfold ofM at h
  split at h
  · split at h
    · rename_i T' hT
      split at h
      · rename_i ht
        obtain rfl := Option.some.inj h
        exact ⟨ofL_ok _ _ _ okT_T0 hT, text_is ht⟩
      · cases h
    · cases h
  · cases h
theorem rofM_some {s : ByteArray} {T : List Ent} (h : rofM s = some T) : okT T ∧ s = textM T := by
  unfold rofM at h
  split at h
  · split at h
    · rename_i T' hT
      split at h
      · rename_i ht
        obtain rfl := Option.some.inj h
        exact ⟨rofL_ok _ _ _ okT_T0 hT, text_is ht⟩
      · cases h
    · cases h
  · cases h
theorem rofM_eq (s : ByteArray) : rofM s = ofM s := by
  cases h : ofM s with
  | some T =>
    obtain ⟨a, rfl⟩ := ofM_some h
    exact rof_back a
  | none =>
    cases h2 : rofM s with
    | none => rfl
    | some T =>
      obtain ⟨a, rfl⟩ := rofM_some h2
      rw [of_back a] at h
      cases h
set_option maxHeartbeats 8000000 in
set_option maxRecDepth 100000 in
theorem reads_calls {w : World} (hL : LaidW w) (s : ByteArray) (hs : s.size ≤ 140737488351232) :
    Calls Tryd.prog 7 #[.string s] w fun e w' => e = .returned (.bool true) ∧ Below w.heap.size w w' := by
  by_cases c1 : 4096 < s.size
  · have d1 : decide (4096 < (s.size : Int)) = true := decide_eq_true (by omega)
    clear c1
    go_enter Tryd.func7, Tryd.ntmps7
    go_wp2_with fail
    refine (awake_ok hL).mono ?_
    rintro e w3 ⟨rfl, hb3⟩
    go_wp2_with fail
    go_returns
    exact ⟨rfl, hb3⟩
  · have d1 : decide (4096 < (s.size : Int)) = false := decide_eq_false (by omega)
    have HOF := Aside0.mk (fun (W : World) h => of_any (w := W) h s (by omega))
    have HRF := Aside0.mk (fun (W : World) => rof_any (w := W) s (by omega))
    rw [rofM_eq s] at HRF
    cases hO : ofM s with
    | none =>
      rw [hO] at HOF HRF
      clear hO c1
      go_enter Tryd.func7, Tryd.ntmps7
      go_wp2_with fail
      refine (HOF.out _ hL).mono ?_
      rintro e w1 ⟨v, r, rfl, hb, ⟨T', h, hT', _⟩ | ⟨_, rfl, rfl⟩⟩
      · cases hT'
      have HW := Aside0.mk hb
      clear hb
      go_wp2_with fail
      refine (HRF.out _).mono ?_
      rintro e w2 ⟨rfl, hb⟩
      have HW := Aside0.mk (below_step HW.out hb)
      clear hb
      dsimp only [Option.getD_none, Option.isSome_none]
      rw [if_neg (by decide)]
      have LEN0 : T0.length = 8 := rfl
      go_wp2_with ((with_reducible refine gate_store (ty := 50) (x := .tmp 5) rfl ?_); refine ev_store rfl rfl 50 (.tmp 5) _ rfl _ rfl w2.heap.size 50 rfl (T0.flatMap Ent.cells) (T0.flatMap Ent.cells) rfl (by rw [flat_len, LEN0]; kernel_rfl) (cells_one_ent _) rfl (blk_new w2 (.cells (T0.flatMap Ent.cells).toArray 50)) ?_; intro w9 a9 b9; have HW := Aside0.mk (b9.1 _ _ (below_alloc HW.out (.cells (T0.flatMap Ent.cells).toArray 50)) HW.out.size); clear a9 b9)
      refine (awake_ok (LaidW.below hL HW.out)).mono ?_
      rintro e w3 ⟨rfl, hb3⟩
      have HW := Aside0.mk (below_step HW.out hb3)
      clear hb3
      go_wp2_with fail
      go_returns
      exact ⟨rfl, HW.out⟩
    | some T =>
      obtain ⟨hT, rfl⟩ := ofM_some hO
      rw [hO] at HOF HRF
      have HPT := Aside0.mk (tab_put hT)
      have HLEN := Aside0.mk hT.1
      clear hO c1
      go_enter Tryd.func7, Tryd.ntmps7
      go_wp2_with fail
      refine (HOF.out _ hL).mono ?_
      rintro e w1 ⟨v, r, rfl, hb, ⟨T', h, hT', rfl, rfl, hge, hTh⟩ | ⟨hn, _, _⟩⟩
      · obtain rfl := Option.some.inj hT'
        have HW := Aside0.mk hb
        have HT := Aside0.mk hTh
        clear hb hTh hge hT'
        go_wp2_with fail
        refine (HRF.out _).mono ?_
        rintro e w2 ⟨rfl, hb⟩
        have HT := Aside0.mk (HT.out.kept hb)
        have HW := Aside0.mk (below_step HW.out hb)
        clear hb
        dsimp only [Option.getD_some, Option.isSome_some]
        rw [if_pos rfl]
        go_wp2_with ((with_reducible refine gate_store (ty := 50) (x := .tmp 5) rfl ?_); refine ev_store rfl rfl 50 (.tmp 5) _ rfl _ rfl w2.heap.size 50 rfl (T.flatMap Ent.cells) (T0.flatMap Ent.cells) rfl (by rw [flat_len, HLEN.out]; kernel_rfl) (cells_one_ent _) (by rw [flat_len, flat_len, HLEN.out]; rfl) (blk_new w2 (.cells (T0.flatMap Ent.cells).toArray 50)) ?_; intro w9 a9 b9; have HW := Aside0.mk (b9.1 _ _ (below_alloc HW.out (.cells (T0.flatMap Ent.cells).toArray 50)) HW.out.size); have HT := Aside0.mk (Tab.oth (Tab.alloc HT.out (.cells (T0.flatMap Ent.cells).toArray 50)) b9 (Nat.ne_of_lt (blk_lt (Tab.heap HT.out)))); clear a9 b9)
        refine (text_calls HT.out (LaidW.below hL HW.out) _ _ HPT.out).mono ?_
        rintro e w3 ⟨rfl, hb⟩
        have HW := Aside0.mk (below_step HW.out hb)
        clear hb
        have dd : ((textM T).toList == (textM T).toList) = true := beq_self_eq_true _
        go_wp2_with fail
        refine (awake_ok (LaidW.below hL HW.out)).mono ?_
        rintro e w4 ⟨rfl, hb⟩
        have HW := Aside0.mk (below_step HW.out hb)
        clear hb
        go_wp2_with fail
        go_returns
        exact ⟨rfl, HW.out⟩
      · cases hn
theorem reads_walk (s : ByteArray) (W : World) (hL : LaidW W) (w0 : s.size ≤ 140737488351232) :
    Calls Tryd.prog 7 #[.string s] W fun e w' => e = .returned (.bool true) ∧ Below W.heap.size W w' := reads_calls hL s w0
end Go.Proofs.YthlkcfjodmhhmaaDoor.Dd
namespace Go.Proofs.YthlkcfjodmhhmaaDoor.Lay
open Go.RowKit Go.Lib
def LL : List (String × DataW Unit) := [("math/bits.deBruijn32tab", Rows.laid_math_bits_deBruijn32tab), ("math/bits.deBruijn64tab", Rows.laid_math_bits_deBruijn64tab), ("internal/strconv.uint64pow10", Rows.laid_internal_strconv_uint64pow10)]
def cellsOf : DataW Unit → List Value
  | .agg l => l.map fun | .lit (.int k z) => .int k z | _ => .nilIface
  | _ => []
noncomputable def laidWorld (os : Os) : World :=
  let w0 := World.holding Tryd.prog os ⟨#[], #[], []⟩
  let put (h : Array Obj) (g : Nat) (cs : Array Value) : Array Obj := h.modify g fun
    | .cells _ t frozen => .cells cs t frozen
    | o => o
  let h1 := put w0.heap 1 (cellsOf Rows.laid_math_bits_deBruijn32tab).toArray
  let h2 := put h1 2 (cellsOf Rows.laid_math_bits_deBruijn64tab).toArray
  let h3 := put h2 0 (cellsOf Rows.laid_internal_strconv_uint64pow10).toArray
  { w0 with heap := h3 }
theorem laid_met (os : Os) (args : Array Value) : laidMet Tryd.prog LL ((laidWorld os).forCall (fun _ _ => 0) ⟨#[], args, []⟩).memory :=
  (LaidIn.of_run (l := LL) [1, 2, 0] 8 (by kernel_rfl) (by kernel_rfl) (by kernel_rfl) (by kernel_rfl)).met
theorem eqP : (Rows.laid_internal_strconv_uint64pow10 : DataW Unit) = Lib.tabData .u64 Lib.pow10Tab := by kernel_rfl
set_option maxRecDepth 100000 in
theorem tabIs_of_reads {name : String} {k : IntKind} {zs : List Int} {W : World} {g : Nat} {t e : TypeId} {n : Nat} (hg : Tryd.prog.globalNamed name = some g) (hty : (Tryd.prog.globals[g]?).map (·.type) = some t) (ht : Tryd.prog.underlying t = some (.array n e)) (he : Tryd.prog.underlying e = some (.int k)) (hce : Tryd.prog.cellsOf e = 1) (hct : Tryd.prog.cellsOf t = n)
    (h : VarReads Tryd.prog W name (tabData k zs)) : Lib.TabIs Tryd.prog W name k zs := by
  obtain ⟨g', t', cs, fuel, p, h1, h2, h3, h4⟩ := h
  obtain rfl : g' = g := by rw [hg] at h1; exact (Option.some.inj h1).symm
  obtain rfl : t' = t := by rw [hty] at h2; exact (Option.some.inj h2).symm
  have := cells_of_tab ht he hce hct h4
  unfold Lib.TabIs
  rw [h3]
  congr 1
  apply Array.toList_inj.1
  rw [this]
theorem laidW_of {W : World} (hL : laidMetH Tryd.prog LL W) : Giv.LaidW W := by
  have h1 := Lib.laidMet.reads hL (.tail _ (.tail _ (.head _)))
  rw [eqP] at h1
  exact tabIs_of_reads (t := 114) (e := 108) (n := 20) Giv.pow10_named (by kernel_rfl) Tryd.underlying114 Tryd.underlying108 (by kernel_rfl) (by kernel_rfl) h1
theorem own : ownKnob Tryd.prog.godebug = none := by kernel_rfl
theorem laidOut : laidOutB Tryd.prog = true := by kernel_rfl
end Go.Proofs.YthlkcfjodmhhmaaDoor.Lay
