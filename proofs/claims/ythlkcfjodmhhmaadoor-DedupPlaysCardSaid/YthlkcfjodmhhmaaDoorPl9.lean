/- Texts put together by prune.py: DdO, DdP, DdQ, DdR, DdS, LayB. -/
import Derived.BigQuiet
import Derived.Test.YthlkcfjodmhhmaaDoorRows
import Derived.Lib.LaidIn
import Derived.Lib.LaidU8T
import Derived.Deep.DeepHandedRow
import Derived.Deep.DeepWitnessRowRef
import Derived.ProofKit
import Derived.SizedLaws
import Derived.Test.YthlkcfjodmhhmaaDoorPl8
namespace Go.Proofs.YthlkcfjodmhhmaaDoor.Dd
open Go.RowKit Go.Lib Go.Proofs.YthlkcfjodmhhmaaDoor.Giv Go.Proofs.YthlkcfjodmhhmaaDoor.Pure Go.Proofs.YthlkcfjodmhhmaaDoorW.PrintWords Go.Proofs.YthlkcfjodmhhmaaDoorW.PrintLast Go.Proofs.YthlkcfjodmhhmaaDoorW.PrintMore
set_option linter.unusedVariables false
set_option linter.unusedSimpArgs false
theorem number_calls (n : Int) (w : World) :
    Calls Tryd.prog 25 #[.int .i64 n] w fun e w' => e = .returned (.agg #[.int .i64 1, .int .i64 n, .string ⟨#[]⟩, .slice none 0 0]) ∧ Below w.heap.size w w' := by
  have hu := Tryd.underlying66
  go_enter Tryd.func25, Tryd.ntmps25
  go_wp2
  go_returns
  refine ⟨rfl, ?_⟩
  exact (Below.refl _ _).alloc (Nat.le_refl _) _
theorem R_but2 {d : Kd V} {e : Nat} {w w' : World} {base g : Nat} {ok : Nat → Prop} {v : Value} {xs : List V} (h : d.R e w base ok v xs) (hok : ∀ k, ok k → k ≠ g) (hb : But g w w') : d.R e w' base ok v xs := by
  refine Kd.R_mono (Kd.R_move (Kd.R_bound h) (fun k hk => ?_)) (fun k hk => hk.1)
  obtain ⟨h1, h2, h3, _⟩ := hk
  have : w.heap[k]? = some w.heap[k] := Array.getElem?_eq_getElem h3
  rw [this]
  exact hb.2 k _ (hok k h1) this
def okR (w0 : World) (k : Nat) : Prop := k ≠ w0.heap.size ∧ k ≠ w0.heap.size + 1
def TX (w0 w : World) (T : List Ent) (v3 : Value) : Prop := w0.heap.size + 2 ≤ w.heap.size ∧ Below w0.heap.size w0 w ∧ RTab w w0.heap.size T ∧ w.heap[w0.heap.size + 1]? = some (.cells #[.int .i64 3, .int .i64 0, .string ⟨#[]⟩, v3] 66 (0, 0))
theorem TX.kept {w0 w w' : World} {T : List Ent} {v3 : Value} (h : TX w0 w T v3) (hb : Below w.heap.size w w') : TX w0 w' T v3 := ⟨Nat.le_trans h.1 hb.size, below_step h.2.1 hb, h.2.2.1.kept hb, blk_below h.2.2.2 hb⟩
theorem TX.drew {w0 w : World} {T : List Ent} {v3 : Value} (h : TX w0 w T v3) : TX w0 w.drew T v3 := h.kept (below_drew (Below.refl _ _))
theorem TX.alloc {w0 w : World} {T : List Ent} {v3 : Value} (h : TX w0 w T v3) (o : Obj) : TX w0 (w.alloc o) T v3 := h.kept (below_alloc (Below.refl _ _) o)
theorem TX.below {w0 w : World} {T : List Ent} {v3 : Value} (h : TX w0 w T v3) : Below w0.heap.size w0 w := h.2.1
theorem TX.ge {w0 w : World} {T : List Ent} {v3 : Value} (h : TX w0 w T v3) : w0.heap.size + 2 ≤ w.heap.size := h.1
theorem TX.fresh {w0 w : World} {T : List Ent} {v3 : Value} (h : TX w0 w T v3) : ∀ k, w.heap.size ≤ k → okR w0 k := fun k hk => ⟨by have := h.1; omega, by have := h.1; omega⟩
theorem TX.at {w0 w : World} {T : List Ent} {v3 : Value} (h : TX w0 w T v3) (i : Nat) (hi : i < 8) {xs xe : Int} {xw : Bool} (hx : T.getD i zE = ⟨xs, xe, xw⟩) :
    w.cell? ⟨w0.heap.size, i * 3, none⟩ = some (.int .i64 xs) ∧ w.cell? ⟨w0.heap.size, i * 3 + 1, none⟩ = some (.int .i64 xe) ∧ w.cell? ⟨w0.heap.size, i * 3 + 2, none⟩ = some (.bool xw) ∧ w.cell? ⟨w0.heap.size + 1, 3, none⟩ = some v3 := by
  obtain ⟨a, b, c⟩ := h.2.2.1.cell i hi
  rw [hx] at a b c
  exact ⟨a, b, c, blk_cell h.2.2.2 3⟩
theorem TX.v {w0 w : World} {T : List Ent} {v3 : Value} (h : TX w0 w T v3) : w.cell? ⟨w0.heap.size + 1, 0, none⟩ = some (.int .i64 3) ∧ w.cell? ⟨w0.heap.size + 1, 1, none⟩ = some (.int .i64 0) ∧ w.cell? ⟨w0.heap.size + 1, 2, none⟩ = some (.string ⟨#[]⟩) ∧ w.cell? ⟨w0.heap.size + 1, 3, none⟩ = some v3 :=
  ⟨blk_cell h.2.2.2 0, blk_cell h.2.2.2 1, blk_cell h.2.2.2 2, blk_cell h.2.2.2 3⟩
theorem TX.frozen {w0 w : World} {T : List Ent} {v3 : Value} (h : TX w0 w T v3) (i : Nat) : w.frozen? ⟨w0.heap.size + 1, i, none⟩ = false := blk_frozen h.2.2.2 i
theorem TX.grown {w0 w w' : World} {T : List Ent} {v3 : Value} {row : Option Nat} (h : TX w0 w T v3) (hg : w.grownBy w' row) (h0 : some w0.heap.size ≠ row) (h1 : some (w0.heap.size + 1) ≠ row) (hb : Below w0.heap.size w0 w') (hs : w.heap.size ≤ w'.heap.size) : TX w0 w' T v3 := ⟨Nat.le_trans h.1 hs, hb, ⟨h.2.2.1.1, blk_grown h.2.2.1.2 hg h0⟩, blk_grown h.2.2.2 hg h1⟩
theorem TX.set {w0 w : World} {T : List Ent} {v3 : Value} (h : TX w0 w T v3) (v9 : Value) : TX w0 (w.setCell ⟨w0.heap.size + 1, 3, none⟩ v9) T v9 := by
  have hB := But.set1 (w0.heap.size + 1) 3 w v9
  refine ⟨?_, hB.1 _ _ h.2.1 (by omega), h.2.2.1.other hB (by omega), blk_put h.2.2.2 3 v9 rfl⟩
  exact Nat.le_trans h.1 (hB.1 0 w (Below.refl 0 w) (Nat.zero_le _)).size
set_option maxHeartbeats 8000000 in
set_option maxRecDepth 100000 in
theorem rtext_calls {w : World} (T : List Ent) (hT : T.length = 8) (k : Nat) (t : ByteArray) (er : Int) (ht : P.ploverref02_Put.f k 3 0 ⟨#[]⟩ (rowsM 0 T) = some (t, er)) :
    Calls Tryd.prog 17 #[.agg (T.flatMap Ent.cells).toArray] w fun e w' => e = .returned (.string t) ∧ Below w.heap.size w w' := by
  have HP := Aside0.mk ht
  have HX0 := Aside0.mk (show TX w ((w.alloc (.cells (T.flatMap Ent.cells).toArray 50)).alloc (.cells #[.int .i64 3, .int .i64 0, .string ⟨#[]⟩, .slice none 0 0] 66)) T (.slice none 0 0) from by
    have a2 := blk_new (w.alloc (.cells (T.flatMap Ent.cells).toArray 50)) (.cells #[.int .i64 3, .int .i64 0, .string ⟨#[]⟩, .slice none 0 0] 66)
    rw [show (w.alloc (.cells (T.flatMap Ent.cells).toArray 50)).heap.size = w.heap.size + 1 by simp] at a2
    exact ⟨by simp, below_alloc (below_alloc (Below.refl _ _) _) _, ⟨hT, blk_alloc (blk_new w _) _⟩, a2⟩)
  clear ht
  go_enter Tryd.func17, Tryd.ntmps17
  go_wp2_with fail
  go_loopw [4] (fun v4 wr => ∃ (i : Nat) (v3 : Value), i ≤ 8 ∧ v4 = .int .i64 (i : Int) ∧ Aside0 (Kd.R P.k66 66 wr w.heap.size (okR w) v3 (rowsM 0 (T.take i))) ∧ Aside0 (TX w wr T v3)) (fun v4 _ => 8 - (RowKit.intOf v4).toNat)
  case atStart => exact ⟨0, _, Nat.zero_le _, rfl, ⟨Kd.R_nil _ _ _ _ _⟩, HX0⟩
  case round =>
    obtain ⟨i, v3, hi, rfl, HR, HX⟩ := hrel
    clear HX0
    by_cases hlt : i < 8
    · have c0 : decide ((i : Int) < 8) = true := decide_eq_true (by omega)
      have i0 : (0 : Int) ≤ (i : Int) := by omega
      have i2 : (i : Int) < 8 := by omega
      have HLEN := Aside0.mk (show ((rowsM 0 (T.take i)).length + 1) * 56 ≤ 140737488355328 by have := rowsM_len (T.take i) 0; rw [List.length_take] at this; omega)
      have HS := Aside0.mk (rowsM_step T i (by omega))
      have HLT := Aside0.mk (fun k hk => HR.out.1 k hk)
      obtain ⟨X, hX⟩ : ∃ X, T.getD i zE = X := ⟨_, rfl⟩
      have HXE := Aside0.mk hX
      rw [hX] at HS
      clear hX
      obtain ⟨xs, xe, xw⟩ := X
      dsimp only at *
      obtain ⟨x0, x1, x2, x3⟩ := HX.out.at i hlt HXE.out
      by_cases hz : xs = 0
      · subst hz
        have d0 : ((0 : Int) == 0) = true := rfl
        go_wp2_with fail
        go_roundw
        case rel => exact ⟨i + 1, v3, by omega, by go_num, by rw [HS.out, if_pos rfl]; exact HR, HX⟩
        case measure => simp [RowKit.intOf]; omega
      · have d0 : (xs == 0) = false := beq_eq_false_iff_ne.2 hz
        cases xw with
        | false =>
          go_wp2_with fail
          -- REGION
          refine Cut.wp_region_cut (S := (fun w' : World => w'.cell? ⟨w.heap.size, i * 3, none⟩ = some (.int .i64 xs) ∧ w'.cell? ⟨w.heap.size, i * 3 + 1, none⟩ = some (.int .i64 xe) ∧ w'.cell? ⟨w.heap.size + 1, 3, none⟩ = some v3)) (by kernel_rfl) rfl rfl (by kernel_rfl) (by kernel_rfl) ?_
          simp only [List.pop_toArray, List.dropLast, List.size_toArray, List.length_cons, List.length_nil]
          have HSW : (fun w' : World => w'.cell? ⟨w.heap.size, i * 3, none⟩ = some (.int .i64 xs) ∧ w'.cell? ⟨w.heap.size, i * 3 + 1, none⟩ = some (.int .i64 xe) ∧ w'.cell? ⟨w.heap.size + 1, 3, none⟩ = some v3) wr.drew := ⟨x0, x1, x3⟩
          refine wpAnyH_take (i := 0) (v := ?vf0) rfl (by kernel_rfl) (by kernel_rfl) (by kernel_rfl) (fun _ _ _ h => h) (Or.inl ⟨by rfl, ?hyf0⟩) HSW ?restf0
          case hyf0 => (intro w hSw; (try dsimp only at hSw); go_simp; first | done | with_reducible rfl)
          try simp only [Act.put, List.getElem_toArray, List.getElem_cons_zero, List.getElem_cons_succ, List.setIfInBounds_toArray, List.set_cons_zero, List.set_cons_succ]
          refine wpAnyH_take (i := 1) (v := ?vf1) rfl (by kernel_rfl) (by kernel_rfl) (by kernel_rfl) (fun _ _ _ h => h) (Or.inl ⟨by rfl, ?hyf1⟩) HSW ?restf1
          case hyf1 => (intro w hSw; (try dsimp only at hSw); go_simp; first | done | with_reducible rfl)
          try simp only [Act.put, List.getElem_toArray, List.getElem_cons_zero, List.getElem_cons_succ, List.setIfInBounds_toArray, List.set_cons_zero, List.set_cons_succ]
          refine wpAnyH_take (i := 2) (v := ?vf2) rfl (by kernel_rfl) (by kernel_rfl) (by kernel_rfl) (fun _ _ _ h => h) (Or.inl ⟨by rfl, ?hyf2⟩) HSW ?restf2
          case hyf2 => (intro w hSw; (try dsimp only at hSw); go_simp; first | done | with_reducible rfl)
          try simp only [Act.put, List.getElem_toArray, List.getElem_cons_zero, List.getElem_cons_succ, List.setIfInBounds_toArray, List.set_cons_zero, List.set_cons_succ]
          refine wpAnyH_take (i := 4) (v := ?vf4) rfl (by kernel_rfl) (by kernel_rfl) (by kernel_rfl) (fun _ _ _ h => h) (Or.inl ⟨by rfl, ?hyf4⟩) HSW ?restf4
          case hyf4 => (intro w hSw; (try dsimp only at hSw); go_simp; first | done | with_reducible rfl)
          try simp only [Act.put, List.getElem_toArray, List.getElem_cons_zero, List.getElem_cons_succ, List.setIfInBounds_toArray, List.set_cons_zero, List.set_cons_succ]
          refine wpAnyH_take (i := 5) (v := ?vf5) rfl (by kernel_rfl) (by kernel_rfl) (by kernel_rfl) (fun _ _ _ h => h) (Or.inl ⟨by rfl, ?hyf5⟩) HSW ?restf5
          case hyf5 => (intro w hSw; (try dsimp only at hSw); go_simp; first | done | with_reducible rfl)
          try simp only [Act.put, List.getElem_toArray, List.getElem_cons_zero, List.getElem_cons_succ, List.setIfInBounds_toArray, List.set_cons_zero, List.set_cons_succ]
          refine wpAnyH_take (i := 6) (v := ?vf6) rfl (by kernel_rfl) (by kernel_rfl) (by kernel_rfl) (fun _ _ _ h => h) (Or.inl ⟨by rfl, ?hyf6⟩) HSW ?restf6
          case hyf6 => (intro w hSw; (try dsimp only at hSw); go_simp; first | done | with_reducible rfl)
          try simp only [Act.put, List.getElem_toArray, List.getElem_cons_zero, List.getElem_cons_succ, List.setIfInBounds_toArray, List.set_cons_zero, List.set_cons_succ]
          refine wpAnyH_take (i := 7) (v := ?vf7) rfl (by kernel_rfl) (by kernel_rfl) (by kernel_rfl) (fun _ _ _ h => h) (Or.inl ⟨by rfl, ?hyf7⟩) HSW ?restf7
          case hyf7 => (intro w hSw; (try dsimp only at hSw); go_simp; first | done | with_reducible rfl)
          try simp only [Act.put, List.getElem_toArray, List.getElem_cons_zero, List.getElem_cons_succ, List.setIfInBounds_toArray, List.set_cons_zero, List.set_cons_succ]
          refine wpAnyH_take (i := 9) (v := ?vf9) rfl (by kernel_rfl) (by kernel_rfl) (by kernel_rfl) (fun _ _ _ h => h) (Or.inl ⟨by rfl, ?hyf9⟩) HSW ?restf9
          case hyf9 => (intro w hSw; (try dsimp only at hSw); go_simp; first | done | with_reducible rfl)
          try simp only [Act.put, List.getElem_toArray, List.getElem_cons_zero, List.getElem_cons_succ, List.setIfInBounds_toArray, List.set_cons_zero, List.set_cons_succ]
          refine wpAnyH_take (i := 10) (v := ?vf10) rfl (by kernel_rfl) (by kernel_rfl) (by kernel_rfl) (fun _ _ _ h => h) (Or.inl ⟨by rfl, ?hyf10⟩) HSW ?restf10
          case hyf10 => (intro w hSw; (try dsimp only at hSw); go_simp; first | done | with_reducible rfl)
          try simp only [Act.put, List.getElem_toArray, List.getElem_cons_zero, List.getElem_cons_succ, List.setIfInBounds_toArray, List.set_cons_zero, List.set_cons_succ]
          refine wpAnyH_take (i := 11) (v := ?vf11) rfl (by kernel_rfl) (by kernel_rfl) (by kernel_rfl) (fun _ _ _ h => h) (Or.inl ⟨by rfl, ?hyf11⟩) HSW ?restf11
          case hyf11 => (intro w hSw; (try dsimp only at hSw); go_simp; first | done | with_reducible rfl)
          try simp only [Act.put, List.getElem_toArray, List.getElem_cons_zero, List.getElem_cons_succ, List.setIfInBounds_toArray, List.set_cons_zero, List.set_cons_succ]
          refine wpAnyH_take (i := 12) (v := ?vf12) rfl (by kernel_rfl) (by kernel_rfl) (by kernel_rfl) (fun _ _ _ h => h) (Or.inl ⟨by rfl, ?hyf12⟩) HSW ?restf12
          case hyf12 => (intro w hSw; (try dsimp only at hSw); go_simp; first | done | with_reducible rfl)
          try simp only [Act.put, List.getElem_toArray, List.getElem_cons_zero, List.getElem_cons_succ, List.setIfInBounds_toArray, List.set_cons_zero, List.set_cons_succ]
          refine wpAnyH_take (i := 14) (v := ?vf14) rfl (by kernel_rfl) (by kernel_rfl) (by kernel_rfl) (fun _ _ _ h => h) (Or.inl ⟨by rfl, ?hyf14⟩) HSW ?restf14
          case hyf14 => (intro w hSw; (try dsimp only at hSw); go_simp; first | done | with_reducible rfl)
          try simp only [Act.put, List.getElem_toArray, List.getElem_cons_zero, List.getElem_cons_succ, List.setIfInBounds_toArray, List.set_cons_zero, List.set_cons_succ]
          refine wpAnyH_ready (rs := [3]) (by kernel_rfl) (by simp) ?_
          refine AllReadyH.cons (i := 3) rfl (fun K hK => ?_) AllReadyH.nil
          go_simp
          refine (number_calls _ _).mono ?_
          rintro e w5 ⟨rfl, hb5⟩
          have HX := Aside0.mk (TX.kept (by first | with_reducible exact HX.out | with_reducible exact TX.drew HX.out) hb5)
          have HR := Aside0.mk (Kd.R_below (by first | with_reducible exact HR.out | with_reducible exact Kd.R_drew HR.out) hb5)
          obtain ⟨x0, x1, x2, x3⟩ := TX.at HX.out i hlt HXE.out
          clear hb5
          dsimp only
          refine hK.out _ _ (⟨x0, x1, x3⟩) (fun hHeld => ?_)
          have HSW := hHeld
          clear hK K hHeld
          try simp only [Act.put, List.getElem_toArray, List.getElem_cons_zero, List.getElem_cons_succ, List.setIfInBounds_toArray, List.set_cons_zero, List.set_cons_succ]
          refine wpAnyH_ready (rs := [8]) (by kernel_rfl) (by simp) ?_
          refine AllReadyH.cons (i := 8) rfl (fun K hK => ?_) AllReadyH.nil
          go_simp
          refine (number_calls _ _).mono ?_
          rintro e w5 ⟨rfl, hb5⟩
          have HX := Aside0.mk (TX.kept (by first | with_reducible exact HX.out | with_reducible exact TX.drew HX.out) hb5)
          have HR := Aside0.mk (Kd.R_below (by first | with_reducible exact HR.out | with_reducible exact Kd.R_drew HR.out) hb5)
          obtain ⟨x0, x1, x2, x3⟩ := TX.at HX.out i hlt HXE.out
          clear hb5
          dsimp only
          refine hK.out _ _ (⟨x0, x1, x3⟩) (fun hHeld => ?_)
          have HSW := hHeld
          clear hK K hHeld
          try simp only [Act.put, List.getElem_toArray, List.getElem_cons_zero, List.getElem_cons_succ, List.setIfInBounds_toArray, List.set_cons_zero, List.set_cons_succ]
          refine wpAnyH_ready (rs := [13]) (by kernel_rfl) (by simp) ?_
          refine AllReadyH.cons (i := 13) rfl (fun K hK => ?_) AllReadyH.nil
          go_simp
          refine (number_calls _ _).mono ?_
          rintro e w5 ⟨rfl, hb5⟩
          have HX := Aside0.mk (TX.kept (by first | with_reducible exact HX.out | with_reducible exact TX.drew HX.out) hb5)
          have HR := Aside0.mk (Kd.R_below (by first | with_reducible exact HR.out | with_reducible exact Kd.R_drew HR.out) hb5)
          obtain ⟨x0, x1, x2, x3⟩ := TX.at HX.out i hlt HXE.out
          clear hb5
          dsimp only
          refine hK.out _ _ (⟨x0, x1, x3⟩) (fun hHeld => ?_)
          have HSW := hHeld
          clear hK K hHeld
          try simp only [Act.put, List.getElem_toArray, List.getElem_cons_zero, List.getElem_cons_succ, List.setIfInBounds_toArray, List.set_cons_zero, List.set_cons_succ]
          refine wpAnyH_ready (rs := [15]) (by kernel_rfl) (by simp) ?_
          refine AllReadyH.cons (i := 15) rfl (fun K hK => ?_) AllReadyH.nil
          go_simp
          refine (number_calls _ _).mono ?_
          rintro e w5 ⟨rfl, hb5⟩
          have HX := Aside0.mk (TX.kept (by first | with_reducible exact HX.out | with_reducible exact TX.drew HX.out) hb5)
          have HR := Aside0.mk (Kd.R_below (by first | with_reducible exact HR.out | with_reducible exact Kd.R_drew HR.out) hb5)
          obtain ⟨x0, x1, x2, x3⟩ := TX.at HX.out i hlt HXE.out
          clear hb5
          dsimp only
          refine hK.out _ _ (⟨x0, x1, x3⟩) (fun hHeld => ?_)
          have HSW := hHeld
          clear hK K hHeld
          try simp only [Act.put, List.getElem_toArray, List.getElem_cons_zero, List.getElem_cons_succ, List.setIfInBounds_toArray, List.set_cons_zero, List.set_cons_succ]
          refine wpAnyH_ready (rs := [16]) (by kernel_rfl) (by simp) ?_
          refine AllReadyH.cons (i := 16) rfl (fun K hK => ?_) AllReadyH.nil
          go_simp
          have HG := Aside0.mk (show w.heap.size ≤ w5.heap.size from Nat.le_trans (Nat.le_add_right _ 2) (TX.ge HX.out))
          have HF := Aside0.mk (fun k hk => TX.fresh HX.out k hk)
          have HLR := Aside0.mk (fun k hk => Kd.R_lt HR.out k hk)
          have B4 := Aside0.mk (blk_new w5 (.cells #[.int .i64 1, .int .i64 (i : Int), .string ⟨#[]⟩, .slice none 0 0, .int .i64 1, .int .i64 xs, .string ⟨#[]⟩, .slice none 0 0, .int .i64 1, .int .i64 xe, .string ⟨#[]⟩, .slice none 0 0, .int .i64 1, .int .i64 0, .string ⟨#[]⟩, .slice none 0 0] 66))
          have HX := Aside0.mk (TX.alloc HX.out (.cells #[.int .i64 1, .int .i64 (i : Int), .string ⟨#[]⟩, .slice none 0 0, .int .i64 1, .int .i64 xs, .string ⟨#[]⟩, .slice none 0 0, .int .i64 1, .int .i64 xe, .string ⟨#[]⟩, .slice none 0 0, .int .i64 1, .int .i64 0, .string ⟨#[]⟩, .slice none 0 0] 66))
          have HR := Aside0.mk (Kd.R_alloc HR.out (.cells #[.int .i64 1, .int .i64 (i : Int), .string ⟨#[]⟩, .slice none 0 0, .int .i64 1, .int .i64 xs, .string ⟨#[]⟩, .slice none 0 0, .int .i64 1, .int .i64 xe, .string ⟨#[]⟩, .slice none 0 0, .int .i64 1, .int .i64 0, .string ⟨#[]⟩, .slice none 0 0] 66))
          obtain ⟨x0, x1, x2, x3⟩ := TX.at HX.out i hlt HXE.out
          refine hK.out _ _ (⟨x0, x1, x3⟩) (fun hHeld => ?_)
          have HSW := hHeld
          clear hK K hHeld
          try simp only [Act.put, List.getElem_toArray, List.getElem_cons_zero, List.getElem_cons_succ, List.setIfInBounds_toArray, List.set_cons_zero, List.set_cons_succ]
          refine wpAnyH_take (i := 17) (v := ?vf17) rfl (by kernel_rfl) (by kernel_rfl) (by kernel_rfl) (fun _ _ _ h => h) (Or.inl ⟨by rfl, ?hyf17⟩) HSW ?restf17
          case hyf17 => (intro w hSw; (try dsimp only at hSw); go_simp; first | done | with_reducible rfl)
          try simp only [Act.put, List.getElem_toArray, List.getElem_cons_zero, List.getElem_cons_succ, List.setIfInBounds_toArray, List.set_cons_zero, List.set_cons_succ]
          refine wpAnyH_ready (rs := [18]) (by kernel_rfl) (by simp) ?_
          refine AllReadyH.cons (i := 18) rfl (fun K hK => ?_) AllReadyH.nil
          go_simp
          obtain ⟨x0', x1', x2', x3'⟩ := TX.at (TX.alloc HX.out (.cells #[.int .i64 3, .int .i64 0, .string ⟨#[]⟩, .slice (some ⟨w5.heap.size, 0, none⟩) 4 4] 66)) i hlt HXE.out
          refine hK.out _ _ (⟨x0', x1', x3'⟩) (fun hHeld => ?_)
          have HSW := hHeld
          clear hK K hHeld
          try simp only [Act.put, List.getElem_toArray, List.getElem_cons_zero, List.getElem_cons_succ, List.setIfInBounds_toArray, List.set_cons_zero, List.set_cons_succ]
          refine wpAnyH_ready (rs := [19]) (by kernel_rfl) (by simp) ?_
          refine AllReadyH.cons (i := 19) rfl (fun K hK => ?_) AllReadyH.nil
          refine Kd.R_append_step P.k66 (w0 := w) (W := w5.alloc (.cells #[.int .i64 1, .int .i64 (i : Int), .string ⟨#[]⟩, .slice none 0 0, .int .i64 1, .int .i64 xs, .string ⟨#[]⟩, .slice none 0 0, .int .i64 1, .int .i64 xe, .string ⟨#[]⟩, .slice none 0 0, .int .i64 1, .int .i64 0, .string ⟨#[]⟩, .slice none 0 0] 66)) w.heap.size rfl (.tmp 23) (.tmp 40) 64 66 _ 56 rfl Tryd.underlying64 P.info66 rfl (by decide) (by decide) v3 (rowsM 0 (T.take i)) (rowV (i : Int) ⟨xs, xe, false⟩) [.int .i64 3, .int .i64 0, .string ⟨#[]⟩, .slice (some ⟨w5.heap.size, 0, none⟩) 4 4] (okR w) (fun k => okR w k ∧ some k ≠ v3.ownBlock) rfl ?aXf ?aPf (fun _ hk => hk) ?aFf HR.out (TX.below HX.out) (TX.below HX.out).size HLEN.out ?_
          case aXf => (rw [World.size_alloc]; rfl)
          case aPf => exact P.k66_mkM _ w.heap.size _ (rowV (i : Int) ⟨xs, xe, false⟩) (R_row4 (i : Int) xs xe _ HG.out ⟨HF.out _ (Nat.le_refl _), fun hk => Nat.lt_irrefl _ (HLR.out _ hk.symm)⟩ B4.out)
          case aFf => exact fun k hk => TX.fresh HX.out k hk
          intro v9 w9 ho hb9 hg9 hat9
          obtain ⟨A9, c9, rfl⟩ := Kd.R_slice ho
          have HO9 := Aside0.mk ho
          have HX9 := Aside0.mk (TX.grown HX.out hg9 (fun hk => (HLT.out _ hk.symm).1 rfl) (fun hk => (HLT.out _ hk.symm).2 rfl) hb9 hg9.size)
          obtain ⟨x0, x1, x2, x3⟩ := TX.at HX9.out i hlt HXE.out
          have f3 := TX.frozen HX9.out 3
          clear ho hb9 hg9 hat9
          refine hK.out _ _ (⟨x0, x1, x3⟩) (fun hHeld => ?_)
          have HSW := hHeld
          clear hK K hHeld
          try simp only [Act.put, List.getElem_toArray, List.getElem_cons_zero, List.getElem_cons_succ, List.setIfInBounds_toArray, List.set_cons_zero, List.set_cons_succ]
          refine wpAnyH_take (i := 20) (v := ?vf20) rfl (by kernel_rfl) (by kernel_rfl) (by kernel_rfl) (fun _ _ _ h => h) (Or.inl ⟨by rfl, ?hyf20⟩) HSW ?restf20
          case hyf20 => (intro w hSw; (try dsimp only at hSw); go_simp; first | done | with_reducible rfl)
          try simp only [Act.put, List.getElem_toArray, List.getElem_cons_zero, List.getElem_cons_succ, List.setIfInBounds_toArray, List.set_cons_zero, List.set_cons_succ]
          refine wpAnyH_done (by kernel_rfl) ?_ _
          unfold Cut.cutQ
          clear HSW HF HLR B4 HG x0 x1 x2
          go_wp2_with fail
          refine ⟨⟨i + 1, .slice A9 ((rowsM 0 (T.take i)).length + 1) c9, by omega, rfl, ⟨?_⟩, ⟨TX.set HX9.out _⟩⟩, by simp [RowKit.intOf]; omega⟩
          have h := HO9.out
          rw [List.length_append] at h
          rw [HS.out, if_neg hz]
          exact R_but2 (g := w.heap.size + 1) h (fun k hk => hk.2) (But.set1 (w.heap.size + 1) 3 w9 _)
        | true =>
          go_wp2_with fail
          -- REGION
          refine Cut.wp_region_cut (S := (fun w' : World => w'.cell? ⟨w.heap.size, i * 3, none⟩ = some (.int .i64 xs) ∧ w'.cell? ⟨w.heap.size, i * 3 + 1, none⟩ = some (.int .i64 xe) ∧ w'.cell? ⟨w.heap.size + 1, 3, none⟩ = some v3)) (by kernel_rfl) rfl rfl (by kernel_rfl) (by kernel_rfl) ?_
          simp only [List.pop_toArray, List.dropLast, List.size_toArray, List.length_cons, List.length_nil]
          have HSW : (fun w' : World => w'.cell? ⟨w.heap.size, i * 3, none⟩ = some (.int .i64 xs) ∧ w'.cell? ⟨w.heap.size, i * 3 + 1, none⟩ = some (.int .i64 xe) ∧ w'.cell? ⟨w.heap.size + 1, 3, none⟩ = some v3) wr.drew := ⟨x0, x1, x3⟩
          refine wpAnyH_take (i := 0) (v := ?vt0) rfl (by kernel_rfl) (by kernel_rfl) (by kernel_rfl) (fun _ _ _ h => h) (Or.inl ⟨by rfl, ?hyt0⟩) HSW ?restt0
          case hyt0 => (intro w hSw; (try dsimp only at hSw); go_simp; first | done | with_reducible rfl)
          try simp only [Act.put, List.getElem_toArray, List.getElem_cons_zero, List.getElem_cons_succ, List.setIfInBounds_toArray, List.set_cons_zero, List.set_cons_succ]
          refine wpAnyH_take (i := 1) (v := ?vt1) rfl (by kernel_rfl) (by kernel_rfl) (by kernel_rfl) (fun _ _ _ h => h) (Or.inl ⟨by rfl, ?hyt1⟩) HSW ?restt1
          case hyt1 => (intro w hSw; (try dsimp only at hSw); go_simp; first | done | with_reducible rfl)
          try simp only [Act.put, List.getElem_toArray, List.getElem_cons_zero, List.getElem_cons_succ, List.setIfInBounds_toArray, List.set_cons_zero, List.set_cons_succ]
          refine wpAnyH_take (i := 2) (v := ?vt2) rfl (by kernel_rfl) (by kernel_rfl) (by kernel_rfl) (fun _ _ _ h => h) (Or.inl ⟨by rfl, ?hyt2⟩) HSW ?restt2
          case hyt2 => (intro w hSw; (try dsimp only at hSw); go_simp; first | done | with_reducible rfl)
          try simp only [Act.put, List.getElem_toArray, List.getElem_cons_zero, List.getElem_cons_succ, List.setIfInBounds_toArray, List.set_cons_zero, List.set_cons_succ]
          refine wpAnyH_take (i := 4) (v := ?vt4) rfl (by kernel_rfl) (by kernel_rfl) (by kernel_rfl) (fun _ _ _ h => h) (Or.inl ⟨by rfl, ?hyt4⟩) HSW ?restt4
          case hyt4 => (intro w hSw; (try dsimp only at hSw); go_simp; first | done | with_reducible rfl)
          try simp only [Act.put, List.getElem_toArray, List.getElem_cons_zero, List.getElem_cons_succ, List.setIfInBounds_toArray, List.set_cons_zero, List.set_cons_succ]
          refine wpAnyH_take (i := 5) (v := ?vt5) rfl (by kernel_rfl) (by kernel_rfl) (by kernel_rfl) (fun _ _ _ h => h) (Or.inl ⟨by rfl, ?hyt5⟩) HSW ?restt5
          case hyt5 => (intro w hSw; (try dsimp only at hSw); go_simp; first | done | with_reducible rfl)
          try simp only [Act.put, List.getElem_toArray, List.getElem_cons_zero, List.getElem_cons_succ, List.setIfInBounds_toArray, List.set_cons_zero, List.set_cons_succ]
          refine wpAnyH_take (i := 6) (v := ?vt6) rfl (by kernel_rfl) (by kernel_rfl) (by kernel_rfl) (fun _ _ _ h => h) (Or.inl ⟨by rfl, ?hyt6⟩) HSW ?restt6
          case hyt6 => (intro w hSw; (try dsimp only at hSw); go_simp; first | done | with_reducible rfl)
          try simp only [Act.put, List.getElem_toArray, List.getElem_cons_zero, List.getElem_cons_succ, List.setIfInBounds_toArray, List.set_cons_zero, List.set_cons_succ]
          refine wpAnyH_take (i := 7) (v := ?vt7) rfl (by kernel_rfl) (by kernel_rfl) (by kernel_rfl) (fun _ _ _ h => h) (Or.inl ⟨by rfl, ?hyt7⟩) HSW ?restt7
          case hyt7 => (intro w hSw; (try dsimp only at hSw); go_simp; first | done | with_reducible rfl)
          try simp only [Act.put, List.getElem_toArray, List.getElem_cons_zero, List.getElem_cons_succ, List.setIfInBounds_toArray, List.set_cons_zero, List.set_cons_succ]
          refine wpAnyH_take (i := 9) (v := ?vt9) rfl (by kernel_rfl) (by kernel_rfl) (by kernel_rfl) (fun _ _ _ h => h) (Or.inl ⟨by rfl, ?hyt9⟩) HSW ?restt9
          case hyt9 => (intro w hSw; (try dsimp only at hSw); go_simp; first | done | with_reducible rfl)
          try simp only [Act.put, List.getElem_toArray, List.getElem_cons_zero, List.getElem_cons_succ, List.setIfInBounds_toArray, List.set_cons_zero, List.set_cons_succ]
          refine wpAnyH_take (i := 10) (v := ?vt10) rfl (by kernel_rfl) (by kernel_rfl) (by kernel_rfl) (fun _ _ _ h => h) (Or.inl ⟨by rfl, ?hyt10⟩) HSW ?restt10
          case hyt10 => (intro w hSw; (try dsimp only at hSw); go_simp; first | done | with_reducible rfl)
          try simp only [Act.put, List.getElem_toArray, List.getElem_cons_zero, List.getElem_cons_succ, List.setIfInBounds_toArray, List.set_cons_zero, List.set_cons_succ]
          refine wpAnyH_take (i := 11) (v := ?vt11) rfl (by kernel_rfl) (by kernel_rfl) (by kernel_rfl) (fun _ _ _ h => h) (Or.inl ⟨by rfl, ?hyt11⟩) HSW ?restt11
          case hyt11 => (intro w hSw; (try dsimp only at hSw); go_simp; first | done | with_reducible rfl)
          try simp only [Act.put, List.getElem_toArray, List.getElem_cons_zero, List.getElem_cons_succ, List.setIfInBounds_toArray, List.set_cons_zero, List.set_cons_succ]
          refine wpAnyH_take (i := 12) (v := ?vt12) rfl (by kernel_rfl) (by kernel_rfl) (by kernel_rfl) (fun _ _ _ h => h) (Or.inl ⟨by rfl, ?hyt12⟩) HSW ?restt12
          case hyt12 => (intro w hSw; (try dsimp only at hSw); go_simp; first | done | with_reducible rfl)
          try simp only [Act.put, List.getElem_toArray, List.getElem_cons_zero, List.getElem_cons_succ, List.setIfInBounds_toArray, List.set_cons_zero, List.set_cons_succ]
          refine wpAnyH_take (i := 14) (v := ?vt14) rfl (by kernel_rfl) (by kernel_rfl) (by kernel_rfl) (fun _ _ _ h => h) (Or.inl ⟨by rfl, ?hyt14⟩) HSW ?restt14
          case hyt14 => (intro w hSw; (try dsimp only at hSw); go_simp; first | done | with_reducible rfl)
          try simp only [Act.put, List.getElem_toArray, List.getElem_cons_zero, List.getElem_cons_succ, List.setIfInBounds_toArray, List.set_cons_zero, List.set_cons_succ]
          refine wpAnyH_ready (rs := [3]) (by kernel_rfl) (by simp) ?_
          refine AllReadyH.cons (i := 3) rfl (fun K hK => ?_) AllReadyH.nil
          go_simp
          refine (number_calls _ _).mono ?_
          rintro e w5 ⟨rfl, hb5⟩
          have HX := Aside0.mk (TX.kept (by first | with_reducible exact HX.out | with_reducible exact TX.drew HX.out) hb5)
          have HR := Aside0.mk (Kd.R_below (by first | with_reducible exact HR.out | with_reducible exact Kd.R_drew HR.out) hb5)
          obtain ⟨x0, x1, x2, x3⟩ := TX.at HX.out i hlt HXE.out
          clear hb5
          dsimp only
          refine hK.out _ _ (⟨x0, x1, x3⟩) (fun hHeld => ?_)
          have HSW := hHeld
          clear hK K hHeld
          try simp only [Act.put, List.getElem_toArray, List.getElem_cons_zero, List.getElem_cons_succ, List.setIfInBounds_toArray, List.set_cons_zero, List.set_cons_succ]
          refine wpAnyH_ready (rs := [8]) (by kernel_rfl) (by simp) ?_
          refine AllReadyH.cons (i := 8) rfl (fun K hK => ?_) AllReadyH.nil
          go_simp
          refine (number_calls _ _).mono ?_
          rintro e w5 ⟨rfl, hb5⟩
          have HX := Aside0.mk (TX.kept (by first | with_reducible exact HX.out | with_reducible exact TX.drew HX.out) hb5)
          have HR := Aside0.mk (Kd.R_below (by first | with_reducible exact HR.out | with_reducible exact Kd.R_drew HR.out) hb5)
          obtain ⟨x0, x1, x2, x3⟩ := TX.at HX.out i hlt HXE.out
          clear hb5
          dsimp only
          refine hK.out _ _ (⟨x0, x1, x3⟩) (fun hHeld => ?_)
          have HSW := hHeld
          clear hK K hHeld
          try simp only [Act.put, List.getElem_toArray, List.getElem_cons_zero, List.getElem_cons_succ, List.setIfInBounds_toArray, List.set_cons_zero, List.set_cons_succ]
          refine wpAnyH_ready (rs := [13]) (by kernel_rfl) (by simp) ?_
          refine AllReadyH.cons (i := 13) rfl (fun K hK => ?_) AllReadyH.nil
          go_simp
          refine (number_calls _ _).mono ?_
          rintro e w5 ⟨rfl, hb5⟩
          have HX := Aside0.mk (TX.kept (by first | with_reducible exact HX.out | with_reducible exact TX.drew HX.out) hb5)
          have HR := Aside0.mk (Kd.R_below (by first | with_reducible exact HR.out | with_reducible exact Kd.R_drew HR.out) hb5)
          obtain ⟨x0, x1, x2, x3⟩ := TX.at HX.out i hlt HXE.out
          clear hb5
          dsimp only
          refine hK.out _ _ (⟨x0, x1, x3⟩) (fun hHeld => ?_)
          have HSW := hHeld
          clear hK K hHeld
          try simp only [Act.put, List.getElem_toArray, List.getElem_cons_zero, List.getElem_cons_succ, List.setIfInBounds_toArray, List.set_cons_zero, List.set_cons_succ]
          refine wpAnyH_ready (rs := [15]) (by kernel_rfl) (by simp) ?_
          refine AllReadyH.cons (i := 15) rfl (fun K hK => ?_) AllReadyH.nil
          go_simp
          refine (number_calls _ _).mono ?_
          rintro e w5 ⟨rfl, hb5⟩
          have HX := Aside0.mk (TX.kept (by first | with_reducible exact HX.out | with_reducible exact TX.drew HX.out) hb5)
          have HR := Aside0.mk (Kd.R_below (by first | with_reducible exact HR.out | with_reducible exact Kd.R_drew HR.out) hb5)
          obtain ⟨x0, x1, x2, x3⟩ := TX.at HX.out i hlt HXE.out
          clear hb5
          dsimp only
          refine hK.out _ _ (⟨x0, x1, x3⟩) (fun hHeld => ?_)
          have HSW := hHeld
          clear hK K hHeld
          try simp only [Act.put, List.getElem_toArray, List.getElem_cons_zero, List.getElem_cons_succ, List.setIfInBounds_toArray, List.set_cons_zero, List.set_cons_succ]
          refine wpAnyH_ready (rs := [16]) (by kernel_rfl) (by simp) ?_
          refine AllReadyH.cons (i := 16) rfl (fun K hK => ?_) AllReadyH.nil
          go_simp
          have HG := Aside0.mk (show w.heap.size ≤ w5.heap.size from Nat.le_trans (Nat.le_add_right _ 2) (TX.ge HX.out))
          have HF := Aside0.mk (fun k hk => TX.fresh HX.out k hk)
          have HLR := Aside0.mk (fun k hk => Kd.R_lt HR.out k hk)
          have B4 := Aside0.mk (blk_new w5 (.cells #[.int .i64 1, .int .i64 (i : Int), .string ⟨#[]⟩, .slice none 0 0, .int .i64 1, .int .i64 xs, .string ⟨#[]⟩, .slice none 0 0, .int .i64 1, .int .i64 xe, .string ⟨#[]⟩, .slice none 0 0, .int .i64 1, .int .i64 1, .string ⟨#[]⟩, .slice none 0 0] 66))
          have HX := Aside0.mk (TX.alloc HX.out (.cells #[.int .i64 1, .int .i64 (i : Int), .string ⟨#[]⟩, .slice none 0 0, .int .i64 1, .int .i64 xs, .string ⟨#[]⟩, .slice none 0 0, .int .i64 1, .int .i64 xe, .string ⟨#[]⟩, .slice none 0 0, .int .i64 1, .int .i64 1, .string ⟨#[]⟩, .slice none 0 0] 66))
          have HR := Aside0.mk (Kd.R_alloc HR.out (.cells #[.int .i64 1, .int .i64 (i : Int), .string ⟨#[]⟩, .slice none 0 0, .int .i64 1, .int .i64 xs, .string ⟨#[]⟩, .slice none 0 0, .int .i64 1, .int .i64 xe, .string ⟨#[]⟩, .slice none 0 0, .int .i64 1, .int .i64 1, .string ⟨#[]⟩, .slice none 0 0] 66))
          obtain ⟨x0, x1, x2, x3⟩ := TX.at HX.out i hlt HXE.out
          refine hK.out _ _ (⟨x0, x1, x3⟩) (fun hHeld => ?_)
          have HSW := hHeld
          clear hK K hHeld
          try simp only [Act.put, List.getElem_toArray, List.getElem_cons_zero, List.getElem_cons_succ, List.setIfInBounds_toArray, List.set_cons_zero, List.set_cons_succ]
          refine wpAnyH_take (i := 17) (v := ?vt17) rfl (by kernel_rfl) (by kernel_rfl) (by kernel_rfl) (fun _ _ _ h => h) (Or.inl ⟨by rfl, ?hyt17⟩) HSW ?restt17
          case hyt17 => (intro w hSw; (try dsimp only at hSw); go_simp; first | done | with_reducible rfl)
          try simp only [Act.put, List.getElem_toArray, List.getElem_cons_zero, List.getElem_cons_succ, List.setIfInBounds_toArray, List.set_cons_zero, List.set_cons_succ]
          refine wpAnyH_ready (rs := [18]) (by kernel_rfl) (by simp) ?_
          refine AllReadyH.cons (i := 18) rfl (fun K hK => ?_) AllReadyH.nil
          go_simp
          obtain ⟨x0', x1', x2', x3'⟩ := TX.at (TX.alloc HX.out (.cells #[.int .i64 3, .int .i64 0, .string ⟨#[]⟩, .slice (some ⟨w5.heap.size, 0, none⟩) 4 4] 66)) i hlt HXE.out
          refine hK.out _ _ (⟨x0', x1', x3'⟩) (fun hHeld => ?_)
          have HSW := hHeld
          clear hK K hHeld
          try simp only [Act.put, List.getElem_toArray, List.getElem_cons_zero, List.getElem_cons_succ, List.setIfInBounds_toArray, List.set_cons_zero, List.set_cons_succ]
          refine wpAnyH_ready (rs := [19]) (by kernel_rfl) (by simp) ?_
          refine AllReadyH.cons (i := 19) rfl (fun K hK => ?_) AllReadyH.nil
          refine Kd.R_append_step P.k66 (w0 := w) (W := w5.alloc (.cells #[.int .i64 1, .int .i64 (i : Int), .string ⟨#[]⟩, .slice none 0 0, .int .i64 1, .int .i64 xs, .string ⟨#[]⟩, .slice none 0 0, .int .i64 1, .int .i64 xe, .string ⟨#[]⟩, .slice none 0 0, .int .i64 1, .int .i64 1, .string ⟨#[]⟩, .slice none 0 0] 66)) w.heap.size rfl (.tmp 23) (.tmp 40) 64 66 _ 56 rfl Tryd.underlying64 P.info66 rfl (by decide) (by decide) v3 (rowsM 0 (T.take i)) (rowV (i : Int) ⟨xs, xe, true⟩) [.int .i64 3, .int .i64 0, .string ⟨#[]⟩, .slice (some ⟨w5.heap.size, 0, none⟩) 4 4] (okR w) (fun k => okR w k ∧ some k ≠ v3.ownBlock) rfl ?aXt ?aPt (fun _ hk => hk) ?aFt HR.out (TX.below HX.out) (TX.below HX.out).size HLEN.out ?_
          case aXt => (rw [World.size_alloc]; rfl)
          case aPt => exact P.k66_mkM _ w.heap.size _ (rowV (i : Int) ⟨xs, xe, true⟩) (R_row4 (i : Int) xs xe _ HG.out ⟨HF.out _ (Nat.le_refl _), fun hk => Nat.lt_irrefl _ (HLR.out _ hk.symm)⟩ B4.out)
          case aFt => exact fun k hk => TX.fresh HX.out k hk
          intro v9 w9 ho hb9 hg9 hat9
          obtain ⟨A9, c9, rfl⟩ := Kd.R_slice ho
          have HO9 := Aside0.mk ho
          have HX9 := Aside0.mk (TX.grown HX.out hg9 (fun hk => (HLT.out _ hk.symm).1 rfl) (fun hk => (HLT.out _ hk.symm).2 rfl) hb9 hg9.size)
          obtain ⟨x0, x1, x2, x3⟩ := TX.at HX9.out i hlt HXE.out
          have f3 := TX.frozen HX9.out 3
          clear ho hb9 hg9 hat9
          refine hK.out _ _ (⟨x0, x1, x3⟩) (fun hHeld => ?_)
          have HSW := hHeld
          clear hK K hHeld
          try simp only [Act.put, List.getElem_toArray, List.getElem_cons_zero, List.getElem_cons_succ, List.setIfInBounds_toArray, List.set_cons_zero, List.set_cons_succ]
          refine wpAnyH_take (i := 20) (v := ?vt20) rfl (by kernel_rfl) (by kernel_rfl) (by kernel_rfl) (fun _ _ _ h => h) (Or.inl ⟨by rfl, ?hyt20⟩) HSW ?restt20
          case hyt20 => (intro w hSw; (try dsimp only at hSw); go_simp; first | done | with_reducible rfl)
          try simp only [Act.put, List.getElem_toArray, List.getElem_cons_zero, List.getElem_cons_succ, List.setIfInBounds_toArray, List.set_cons_zero, List.set_cons_succ]
          refine wpAnyH_done (by kernel_rfl) ?_ _
          unfold Cut.cutQ
          clear HSW HF HLR B4 HG x0 x1 x2
          go_wp2_with fail
          refine ⟨⟨i + 1, .slice A9 ((rowsM 0 (T.take i)).length + 1) c9, by omega, rfl, ⟨?_⟩, ⟨TX.set HX9.out _⟩⟩, by simp [RowKit.intOf]; omega⟩
          have h := HO9.out
          rw [List.length_append] at h
          rw [HS.out, if_neg hz]
          exact R_but2 (g := w.heap.size + 1) h (fun k hk => hk.2) (But.set1 (w.heap.size + 1) 3 w9 _)
    · obtain rfl : i = 8 := by omega
      have c0 : decide (((8 : Nat) : Int) < 8) = false := by decide
      rw [List.take_of_length_le (by omega)] at HR
      obtain ⟨A3, c3, rfl⟩ := Kd.R_slice HR.out
      have HR2 := Kd.R_reads' HR.out
      have HPC := Aside0.mk (P.ploverref02_Put.calls k 3 0 ⟨#[]⟩ A3 c3 (rowsM 0 T) t er wr HR2.2.2 HR2.2.1 HP.out)
      obtain ⟨z0, z1, z2, z3⟩ := TX.v HX.out
      clear HR2
      go_wp2_with fail
      refine HPC.out.mono ?_
      rintro e w4 ⟨rfl, hb4⟩
      have HX := Aside0.mk (TX.kept HX.out hb4)
      clear hb4
      go_wp2_with fail
      go_returns
      exact ⟨rfl, TX.below HX.out⟩
end Go.Proofs.YthlkcfjodmhhmaaDoor.Dd
namespace Go.Proofs.YthlkcfjodmhhmaaDoor.Dd
open Go.RowKit Go.Lib Go.Proofs.YthlkcfjodmhhmaaDoor.Giv Go.Proofs.YthlkcfjodmhhmaaDoor.Pure Go.Proofs.YthlkcfjodmhhmaaDoorW.PrintWords Go.Proofs.YthlkcfjodmhhmaaDoorW.PrintLast Go.Proofs.YthlkcfjodmhhmaaDoorW.PrintMore
set_option linter.unusedVariables false
set_option linter.unusedSimpArgs false
def RX (w0 w : World) (T : List Ent) : Prop := Below w0.heap.size w0 w ∧ w.heap[w0.heap.size]? = some (.cells (T0.flatMap Ent.cells).toArray 50 (0, 0)) ∧ RTab w (w0.heap.size + 1) T
theorem RX.below {w0 w : World} {T : List Ent} (h : RX w0 w T) : Below w0.heap.size w0 w := h.1
theorem RX.tab {w0 w : World} {T : List Ent} (h : RX w0 w T) : RTab w (w0.heap.size + 1) T := h.2.2
theorem RX.len {w0 w : World} {T : List Ent} (h : RX w0 w T) : T.length = 8 := h.2.2.1
theorem RX.lt {w0 w : World} {T : List Ent} (h : RX w0 w T) : w0.heap.size + 1 < w.heap.size := blk_lt h.2.2.2
theorem RX.kept {w0 w w' : World} {T : List Ent} (h : RX w0 w T) (hb : Below w.heap.size w w') : RX w0 w' T := ⟨below_step h.1 hb, blk_below h.2.1 hb, h.2.2.kept hb⟩
theorem RX.drew {w0 w : World} {T : List Ent} (h : RX w0 w T) : RX w0 w.drew T := h.kept (below_drew (Below.refl _ _))
theorem RX.alloc {w0 w : World} {T : List Ent} (h : RX w0 w T) (o : Obj) : RX w0 (w.alloc o) T := h.kept (below_alloc (Below.refl _ _) o)
theorem RX.set {w0 w : World} {T : List Ent} (h : RX w0 w T) (k : Nat) (hk : k < 8) (x : Ent) : RX w0 (((w.setCell ⟨w0.heap.size + 1, k * 3, none⟩ (.int .i64 x.s)).setCell ⟨w0.heap.size + 1, k * 3 + 1, none⟩ (.int .i64 x.e)).setCell ⟨w0.heap.size + 1, k * 3 + 2, none⟩ (.bool x.w)) (T.set k x) := by
  have hB := ((But.set1 (w0.heap.size + 1) (k * 3) w (.int .i64 x.s)).trans (But.set1 (w0.heap.size + 1) (k * 3 + 1) _ (.int .i64 x.e))).trans (But.set1 (w0.heap.size + 1) (k * 3 + 2) _ (.bool x.w))
  exact ⟨hB.1 _ _ h.1 (Nat.le_succ _), hB.2 _ _ (by omega) h.2.1, h.2.2.set k hk x⟩
theorem cell_kept {w w' : World} {p : Addr} {v : Value} (hb : Below w.heap.size w w') (hc : w.cell? p = some v) : w'.cell? p = some v := by
  refine (Below.cell hb ?_).trans hc
  unfold World.cell? at hc
  cases h : w.heap[p.block]? with
  | none => rw [h] at hc; cases hc
  | some o => exact (Array.getElem?_eq_some_iff.1 h).1
theorem gate_load {P : Program} {ops : Array Oper} {rest : List Oper} {o : Oper} {a : Act} {w : World} {Q : Exit → Act → World → Prop} {ty : TypeId} {x : Operand} (_ : o.op = .load ty x) (h : wpList P ops Q (o :: rest) a w) : wpList P ops Q (o :: rest) a w := h
theorem tab_ref {T : List Ent} (h : okT T) : ∃ k, P.ploverref02_Put.f k 3 0 ⟨#[]⟩ (rowsM 0 T) = some (textM T, 0) := by
  obtain ⟨a1, a2, a3, a4, a5, a6⟩ := tab_facts h
  have := (refPut_ev (tabV T) (by omega) a2).rounds
  rw [putM_of a3 (by omega) (by omega)] at this
  exact this
end Go.Proofs.YthlkcfjodmhhmaaDoor.Dd
namespace Go.Proofs.YthlkcfjodmhhmaaDoor.Dd
open Go.RowKit Go.Lib Go.Proofs.YthlkcfjodmhhmaaDoor.Giv Go.Proofs.YthlkcfjodmhhmaaDoor.Pure Go.Proofs.YthlkcfjodmhhmaaDoorW.PrintWords Go.Proofs.YthlkcfjodmhhmaaDoorW.PrintLast Go.Proofs.YthlkcfjodmhhmaaDoorW.PrintMore
set_option linter.unusedVariables false
set_option linter.unusedSimpArgs false
theorem Tab.heap {w : World} {g : Nat} {T : List Ent} (h : Tab w g T) : w.heap[g]? = some (.cells (tabA T) 43 (0, 0)) := h.2
theorem Tab.oth {w w' : World} {g h : Nat} {T : List Ent} (ht : Tab w h T) (hb : But g w w') (hne : h ≠ g) : Tab w' h T := ⟨ht.1, hb.2 h _ hne ht.2⟩
end Go.Proofs.YthlkcfjodmhhmaaDoor.Dd
namespace Go.Proofs.YthlkcfjodmhhmaaDoor.Dd
open Go.RowKit Go.Lib Go.Proofs.YthlkcfjodmhhmaaDoor.Giv Go.Proofs.YthlkcfjodmhhmaaDoor.Pure Go.Proofs.YthlkcfjodmhhmaaDoorW.PrintWords Go.Proofs.YthlkcfjodmhhmaaDoorW.PrintLast Go.Proofs.YthlkcfjodmhhmaaDoorW.PrintMore
set_option linter.unusedVariables false
set_option linter.unusedSimpArgs false
structure OpS where
  kd : Int
  cl : Int
  sq : Int
  er : Int
  wa : Bool
  ha : Option Addr
  hn : Nat
  hc : Nat
def OpS.z : OpS := ⟨0, 0, 0, 0, false, none, 0, 0⟩
def OpsAt (w : World) (A : Option Addr) (la : List OpS) : Prop := ∀ i, i < la.length → ∃ x, A = some x ∧ w.cell? (x.add (i * 6)) = some (.int .i64 (la.getD i OpS.z).kd) ∧ w.cell? (x.add (i * 6 + 1)) = some (.int .i64 (la.getD i OpS.z).cl) ∧ w.cell? (x.add (i * 6 + 2)) = some (.int .i64 (la.getD i OpS.z).sq) ∧ w.cell? (x.add (i * 6 + 3)) = some (.int .i64 (la.getD i OpS.z).er) ∧ w.cell? (x.add (i * 6 + 4)) = some (.bool (la.getD i OpS.z).wa) ∧ w.cell? (x.add (i * 6 + 5)) = some (.slice (la.getD i OpS.z).ha (la.getD i OpS.z).hn (la.getD i OpS.z).hc)
theorem add_plus (x : Addr) (k j : Nat) (hj : 0 < j) : x.add (k + j) = ⟨(x.add k).block, (x.add k).off + j, none⟩ := by
  unfold Addr.add
  have h1 : ¬ k + j = 0 := by omega
  by_cases h : k = 0
  · subst h; simp; omega
  · simp [h, h1]; omega
theorem cells6 {w : World} {g t : Nat} {a b c d e f : Value} (h : w.heap[g]? = some (.cells #[a, b, c, d, e, f] t (0, 0))) : w.cell? ⟨g, 0, none⟩ = some a ∧ w.cell? ⟨g, 1, none⟩ = some b ∧ w.cell? ⟨g, 2, none⟩ = some c ∧ w.cell? ⟨g, 3, none⟩ = some d ∧ w.cell? ⟨g, 4, none⟩ = some e ∧ w.cell? ⟨g, 5, none⟩ = some f :=
  ⟨blk_cell h 0, blk_cell h 1, blk_cell h 2, blk_cell h 3, blk_cell h 4, blk_cell h 5⟩
def PX (w0 w : World) (h qb : Nat) (T : List Ent) : Prop := w0.heap.size ≤ h ∧ w0.heap.size ≤ qb ∧ h ≠ qb ∧ Below w0.heap.size w0 w ∧ Tab w h T ∧ RTab w qb T
theorem PX.kept {w0 w w' : World} {h qb : Nat} {T : List Ent} (x : PX w0 w h qb T) (hb : Below w.heap.size w w') : PX w0 w' h qb T := ⟨x.1, x.2.1, x.2.2.1, below_step x.2.2.2.1 hb, x.2.2.2.2.1.kept hb, x.2.2.2.2.2.kept hb⟩
theorem PX.alloc {w0 w : World} {h qb : Nat} {T : List Ent} (x : PX w0 w h qb T) (o : Obj) : PX w0 (w.alloc o) h qb T := x.kept (below_alloc (Below.refl _ _) o)
theorem PX.tab {w0 w : World} {h qb : Nat} {T : List Ent} (x : PX w0 w h qb T) : Tab w h T := x.2.2.2.2.1
theorem PX.ref {w0 w : World} {h qb : Nat} {T : List Ent} (x : PX w0 w h qb T) : RTab w qb T := x.2.2.2.2.2
theorem PX.below {w0 w : World} {h qb : Nat} {T : List Ent} (x : PX w0 w h qb T) : Below w0.heap.size w0 w := x.2.2.2.1
theorem PX.fresh {w0 w w' : World} {h qb : Nat} {T : List Ent} (x : PX w0 w h qb T) (o : Obj) (hb : But w.heap.size (w.alloc o) w') : PX w0 w' h qb T := by
  have y := x.alloc o
  exact ⟨y.1, y.2.1, y.2.2.1, hb.1 _ _ y.2.2.2.1 x.2.2.2.1.size, Tab.oth y.tab hb (Nat.ne_of_lt (blk_lt (Tab.heap x.tab))), RTab.other y.ref hb (Nat.ne_of_lt (blk_lt x.ref.2))⟩
def PY (w0 w : World) (h qb : Nat) (T T' : List Ent) : Prop := w0.heap.size ≤ h ∧ w0.heap.size ≤ qb ∧ h ≠ qb ∧ Below w0.heap.size w0 w ∧ Tab w h T' ∧ RTab w qb T
theorem PX.put {w0 w w' : World} {h qb : Nat} {T T' : List Ent} (x : PX w0 w h qb T) (ht : Tab w' h T') (hb : But h w w') : PY w0 w' h qb T T' := ⟨x.1, x.2.1, x.2.2.1, hb.1 _ _ x.2.2.2.1 x.1, ht, RTab.other x.ref hb x.2.2.1.symm⟩
theorem PY.ref {w0 w : World} {h qb : Nat} {T T' : List Ent} (x : PY w0 w h qb T T') : w.heap[qb]? = some (.cells (T.flatMap Ent.cells).toArray 50 (0, 0)) := x.2.2.2.2.2.2
theorem PY.close {w0 w w' : World} {h qb : Nat} {T T' : List Ent} (x : PY w0 w h qb T T') (hl : T'.length = 8) (a : w'.heap[qb]? = some (.cells (T'.flatMap Ent.cells).toArray 50 (0, 0))) (b : But qb w w') : PX w0 w' h qb T' := ⟨x.1, x.2.1, x.2.2.1, b.1 _ _ x.2.2.2.1 x.2.1, Tab.oth x.2.2.2.2.1 b x.2.2.1, hl, a⟩
theorem PX.again {w0 w : World} {h h' qb : Nat} {T : List Ent} (x : PX w0 w h qb T) (hg : w0.heap.size ≤ h') (hn : h' ≠ qb) (ht : Tab w h' T) : PX w0 w h' qb T := ⟨hg, x.2.1, hn, x.2.2.2.1, ht, x.2.2.2.2.2⟩
set_option maxRecDepth 100000 in
theorem run_tab {o : Oper} {a : Act} {w : World} {qb : Nat} {T : List Ent} {x : Operand} (ho : o.op = .load 50 x) (hx : a.eval x = .pointer (some ⟨qb, 0, none⟩)) (h : RTab w qb T) : (execOp a.eval o).run Tryd.prog w = .ok (.value (.agg (T.flatMap Ent.cells).toArray)) w := by
  have := rl_loadVar_cells (P := Tryd.prog) 50 _ rfl (fun w => by kernel_rfl) qb 0 (T.flatMap Ent.cells) (by rw [flat_len, h.1]; kernel_rfl) w h.all
  unfold execOp
  simp only [ho, hx, Instr.loadAt, Instr.sureAddr, Sem.run_bind, Sem.run_pure, Result.andThen_ok, this]
set_option maxHeartbeats 8000000 in
set_option maxRecDepth 100000 in
theorem plays_calls {w : World} (hL : LaidW w) (A : Option Addr) (ca : Nat) (la : List OpS) (hA : OpsAt w A la) :
    Calls Tryd.prog 6 #[.slice A la.length ca] w fun e w' => e = .returned (.bool true) ∧ Below w.heap.size w w' := by
  have HA := Aside0.mk hA
  clear hA
  go_enter Tryd.func6, Tryd.ntmps6
  go_wp2_with fail
  refine (New_calls w).mono ?_
  rintro e w1 ⟨rfl, hb1, hT1⟩
  have HW := Aside0.mk hb1
  have HT := Aside0.mk hT1
  have HGT := Aside0.mk (show w.heap.size < w1.heap.size from blk_lt (Tab.heap hT1))
  clear hb1 hT1
  go_wp2_with ((with_reducible refine gate_store (ty := 50) (x := .tmp 4) rfl ?_); refine ev_store rfl rfl 50 (.tmp 4) _ rfl _ rfl w1.heap.size 50 rfl (T0.flatMap Ent.cells) (T0.flatMap Ent.cells) rfl rfl (cells_one_ent _) rfl (blk_new w1 (.cells (T0.flatMap Ent.cells).toArray 50)) ?_; intro w9 a9 b9; have HX0 := Aside0.mk (show PX w w9 w.heap.size w1.heap.size T0 from ⟨Nat.le_refl _, Nat.le_of_lt HGT.out, Nat.ne_of_lt HGT.out, b9.1 _ _ (below_alloc HW.out (.cells (T0.flatMap Ent.cells).toArray 50)) HW.out.size, Tab.oth (Tab.alloc HT.out (.cells (T0.flatMap Ent.cells).toArray 50)) b9 (Nat.ne_of_lt HGT.out), rfl, a9⟩); clear a9 b9)
  clear HW HT
  generalize w1.heap.size = qb at *
  go_loopw [3, 5] (fun v3 v5 wr => ∃ (i h : Nat) (T : List Ent), i ≤ la.length ∧ v3 = .pointer (some ⟨h, 0, none⟩) ∧ v5 = .int .i64 (i : Int) ∧ Aside0 (okT T) ∧ Aside0 (PX w wr h qb T)) (fun _ v5 _ => la.length - (RowKit.intOf v5).toNat)
  case atStart => exact ⟨0, w.heap.size, T0, Nat.zero_le _, rfl, rfl, ⟨okT_T0⟩, HX0⟩
  case round =>
    obtain ⟨i, h, T, hi, rfl, rfl, HO, HX⟩ := hrel
    clear HX0 HGT
    have LEN := Aside0.mk HO.out.1
    have HQ := Aside0.mk (PX.ref HX.out)
    have HPT := Aside0.mk (tab_put HO.out)
    by_cases hlt : i < la.length ∧ i < 200
    · have c0 : decide ((i : Int) < (la.length : Int)) = true := decide_eq_true (by omega)
      have c1 : decide ((i : Int) < 200) = true := decide_eq_true (by omega)
      have i0 : (0 : Int) ≤ (i : Int) := by omega
      have i2 : (i : Int) < (la.length : Int) := by omega
      obtain ⟨x, rfl, n0, n1, n2, n3, n4, n5⟩ := HA.out i hlt.1
      rw [add_plus _ _ _ (by decide)] at n1 n2 n3 n4 n5
      have n0 := cell_kept (PX.below HX.out) n0
      have n1 := cell_kept (PX.below HX.out) n1
      have n2 := cell_kept (PX.below HX.out) n2
      have n3 := cell_kept (PX.below HX.out) n3
      have n4 := cell_kept (PX.below HX.out) n4
      have n5 := cell_kept (PX.below HX.out) n5
      generalize la.getD i OpS.z = X at *
      obtain ⟨kd, cl, sq, er, wa, ha, hn, hc⟩ := X
      dsimp only at n0 n1 n2 n3 n4 n5
      have HI := Aside0.mk (show i ≤ 199 by omega)
      have HI2 := Aside0.mk (show i + 1 ≤ la.length by omega)
      clear hlt hi
      have BO := Aside0.mk (blk_new wr (.cells #[.int .i64 kd, .int .i64 cl, .int .i64 sq, .int .i64 er, .bool wa, .slice ha hn hc] 52))
      have HX1 := Aside0.mk (PX.alloc HX.out (.cells #[.int .i64 kd, .int .i64 cl, .int .i64 sq, .int .i64 er, .bool wa, .slice ha hn hc] 52))
      have HQ1 := Aside0.mk (PX.ref HX1.out)
      obtain ⟨z0, z1, z2, z3, z4, z5⟩ := cells6 BO.out
      by_cases k1 : kd = 1
      · subst k1
        obtain ⟨P, hP⟩ : ∃ P, putT T cl sq er wa = P := ⟨_, rfl⟩
        have HP := Aside0.mk hP
        have OKX := Aside0.mk (show okT P.1 by rw [← hP]; exact okT_put HO.out _ _ _ _)
        clear hP
        obtain ⟨PT, pr⟩ := P
        dsimp only at *
        have LENP := Aside0.mk OKX.out.1
        go_wp2_with ((with_reducible refine gate_load (ty := 50) (x := .tmp 4) rfl ?_); refine ev_load rfl 50 (.tmp 4) rfl _ rfl (fun w => by kernel_rfl) qb 0 rfl (T.flatMap Ent.cells) (by rw [flat_len, LEN.out]; kernel_rfl) (RTab.all HQ1.out) ?_)
        refine (rput_calls T LEN.out cl sq er wa _ _ HP.out).mono ?_
        rintro e w2 ⟨rfl, hb2⟩
        have HX2 := Aside0.mk (PX.kept HX1.out hb2)
        have BO := Aside0.mk (blk_below BO.out hb2)
        clear hb2 HX1 HQ1 HQ z0 z1 z2 z3 z4 z5
        dsimp only
        go_wp2_with ((with_reducible refine gate_store (ty := 50) (x := .tmp 7) rfl ?_); refine ev_store rfl rfl 50 (.tmp 7) _ rfl _ rfl w2.heap.size 50 rfl (PT.flatMap Ent.cells) (T0.flatMap Ent.cells) rfl (by rw [flat_len, LENP.out]; kernel_rfl) (cells_one_ent _) (by rw [flat_len, flat_len, LENP.out]; rfl) (blk_new w2 (.cells (T0.flatMap Ent.cells).toArray 50)) ?_; intro w4 a4 b4; have HX3 := Aside0.mk (PX.fresh HX2.out (.cells (T0.flatMap Ent.cells).toArray 50) b4); have BO3 := Aside0.mk (b4.2 _ _ (Nat.ne_of_lt (blk_lt BO.out)) (blk_alloc BO.out (.cells (T0.flatMap Ent.cells).toArray 50))); have HN := Aside0.mk (show RTab w4 w2.heap.size PT from ⟨LENP.out, a4⟩); obtain ⟨z0, z1, z2, z3, z4, z5⟩ := cells6 BO3.out; clear a4 b4)
        have HNE := Aside0.mk (show h ≠ w2.heap.size from Nat.ne_of_lt (blk_lt (Tab.heap (PX.tab HX2.out))))
        have HNQ := Aside0.mk (show w2.heap.size ≠ qb from (Nat.ne_of_lt (blk_lt (PX.ref HX2.out).2)).symm)
        have HGE := Aside0.mk (show w.heap.size ≤ w2.heap.size from (PX.below HX2.out).size)
        generalize w2.heap.size = nb at *
        refine (put_calls (PX.tab HX3.out) cl sq er wa _ _ HP.out).mono ?_
        rintro e w5 ⟨rfl, hT5, hB5⟩
        have HY := Aside0.mk (PX.put HX3.out hT5 hB5)
        have HN5 := Aside0.mk (RTab.other HN.out hB5 HNE.out.symm)
        clear hT5 hB5 z0 z1 z2 z3 z4 z5
        dsimp only
        have dd : (pr != pr) = false := bne_self_eq_false pr
        go_wp2_with (first | ((with_reducible refine gate_load (ty := 50) (x := .tmp 7) rfl ?_); refine ev_load rfl 50 (.tmp 7) rfl _ rfl (fun w => by kernel_rfl) nb 0 rfl (PT.flatMap Ent.cells) (by rw [flat_len, LENP.out]; kernel_rfl) (RTab.all HN5.out) ?_) | ((with_reducible refine gate_store (ty := 50) (x := .tmp 4) rfl ?_); refine ev_store rfl rfl 50 (.tmp 4) _ rfl _ rfl qb 50 rfl (PT.flatMap Ent.cells) (T.flatMap Ent.cells) rfl (by rw [flat_len, LENP.out]; kernel_rfl) (cells_one_ent _) (by rw [flat_len, flat_len, LENP.out, LEN.out]) (PY.ref HY.out) ?_; intro w6 a6 b6; have HZ := Aside0.mk (PY.close HY.out LENP.out a6 b6); clear a6 b6))
        have H64 : wrap64 ((i : Int) + 1) = ((i + 1 : Nat) : Int) := by rw [w64 (by omega) (by have := HI.out; omega)]; omega
        refine ⟨⟨i + 1, h, PT, HI2.out, rfl, congrArg (Value.int .i64) H64, OKX, HZ⟩, ?_⟩
        rw [H64]; simp [RowKit.intOf]; have := HI2.out; omega
      · have q1 : (kd == 1) = false := beq_eq_false_iff_ne.2 k1
        have H64 : wrap64 ((i : Int) + 1) = ((i + 1 : Nat) : Int) := by rw [w64 (by omega) (by have := HI.out; omega)]; omega
        by_cases k2 : kd = 2
        · subst k2
          obtain ⟨F, hF⟩ : ∃ F, findM T cl sq = F := ⟨_, rfl⟩
          have HF := Aside0.mk hF
          clear hF q1 k1
          obtain ⟨fe, fw, fr⟩ := F
          go_wp2_with fail
          refine (find_calls (PX.tab HX1.out) cl sq _ HF.out).mono ?_
          rintro e w2 ⟨rfl, hb2⟩
          have HX2 := Aside0.mk (PX.alloc (PX.kept HX1.out hb2) (.cells #[.int .i64 fe, .bool fw, .slice none 0 0] 31))
          have HQ2 := Aside0.mk (PX.ref HX2.out)
          have BO2 := Aside0.mk (blk_alloc (blk_below BO.out hb2) (.cells #[.int .i64 fe, .bool fw, .slice none 0 0] 31))
          have BA := Aside0.mk (blk_new w2 (.cells #[.int .i64 fe, .bool fw, .slice none 0 0] 31))
          clear hb2 z0 z1 z2 z3 z4 z5 HQ HQ1
          obtain ⟨z0, z1, z2, z3, z4, z5⟩ := cells6 BO2.out
          dsimp only
          go_wp2_with ((with_reducible refine gate_load (ty := 50) (x := .tmp 4) rfl ?_); refine ev_load rfl 50 (.tmp 4) rfl _ rfl (fun w => by kernel_rfl) qb 0 rfl (T.flatMap Ent.cells) (by rw [flat_len, LEN.out]; kernel_rfl) (RTab.all HQ2.out) ?_)
          refine (rfind_calls T LEN.out cl sq _ HF.out).mono ?_
          rintro e w3 ⟨rfl, hb3⟩
          have HX3 := Aside0.mk (PX.alloc (PX.kept HX2.out hb3) (.cells #[.int .i64 fe, .bool fw, .slice none 0 0] 31))
          have BA3 := Aside0.mk (blk_alloc (blk_below BA.out hb3) (.cells #[.int .i64 fe, .bool fw, .slice none 0 0] 31))
          have BC3 := Aside0.mk (blk_new w3 (.cells #[.int .i64 fe, .bool fw, .slice none 0 0] 31))
          clear hb3 z0 z1 z2 z3 z4 z5
          obtain ⟨y0, y1, y2⟩ := cells3 BA3.out
          obtain ⟨u0, u1, u2⟩ := cells3 BC3.out
          have dd0 : (fe != fe) = false := bne_self_eq_false fe
          have dd1 : (fw != fw) = false := bne_self_eq_false fw
          have dd2 : (fr != fr) = false := bne_self_eq_false fr
          dsimp only
          go_wp2_with fail
          refine ⟨⟨i + 1, h, T, HI2.out, rfl, congrArg (Value.int .i64) H64, HO, HX3⟩, ?_⟩
          rw [H64]; simp [RowKit.intOf]; have := HI2.out; omega
        have q2 : (kd == 2) = false := beq_eq_false_iff_ne.2 k2
        by_cases k3 : kd = 3
        · subst k3
          clear k1 k2 q1 q2
          by_cases r0 : 0 ≤ cl
          · have d0 : decide (0 ≤ cl) = true := decide_eq_true r0
            by_cases r1 : cl < 8
            · have d1 : decide (cl < 8) = true := decide_eq_true r1
              obtain ⟨k, rfl⟩ : ∃ k : Nat, cl = (k : Int) := ⟨cl.toNat, by omega⟩
              have hk8 : k < 8 := by omega
              have hl : lastM T (k : Int) = (T.getD k zE).s := by unfold lastM; rw [if_pos ⟨r0, r1⟩, Int.toNat_natCast]
              obtain ⟨x0, x1, x2⟩ := RTab.cell HQ1.out k hk8
              generalize (T.getD k zE).s = n at *
              have HLS := Aside0.mk hl
              clear hl r0 hk8 x1 x2
              have r0 : (0 : Int) ≤ (k : Int) := by omega
              go_wp2_with fail
              refine (last_calls (PX.tab HX1.out) (k : Int) n HLS.out).mono ?_
              rintro e w2 ⟨rfl, hb2⟩
              have HX2 := Aside0.mk (PX.kept HX1.out hb2)
              clear hb2
              have dd : (n != n) = false := bne_self_eq_false n
              go_wp2_with fail
              refine ⟨⟨i + 1, h, T, HI2.out, rfl, congrArg (Value.int .i64) H64, HO, HX2⟩, ?_⟩
              rw [H64]; simp [RowKit.intOf]; have := HI2.out; omega
            · have d1 : decide (cl < 8) = false := decide_eq_false r1
              have HLS := Aside0.mk (show lastM T cl = 0 from if_neg (fun hh => r1 hh.2))
              clear r1
              go_wp2_with fail
              refine (last_calls (PX.tab HX1.out) cl 0 HLS.out).mono ?_
              rintro e w2 ⟨rfl, hb2⟩
              have HX2 := Aside0.mk (PX.kept HX1.out hb2)
              clear hb2
              go_wp2_with fail
              refine ⟨⟨i + 1, h, T, HI2.out, rfl, congrArg (Value.int .i64) H64, HO, HX2⟩, ?_⟩
              rw [H64]; simp [RowKit.intOf]; have := HI2.out; omega
          · have d0 : decide (0 ≤ cl) = false := decide_eq_false r0
            have HLS := Aside0.mk (show lastM T cl = 0 from if_neg (fun hh => r0 hh.1))
            clear r0
            go_wp2_with fail
            refine (last_calls (PX.tab HX1.out) cl 0 HLS.out).mono ?_
            rintro e w2 ⟨rfl, hb2⟩
            have HX2 := Aside0.mk (PX.kept HX1.out hb2)
            clear hb2
            go_wp2_with fail
            refine ⟨⟨i + 1, h, T, HI2.out, rfl, congrArg (Value.int .i64) H64, HO, HX2⟩, ?_⟩
            rw [H64]; simp [RowKit.intOf]; have := HI2.out; omega
        · have q3 : (kd == 3) = false := beq_eq_false_iff_ne.2 k3
          clear k1 k2 k3
          obtain ⟨kk, htr⟩ := tab_ref HO.out
          have HTR := Aside0.mk (fun (W : World) => rtext_calls (w := W) T LEN.out kk (textM T) 0 htr)
          clear htr
          have HSZ := Aside0.mk (textM_size HO.out)
          have HOB := Aside0.mk (of_back HO.out)
          go_wp2_with fail
          refine (text_calls (PX.tab HX1.out) (LaidW.below hL (PX.below HX1.out)) _ _ HPT.out).mono ?_
          rintro e w2 ⟨rfl, hb2⟩
          have HX2 := Aside0.mk (PX.kept HX1.out hb2)
          have HQ2 := Aside0.mk (PX.ref HX2.out)
          clear hb2
          go_wp2_with ((with_reducible refine gate_load (ty := 50) (x := .tmp 4) rfl ?_); refine ev_load rfl 50 (.tmp 4) rfl _ rfl (fun w => by kernel_rfl) qb 0 rfl (T.flatMap Ent.cells) (by rw [flat_len, LEN.out]; kernel_rfl) (RTab.all HQ2.out) ?_)
          refine (HTR.out _).mono ?_
          rintro e w3 ⟨rfl, hb3⟩
          have HX3 := Aside0.mk (PX.kept HX2.out hb3)
          clear hb3
          have dd : (!(textM T).toList == (textM T).toList) = false := bne_self_eq_false (textM T).toList
          go_wp2_with fail
          have hof := of_any (LaidW.below hL (PX.below HX3.out)) (textM T) (by have := HSZ.out; omega)
          rw [HOB.out] at hof
          refine hof.mono ?_
          clear hof
          rintro e w4 ⟨v, r, rfl, hb4, ⟨T', h', hT', rfl, rfl, hge, hTh⟩ | ⟨hn, _, _⟩⟩
          · obtain rfl := Option.some.inj hT'
            have HX4 := Aside0.mk (PX.again (PX.kept HX3.out hb4) (Nat.le_trans (PX.below HX3.out).size hge) (Nat.ne_of_gt (Nat.lt_of_lt_of_le (blk_lt (PX.ref HX3.out).2) hge)) hTh)
            clear hb4 hTh hge hT'
            go_wp2_with fail
            refine ⟨⟨i + 1, h', T, HI2.out, rfl, congrArg (Value.int .i64) H64, HO, HX4⟩, ?_⟩
            rw [H64]; simp [RowKit.intOf]; have := HI2.out; omega
          · cases hn
    · obtain ⟨kk, htr⟩ := tab_ref HO.out
      have HTR := Aside0.mk (fun (W : World) => rtext_calls (w := W) T LEN.out kk (textM T) 0 htr)
      clear htr
      by_cases h1 : i < la.length
      · have c0 : decide ((i : Int) < (la.length : Int)) = true := decide_eq_true (by omega)
        have c1 : decide ((i : Int) < 200) = false := decide_eq_false (by omega)
        have h2 : ¬ i < 200 := by omega
        clear hlt
        go_wp2_with fail
        refine wp_region_held (S := fun w' => RTab w' qb T) (by kernel_rfl) ?_
        simp only [List.size_toArray, List.length_cons, List.length_nil]
        have HSW : (fun w' : World => RTab w' qb T) wr.drew := RTab.drew HQ.out
        have HX := Aside0.mk (show PX w wr.drew h qb T from PX.kept HX.out (below_drew1 (Below.refl _ _)))
        have dd : ((textM T).toList == (textM T).toList) = true := beq_self_eq_true _
        refine wpAnyH_take (i := 0) (v := ?vp0) rfl (by kernel_rfl) (by kernel_rfl) (by kernel_rfl) (fun _ _ _ h => h) (Or.inl ⟨by rfl, ?hyp0⟩) HSW ?restp0
        case hyp0 => (intro w hSw; (try dsimp only at hSw); go_simp; first | done | with_reducible rfl)
        try simp only [Act.put, List.getElem_toArray, List.getElem_cons_zero, List.getElem_cons_succ, List.setIfInBounds_toArray, List.set_cons_zero, List.set_cons_succ]
        refine wpAnyH_take (i := 2) (v := ?vp2) rfl (by kernel_rfl) (by kernel_rfl) (by kernel_rfl) (fun _ _ _ h => h) (Or.inl ⟨by rfl, ?hyp2⟩) HSW ?restp2
        case hyp2 => (intro w' hSw; refine run_tab (x := .tmp 4) ?_ ?_ hSw <;> rfl)
        try simp only [Act.put, List.getElem_toArray, List.getElem_cons_zero, List.getElem_cons_succ, List.setIfInBounds_toArray, List.set_cons_zero, List.set_cons_succ]
        refine wpAnyH_ready (rs := [1]) (by kernel_rfl) (by simp) ?_
        refine AllReadyH.cons (i := 1) rfl (fun K hK => ?_) AllReadyH.nil
        go_simp
        refine (text_calls (PX.tab HX.out) (LaidW.below hL (PX.below HX.out)) _ _ HPT.out).mono ?_
        rintro e w2 ⟨rfl, hb2⟩
        have HX := Aside0.mk (PX.kept HX.out hb2)
        clear hb2
        dsimp only
        refine hK.out _ _ (PX.ref HX.out) (fun hHeld => ?_)
        have HSW := hHeld
        clear hK K hHeld
        try simp only [Act.put, List.getElem_toArray, List.getElem_cons_zero, List.getElem_cons_succ, List.setIfInBounds_toArray, List.set_cons_zero, List.set_cons_succ]
        refine wpAnyH_ready (rs := [3]) (by kernel_rfl) (by simp) ?_
        refine AllReadyH.cons (i := 3) rfl (fun K hK => ?_) AllReadyH.nil
        go_simp
        refine (HTR.out _).mono ?_
        rintro e w3 ⟨rfl, hb3⟩
        have HX := Aside0.mk (PX.kept HX.out hb3)
        clear hb3
        dsimp only
        refine hK.out _ _ (PX.ref HX.out) (fun hHeld => ?_)
        have HSW := hHeld
        clear hK K hHeld
        try simp only [Act.put, List.getElem_toArray, List.getElem_cons_zero, List.getElem_cons_succ, List.setIfInBounds_toArray, List.set_cons_zero, List.set_cons_succ]
        refine wpAnyH_take (i := 4) (v := ?vp4) rfl (by kernel_rfl) (by kernel_rfl) (by kernel_rfl) (fun _ _ _ h => h) (Or.inl ⟨by rfl, ?hyp4⟩) HSW ?restp4
        case hyp4 => (intro w hSw; (try dsimp only at hSw); go_simp; first | done | with_reducible rfl)
        try simp only [Act.put, List.getElem_toArray, List.getElem_cons_zero, List.getElem_cons_succ, List.setIfInBounds_toArray, List.set_cons_zero, List.set_cons_succ]
        refine wpAnyH_take (i := 5) (v := ?vp5) rfl (by kernel_rfl) (by kernel_rfl) (by kernel_rfl) (fun _ _ _ h => h) (Or.inl ⟨by rfl, ?hyp5⟩) HSW ?restp5
        case hyp5 => (intro w hSw; (try dsimp only at hSw); go_simp; first | done | with_reducible rfl)
        try simp only [Act.put, List.getElem_toArray, List.getElem_cons_zero, List.getElem_cons_succ, List.setIfInBounds_toArray, List.set_cons_zero, List.set_cons_succ]
        refine wpAnyH_ready (rs := [6]) (by kernel_rfl) (by simp) ?_
        refine AllReadyH.cons (i := 6) rfl (fun K hK => ?_) AllReadyH.nil
        go_simp
        refine (awake_ok (LaidW.below hL (PX.below HX.out))).mono ?_
        rintro e w4 ⟨rfl, hb4⟩
        have HX := Aside0.mk (PX.kept HX.out hb4)
        clear hb4
        dsimp only
        refine hK.out _ _ (PX.ref HX.out) (fun hHeld => ?_)
        have HSW := hHeld
        clear hK K hHeld
        try simp only [Act.put, List.getElem_toArray, List.getElem_cons_zero, List.getElem_cons_succ, List.setIfInBounds_toArray, List.set_cons_zero, List.set_cons_succ]
        refine wpAnyH_take (i := 7) (v := ?vp7) rfl (by kernel_rfl) (by kernel_rfl) (by kernel_rfl) (fun _ _ _ h => h) (Or.inl ⟨by rfl, ?hyp7⟩) HSW ?restp7
        case hyp7 => (intro w hSw; (try dsimp only at hSw); go_simp; first | done | with_reducible rfl)
        try simp only [Act.put, List.getElem_toArray, List.getElem_cons_zero, List.getElem_cons_succ, List.setIfInBounds_toArray, List.set_cons_zero, List.set_cons_succ]
        refine wpAnyH_take (i := 8) (v := ?vp8) rfl (by kernel_rfl) (by kernel_rfl) (by kernel_rfl) (fun _ _ _ h => h) (Or.inl ⟨by rfl, ?hyp8⟩) HSW ?restp8
        case hyp8 => (intro w hSw; (try dsimp only at hSw); go_simp; first | done | with_reducible rfl)
        try simp only [Act.put, List.getElem_toArray, List.getElem_cons_zero, List.getElem_cons_succ, List.setIfInBounds_toArray, List.set_cons_zero, List.set_cons_succ]
        refine wpAnyH_done (by kernel_rfl) ?_ _
        clear HSW
        go_wp2_with fail
        go_returns
        exact ⟨rfl, PX.below HX.out⟩
      · have c0 : decide ((i : Int) < (la.length : Int)) = false := decide_eq_false (by omega)
        clear hlt
        go_wp2_with fail
        refine wp_region_held (S := fun w' => RTab w' qb T) (by kernel_rfl) ?_
        simp only [List.size_toArray, List.length_cons, List.length_nil]
        have HSW : (fun w' : World => RTab w' qb T) wr.drew := RTab.drew HQ.out
        have HX := Aside0.mk (show PX w wr.drew h qb T from PX.kept HX.out (below_drew1 (Below.refl _ _)))
        have dd : ((textM T).toList == (textM T).toList) = true := beq_self_eq_true _
        refine wpAnyH_take (i := 0) (v := ?vq0) rfl (by kernel_rfl) (by kernel_rfl) (by kernel_rfl) (fun _ _ _ h => h) (Or.inl ⟨by rfl, ?hyq0⟩) HSW ?restq0
        case hyq0 => (intro w hSw; (try dsimp only at hSw); go_simp; first | done | with_reducible rfl)
        try simp only [Act.put, List.getElem_toArray, List.getElem_cons_zero, List.getElem_cons_succ, List.setIfInBounds_toArray, List.set_cons_zero, List.set_cons_succ]
        refine wpAnyH_take (i := 2) (v := ?vq2) rfl (by kernel_rfl) (by kernel_rfl) (by kernel_rfl) (fun _ _ _ h => h) (Or.inl ⟨by rfl, ?hyq2⟩) HSW ?restq2
        case hyq2 => (intro w' hSw; refine run_tab (x := .tmp 4) ?_ ?_ hSw <;> rfl)
        try simp only [Act.put, List.getElem_toArray, List.getElem_cons_zero, List.getElem_cons_succ, List.setIfInBounds_toArray, List.set_cons_zero, List.set_cons_succ]
        refine wpAnyH_ready (rs := [1]) (by kernel_rfl) (by simp) ?_
        refine AllReadyH.cons (i := 1) rfl (fun K hK => ?_) AllReadyH.nil
        go_simp
        refine (text_calls (PX.tab HX.out) (LaidW.below hL (PX.below HX.out)) _ _ HPT.out).mono ?_
        rintro e w2 ⟨rfl, hb2⟩
        have HX := Aside0.mk (PX.kept HX.out hb2)
        clear hb2
        dsimp only
        refine hK.out _ _ (PX.ref HX.out) (fun hHeld => ?_)
        have HSW := hHeld
        clear hK K hHeld
        try simp only [Act.put, List.getElem_toArray, List.getElem_cons_zero, List.getElem_cons_succ, List.setIfInBounds_toArray, List.set_cons_zero, List.set_cons_succ]
        refine wpAnyH_ready (rs := [3]) (by kernel_rfl) (by simp) ?_
        refine AllReadyH.cons (i := 3) rfl (fun K hK => ?_) AllReadyH.nil
        go_simp
        refine (HTR.out _).mono ?_
        rintro e w3 ⟨rfl, hb3⟩
        have HX := Aside0.mk (PX.kept HX.out hb3)
        clear hb3
        dsimp only
        refine hK.out _ _ (PX.ref HX.out) (fun hHeld => ?_)
        have HSW := hHeld
        clear hK K hHeld
        try simp only [Act.put, List.getElem_toArray, List.getElem_cons_zero, List.getElem_cons_succ, List.setIfInBounds_toArray, List.set_cons_zero, List.set_cons_succ]
        refine wpAnyH_take (i := 4) (v := ?vq4) rfl (by kernel_rfl) (by kernel_rfl) (by kernel_rfl) (fun _ _ _ h => h) (Or.inl ⟨by rfl, ?hyq4⟩) HSW ?restq4
        case hyq4 => (intro w hSw; (try dsimp only at hSw); go_simp; first | done | with_reducible rfl)
        try simp only [Act.put, List.getElem_toArray, List.getElem_cons_zero, List.getElem_cons_succ, List.setIfInBounds_toArray, List.set_cons_zero, List.set_cons_succ]
        refine wpAnyH_take (i := 5) (v := ?vq5) rfl (by kernel_rfl) (by kernel_rfl) (by kernel_rfl) (fun _ _ _ h => h) (Or.inl ⟨by rfl, ?hyq5⟩) HSW ?restq5
        case hyq5 => (intro w hSw; (try dsimp only at hSw); go_simp; first | done | with_reducible rfl)
        try simp only [Act.put, List.getElem_toArray, List.getElem_cons_zero, List.getElem_cons_succ, List.setIfInBounds_toArray, List.set_cons_zero, List.set_cons_succ]
        refine wpAnyH_ready (rs := [6]) (by kernel_rfl) (by simp) ?_
        refine AllReadyH.cons (i := 6) rfl (fun K hK => ?_) AllReadyH.nil
        go_simp
        refine (awake_ok (LaidW.below hL (PX.below HX.out))).mono ?_
        rintro e w4 ⟨rfl, hb4⟩
        have HX := Aside0.mk (PX.kept HX.out hb4)
        clear hb4
        dsimp only
        refine hK.out _ _ (PX.ref HX.out) (fun hHeld => ?_)
        have HSW := hHeld
        clear hK K hHeld
        try simp only [Act.put, List.getElem_toArray, List.getElem_cons_zero, List.getElem_cons_succ, List.setIfInBounds_toArray, List.set_cons_zero, List.set_cons_succ]
        refine wpAnyH_take (i := 7) (v := ?vq7) rfl (by kernel_rfl) (by kernel_rfl) (by kernel_rfl) (fun _ _ _ h => h) (Or.inl ⟨by rfl, ?hyq7⟩) HSW ?restq7
        case hyq7 => (intro w hSw; (try dsimp only at hSw); go_simp; first | done | with_reducible rfl)
        try simp only [Act.put, List.getElem_toArray, List.getElem_cons_zero, List.getElem_cons_succ, List.setIfInBounds_toArray, List.set_cons_zero, List.set_cons_succ]
        refine wpAnyH_take (i := 8) (v := ?vq8) rfl (by kernel_rfl) (by kernel_rfl) (by kernel_rfl) (fun _ _ _ h => h) (Or.inl ⟨by rfl, ?hyq8⟩) HSW ?restq8
        case hyq8 => (intro w hSw; (try dsimp only at hSw); go_simp; first | done | with_reducible rfl)
        try simp only [Act.put, List.getElem_toArray, List.getElem_cons_zero, List.getElem_cons_succ, List.setIfInBounds_toArray, List.set_cons_zero, List.set_cons_succ]
        refine wpAnyH_done (by kernel_rfl) ?_ _
        clear HSW
        go_wp2_with fail
        go_returns
        exact ⟨rfl, PX.below HX.out⟩
end Go.Proofs.YthlkcfjodmhhmaaDoor.Dd
namespace Go.Proofs.YthlkcfjodmhhmaaDoor.Opn
open Go.RowKit Go.Proofs.YthlkcfjodmhhmaaDoorW.PrintWords
set_option linter.unusedVariables false
abbrev RK : Kd (Int × Bool × List (Int × Int)) := Kd.pair (Kd.int .i64) (Kd.pair Kd.bool (Kd.slice 136 (Kd.pair (Kd.int .i64) (Kd.int .i64))))
abbrev OK6 : Kd (Int × Int × Int × Int × Bool × List (Int × Int)) := Kd.pair (Kd.int .i64) (Kd.pair (Kd.int .i64) (Kd.pair (Kd.int .i64) RK))
theorem opens_hit : ∀ n, OpensAt Tryd.prog n 136 (Kd.pair (Kd.int .i64) (Kd.int .i64)) (fun _ => True) := fun n =>
  OpensAt.map (d := Kd.pair (Kd.int .i64) (Kd.int .i64)) id (opens_struct Tryd.underlying136 (by kernel_rfl) (fun m hm => fields_cons rfl (by kernel_rfl) (opens_int (by kernel_rfl)) (fields_one rfl (by kernel_rfl) (opens_int (by kernel_rfl))))) (fun w a cs h1 h2 => ⟨h1, trivial⟩)
theorem opens_reply : ∀ n, OpensAt Tryd.prog n 31 RK (fun _ => True) := fun n =>
  OpensAt.map (d := RK) id (opens_struct Tryd.underlying31 (by kernel_rfl) (fun m hm => fields_cons rfl (by kernel_rfl) (opens_int (by kernel_rfl)) (fields_cons rfl (by kernel_rfl) (opens_bool (by kernel_rfl)) (fields_one rfl (by kernel_rfl) (opens_slice (e := 136) (by kernel_rfl) (by kernel_rfl) 16 (by kernel_rfl) (fun q hq => opens_hit q)))))) (fun w a cs h1 h2 => ⟨h1, trivial⟩)
theorem opens_op : ∀ n, OpensAt Tryd.prog n 52 OK6 (fun _ => True) := fun n =>
  OpensAt.map (d := OK6) id (opens_struct Tryd.underlying52 (by kernel_rfl) (fun m hm => fields_cons rfl (by kernel_rfl) (opens_int (by kernel_rfl)) (fields_cons rfl (by kernel_rfl) (opens_int (by kernel_rfl)) (fields_cons rfl (by kernel_rfl) (opens_int (by kernel_rfl)) (fields_one rfl (by kernel_rfl) (opens_reply m)))))) (fun w a cs h1 h2 => ⟨h1, trivial⟩)
set_option maxRecDepth 100000 in
theorem open_ops {H : Type} {enc : TypeId × Value → H} {W : World} {base : Nat} {spare : Nat → Bool} {held : Bool} {v : Value} {d : DataW H} {ps : List MemPlace} {r : Reach} {b0 : Nat}
    (hval : Value.okWide Tryd.prog W r b0 46 v) (hd : DataW.Trod enc Tryd.prog W base spare held 46 v d ps) (hw : ∀ x ∈ d.weights Tryd.prog 46, x ≤ reachBytes) :
    ∃ (l : List Dd.OpS) (A : Option Addr) (c : Nat), v = .slice A l.length c ∧ Dd.OpsAt W A l := by
  obtain ⟨a, len, cap, rfl⟩ := Go.WideShapes.okWide_slice Tryd.underlying46 hval
  obtain ⟨n, hn⟩ := hd
  obtain ⟨l0, ⟨A, c, he, hl, hC⟩, _⟩ := opens_slice (d := OK6) (G := fun _ => True) (e := 52) Tryd.underlying46 (by kernel_rfl) (Tryd.prog.bytesOf 52) rfl (fun m hm => opens_op m) hn hw
  have he' : Value.slice a len cap = Value.slice A l0.length c := by
    have : ([Value.slice a len cap] : List Value) = [.slice A l0.length c] := he
    exact (List.cons.inj this).1
  obtain ⟨l, h1, h2⟩ := choose_list (γ := Dd.OpS) l0.length (fun i o => ∃ x, A = some x ∧ W.cell? (x.add (i * 6)) = some (.int .i64 o.kd) ∧ W.cell? (x.add (i * 6 + 1)) = some (.int .i64 o.cl) ∧ W.cell? (x.add (i * 6 + 2)) = some (.int .i64 o.sq) ∧ W.cell? (x.add (i * 6 + 3)) = some (.int .i64 o.er) ∧ W.cell? (x.add (i * 6 + 4)) = some (.bool o.wa) ∧ W.cell? (x.add (i * 6 + 5)) = some (.slice o.ha o.hn o.hc)) (fun i hi => by
    obtain ⟨x, rfl, hx⟩ := hC.2.2 (by omega)
    obtain ⟨cs, _, hK, h3⟩ := hx i l0[i] (List.getElem?_eq_getElem hi)
    generalize l0[i] = p at *
    obtain ⟨p0, p1, p2, p3, p4, p5⟩ := p
    obtain ⟨_, _, rfl, rfl, ⟨_, _, rfl, rfl, ⟨_, _, rfl, rfl, ⟨_, _, rfl, rfl, ⟨_, _, rfl, rfl, ⟨A5, c5, rfl, _⟩⟩⟩⟩⟩⟩ := hK
    exact ⟨⟨p0, p1, p2, p3, p4, A5, p5.length, c5⟩, x, rfl, h3 0 _ rfl, h3 1 _ rfl, h3 2 _ rfl, h3 3 _ rfl, h3 4 _ rfl, h3 5 _ rfl⟩)
  refine ⟨l, A, c, by rw [h1]; exact he', fun i hi => ?_⟩
  have := h2 i l[i] (List.getElem?_eq_getElem hi)
  rw [List.getD_eq_getElem?_getD, List.getElem?_eq_getElem hi]
  exact this
end Go.Proofs.YthlkcfjodmhhmaaDoor.Opn
namespace Go.Proofs.YthlkcfjodmhhmaaDoor.Dd
open Go.RowKit Go.Lib Go.Proofs.YthlkcfjodmhhmaaDoor.Giv
theorem plays_walk (a0 : Option Addr) (len0 cap0 : Nat) (l0 : List OpS) (W : World) (hL : LaidW W) (w0 : l0.length = len0 ∧ OpsAt W a0 l0) :
    Calls Tryd.prog 6 #[.slice a0 len0 cap0] W fun e w' => e = .returned (.bool true) ∧ Below W.heap.size W w' := by
  obtain ⟨rfl, h⟩ := w0
  exact plays_calls hL a0 cap0 l0 h
end Go.Proofs.YthlkcfjodmhhmaaDoor.Dd
namespace Go.Proofs.YthlkcfjodmhhmaaDoor.Lay
open Go.RowKit Go.Lib
def LL : List (String × DataW Unit) := [("math/bits.deBruijn32tab", Rows.laid_math_bits_deBruijn32tab), ("math/bits.deBruijn64tab", Rows.laid_math_bits_deBruijn64tab), ("internal/strconv.uint64pow10", Rows.laid_internal_strconv_uint64pow10)]
def cellsOf : DataW Unit → List Value
  | .agg l => l.map fun | .lit (.int k z) => .int k z | _ => .nilIface
  | _ => []
noncomputable def laidWorld (os : Os) : World :=
  let w0 := World.holding Tryd.prog os ⟨#[], #[], []⟩
  let put (h : Array Obj) (g : Nat) (cs : Array Value) : Array Obj := h.modify g fun
    | .cells _ t frozen => .cells cs t frozen
    | o => o
  let h1 := put w0.heap 1 (cellsOf Rows.laid_math_bits_deBruijn32tab).toArray
  let h2 := put h1 2 (cellsOf Rows.laid_math_bits_deBruijn64tab).toArray
  let h3 := put h2 0 (cellsOf Rows.laid_internal_strconv_uint64pow10).toArray
  { w0 with heap := h3 }
theorem laid_met (os : Os) (args : Array Value) : laidMet Tryd.prog LL ((laidWorld os).forCall (fun _ _ => 0) ⟨#[], args, []⟩).memory :=
  (LaidIn.of_run (l := LL) [1, 2, 0] 8 (by kernel_rfl) (by kernel_rfl) (by kernel_rfl) (by kernel_rfl)).met
theorem eqP : (Rows.laid_internal_strconv_uint64pow10 : DataW Unit) = Lib.tabData .u64 Lib.pow10Tab := by kernel_rfl
set_option maxRecDepth 100000 in
theorem tabIs_of_reads {name : String} {k : IntKind} {zs : List Int} {W : World} {g : Nat} {t e : TypeId} {n : Nat} (hg : Tryd.prog.globalNamed name = some g) (hty : (Tryd.prog.globals[g]?).map (·.type) = some t) (ht : Tryd.prog.underlying t = some (.array n e)) (he : Tryd.prog.underlying e = some (.int k)) (hce : Tryd.prog.cellsOf e = 1) (hct : Tryd.prog.cellsOf t = n)
    (h : VarReads Tryd.prog W name (tabData k zs)) : Lib.TabIs Tryd.prog W name k zs := by
  obtain ⟨g', t', cs, fuel, p, h1, h2, h3, h4⟩ := h
  obtain rfl : g' = g := by rw [hg] at h1; exact (Option.some.inj h1).symm
  obtain rfl : t' = t := by rw [hty] at h2; exact (Option.some.inj h2).symm
  have := cells_of_tab ht he hce hct h4
  unfold Lib.TabIs
  rw [h3]
  congr 1
  apply Array.toList_inj.1
  rw [this]
theorem laidW_of {W : World} (hL : laidMetH Tryd.prog LL W) : Giv.LaidW W := by
  have h1 := Lib.laidMet.reads hL (.tail _ (.tail _ (.head _)))
  rw [eqP] at h1
  exact tabIs_of_reads (t := 114) (e := 108) (n := 20) Giv.pow10_named (by kernel_rfl) Tryd.underlying114 Tryd.underlying108 (by kernel_rfl) (by kernel_rfl) h1
theorem own : ownKnob Tryd.prog.godebug = none := by kernel_rfl
theorem laidOut : laidOutB Tryd.prog = true := by kernel_rfl
end Go.Proofs.YthlkcfjodmhhmaaDoor.Lay
