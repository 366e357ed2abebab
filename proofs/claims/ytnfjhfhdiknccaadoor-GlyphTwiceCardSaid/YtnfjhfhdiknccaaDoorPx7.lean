-- Written by a program of this session (gprint.py), by the kit's print with given contracts.
import Derived.Test.YtnfjhfhdiknccaaDoorPx0
namespace Go.Proofs.YtnfjhfhdiknccaaDoor.P
open Go.RowKit Go.Proofs.YtnfjhfhdiknccaaDoor.Giv Go.Proofs.YtnfjhfhdiknccaaDoorW.PrintWords Go.Proofs.YtnfjhfhdiknccaaDoorW.PrintLast Go.Proofs.YtnfjhfhdiknccaaDoorW.PrintMore
attribute [local go_sem] max2_int min2_int max_two min_two max_three min_three max_four min_four   -- for this text's walks alone
set_option linter.unusedVariables false
set_option linter.unusedSimpArgs false

-- GIVEN: function 17 (glyph_Fold)

/-! ### ploverlaw01_folds: function 16 -/
def ploverlaw01_folds.f  : Option (Bool) := (glyph_Fold.f (⟨#[65, 195, 132, 98, 206, 169, 208, 175]⟩ : ByteArray)).bind fun bt195 => (if bt195.1.toList = ([97, 195, 164, 98, 207, 137, 209, 143] : List UInt8) then (some (bt195.2 == 0)) else (some false))
set_option maxHeartbeats 8000000 in
set_option maxRecDepth 100000 in
theorem ploverlaw01_folds.calls  (r : Bool) (w : World) (hL : LaidW w) (h : ploverlaw01_folds.f  = some r) :
    Calls Tryd.prog 16 #[] w fun e w' => e = .returned (.bool r) ∧ Below w.heap.size w w' := by
  have HB := Aside0.mk (Below.refl w.heap.size w)
  have H : ((glyph_Fold.f (⟨#[65, 195, 132, 98, 206, 169, 208, 175]⟩ : ByteArray)).bind fun bt195 => (if bt195.1.toList = ([97, 195, 164, 98, 207, 137, 209, 143] : List UInt8) then (some (bt195.2 == 0)) else (some false))) = some r := h
  clear h
  replace H := Option.bind_eq_some_iff.mp H
  obtain ⟨⟨t195, t196⟩, A10, H⟩ := H
  replace H : (if t195.toList = ([97, 195, 164, 98, 207, 137, 209, 143] : List UInt8) then (some (t196 == 0)) else (some false)) = some r := H
  have A1 := Aside0.mk A10
  clear A10
  by_cases c2 : t195.toList = ([97, 195, 164, 98, 207, 137, 209, 143] : List UInt8)
  · rw [if_pos c2] at H
    have c2b0 : (t195.toList == ([97, 195, 164, 98, 207, 137, 209, 143] : List UInt8)) = true := beq_iff_eq.mpr c2
    have c2b1 : (t195.toList != ([97, 195, 164, 98, 207, 137, 209, 143] : List UInt8)) = false := bne_eq_false_iff_eq.mpr c2
    clear c2
    obtain rfl := Option.some.inj H
    go_enter Tryd.func16, Tryd.ntmps16
    go_wp2_with (first | ((with_reducible refine gate_callee (f := 17) rfl ?_); refine goesL_ (some 4) rfl rfl Tryd.func17 (by kernel_rfl) rfl #[.string (⟨#[65, 195, 132, 98, 206, 169, 208, 175]⟩ : ByteArray)] rfl (by (try simp only [List.map_toArray, List.map_cons, List.map_nil]); first | done | rfl | (simp only [List.length_drop, List.length_take]; rfl)) ?_; (with_reducible refine (glyph_Fold.calls (⟨#[65, 195, 132, 98, 206, 169, 208, 175]⟩ : ByteArray) t195 t196 _ (LaidW.below hL (by repeat (first | (with_reducible first | exact HB.out | apply below_alloc | apply pw_below_drewN | apply below_drew1) | exact HB.out))) A1.out).mono ?_); rintro e w3 ⟨rfl, hb⟩; refine ⟨_, rfl, ?_⟩; have n0_ := Aside0.mk (below_step (by repeat (first | (with_reducible first | exact HB.out | apply below_alloc | apply pw_below_drewN | apply below_drew1) | exact HB.out)) hb); clear HB; have HB := n0_; clear n0_; (try clear hb); (try clear hb2); (try clear hk); (try clear hi)))
    go_ret
    exact ⟨by first | rfl | (simp [errW_none, errW_some] <;> rfl) | (simp [*, errW_none, errW_some] <;> rfl), by repeat (first | (with_reducible first | exact HB.out | apply below_alloc | apply pw_below_drewN | apply below_drew1) | exact HB.out)⟩
  · rw [if_neg c2] at H
    have c2b0 : (t195.toList == ([97, 195, 164, 98, 207, 137, 209, 143] : List UInt8)) = false := beq_eq_false_iff_ne.mpr c2
    have c2b1 : (t195.toList != ([97, 195, 164, 98, 207, 137, 209, 143] : List UInt8)) = true := bne_iff_ne.mpr c2
    obtain rfl := Option.some.inj H
    go_enter Tryd.func16, Tryd.ntmps16
    go_wp2_with (first | ((with_reducible refine gate_callee (f := 17) rfl ?_); refine goesL_ (some 4) rfl rfl Tryd.func17 (by kernel_rfl) rfl #[.string (⟨#[65, 195, 132, 98, 206, 169, 208, 175]⟩ : ByteArray)] rfl (by (try simp only [List.map_toArray, List.map_cons, List.map_nil]); first | done | rfl | (simp only [List.length_drop, List.length_take]; rfl)) ?_; (with_reducible refine (glyph_Fold.calls (⟨#[65, 195, 132, 98, 206, 169, 208, 175]⟩ : ByteArray) t195 t196 _ (LaidW.below hL (by repeat (first | (with_reducible first | exact HB.out | apply below_alloc | apply pw_below_drewN | apply below_drew1) | exact HB.out))) A1.out).mono ?_); rintro e w4 ⟨rfl, hb⟩; refine ⟨_, rfl, ?_⟩; have n0_ := Aside0.mk (below_step (by repeat (first | (with_reducible first | exact HB.out | apply below_alloc | apply pw_below_drewN | apply below_drew1) | exact HB.out)) hb); clear HB; have HB := n0_; clear n0_; (try clear hb); (try clear hb2); (try clear hk); (try clear hi)))
    go_ret
    exact ⟨by first | rfl | (simp [errW_none, errW_some] <;> rfl) | (simp [*, errW_none, errW_some] <;> rfl), by repeat (first | (with_reducible first | exact HB.out | apply below_alloc | apply pw_below_drewN | apply below_drew1) | exact HB.out)⟩

end Go.Proofs.YtnfjhfhdiknccaaDoor.P
