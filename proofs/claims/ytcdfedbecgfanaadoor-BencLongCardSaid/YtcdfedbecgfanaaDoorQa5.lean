/- Texts put together by prune.py: Px13, BncD, BncG, BncH, BncJ, Aid, BncX, BncY, LayB. -/
import Derived.WalkKit
import Derived.Deep.Quiet
import Derived.BigQuiet
import Derived.Test.YtcdfedbecgfanaaDoorRows
import Derived.Lib.LaidIn
import Derived.Lib.LaidU8T
import Derived.Deep.DeepHandedRow
import Derived.Deep.DeepWitnessRowRef
import Derived.ProofKit
import Derived.SizedLaws
import Derived.Test.YtcdfedbecgfanaaDoorQa4
namespace Go.Proofs.YtcdfedbecgfanaaDoor.P
open Go.RowKit Go.Proofs.YtcdfedbecgfanaaDoorW.PrintWords Go.Proofs.YtcdfedbecgfanaaDoorW.PrintLast Go.Proofs.YtcdfedbecgfanaaDoorW.PrintMore
attribute [local go_sem] max2_int min2_int max_two min_two max_three min_three max_four min_four   -- for this text's walks alone
set_option linter.unusedVariables false
set_option linter.unusedSimpArgs false
open Go.Proofs.YtcdfedbecgfanaaDoor.Giv
def ploverlaw02_BencLong.l0 : Nat → Int → ByteArray → Int → Option (Bool)
  | 0, _, _, _ => none
  | k + 1, x5, x12, x13 => if x13 < (wrap64 (6 + x5)) then (if 1 + x12.size ≤ 9223372036854775807 then (if ((⟨#[108]⟩ : ByteArray) ++ x12).size + 1 ≤ 9223372036854775807 then (ploverlaw02_BencLong.l0 k x5 (((⟨#[108]⟩ : ByteArray) ++ x12) ++ (⟨#[101]⟩ : ByteArray)) (wrap64 (x13 + 1))) else (none)) else (none)) else ((benc_Take.f x12).bind fun bt247 => (if x5 > 2 then (if bt247.2.2.2.2.1 = 0 then (if bt247.2.2.2.2.2 = 22 then ((ploverlaw02_awake.f k).bind fun t256 => (some t256)) else (some false)) else (some false)) else (if bt247.2.2.2.2.1 = (x12.size : Int) then (if bt247.2.2.2.2.2 = 0 then ((ploverlaw02_awake.f k).bind fun t257 => (some t257)) else (some false)) else (some false))))
def ploverlaw02_BencLong.f (k : Nat) (a0 : Int) (a1 : Int) : Option (Bool) := if (Go.bits .and .i64 a0 1) = 0 then (if 0 ≤ (wrap64 (65528 + (Go.bits .and .i64 a1 3))) then (if (wrap64 (65528 + (Go.bits .and .i64 a1 3)) : Int).toNat ≤ 281474976710656 then ((some (List.replicate (wrap64 (65528 + (Go.bits .and .i64 a1 3)) : Int).toNat 0 : List Int)).bind fun y231 => ((benc_Put.f 2 0 (strOfNums y231) ([] : List (S24))).bind fun bt234 => (if (Go.bits .and .i64 a1 3) > 2 then (if bt234.1.toList = ([] : List UInt8) then (if bt234.2 = 23 then ((ploverlaw02_awake.f k).bind fun t236 => (some t236)) else (some false)) else (some false)) else ((benc_Take.f bt234.1).bind fun bt237 => (if bt234.2 = 0 then (if (bt234.1.size : Int) = (wrap64 (65534 + (Go.bits .and .i64 a1 3))) then (if bt237.2.2.1.toList = (strOfNums y231).toList then (if bt237.2.2.2.2.1 = (bt234.1.size : Int) then (if bt237.2.2.2.2.2 = 0 then ((ploverlaw02_awake.f k).bind fun t246 => (some t246)) else (some false)) else (some false)) else (some false)) else (some false)) else (some false)))))) else (none)) else (none)) else (ploverlaw02_BencLong.l0 k (Go.bits .and .i64 a1 3) (⟨#[]⟩ : ByteArray) 0)
set_option maxHeartbeats 8000000 in
set_option maxRecDepth 100000 in
theorem ploverlaw02_BencLong.calls (k : Nat) (a0 : Int) (a1 : Int) (r : Bool) (w : World) (hL : LaidW w) (h : ploverlaw02_BencLong.f k a0 a1 = some r) :
    Calls Tryd.prog 7 #[.int .i64 a0, .int .i64 a1] w fun e w' => e = .returned (.bool r) ∧ Below w.heap.size w w' := by
  have hu24 := Tryd.underlying24
  have HB := Aside0.mk (Below.refl w.heap.size w)
  have H : (if (Go.bits .and .i64 a0 1) = 0 then (if 0 ≤ (wrap64 (65528 + (Go.bits .and .i64 a1 3))) then (if (wrap64 (65528 + (Go.bits .and .i64 a1 3)) : Int).toNat ≤ 281474976710656 then ((some (List.replicate (wrap64 (65528 + (Go.bits .and .i64 a1 3)) : Int).toNat 0 : List Int)).bind fun y231 => ((benc_Put.f 2 0 (strOfNums y231) ([] : List (S24))).bind fun bt234 => (if (Go.bits .and .i64 a1 3) > 2 then (if bt234.1.toList = ([] : List UInt8) then (if bt234.2 = 23 then ((ploverlaw02_awake.f k).bind fun t236 => (some t236)) else (some false)) else (some false)) else ((benc_Take.f bt234.1).bind fun bt237 => (if bt234.2 = 0 then (if (bt234.1.size : Int) = (wrap64 (65534 + (Go.bits .and .i64 a1 3))) then (if bt237.2.2.1.toList = (strOfNums y231).toList then (if bt237.2.2.2.2.1 = (bt234.1.size : Int) then (if bt237.2.2.2.2.2 = 0 then ((ploverlaw02_awake.f k).bind fun t246 => (some t246)) else (some false)) else (some false)) else (some false)) else (some false)) else (some false)))))) else (none)) else (none)) else (ploverlaw02_BencLong.l0 k (Go.bits .and .i64 a1 3) (⟨#[]⟩ : ByteArray) 0)) = some r := h
  clear h
  by_cases c3 : (Go.bits .and .i64 a0 1) = 0
  · rw [if_pos c3] at H
    have c3b0 : ((Go.bits .and .i64 a0 1) == 0) = true := beq_iff_eq.mpr c3
    have c3b1 : ((Go.bits .and .i64 a0 1) != 0) = false := bne_eq_false_iff_eq.mpr c3
    clear c3
    obtain ⟨ji4, hji4⟩ : ∃ j_ : Int, (wrap64 (65528 + (Go.bits .and .i64 a1 3))) = j_ := ⟨_, rfl⟩
    replace H : (if 0 ≤ (ji4) then (if (ji4 : Int).toNat ≤ 281474976710656 then ((some (List.replicate (ji4 : Int).toNat 0 : List Int)).bind fun y231 => ((benc_Put.f 2 0 (strOfNums y231) ([] : List (S24))).bind fun bt234 => (if (Go.bits .and .i64 a1 3) > 2 then (if bt234.1.toList = ([] : List UInt8) then (if bt234.2 = 23 then ((ploverlaw02_awake.f k).bind fun t236 => (some t236)) else (some false)) else (some false)) else ((benc_Take.f bt234.1).bind fun bt237 => (if bt234.2 = 0 then (if (bt234.1.size : Int) = (wrap64 (65534 + (Go.bits .and .i64 a1 3))) then (if bt237.2.2.1.toList = (strOfNums y231).toList then (if bt237.2.2.2.2.1 = (bt234.1.size : Int) then (if bt237.2.2.2.2.2 = 0 then ((ploverlaw02_awake.f k).bind fun t246 => (some t246)) else (some false)) else (some false)) else (some false)) else (some false)) else (some false)))))) else (none)) else (none)) = some r := by first | (rw [hji4] at H; exact H) | (simp only [hji4] at H ⊢; exact H)
    have hji4w : (IntKind.i64.wrap (65528 + (Go.bits .and .i64 a1 3))) = ji4 := (i64_w _).trans hji4
    by_cases c5 : 0 ≤ (ji4)
    · rw [if_pos c5] at H
      have c5b0 := eq_true c5
      have c5b1 : decide (0 ≤ (ji4)) = true := decide_eq_true c5
      clear c5
      by_cases c6 : (ji4 : Int).toNat ≤ 281474976710656
      · rw [if_pos c6] at H
        have c6b0 := eq_true c6
        have c6b1 : decide ((ji4 : Int).toNat ≤ 281474976710656) = true := decide_eq_true c6
        clear c6
        obtain ⟨y231, hy231⟩ : ∃ y_ : List Int, y_ = (List.replicate (ji4 : Int).toNat 0) := ⟨_, rfl⟩
        replace H : ((benc_Put.f 2 0 (strOfNums y231) ([] : List (S24))).bind fun bt234 => (if (Go.bits .and .i64 a1 3) > 2 then (if bt234.1.toList = ([] : List UInt8) then (if bt234.2 = 23 then ((ploverlaw02_awake.f k).bind fun t236 => (some t236)) else (some false)) else (some false)) else ((benc_Take.f bt234.1).bind fun bt237 => (if bt234.2 = 0 then (if (bt234.1.size : Int) = (wrap64 (65534 + (Go.bits .and .i64 a1 3))) then (if bt237.2.2.1.toList = (strOfNums y231).toList then (if bt237.2.2.2.2.1 = (bt234.1.size : Int) then (if bt237.2.2.2.2.2 = 0 then ((ploverlaw02_awake.f k).bind fun t246 => (some t246)) else (some false)) else (some false)) else (some false)) else (some false)) else (some false))))) = some r := by first | (rw [hy231]; with_reducible exact H) | (have H2_ := (Option.bind_some _ _).symm.trans H; rw [hy231]; with_reducible exact H2_) | (have H2_ := (Option.bind_some _ _).symm.trans H; with_reducible exact H2_) | with_reducible exact H | (rw [hy231]; exact H) | exact H
        have Ny231 := Aside0.mk hy231
        clear hy231
        replace H := Option.bind_eq_some_iff.mp H
        obtain ⟨⟨t234, t235⟩, A70, H⟩ := H
        replace H : (if (Go.bits .and .i64 a1 3) > 2 then (if t234.toList = ([] : List UInt8) then (if t235 = 23 then ((ploverlaw02_awake.f k).bind fun t236 => (some t236)) else (some false)) else (some false)) else ((benc_Take.f t234).bind fun bt237 => (if t235 = 0 then (if (t234.size : Int) = (wrap64 (65534 + (Go.bits .and .i64 a1 3))) then (if bt237.2.2.1.toList = (strOfNums y231).toList then (if bt237.2.2.2.2.1 = (t234.size : Int) then (if bt237.2.2.2.2.2 = 0 then ((ploverlaw02_awake.f k).bind fun t246 => (some t246)) else (some false)) else (some false)) else (some false)) else (some false)) else (some false)))) = some r := H
        have A7 := Aside0.mk A70
        clear A70
        by_cases c8 : (Go.bits .and .i64 a1 3) > 2
        · rw [if_pos c8] at H
          have c8b0 : decide (2 < (Go.bits .and .i64 a1 3)) = true := decide_eq_true c8
          clear c8
          by_cases c9 : t234.toList = ([] : List UInt8)
          · rw [if_pos c9] at H
            have c9b0 : (t234.toList == ([] : List UInt8)) = true := beq_iff_eq.mpr c9
            have c9b1 : (t234.toList != ([] : List UInt8)) = false := bne_eq_false_iff_eq.mpr c9
            clear c9
            by_cases c10 : t235 = 23
            · rw [if_pos c10] at H
              have c10b0 : (t235 == 23) = true := beq_iff_eq.mpr c10
              have c10b1 : (t235 != 23) = false := bne_eq_false_iff_eq.mpr c10
              clear c10
              replace H := Option.bind_eq_some_iff.mp H
              obtain ⟨t236, A110, H⟩ := H
              replace H : (some t236) = some r := H
              have A11 := Aside0.mk A110
              clear A110
              obtain rfl := Option.some.inj H
              go_enter Tryd.func7, Tryd.ntmps7
              go_wp2_with (first | ((with_reducible refine gate_dst (N := 24) rfl ?_); (try (refine gate_guard (by rfl) ?_; dsimp only)); refine Kd.R_make (Kd.int .u8) _ 5 rfl (N := 24) rfl 35 _ _ rfl ji4 rfl rfl Tryd.underlying35 (.int .u8 0) 1 info5 rfl (by decide) (by omega) 0 (ok := fun _ => True) (okp := fun _ => True) rfl (fun _ hk => hk) trivial (of_decide_eq_true (by first | (with_reducible assumption) | assumption)) (Nat.le_trans (Nat.mul_le_mul_right _ (of_decide_eq_true (by first | (with_reducible assumption) | assumption) : ji4.toNat ≤ 281474976710656)) (by omega)) (Below.refl _ _) (Nat.le_refl _) ?_; intro v232 w12 ho13 hb hg_ hnew_; clear hg_ hnew_; (first | rw [← Ny231.out] at ho13 | (simp only [Int.reduceToNat] at ho13; rw [← Ny231.out] at ho13)); have n0_ := Aside0.mk (Kd.R_lower ho13 (below_size (by repeat (first | (with_reducible first | exact HB.out | apply below_alloc | apply pw_below_drewN | apply below_drew1) | exact HB.out)))); have n1_ := Aside0.mk (below_step (by repeat (first | (with_reducible first | exact HB.out | apply below_alloc | apply pw_below_drewN | apply below_drew1) | exact HB.out)) hb); clear HB; have HO233 := n0_; have HB := n1_; clear n0_ n1_; clear hb ho13; have hcv14 := own_string (P := Tryd.prog) Tryd.underlying35 Tryd.underlying5 Tryd.underlying9 (Kd.own_of_R HO233.out)) | ((with_reducible refine gate_callee (f := 12) rfl ?_); refine goesL_ (some 29) rfl rfl Tryd.func12 (by kernel_rfl) rfl #[.agg #[.int .i64 2, .int .i64 0, .string (strOfNums y231), .slice none 0 0]] rfl (by (try simp only [List.map_toArray, List.map_cons, List.map_nil]); first | done | rfl | (simp only [List.length_drop, List.length_take]; rfl)) ?_; (refine (benc_Put.calls 2 0 (strOfNums y231) _ _ ([] : List (S24)) t234 t235 _ (LaidW.below hL (by repeat (first | (with_reducible first | exact HB.out | apply below_alloc | apply pw_below_drewN | apply below_drew1) | exact HB.out))) ?side1 ?side2 A7.out).mono ?_); (case side1 => exact Kd.C_nil _ _); (case side2 => exact Nat.le_refl _); rintro e w15 ⟨rfl, hb⟩; refine ⟨_, rfl, ?_⟩; have n0_ := Aside0.mk (Kd.R_below (by (with_reducible repeat (first | apply Kd.R_alloc | apply Kd.R_drewN | apply Kd.R_drew)); exact HO233.out) hb); have n1_ := Aside0.mk (below_step (by repeat (first | (with_reducible first | exact HB.out | apply below_alloc | apply pw_below_drewN | apply below_drew1) | exact HB.out)) hb); clear HO233; clear HB; have HO233 := n0_; have HB := n1_; clear n0_ n1_; (try clear hb); (try clear hb2); (try clear hk); (try clear hi)) | (go_at_call 11; (with_reducible refine (ploverlaw02_awake.calls k  t236 _ (LaidW.below hL (by repeat (first | (with_reducible first | exact HB.out | apply below_alloc | apply pw_below_drewN | apply below_drew1) | exact HB.out))) A11.out).mono ?_); rintro e w16 ⟨rfl, hb⟩; have n0_ := Aside0.mk (Kd.R_below (by (with_reducible repeat (first | apply Kd.R_alloc | apply Kd.R_drewN | apply Kd.R_drew)); exact HO233.out) hb); have n1_ := Aside0.mk (below_step (by repeat (first | (with_reducible first | exact HB.out | apply below_alloc | apply pw_below_drewN | apply below_drew1) | exact HB.out)) hb); clear HO233; clear HB; have HO233 := n0_; have HB := n1_; clear n0_ n1_; (try clear hb); (try clear hb2); (try clear hk); (try clear hi)))
              go_ret
              exact ⟨by first | rfl | (simp [errW_none, errW_some] <;> rfl) | (simp only [← hji4]; first | rfl | (simp [errW_none, errW_some] <;> rfl)) | (simp [*, errW_none, errW_some] <;> rfl), by repeat (first | (with_reducible first | exact HB.out | apply below_alloc | apply pw_below_drewN | apply below_drew1) | exact HB.out)⟩
            · rw [if_neg c10] at H
              have c10b0 : (t235 == 23) = false := beq_eq_false_iff_ne.mpr c10
              have c10b1 : (t235 != 23) = true := bne_iff_ne.mpr c10
              obtain rfl := Option.some.inj H
              go_enter Tryd.func7, Tryd.ntmps7
              go_wp2_with (first | ((with_reducible refine gate_dst (N := 24) rfl ?_); (try (refine gate_guard (by rfl) ?_; dsimp only)); refine Kd.R_make (Kd.int .u8) _ 5 rfl (N := 24) rfl 35 _ _ rfl ji4 rfl rfl Tryd.underlying35 (.int .u8 0) 1 info5 rfl (by decide) (by omega) 0 (ok := fun _ => True) (okp := fun _ => True) rfl (fun _ hk => hk) trivial (of_decide_eq_true (by first | (with_reducible assumption) | assumption)) (Nat.le_trans (Nat.mul_le_mul_right _ (of_decide_eq_true (by first | (with_reducible assumption) | assumption) : ji4.toNat ≤ 281474976710656)) (by omega)) (Below.refl _ _) (Nat.le_refl _) ?_; intro v232 w17 ho18 hb hg_ hnew_; clear hg_ hnew_; (first | rw [← Ny231.out] at ho18 | (simp only [Int.reduceToNat] at ho18; rw [← Ny231.out] at ho18)); have n0_ := Aside0.mk (Kd.R_lower ho18 (below_size (by repeat (first | (with_reducible first | exact HB.out | apply below_alloc | apply pw_below_drewN | apply below_drew1) | exact HB.out)))); have n1_ := Aside0.mk (below_step (by repeat (first | (with_reducible first | exact HB.out | apply below_alloc | apply pw_below_drewN | apply below_drew1) | exact HB.out)) hb); clear HB; have HO233 := n0_; have HB := n1_; clear n0_ n1_; clear hb ho18; have hcv19 := own_string (P := Tryd.prog) Tryd.underlying35 Tryd.underlying5 Tryd.underlying9 (Kd.own_of_R HO233.out)) | ((with_reducible refine gate_callee (f := 12) rfl ?_); refine goesL_ (some 29) rfl rfl Tryd.func12 (by kernel_rfl) rfl #[.agg #[.int .i64 2, .int .i64 0, .string (strOfNums y231), .slice none 0 0]] rfl (by (try simp only [List.map_toArray, List.map_cons, List.map_nil]); first | done | rfl | (simp only [List.length_drop, List.length_take]; rfl)) ?_; (refine (benc_Put.calls 2 0 (strOfNums y231) _ _ ([] : List (S24)) t234 t235 _ (LaidW.below hL (by repeat (first | (with_reducible first | exact HB.out | apply below_alloc | apply pw_below_drewN | apply below_drew1) | exact HB.out))) ?side1 ?side2 A7.out).mono ?_); (case side1 => exact Kd.C_nil _ _); (case side2 => exact Nat.le_refl _); rintro e w20 ⟨rfl, hb⟩; refine ⟨_, rfl, ?_⟩; have n0_ := Aside0.mk (Kd.R_below (by (with_reducible repeat (first | apply Kd.R_alloc | apply Kd.R_drewN | apply Kd.R_drew)); exact HO233.out) hb); have n1_ := Aside0.mk (below_step (by repeat (first | (with_reducible first | exact HB.out | apply below_alloc | apply pw_below_drewN | apply below_drew1) | exact HB.out)) hb); clear HO233; clear HB; have HO233 := n0_; have HB := n1_; clear n0_ n1_; (try clear hb); (try clear hb2); (try clear hk); (try clear hi)))
              go_ret
              exact ⟨by first | rfl | (simp [errW_none, errW_some] <;> rfl) | (simp only [← hji4]; first | rfl | (simp [errW_none, errW_some] <;> rfl)) | (simp [*, errW_none, errW_some] <;> rfl), by repeat (first | (with_reducible first | exact HB.out | apply below_alloc | apply pw_below_drewN | apply below_drew1) | exact HB.out)⟩
          · rw [if_neg c9] at H
            have c9b0 : (t234.toList == ([] : List UInt8)) = false := beq_eq_false_iff_ne.mpr c9
            have c9b1 : (t234.toList != ([] : List UInt8)) = true := bne_iff_ne.mpr c9
            obtain rfl := Option.some.inj H
            go_enter Tryd.func7, Tryd.ntmps7
            go_wp2_with (first | ((with_reducible refine gate_dst (N := 24) rfl ?_); (try (refine gate_guard (by rfl) ?_; dsimp only)); refine Kd.R_make (Kd.int .u8) _ 5 rfl (N := 24) rfl 35 _ _ rfl ji4 rfl rfl Tryd.underlying35 (.int .u8 0) 1 info5 rfl (by decide) (by omega) 0 (ok := fun _ => True) (okp := fun _ => True) rfl (fun _ hk => hk) trivial (of_decide_eq_true (by first | (with_reducible assumption) | assumption)) (Nat.le_trans (Nat.mul_le_mul_right _ (of_decide_eq_true (by first | (with_reducible assumption) | assumption) : ji4.toNat ≤ 281474976710656)) (by omega)) (Below.refl _ _) (Nat.le_refl _) ?_; intro v232 w21 ho22 hb hg_ hnew_; clear hg_ hnew_; (first | rw [← Ny231.out] at ho22 | (simp only [Int.reduceToNat] at ho22; rw [← Ny231.out] at ho22)); have n0_ := Aside0.mk (Kd.R_lower ho22 (below_size (by repeat (first | (with_reducible first | exact HB.out | apply below_alloc | apply pw_below_drewN | apply below_drew1) | exact HB.out)))); have n1_ := Aside0.mk (below_step (by repeat (first | (with_reducible first | exact HB.out | apply below_alloc | apply pw_below_drewN | apply below_drew1) | exact HB.out)) hb); clear HB; have HO233 := n0_; have HB := n1_; clear n0_ n1_; clear hb ho22; have hcv23 := own_string (P := Tryd.prog) Tryd.underlying35 Tryd.underlying5 Tryd.underlying9 (Kd.own_of_R HO233.out)) | ((with_reducible refine gate_callee (f := 12) rfl ?_); refine goesL_ (some 29) rfl rfl Tryd.func12 (by kernel_rfl) rfl #[.agg #[.int .i64 2, .int .i64 0, .string (strOfNums y231), .slice none 0 0]] rfl (by (try simp only [List.map_toArray, List.map_cons, List.map_nil]); first | done | rfl | (simp only [List.length_drop, List.length_take]; rfl)) ?_; (refine (benc_Put.calls 2 0 (strOfNums y231) _ _ ([] : List (S24)) t234 t235 _ (LaidW.below hL (by repeat (first | (with_reducible first | exact HB.out | apply below_alloc | apply pw_below_drewN | apply below_drew1) | exact HB.out))) ?side1 ?side2 A7.out).mono ?_); (case side1 => exact Kd.C_nil _ _); (case side2 => exact Nat.le_refl _); rintro e w24 ⟨rfl, hb⟩; refine ⟨_, rfl, ?_⟩; have n0_ := Aside0.mk (Kd.R_below (by (with_reducible repeat (first | apply Kd.R_alloc | apply Kd.R_drewN | apply Kd.R_drew)); exact HO233.out) hb); have n1_ := Aside0.mk (below_step (by repeat (first | (with_reducible first | exact HB.out | apply below_alloc | apply pw_below_drewN | apply below_drew1) | exact HB.out)) hb); clear HO233; clear HB; have HO233 := n0_; have HB := n1_; clear n0_ n1_; (try clear hb); (try clear hb2); (try clear hk); (try clear hi)))
            go_ret
            exact ⟨by first | rfl | (simp [errW_none, errW_some] <;> rfl) | (simp only [← hji4]; first | rfl | (simp [errW_none, errW_some] <;> rfl)) | (simp [*, errW_none, errW_some] <;> rfl), by repeat (first | (with_reducible first | exact HB.out | apply below_alloc | apply pw_below_drewN | apply below_drew1) | exact HB.out)⟩
        · rw [if_neg c8] at H
          have c8b0 : decide (2 < (Go.bits .and .i64 a1 3)) = false := decide_eq_false c8
          clear c8
          replace H := Option.bind_eq_some_iff.mp H
          obtain ⟨⟨t237, t238, t239, t240, t243, t244⟩, A250, H⟩ := H
          replace H : (if t235 = 0 then (if (t234.size : Int) = (wrap64 (65534 + (Go.bits .and .i64 a1 3))) then (if t239.toList = (strOfNums y231).toList then (if t243 = (t234.size : Int) then (if t244 = 0 then ((ploverlaw02_awake.f k).bind fun t246 => (some t246)) else (some false)) else (some false)) else (some false)) else (some false)) else (some false)) = some r := H
          have A25 := Aside0.mk A250
          clear A250
          by_cases c26 : t235 = 0
          · rw [if_pos c26] at H
            have c26b0 : (t235 == 0) = true := beq_iff_eq.mpr c26
            have c26b1 : (t235 != 0) = false := bne_eq_false_iff_eq.mpr c26
            clear c26
            by_cases c27 : (t234.size : Int) = (wrap64 (65534 + (Go.bits .and .i64 a1 3)))
            · rw [if_pos c27] at H
              have c27b0 : ((t234.size : Int) == (wrap64 (65534 + (Go.bits .and .i64 a1 3)))) = true := beq_iff_eq.mpr c27
              have c27b1 : ((t234.size : Int) != (wrap64 (65534 + (Go.bits .and .i64 a1 3)))) = false := bne_eq_false_iff_eq.mpr c27
              clear c27
              by_cases c28 : t239.toList = (strOfNums y231).toList
              · rw [if_pos c28] at H
                have c28b0 : (t239.toList == (strOfNums y231).toList) = true := beq_iff_eq.mpr c28
                have c28b1 : (t239.toList != (strOfNums y231).toList) = false := bne_eq_false_iff_eq.mpr c28
                clear c28
                by_cases c29 : t243 = (t234.size : Int)
                · rw [if_pos c29] at H
                  have c29b0 : (t243 == (t234.size : Int)) = true := beq_iff_eq.mpr c29
                  have c29b1 : (t243 != (t234.size : Int)) = false := bne_eq_false_iff_eq.mpr c29
                  clear c29
                  by_cases c30 : t244 = 0
                  · rw [if_pos c30] at H
                    have c30b0 : (t244 == 0) = true := beq_iff_eq.mpr c30
                    have c30b1 : (t244 != 0) = false := bne_eq_false_iff_eq.mpr c30
                    clear c30
                    replace H := Option.bind_eq_some_iff.mp H
                    obtain ⟨t246, A310, H⟩ := H
                    replace H : (some t246) = some r := H
                    have A31 := Aside0.mk A310
                    clear A310
                    obtain rfl := Option.some.inj H
                    go_enter Tryd.func7, Tryd.ntmps7
                    go_wp2_with (first | ((with_reducible refine gate_dst (N := 24) rfl ?_); (try (refine gate_guard (by rfl) ?_; dsimp only)); refine Kd.R_make (Kd.int .u8) _ 5 rfl (N := 24) rfl 35 _ _ rfl ji4 rfl rfl Tryd.underlying35 (.int .u8 0) 1 info5 rfl (by decide) (by omega) 0 (ok := fun _ => True) (okp := fun _ => True) rfl (fun _ hk => hk) trivial (of_decide_eq_true (by first | (with_reducible assumption) | assumption)) (Nat.le_trans (Nat.mul_le_mul_right _ (of_decide_eq_true (by first | (with_reducible assumption) | assumption) : ji4.toNat ≤ 281474976710656)) (by omega)) (Below.refl _ _) (Nat.le_refl _) ?_; intro v232 w32 ho33 hb hg_ hnew_; clear hg_ hnew_; (first | rw [← Ny231.out] at ho33 | (simp only [Int.reduceToNat] at ho33; rw [← Ny231.out] at ho33)); have n0_ := Aside0.mk (Kd.R_lower ho33 (below_size (by repeat (first | (with_reducible first | exact HB.out | apply below_alloc | apply pw_below_drewN | apply below_drew1) | exact HB.out)))); have n1_ := Aside0.mk (below_step (by repeat (first | (with_reducible first | exact HB.out | apply below_alloc | apply pw_below_drewN | apply below_drew1) | exact HB.out)) hb); clear HB; have HO233 := n0_; have HB := n1_; clear n0_ n1_; clear hb ho33; have hcv34 := own_string (P := Tryd.prog) Tryd.underlying35 Tryd.underlying5 Tryd.underlying9 (Kd.own_of_R HO233.out)) | ((with_reducible refine gate_callee (f := 12) rfl ?_); refine goesL_ (some 29) rfl rfl Tryd.func12 (by kernel_rfl) rfl #[.agg #[.int .i64 2, .int .i64 0, .string (strOfNums y231), .slice none 0 0]] rfl (by (try simp only [List.map_toArray, List.map_cons, List.map_nil]); first | done | rfl | (simp only [List.length_drop, List.length_take]; rfl)) ?_; (refine (benc_Put.calls 2 0 (strOfNums y231) _ _ ([] : List (S24)) t234 t235 _ (LaidW.below hL (by repeat (first | (with_reducible first | exact HB.out | apply below_alloc | apply pw_below_drewN | apply below_drew1) | exact HB.out))) ?side1 ?side2 A7.out).mono ?_); (case side1 => exact Kd.C_nil _ _); (case side2 => exact Nat.le_refl _); rintro e w35 ⟨rfl, hb⟩; refine ⟨_, rfl, ?_⟩; have n0_ := Aside0.mk (Kd.R_below (by (with_reducible repeat (first | apply Kd.R_alloc | apply Kd.R_drewN | apply Kd.R_drew)); exact HO233.out) hb); have n1_ := Aside0.mk (below_step (by repeat (first | (with_reducible first | exact HB.out | apply below_alloc | apply pw_below_drewN | apply below_drew1) | exact HB.out)) hb); clear HO233; clear HB; have HO233 := n0_; have HB := n1_; clear n0_ n1_; (try clear hb); (try clear hb2); (try clear hk); (try clear hi)) | ((with_reducible refine gate_callee (f := 14) rfl ?_); refine goesL_ (some 45) rfl rfl Tryd.func14 (by kernel_rfl) rfl #[.string t234] rfl (by (try simp only [List.map_toArray, List.map_cons, List.map_nil]); first | done | rfl | (simp only [List.length_drop, List.length_take]; rfl)) ?_; (with_reducible refine (benc_Take.calls t234 t237 t238 t239 t240 t243 t244 _ (LaidW.below hL (by repeat (first | (with_reducible first | exact HB.out | apply below_alloc | apply pw_below_drewN | apply below_drew1) | exact HB.out))) A25.out).mono ?_); rintro e w36 ⟨v241, rfl, ho0, hb⟩; refine ⟨_, rfl, ?_⟩; have n0_ := Aside0.mk (Kd.R_below (by (with_reducible repeat (first | apply Kd.R_alloc | apply Kd.R_drewN | apply Kd.R_drew)); exact HO233.out) hb); have n1_ := Aside0.mk (Kd.R_lower ho0 (below_size (by repeat (first | (with_reducible first | exact HB.out | apply below_alloc | apply pw_below_drewN | apply below_drew1) | exact HB.out)))); have n2_ := Aside0.mk (below_step (by repeat (first | (with_reducible first | exact HB.out | apply below_alloc | apply pw_below_drewN | apply below_drew1) | exact HB.out)) hb); clear HO233; clear HB; have HO233 := n0_; have HO242 := n1_; have HB := n2_; clear n0_ n1_ n2_; (try clear hb); (try clear hb2); (try clear hk); (try clear hi); (try clear ho0)) | ((with_reducible refine gate_dst (N := 9) rfl ?_); (try (refine gate_guard (by rfl) ?_; dsimp only)); refine box_event ?hg (N := 9) ?hd (cs := #[.int .i64 0, .int .i64 0, .string (⟨#[]⟩ : ByteArray), .slice none 0 0]) (t := 24) ?hr ?_; (case hd => rfl); (case hg => rfl); (case hr => first | (go_simp; done) | (go_simp; rfl)); intro gb245 hg w37 hbox hb; have n0_ := Aside0.mk (Kd.R_below (by (with_reducible repeat (first | apply Kd.R_alloc | apply Kd.R_drewN | apply Kd.R_drew)); exact HO233.out) hb); have n1_ := Aside0.mk (Kd.R_below (Kd.R_elderB (by (with_reducible repeat (first | apply Kd.R_alloc | apply Kd.R_drewN | apply Kd.R_drew)); exact HO242.out) gb245 (Nat.le_of_eq hg.symm)) hb); have n2_ := Aside0.mk (below_step (by repeat (first | (with_reducible first | exact HB.out | apply below_alloc | apply pw_below_drewN | apply below_drew1) | exact HB.out)) hb); have n3_ := Aside0.mk (hbox); have n4_ := Aside0.mk ((by rw [hg]; exact (below_size (by repeat (first | (with_reducible first | exact HB.out | apply below_alloc | apply pw_below_drewN | apply below_drew1) | exact HB.out))) : w.heap.size ≤ gb245)); have n5_ := Aside0.mk ((by rw [hg]; exact (below_size (by repeat (first | (with_reducible first | exact HB.out | apply below_alloc | apply pw_below_drewN | apply below_drew1) | exact HB.out))) : w.heap.size ≤ gb245)); clear HO233; clear HO242; clear HB; have HO233 := n0_; have HO242 := n1_; have HB := n2_; have BK245 := n3_; have GW245 := n4_; have GE245 := n5_; clear n0_ n1_ n2_ n3_ n4_ n5_; clear hb hbox hg; have hcz38_0 : w37.cell? ⟨gb245, 0, none⟩ = some (.int .i64 0) := (blk_cell BK245.out 0).trans rfl; have hcz38_1 : w37.cell? ⟨gb245, 1, none⟩ = some (.int .i64 0) := (blk_cell BK245.out 1).trans rfl; have hcz38_2 : w37.cell? ⟨gb245, 2, none⟩ = some (.string (⟨#[]⟩ : ByteArray)) := (blk_cell BK245.out 2).trans rfl; have hcz38_3 : w37.cell? ⟨gb245, 3, none⟩ = some (.slice none 0 0) := (blk_cell BK245.out 3).trans rfl; have hfz38_0 := blk_frozen BK245.out 0; have hfz38_1 := blk_frozen BK245.out 1; have hfz38_2 := blk_frozen BK245.out 2; have hfz38_3 := blk_frozen BK245.out 3; obtain ⟨Ao39, co39, eo39⟩ := Kd.R_slice HO242.out; subst eo39) | (go_at_call 11; (with_reducible refine (ploverlaw02_awake.calls k  t246 _ (LaidW.below hL (by repeat (first | (with_reducible first | exact HB.out | apply below_alloc | apply pw_below_drewN | apply below_drew1 | refine below_set ?_ GE245.out) | exact HB.out))) A31.out).mono ?_); rintro e w40 ⟨rfl, hb⟩; have n0_ := Aside0.mk (Kd.R_below (by (with_reducible repeat (first | apply Kd.R_alloc | apply Kd.R_drewN | apply Kd.R_drew)); exact (Kd.R_mono (Kd.R_far (p := ⟨gb245, 3, none⟩) (Kd.R_far (p := ⟨gb245, 2, none⟩) (Kd.R_far (p := ⟨gb245, 1, none⟩) (Kd.R_far (p := ⟨gb245, 0, none⟩) (Kd.R_types HO233.out BK245.out (by decide)) (fun _ hk => hk.2) (.int .i64 t237)) (fun _ hk => hk.2) (.int .i64 t238)) (fun _ hk => hk.2) (.string t239)) (fun _ hk => hk.2) (.slice Ao39 t240.length co39)) (fun _ h_ => h_.1))) hb); have n1_ := Aside0.mk (Kd.R_below (by (with_reducible repeat (first | apply Kd.R_alloc | apply Kd.R_drewN | apply Kd.R_drew)); exact (Kd.R_mono (Kd.R_far (p := ⟨gb245, 3, none⟩) (Kd.R_far (p := ⟨gb245, 2, none⟩) (Kd.R_far (p := ⟨gb245, 1, none⟩) (Kd.R_far (p := ⟨gb245, 0, none⟩) (Kd.R_mono HO242.out (fun k_ hk => (⟨hk, hk.2⟩ : _ ∧ k_ ≠ gb245))) (fun _ hk => hk.2) (.int .i64 t237)) (fun _ hk => hk.2) (.int .i64 t238)) (fun _ hk => hk.2) (.string t239)) (fun _ hk => hk.2) (.slice Ao39 t240.length co39)) (fun _ h_ => h_.1))) hb); have n2_ := Aside0.mk (blk_below (g := gb245) (o := .cells #[.int .i64 t237, .int .i64 t238, .string t239, .slice Ao39 t240.length co39] 24 (0, 0)) (by (with_reducible repeat (first | refine blk_drewN ?_ _ | refine blk_drew ?_ | refine blk_alloc ?_ _)); refine blk_put (cs := #[.int .i64 t237, .int .i64 t238, .string t239, .slice none 0 0]) ?_ 3 _ rfl; (with_reducible repeat (first | refine blk_drewN ?_ _ | refine blk_drew ?_ | refine blk_alloc ?_ _)); refine blk_put (cs := #[.int .i64 t237, .int .i64 t238, .string (⟨#[]⟩ : ByteArray), .slice none 0 0]) ?_ 2 _ rfl; (with_reducible repeat (first | refine blk_drewN ?_ _ | refine blk_drew ?_ | refine blk_alloc ?_ _)); refine blk_put (cs := #[.int .i64 t237, .int .i64 0, .string (⟨#[]⟩ : ByteArray), .slice none 0 0]) ?_ 1 _ rfl; (with_reducible repeat (first | refine blk_drewN ?_ _ | refine blk_drew ?_ | refine blk_alloc ?_ _)); refine blk_put (cs := #[.int .i64 0, .int .i64 0, .string (⟨#[]⟩ : ByteArray), .slice none 0 0]) ?_ 0 _ rfl; (with_reducible repeat (first | refine blk_drewN ?_ _ | refine blk_drew ?_ | refine blk_alloc ?_ _)); exact BK245.out) hb); have n3_ := Aside0.mk (below_step (by repeat (first | (with_reducible first | exact HB.out | apply below_alloc | apply pw_below_drewN | apply below_drew1 | refine below_set ?_ GE245.out) | exact HB.out)) hb); clear HO233; clear HO242; clear BK245; clear HB; have HO233 := n0_; have HO242 := n1_; have BK245 := n2_; have HB := n3_; clear n0_ n1_ n2_ n3_; (try clear hb); (try clear hb2); (try clear hk); (try clear hi)))
                    go_ret
                    exact ⟨by first | rfl | (simp [errW_none, errW_some] <;> rfl) | (simp only [← hji4]; first | rfl | (simp [errW_none, errW_some] <;> rfl)) | (simp [*, errW_none, errW_some] <;> rfl), by repeat (first | (with_reducible first | exact HB.out | apply below_alloc | apply pw_below_drewN | apply below_drew1 | refine below_set ?_ GE245.out) | exact HB.out)⟩
                  · rw [if_neg c30] at H
                    have c30b0 : (t244 == 0) = false := beq_eq_false_iff_ne.mpr c30
                    have c30b1 : (t244 != 0) = true := bne_iff_ne.mpr c30
                    obtain rfl := Option.some.inj H
                    go_enter Tryd.func7, Tryd.ntmps7
                    go_wp2_with (first | ((with_reducible refine gate_dst (N := 24) rfl ?_); (try (refine gate_guard (by rfl) ?_; dsimp only)); refine Kd.R_make (Kd.int .u8) _ 5 rfl (N := 24) rfl 35 _ _ rfl ji4 rfl rfl Tryd.underlying35 (.int .u8 0) 1 info5 rfl (by decide) (by omega) 0 (ok := fun _ => True) (okp := fun _ => True) rfl (fun _ hk => hk) trivial (of_decide_eq_true (by first | (with_reducible assumption) | assumption)) (Nat.le_trans (Nat.mul_le_mul_right _ (of_decide_eq_true (by first | (with_reducible assumption) | assumption) : ji4.toNat ≤ 281474976710656)) (by omega)) (Below.refl _ _) (Nat.le_refl _) ?_; intro v232 w41 ho42 hb hg_ hnew_; clear hg_ hnew_; (first | rw [← Ny231.out] at ho42 | (simp only [Int.reduceToNat] at ho42; rw [← Ny231.out] at ho42)); have n0_ := Aside0.mk (Kd.R_lower ho42 (below_size (by repeat (first | (with_reducible first | exact HB.out | apply below_alloc | apply pw_below_drewN | apply below_drew1) | exact HB.out)))); have n1_ := Aside0.mk (below_step (by repeat (first | (with_reducible first | exact HB.out | apply below_alloc | apply pw_below_drewN | apply below_drew1) | exact HB.out)) hb); clear HB; have HO233 := n0_; have HB := n1_; clear n0_ n1_; clear hb ho42; have hcv43 := own_string (P := Tryd.prog) Tryd.underlying35 Tryd.underlying5 Tryd.underlying9 (Kd.own_of_R HO233.out)) | ((with_reducible refine gate_callee (f := 12) rfl ?_); refine goesL_ (some 29) rfl rfl Tryd.func12 (by kernel_rfl) rfl #[.agg #[.int .i64 2, .int .i64 0, .string (strOfNums y231), .slice none 0 0]] rfl (by (try simp only [List.map_toArray, List.map_cons, List.map_nil]); first | done | rfl | (simp only [List.length_drop, List.length_take]; rfl)) ?_; (refine (benc_Put.calls 2 0 (strOfNums y231) _ _ ([] : List (S24)) t234 t235 _ (LaidW.below hL (by repeat (first | (with_reducible first | exact HB.out | apply below_alloc | apply pw_below_drewN | apply below_drew1) | exact HB.out))) ?side1 ?side2 A7.out).mono ?_); (case side1 => exact Kd.C_nil _ _); (case side2 => exact Nat.le_refl _); rintro e w44 ⟨rfl, hb⟩; refine ⟨_, rfl, ?_⟩; have n0_ := Aside0.mk (Kd.R_below (by (with_reducible repeat (first | apply Kd.R_alloc | apply Kd.R_drewN | apply Kd.R_drew)); exact HO233.out) hb); have n1_ := Aside0.mk (below_step (by repeat (first | (with_reducible first | exact HB.out | apply below_alloc | apply pw_below_drewN | apply below_drew1) | exact HB.out)) hb); clear HO233; clear HB; have HO233 := n0_; have HB := n1_; clear n0_ n1_; (try clear hb); (try clear hb2); (try clear hk); (try clear hi)) | ((with_reducible refine gate_callee (f := 14) rfl ?_); refine goesL_ (some 45) rfl rfl Tryd.func14 (by kernel_rfl) rfl #[.string t234] rfl (by (try simp only [List.map_toArray, List.map_cons, List.map_nil]); first | done | rfl | (simp only [List.length_drop, List.length_take]; rfl)) ?_; (with_reducible refine (benc_Take.calls t234 t237 t238 t239 t240 t243 t244 _ (LaidW.below hL (by repeat (first | (with_reducible first | exact HB.out | apply below_alloc | apply pw_below_drewN | apply below_drew1) | exact HB.out))) A25.out).mono ?_); rintro e w45 ⟨v241, rfl, ho0, hb⟩; refine ⟨_, rfl, ?_⟩; have n0_ := Aside0.mk (Kd.R_below (by (with_reducible repeat (first | apply Kd.R_alloc | apply Kd.R_drewN | apply Kd.R_drew)); exact HO233.out) hb); have n1_ := Aside0.mk (Kd.R_lower ho0 (below_size (by repeat (first | (with_reducible first | exact HB.out | apply below_alloc | apply pw_below_drewN | apply below_drew1) | exact HB.out)))); have n2_ := Aside0.mk (below_step (by repeat (first | (with_reducible first | exact HB.out | apply below_alloc | apply pw_below_drewN | apply below_drew1) | exact HB.out)) hb); clear HO233; clear HB; have HO233 := n0_; have HO242 := n1_; have HB := n2_; clear n0_ n1_ n2_; (try clear hb); (try clear hb2); (try clear hk); (try clear hi); (try clear ho0)) | ((with_reducible refine gate_dst (N := 9) rfl ?_); (try (refine gate_guard (by rfl) ?_; dsimp only)); refine box_event ?hg (N := 9) ?hd (cs := #[.int .i64 0, .int .i64 0, .string (⟨#[]⟩ : ByteArray), .slice none 0 0]) (t := 24) ?hr ?_; (case hd => rfl); (case hg => rfl); (case hr => first | (go_simp; done) | (go_simp; rfl)); intro gb245 hg w46 hbox hb; have n0_ := Aside0.mk (Kd.R_below (by (with_reducible repeat (first | apply Kd.R_alloc | apply Kd.R_drewN | apply Kd.R_drew)); exact HO233.out) hb); have n1_ := Aside0.mk (Kd.R_below (Kd.R_elderB (by (with_reducible repeat (first | apply Kd.R_alloc | apply Kd.R_drewN | apply Kd.R_drew)); exact HO242.out) gb245 (Nat.le_of_eq hg.symm)) hb); have n2_ := Aside0.mk (below_step (by repeat (first | (with_reducible first | exact HB.out | apply below_alloc | apply pw_below_drewN | apply below_drew1) | exact HB.out)) hb); have n3_ := Aside0.mk (hbox); have n4_ := Aside0.mk ((by rw [hg]; exact (below_size (by repeat (first | (with_reducible first | exact HB.out | apply below_alloc | apply pw_below_drewN | apply below_drew1) | exact HB.out))) : w.heap.size ≤ gb245)); have n5_ := Aside0.mk ((by rw [hg]; exact (below_size (by repeat (first | (with_reducible first | exact HB.out | apply below_alloc | apply pw_below_drewN | apply below_drew1) | exact HB.out))) : w.heap.size ≤ gb245)); clear HO233; clear HO242; clear HB; have HO233 := n0_; have HO242 := n1_; have HB := n2_; have BK245 := n3_; have GW245 := n4_; have GE245 := n5_; clear n0_ n1_ n2_ n3_ n4_ n5_; clear hb hbox hg; have hcz47_0 : w46.cell? ⟨gb245, 0, none⟩ = some (.int .i64 0) := (blk_cell BK245.out 0).trans rfl; have hcz47_1 : w46.cell? ⟨gb245, 1, none⟩ = some (.int .i64 0) := (blk_cell BK245.out 1).trans rfl; have hcz47_2 : w46.cell? ⟨gb245, 2, none⟩ = some (.string (⟨#[]⟩ : ByteArray)) := (blk_cell BK245.out 2).trans rfl; have hcz47_3 : w46.cell? ⟨gb245, 3, none⟩ = some (.slice none 0 0) := (blk_cell BK245.out 3).trans rfl; have hfz47_0 := blk_frozen BK245.out 0; have hfz47_1 := blk_frozen BK245.out 1; have hfz47_2 := blk_frozen BK245.out 2; have hfz47_3 := blk_frozen BK245.out 3; obtain ⟨Ao48, co48, eo48⟩ := Kd.R_slice HO242.out; subst eo48))
                    go_ret
                    exact ⟨by first | rfl | (simp [errW_none, errW_some] <;> rfl) | (simp only [← hji4]; first | rfl | (simp [errW_none, errW_some] <;> rfl)) | (simp [*, errW_none, errW_some] <;> rfl), by repeat (first | (with_reducible first | exact HB.out | apply below_alloc | apply pw_below_drewN | apply below_drew1 | refine below_set ?_ GE245.out) | exact HB.out)⟩
                · rw [if_neg c29] at H
                  have c29b0 : (t243 == (t234.size : Int)) = false := beq_eq_false_iff_ne.mpr c29
                  have c29b1 : (t243 != (t234.size : Int)) = true := bne_iff_ne.mpr c29
                  obtain rfl := Option.some.inj H
                  go_enter Tryd.func7, Tryd.ntmps7
                  go_wp2_with (first | ((with_reducible refine gate_dst (N := 24) rfl ?_); (try (refine gate_guard (by rfl) ?_; dsimp only)); refine Kd.R_make (Kd.int .u8) _ 5 rfl (N := 24) rfl 35 _ _ rfl ji4 rfl rfl Tryd.underlying35 (.int .u8 0) 1 info5 rfl (by decide) (by omega) 0 (ok := fun _ => True) (okp := fun _ => True) rfl (fun _ hk => hk) trivial (of_decide_eq_true (by first | (with_reducible assumption) | assumption)) (Nat.le_trans (Nat.mul_le_mul_right _ (of_decide_eq_true (by first | (with_reducible assumption) | assumption) : ji4.toNat ≤ 281474976710656)) (by omega)) (Below.refl _ _) (Nat.le_refl _) ?_; intro v232 w49 ho50 hb hg_ hnew_; clear hg_ hnew_; (first | rw [← Ny231.out] at ho50 | (simp only [Int.reduceToNat] at ho50; rw [← Ny231.out] at ho50)); have n0_ := Aside0.mk (Kd.R_lower ho50 (below_size (by repeat (first | (with_reducible first | exact HB.out | apply below_alloc | apply pw_below_drewN | apply below_drew1) | exact HB.out)))); have n1_ := Aside0.mk (below_step (by repeat (first | (with_reducible first | exact HB.out | apply below_alloc | apply pw_below_drewN | apply below_drew1) | exact HB.out)) hb); clear HB; have HO233 := n0_; have HB := n1_; clear n0_ n1_; clear hb ho50; have hcv51 := own_string (P := Tryd.prog) Tryd.underlying35 Tryd.underlying5 Tryd.underlying9 (Kd.own_of_R HO233.out)) | ((with_reducible refine gate_callee (f := 12) rfl ?_); refine goesL_ (some 29) rfl rfl Tryd.func12 (by kernel_rfl) rfl #[.agg #[.int .i64 2, .int .i64 0, .string (strOfNums y231), .slice none 0 0]] rfl (by (try simp only [List.map_toArray, List.map_cons, List.map_nil]); first | done | rfl | (simp only [List.length_drop, List.length_take]; rfl)) ?_; (refine (benc_Put.calls 2 0 (strOfNums y231) _ _ ([] : List (S24)) t234 t235 _ (LaidW.below hL (by repeat (first | (with_reducible first | exact HB.out | apply below_alloc | apply pw_below_drewN | apply below_drew1) | exact HB.out))) ?side1 ?side2 A7.out).mono ?_); (case side1 => exact Kd.C_nil _ _); (case side2 => exact Nat.le_refl _); rintro e w52 ⟨rfl, hb⟩; refine ⟨_, rfl, ?_⟩; have n0_ := Aside0.mk (Kd.R_below (by (with_reducible repeat (first | apply Kd.R_alloc | apply Kd.R_drewN | apply Kd.R_drew)); exact HO233.out) hb); have n1_ := Aside0.mk (below_step (by repeat (first | (with_reducible first | exact HB.out | apply below_alloc | apply pw_below_drewN | apply below_drew1) | exact HB.out)) hb); clear HO233; clear HB; have HO233 := n0_; have HB := n1_; clear n0_ n1_; (try clear hb); (try clear hb2); (try clear hk); (try clear hi)) | ((with_reducible refine gate_callee (f := 14) rfl ?_); refine goesL_ (some 45) rfl rfl Tryd.func14 (by kernel_rfl) rfl #[.string t234] rfl (by (try simp only [List.map_toArray, List.map_cons, List.map_nil]); first | done | rfl | (simp only [List.length_drop, List.length_take]; rfl)) ?_; (with_reducible refine (benc_Take.calls t234 t237 t238 t239 t240 t243 t244 _ (LaidW.below hL (by repeat (first | (with_reducible first | exact HB.out | apply below_alloc | apply pw_below_drewN | apply below_drew1) | exact HB.out))) A25.out).mono ?_); rintro e w53 ⟨v241, rfl, ho0, hb⟩; refine ⟨_, rfl, ?_⟩; have n0_ := Aside0.mk (Kd.R_below (by (with_reducible repeat (first | apply Kd.R_alloc | apply Kd.R_drewN | apply Kd.R_drew)); exact HO233.out) hb); have n1_ := Aside0.mk (Kd.R_lower ho0 (below_size (by repeat (first | (with_reducible first | exact HB.out | apply below_alloc | apply pw_below_drewN | apply below_drew1) | exact HB.out)))); have n2_ := Aside0.mk (below_step (by repeat (first | (with_reducible first | exact HB.out | apply below_alloc | apply pw_below_drewN | apply below_drew1) | exact HB.out)) hb); clear HO233; clear HB; have HO233 := n0_; have HO242 := n1_; have HB := n2_; clear n0_ n1_ n2_; (try clear hb); (try clear hb2); (try clear hk); (try clear hi); (try clear ho0)) | ((with_reducible refine gate_dst (N := 9) rfl ?_); (try (refine gate_guard (by rfl) ?_; dsimp only)); refine box_event ?hg (N := 9) ?hd (cs := #[.int .i64 0, .int .i64 0, .string (⟨#[]⟩ : ByteArray), .slice none 0 0]) (t := 24) ?hr ?_; (case hd => rfl); (case hg => rfl); (case hr => first | (go_simp; done) | (go_simp; rfl)); intro gb245 hg w54 hbox hb; have n0_ := Aside0.mk (Kd.R_below (by (with_reducible repeat (first | apply Kd.R_alloc | apply Kd.R_drewN | apply Kd.R_drew)); exact HO233.out) hb); have n1_ := Aside0.mk (Kd.R_below (Kd.R_elderB (by (with_reducible repeat (first | apply Kd.R_alloc | apply Kd.R_drewN | apply Kd.R_drew)); exact HO242.out) gb245 (Nat.le_of_eq hg.symm)) hb); have n2_ := Aside0.mk (below_step (by repeat (first | (with_reducible first | exact HB.out | apply below_alloc | apply pw_below_drewN | apply below_drew1) | exact HB.out)) hb); have n3_ := Aside0.mk (hbox); have n4_ := Aside0.mk ((by rw [hg]; exact (below_size (by repeat (first | (with_reducible first | exact HB.out | apply below_alloc | apply pw_below_drewN | apply below_drew1) | exact HB.out))) : w.heap.size ≤ gb245)); have n5_ := Aside0.mk ((by rw [hg]; exact (below_size (by repeat (first | (with_reducible first | exact HB.out | apply below_alloc | apply pw_below_drewN | apply below_drew1) | exact HB.out))) : w.heap.size ≤ gb245)); clear HO233; clear HO242; clear HB; have HO233 := n0_; have HO242 := n1_; have HB := n2_; have BK245 := n3_; have GW245 := n4_; have GE245 := n5_; clear n0_ n1_ n2_ n3_ n4_ n5_; clear hb hbox hg; have hcz55_0 : w54.cell? ⟨gb245, 0, none⟩ = some (.int .i64 0) := (blk_cell BK245.out 0).trans rfl; have hcz55_1 : w54.cell? ⟨gb245, 1, none⟩ = some (.int .i64 0) := (blk_cell BK245.out 1).trans rfl; have hcz55_2 : w54.cell? ⟨gb245, 2, none⟩ = some (.string (⟨#[]⟩ : ByteArray)) := (blk_cell BK245.out 2).trans rfl; have hcz55_3 : w54.cell? ⟨gb245, 3, none⟩ = some (.slice none 0 0) := (blk_cell BK245.out 3).trans rfl; have hfz55_0 := blk_frozen BK245.out 0; have hfz55_1 := blk_frozen BK245.out 1; have hfz55_2 := blk_frozen BK245.out 2; have hfz55_3 := blk_frozen BK245.out 3; obtain ⟨Ao56, co56, eo56⟩ := Kd.R_slice HO242.out; subst eo56))
                  go_ret
                  exact ⟨by first | rfl | (simp [errW_none, errW_some] <;> rfl) | (simp only [← hji4]; first | rfl | (simp [errW_none, errW_some] <;> rfl)) | (simp [*, errW_none, errW_some] <;> rfl), by repeat (first | (with_reducible first | exact HB.out | apply below_alloc | apply pw_below_drewN | apply below_drew1 | refine below_set ?_ GE245.out) | exact HB.out)⟩
              · rw [if_neg c28] at H
                have c28b0 : (t239.toList == (strOfNums y231).toList) = false := beq_eq_false_iff_ne.mpr c28
                have c28b1 : (t239.toList != (strOfNums y231).toList) = true := bne_iff_ne.mpr c28
                obtain rfl := Option.some.inj H
                go_enter Tryd.func7, Tryd.ntmps7
                go_wp2_with (first | ((with_reducible refine gate_dst (N := 24) rfl ?_); (try (refine gate_guard (by rfl) ?_; dsimp only)); refine Kd.R_make (Kd.int .u8) _ 5 rfl (N := 24) rfl 35 _ _ rfl ji4 rfl rfl Tryd.underlying35 (.int .u8 0) 1 info5 rfl (by decide) (by omega) 0 (ok := fun _ => True) (okp := fun _ => True) rfl (fun _ hk => hk) trivial (of_decide_eq_true (by first | (with_reducible assumption) | assumption)) (Nat.le_trans (Nat.mul_le_mul_right _ (of_decide_eq_true (by first | (with_reducible assumption) | assumption) : ji4.toNat ≤ 281474976710656)) (by omega)) (Below.refl _ _) (Nat.le_refl _) ?_; intro v232 w57 ho58 hb hg_ hnew_; clear hg_ hnew_; (first | rw [← Ny231.out] at ho58 | (simp only [Int.reduceToNat] at ho58; rw [← Ny231.out] at ho58)); have n0_ := Aside0.mk (Kd.R_lower ho58 (below_size (by repeat (first | (with_reducible first | exact HB.out | apply below_alloc | apply pw_below_drewN | apply below_drew1) | exact HB.out)))); have n1_ := Aside0.mk (below_step (by repeat (first | (with_reducible first | exact HB.out | apply below_alloc | apply pw_below_drewN | apply below_drew1) | exact HB.out)) hb); clear HB; have HO233 := n0_; have HB := n1_; clear n0_ n1_; clear hb ho58; have hcv59 := own_string (P := Tryd.prog) Tryd.underlying35 Tryd.underlying5 Tryd.underlying9 (Kd.own_of_R HO233.out)) | ((with_reducible refine gate_callee (f := 12) rfl ?_); refine goesL_ (some 29) rfl rfl Tryd.func12 (by kernel_rfl) rfl #[.agg #[.int .i64 2, .int .i64 0, .string (strOfNums y231), .slice none 0 0]] rfl (by (try simp only [List.map_toArray, List.map_cons, List.map_nil]); first | done | rfl | (simp only [List.length_drop, List.length_take]; rfl)) ?_; (refine (benc_Put.calls 2 0 (strOfNums y231) _ _ ([] : List (S24)) t234 t235 _ (LaidW.below hL (by repeat (first | (with_reducible first | exact HB.out | apply below_alloc | apply pw_below_drewN | apply below_drew1) | exact HB.out))) ?side1 ?side2 A7.out).mono ?_); (case side1 => exact Kd.C_nil _ _); (case side2 => exact Nat.le_refl _); rintro e w60 ⟨rfl, hb⟩; refine ⟨_, rfl, ?_⟩; have n0_ := Aside0.mk (Kd.R_below (by (with_reducible repeat (first | apply Kd.R_alloc | apply Kd.R_drewN | apply Kd.R_drew)); exact HO233.out) hb); have n1_ := Aside0.mk (below_step (by repeat (first | (with_reducible first | exact HB.out | apply below_alloc | apply pw_below_drewN | apply below_drew1) | exact HB.out)) hb); clear HO233; clear HB; have HO233 := n0_; have HB := n1_; clear n0_ n1_; (try clear hb); (try clear hb2); (try clear hk); (try clear hi)) | ((with_reducible refine gate_callee (f := 14) rfl ?_); refine goesL_ (some 45) rfl rfl Tryd.func14 (by kernel_rfl) rfl #[.string t234] rfl (by (try simp only [List.map_toArray, List.map_cons, List.map_nil]); first | done | rfl | (simp only [List.length_drop, List.length_take]; rfl)) ?_; (with_reducible refine (benc_Take.calls t234 t237 t238 t239 t240 t243 t244 _ (LaidW.below hL (by repeat (first | (with_reducible first | exact HB.out | apply below_alloc | apply pw_below_drewN | apply below_drew1) | exact HB.out))) A25.out).mono ?_); rintro e w61 ⟨v241, rfl, ho0, hb⟩; refine ⟨_, rfl, ?_⟩; have n0_ := Aside0.mk (Kd.R_below (by (with_reducible repeat (first | apply Kd.R_alloc | apply Kd.R_drewN | apply Kd.R_drew)); exact HO233.out) hb); have n1_ := Aside0.mk (Kd.R_lower ho0 (below_size (by repeat (first | (with_reducible first | exact HB.out | apply below_alloc | apply pw_below_drewN | apply below_drew1) | exact HB.out)))); have n2_ := Aside0.mk (below_step (by repeat (first | (with_reducible first | exact HB.out | apply below_alloc | apply pw_below_drewN | apply below_drew1) | exact HB.out)) hb); clear HO233; clear HB; have HO233 := n0_; have HO242 := n1_; have HB := n2_; clear n0_ n1_ n2_; (try clear hb); (try clear hb2); (try clear hk); (try clear hi); (try clear ho0)) | ((with_reducible refine gate_dst (N := 9) rfl ?_); (try (refine gate_guard (by rfl) ?_; dsimp only)); refine box_event ?hg (N := 9) ?hd (cs := #[.int .i64 0, .int .i64 0, .string (⟨#[]⟩ : ByteArray), .slice none 0 0]) (t := 24) ?hr ?_; (case hd => rfl); (case hg => rfl); (case hr => first | (go_simp; done) | (go_simp; rfl)); intro gb245 hg w62 hbox hb; have n0_ := Aside0.mk (Kd.R_below (by (with_reducible repeat (first | apply Kd.R_alloc | apply Kd.R_drewN | apply Kd.R_drew)); exact HO233.out) hb); have n1_ := Aside0.mk (Kd.R_below (Kd.R_elderB (by (with_reducible repeat (first | apply Kd.R_alloc | apply Kd.R_drewN | apply Kd.R_drew)); exact HO242.out) gb245 (Nat.le_of_eq hg.symm)) hb); have n2_ := Aside0.mk (below_step (by repeat (first | (with_reducible first | exact HB.out | apply below_alloc | apply pw_below_drewN | apply below_drew1) | exact HB.out)) hb); have n3_ := Aside0.mk (hbox); have n4_ := Aside0.mk ((by rw [hg]; exact (below_size (by repeat (first | (with_reducible first | exact HB.out | apply below_alloc | apply pw_below_drewN | apply below_drew1) | exact HB.out))) : w.heap.size ≤ gb245)); have n5_ := Aside0.mk ((by rw [hg]; exact (below_size (by repeat (first | (with_reducible first | exact HB.out | apply below_alloc | apply pw_below_drewN | apply below_drew1) | exact HB.out))) : w.heap.size ≤ gb245)); clear HO233; clear HO242; clear HB; have HO233 := n0_; have HO242 := n1_; have HB := n2_; have BK245 := n3_; have GW245 := n4_; have GE245 := n5_; clear n0_ n1_ n2_ n3_ n4_ n5_; clear hb hbox hg; have hcz63_0 : w62.cell? ⟨gb245, 0, none⟩ = some (.int .i64 0) := (blk_cell BK245.out 0).trans rfl; have hcz63_1 : w62.cell? ⟨gb245, 1, none⟩ = some (.int .i64 0) := (blk_cell BK245.out 1).trans rfl; have hcz63_2 : w62.cell? ⟨gb245, 2, none⟩ = some (.string (⟨#[]⟩ : ByteArray)) := (blk_cell BK245.out 2).trans rfl; have hcz63_3 : w62.cell? ⟨gb245, 3, none⟩ = some (.slice none 0 0) := (blk_cell BK245.out 3).trans rfl; have hfz63_0 := blk_frozen BK245.out 0; have hfz63_1 := blk_frozen BK245.out 1; have hfz63_2 := blk_frozen BK245.out 2; have hfz63_3 := blk_frozen BK245.out 3; obtain ⟨Ao64, co64, eo64⟩ := Kd.R_slice HO242.out; subst eo64))
                go_ret
                exact ⟨by first | rfl | (simp [errW_none, errW_some] <;> rfl) | (simp only [← hji4]; first | rfl | (simp [errW_none, errW_some] <;> rfl)) | (simp [*, errW_none, errW_some] <;> rfl), by repeat (first | (with_reducible first | exact HB.out | apply below_alloc | apply pw_below_drewN | apply below_drew1 | refine below_set ?_ GE245.out) | exact HB.out)⟩
            · rw [if_neg c27] at H
              have c27b0 : ((t234.size : Int) == (wrap64 (65534 + (Go.bits .and .i64 a1 3)))) = false := beq_eq_false_iff_ne.mpr c27
              have c27b1 : ((t234.size : Int) != (wrap64 (65534 + (Go.bits .and .i64 a1 3)))) = true := bne_iff_ne.mpr c27
              obtain rfl := Option.some.inj H
              go_enter Tryd.func7, Tryd.ntmps7
              go_wp2_with (first | ((with_reducible refine gate_dst (N := 24) rfl ?_); (try (refine gate_guard (by rfl) ?_; dsimp only)); refine Kd.R_make (Kd.int .u8) _ 5 rfl (N := 24) rfl 35 _ _ rfl ji4 rfl rfl Tryd.underlying35 (.int .u8 0) 1 info5 rfl (by decide) (by omega) 0 (ok := fun _ => True) (okp := fun _ => True) rfl (fun _ hk => hk) trivial (of_decide_eq_true (by first | (with_reducible assumption) | assumption)) (Nat.le_trans (Nat.mul_le_mul_right _ (of_decide_eq_true (by first | (with_reducible assumption) | assumption) : ji4.toNat ≤ 281474976710656)) (by omega)) (Below.refl _ _) (Nat.le_refl _) ?_; intro v232 w65 ho66 hb hg_ hnew_; clear hg_ hnew_; (first | rw [← Ny231.out] at ho66 | (simp only [Int.reduceToNat] at ho66; rw [← Ny231.out] at ho66)); have n0_ := Aside0.mk (Kd.R_lower ho66 (below_size (by repeat (first | (with_reducible first | exact HB.out | apply below_alloc | apply pw_below_drewN | apply below_drew1) | exact HB.out)))); have n1_ := Aside0.mk (below_step (by repeat (first | (with_reducible first | exact HB.out | apply below_alloc | apply pw_below_drewN | apply below_drew1) | exact HB.out)) hb); clear HB; have HO233 := n0_; have HB := n1_; clear n0_ n1_; clear hb ho66; have hcv67 := own_string (P := Tryd.prog) Tryd.underlying35 Tryd.underlying5 Tryd.underlying9 (Kd.own_of_R HO233.out)) | ((with_reducible refine gate_callee (f := 12) rfl ?_); refine goesL_ (some 29) rfl rfl Tryd.func12 (by kernel_rfl) rfl #[.agg #[.int .i64 2, .int .i64 0, .string (strOfNums y231), .slice none 0 0]] rfl (by (try simp only [List.map_toArray, List.map_cons, List.map_nil]); first | done | rfl | (simp only [List.length_drop, List.length_take]; rfl)) ?_; (refine (benc_Put.calls 2 0 (strOfNums y231) _ _ ([] : List (S24)) t234 t235 _ (LaidW.below hL (by repeat (first | (with_reducible first | exact HB.out | apply below_alloc | apply pw_below_drewN | apply below_drew1) | exact HB.out))) ?side1 ?side2 A7.out).mono ?_); (case side1 => exact Kd.C_nil _ _); (case side2 => exact Nat.le_refl _); rintro e w68 ⟨rfl, hb⟩; refine ⟨_, rfl, ?_⟩; have n0_ := Aside0.mk (Kd.R_below (by (with_reducible repeat (first | apply Kd.R_alloc | apply Kd.R_drewN | apply Kd.R_drew)); exact HO233.out) hb); have n1_ := Aside0.mk (below_step (by repeat (first | (with_reducible first | exact HB.out | apply below_alloc | apply pw_below_drewN | apply below_drew1) | exact HB.out)) hb); clear HO233; clear HB; have HO233 := n0_; have HB := n1_; clear n0_ n1_; (try clear hb); (try clear hb2); (try clear hk); (try clear hi)) | ((with_reducible refine gate_callee (f := 14) rfl ?_); refine goesL_ (some 45) rfl rfl Tryd.func14 (by kernel_rfl) rfl #[.string t234] rfl (by (try simp only [List.map_toArray, List.map_cons, List.map_nil]); first | done | rfl | (simp only [List.length_drop, List.length_take]; rfl)) ?_; (with_reducible refine (benc_Take.calls t234 t237 t238 t239 t240 t243 t244 _ (LaidW.below hL (by repeat (first | (with_reducible first | exact HB.out | apply below_alloc | apply pw_below_drewN | apply below_drew1) | exact HB.out))) A25.out).mono ?_); rintro e w69 ⟨v241, rfl, ho0, hb⟩; refine ⟨_, rfl, ?_⟩; have n0_ := Aside0.mk (Kd.R_below (by (with_reducible repeat (first | apply Kd.R_alloc | apply Kd.R_drewN | apply Kd.R_drew)); exact HO233.out) hb); have n1_ := Aside0.mk (Kd.R_lower ho0 (below_size (by repeat (first | (with_reducible first | exact HB.out | apply below_alloc | apply pw_below_drewN | apply below_drew1) | exact HB.out)))); have n2_ := Aside0.mk (below_step (by repeat (first | (with_reducible first | exact HB.out | apply below_alloc | apply pw_below_drewN | apply below_drew1) | exact HB.out)) hb); clear HO233; clear HB; have HO233 := n0_; have HO242 := n1_; have HB := n2_; clear n0_ n1_ n2_; (try clear hb); (try clear hb2); (try clear hk); (try clear hi); (try clear ho0)) | ((with_reducible refine gate_dst (N := 9) rfl ?_); (try (refine gate_guard (by rfl) ?_; dsimp only)); refine box_event ?hg (N := 9) ?hd (cs := #[.int .i64 0, .int .i64 0, .string (⟨#[]⟩ : ByteArray), .slice none 0 0]) (t := 24) ?hr ?_; (case hd => rfl); (case hg => rfl); (case hr => first | (go_simp; done) | (go_simp; rfl)); intro gb245 hg w70 hbox hb; have n0_ := Aside0.mk (Kd.R_below (by (with_reducible repeat (first | apply Kd.R_alloc | apply Kd.R_drewN | apply Kd.R_drew)); exact HO233.out) hb); have n1_ := Aside0.mk (Kd.R_below (Kd.R_elderB (by (with_reducible repeat (first | apply Kd.R_alloc | apply Kd.R_drewN | apply Kd.R_drew)); exact HO242.out) gb245 (Nat.le_of_eq hg.symm)) hb); have n2_ := Aside0.mk (below_step (by repeat (first | (with_reducible first | exact HB.out | apply below_alloc | apply pw_below_drewN | apply below_drew1) | exact HB.out)) hb); have n3_ := Aside0.mk (hbox); have n4_ := Aside0.mk ((by rw [hg]; exact (below_size (by repeat (first | (with_reducible first | exact HB.out | apply below_alloc | apply pw_below_drewN | apply below_drew1) | exact HB.out))) : w.heap.size ≤ gb245)); have n5_ := Aside0.mk ((by rw [hg]; exact (below_size (by repeat (first | (with_reducible first | exact HB.out | apply below_alloc | apply pw_below_drewN | apply below_drew1) | exact HB.out))) : w.heap.size ≤ gb245)); clear HO233; clear HO242; clear HB; have HO233 := n0_; have HO242 := n1_; have HB := n2_; have BK245 := n3_; have GW245 := n4_; have GE245 := n5_; clear n0_ n1_ n2_ n3_ n4_ n5_; clear hb hbox hg; have hcz71_0 : w70.cell? ⟨gb245, 0, none⟩ = some (.int .i64 0) := (blk_cell BK245.out 0).trans rfl; have hcz71_1 : w70.cell? ⟨gb245, 1, none⟩ = some (.int .i64 0) := (blk_cell BK245.out 1).trans rfl; have hcz71_2 : w70.cell? ⟨gb245, 2, none⟩ = some (.string (⟨#[]⟩ : ByteArray)) := (blk_cell BK245.out 2).trans rfl; have hcz71_3 : w70.cell? ⟨gb245, 3, none⟩ = some (.slice none 0 0) := (blk_cell BK245.out 3).trans rfl; have hfz71_0 := blk_frozen BK245.out 0; have hfz71_1 := blk_frozen BK245.out 1; have hfz71_2 := blk_frozen BK245.out 2; have hfz71_3 := blk_frozen BK245.out 3; obtain ⟨Ao72, co72, eo72⟩ := Kd.R_slice HO242.out; subst eo72))
              go_ret
              exact ⟨by first | rfl | (simp [errW_none, errW_some] <;> rfl) | (simp only [← hji4]; first | rfl | (simp [errW_none, errW_some] <;> rfl)) | (simp [*, errW_none, errW_some] <;> rfl), by repeat (first | (with_reducible first | exact HB.out | apply below_alloc | apply pw_below_drewN | apply below_drew1 | refine below_set ?_ GE245.out) | exact HB.out)⟩
          · rw [if_neg c26] at H
            have c26b0 : (t235 == 0) = false := beq_eq_false_iff_ne.mpr c26
            have c26b1 : (t235 != 0) = true := bne_iff_ne.mpr c26
            obtain rfl := Option.some.inj H
            go_enter Tryd.func7, Tryd.ntmps7
            go_wp2_with (first | ((with_reducible refine gate_dst (N := 24) rfl ?_); (try (refine gate_guard (by rfl) ?_; dsimp only)); refine Kd.R_make (Kd.int .u8) _ 5 rfl (N := 24) rfl 35 _ _ rfl ji4 rfl rfl Tryd.underlying35 (.int .u8 0) 1 info5 rfl (by decide) (by omega) 0 (ok := fun _ => True) (okp := fun _ => True) rfl (fun _ hk => hk) trivial (of_decide_eq_true (by first | (with_reducible assumption) | assumption)) (Nat.le_trans (Nat.mul_le_mul_right _ (of_decide_eq_true (by first | (with_reducible assumption) | assumption) : ji4.toNat ≤ 281474976710656)) (by omega)) (Below.refl _ _) (Nat.le_refl _) ?_; intro v232 w73 ho74 hb hg_ hnew_; clear hg_ hnew_; (first | rw [← Ny231.out] at ho74 | (simp only [Int.reduceToNat] at ho74; rw [← Ny231.out] at ho74)); have n0_ := Aside0.mk (Kd.R_lower ho74 (below_size (by repeat (first | (with_reducible first | exact HB.out | apply below_alloc | apply pw_below_drewN | apply below_drew1) | exact HB.out)))); have n1_ := Aside0.mk (below_step (by repeat (first | (with_reducible first | exact HB.out | apply below_alloc | apply pw_below_drewN | apply below_drew1) | exact HB.out)) hb); clear HB; have HO233 := n0_; have HB := n1_; clear n0_ n1_; clear hb ho74; have hcv75 := own_string (P := Tryd.prog) Tryd.underlying35 Tryd.underlying5 Tryd.underlying9 (Kd.own_of_R HO233.out)) | ((with_reducible refine gate_callee (f := 12) rfl ?_); refine goesL_ (some 29) rfl rfl Tryd.func12 (by kernel_rfl) rfl #[.agg #[.int .i64 2, .int .i64 0, .string (strOfNums y231), .slice none 0 0]] rfl (by (try simp only [List.map_toArray, List.map_cons, List.map_nil]); first | done | rfl | (simp only [List.length_drop, List.length_take]; rfl)) ?_; (refine (benc_Put.calls 2 0 (strOfNums y231) _ _ ([] : List (S24)) t234 t235 _ (LaidW.below hL (by repeat (first | (with_reducible first | exact HB.out | apply below_alloc | apply pw_below_drewN | apply below_drew1) | exact HB.out))) ?side1 ?side2 A7.out).mono ?_); (case side1 => exact Kd.C_nil _ _); (case side2 => exact Nat.le_refl _); rintro e w76 ⟨rfl, hb⟩; refine ⟨_, rfl, ?_⟩; have n0_ := Aside0.mk (Kd.R_below (by (with_reducible repeat (first | apply Kd.R_alloc | apply Kd.R_drewN | apply Kd.R_drew)); exact HO233.out) hb); have n1_ := Aside0.mk (below_step (by repeat (first | (with_reducible first | exact HB.out | apply below_alloc | apply pw_below_drewN | apply below_drew1) | exact HB.out)) hb); clear HO233; clear HB; have HO233 := n0_; have HB := n1_; clear n0_ n1_; (try clear hb); (try clear hb2); (try clear hk); (try clear hi)) | ((with_reducible refine gate_callee (f := 14) rfl ?_); refine goesL_ (some 45) rfl rfl Tryd.func14 (by kernel_rfl) rfl #[.string t234] rfl (by (try simp only [List.map_toArray, List.map_cons, List.map_nil]); first | done | rfl | (simp only [List.length_drop, List.length_take]; rfl)) ?_; (with_reducible refine (benc_Take.calls t234 t237 t238 t239 t240 t243 t244 _ (LaidW.below hL (by repeat (first | (with_reducible first | exact HB.out | apply below_alloc | apply pw_below_drewN | apply below_drew1) | exact HB.out))) A25.out).mono ?_); rintro e w77 ⟨v241, rfl, ho0, hb⟩; refine ⟨_, rfl, ?_⟩; have n0_ := Aside0.mk (Kd.R_below (by (with_reducible repeat (first | apply Kd.R_alloc | apply Kd.R_drewN | apply Kd.R_drew)); exact HO233.out) hb); have n1_ := Aside0.mk (Kd.R_lower ho0 (below_size (by repeat (first | (with_reducible first | exact HB.out | apply below_alloc | apply pw_below_drewN | apply below_drew1) | exact HB.out)))); have n2_ := Aside0.mk (below_step (by repeat (first | (with_reducible first | exact HB.out | apply below_alloc | apply pw_below_drewN | apply below_drew1) | exact HB.out)) hb); clear HO233; clear HB; have HO233 := n0_; have HO242 := n1_; have HB := n2_; clear n0_ n1_ n2_; (try clear hb); (try clear hb2); (try clear hk); (try clear hi); (try clear ho0)) | ((with_reducible refine gate_dst (N := 9) rfl ?_); (try (refine gate_guard (by rfl) ?_; dsimp only)); refine box_event ?hg (N := 9) ?hd (cs := #[.int .i64 0, .int .i64 0, .string (⟨#[]⟩ : ByteArray), .slice none 0 0]) (t := 24) ?hr ?_; (case hd => rfl); (case hg => rfl); (case hr => first | (go_simp; done) | (go_simp; rfl)); intro gb245 hg w78 hbox hb; have n0_ := Aside0.mk (Kd.R_below (by (with_reducible repeat (first | apply Kd.R_alloc | apply Kd.R_drewN | apply Kd.R_drew)); exact HO233.out) hb); have n1_ := Aside0.mk (Kd.R_below (Kd.R_elderB (by (with_reducible repeat (first | apply Kd.R_alloc | apply Kd.R_drewN | apply Kd.R_drew)); exact HO242.out) gb245 (Nat.le_of_eq hg.symm)) hb); have n2_ := Aside0.mk (below_step (by repeat (first | (with_reducible first | exact HB.out | apply below_alloc | apply pw_below_drewN | apply below_drew1) | exact HB.out)) hb); have n3_ := Aside0.mk (hbox); have n4_ := Aside0.mk ((by rw [hg]; exact (below_size (by repeat (first | (with_reducible first | exact HB.out | apply below_alloc | apply pw_below_drewN | apply below_drew1) | exact HB.out))) : w.heap.size ≤ gb245)); have n5_ := Aside0.mk ((by rw [hg]; exact (below_size (by repeat (first | (with_reducible first | exact HB.out | apply below_alloc | apply pw_below_drewN | apply below_drew1) | exact HB.out))) : w.heap.size ≤ gb245)); clear HO233; clear HO242; clear HB; have HO233 := n0_; have HO242 := n1_; have HB := n2_; have BK245 := n3_; have GW245 := n4_; have GE245 := n5_; clear n0_ n1_ n2_ n3_ n4_ n5_; clear hb hbox hg; have hcz79_0 : w78.cell? ⟨gb245, 0, none⟩ = some (.int .i64 0) := (blk_cell BK245.out 0).trans rfl; have hcz79_1 : w78.cell? ⟨gb245, 1, none⟩ = some (.int .i64 0) := (blk_cell BK245.out 1).trans rfl; have hcz79_2 : w78.cell? ⟨gb245, 2, none⟩ = some (.string (⟨#[]⟩ : ByteArray)) := (blk_cell BK245.out 2).trans rfl; have hcz79_3 : w78.cell? ⟨gb245, 3, none⟩ = some (.slice none 0 0) := (blk_cell BK245.out 3).trans rfl; have hfz79_0 := blk_frozen BK245.out 0; have hfz79_1 := blk_frozen BK245.out 1; have hfz79_2 := blk_frozen BK245.out 2; have hfz79_3 := blk_frozen BK245.out 3; obtain ⟨Ao80, co80, eo80⟩ := Kd.R_slice HO242.out; subst eo80))
            go_ret
            exact ⟨by first | rfl | (simp [errW_none, errW_some] <;> rfl) | (simp only [← hji4]; first | rfl | (simp [errW_none, errW_some] <;> rfl)) | (simp [*, errW_none, errW_some] <;> rfl), by repeat (first | (with_reducible first | exact HB.out | apply below_alloc | apply pw_below_drewN | apply below_drew1 | refine below_set ?_ GE245.out) | exact HB.out)⟩
      · rw [if_neg c6] at H
        exact absurd H (by simp)
    · rw [if_neg c5] at H
      exact absurd H (by simp)
  · rw [if_neg c3] at H
    have c3b0 : ((Go.bits .and .i64 a0 1) == 0) = false := beq_eq_false_iff_ne.mpr c3
    have c3b1 : ((Go.bits .and .i64 a0 1) != 0) = true := bne_iff_ne.mpr c3
    have H' := Aside0.mk H
    clear H
    go_enter Tryd.func7, Tryd.ntmps7
    go_wp2
    go_loopg [12, 13] k (fun kq v12 v13 w' => ∃ (x12_1 : ByteArray) (x13_1 : Int), v12 = .string x12_1 ∧ v13 = .int .i64 x13_1 ∧ Aside0 (ploverlaw02_BencLong.l0 kq (Go.bits .and .i64 a1 3) x12_1 x13_1 = some r) ∧ Aside0 (kq ≤ k) ∧ Aside0 (Below w.heap.size w w'))
    case atStart => exact ⟨((⟨#[]⟩ : ByteArray)), (0), (by first | rfl | (simp; done) | (simp [*]; done)), (by first | rfl | (simp; done) | (simp [*]; done)), H', ⟨Nat.le_refl _⟩, ⟨by repeat (first | (with_reducible first | exact HB.out | apply below_alloc | apply pw_below_drewN | apply below_drew1) | exact HB.out)⟩⟩
    case round =>
      clear H'
      try clear c1
      try clear hcv1
      try clear c2
      try clear p2
      try clear hcv2
      try clear c3
      try clear c3b0
      try clear c3b1
      try clear hcv3
      try clear hcv4
      try clear c5
      try clear c5b0
      try clear c5b1
      try clear hcv5
      try clear c6
      try clear c6b0
      try clear c6b1
      try clear p6
      try clear hcv6
      try clear c7
      try clear hcv7
      try clear c8
      try clear c8b0
      try clear c9
      try clear c9b0
      try clear c9b1
      try clear c10
      try clear c10b0
      try clear c10b1
      try clear c12
      try clear c14
      try clear hcv14
      try clear hcv19
      try clear hcv23
      try clear c26
      try clear c26b0
      try clear c26b1
      try clear c27
      try clear c27b0
      try clear c27b1
      try clear c28
      try clear c28b0
      try clear c28b1
      try clear c29
      try clear c29b0
      try clear c29b1
      try clear c30
      try clear c30b0
      try clear c30b1
      try clear hcv34
      try clear hcv43
      try clear hcv51
      try clear hcv59
      try clear p64
      try clear hcv67
      try clear hcv75
      try clear hcz38_0
      try clear hcz38_1
      try clear hcz38_2
      try clear hcz38_3
      try clear hcz47_0
      try clear hcz47_1
      try clear hcz47_2
      try clear hcz47_3
      try clear hcz55_0
      try clear hcz55_1
      try clear hcz55_2
      try clear hcz55_3
      try clear hcz63_0
      try clear hcz63_1
      try clear hcz63_2
      try clear hcz63_3
      try clear hcz71_0
      try clear hcz71_1
      try clear hcz71_2
      try clear hcz71_3
      try clear hcz79_0
      try clear hcz79_1
      try clear hcz79_2
      try clear hcz79_3
      try clear hfz38_0
      try clear hfz38_1
      try clear hfz38_2
      try clear hfz38_3
      try clear hfz47_0
      try clear hfz47_1
      try clear hfz47_2
      try clear hfz47_3
      try clear hfz55_0
      try clear hfz55_1
      try clear hfz55_2
      try clear hfz55_3
      try clear hfz63_0
      try clear hfz63_1
      try clear hfz63_2
      try clear hfz63_3
      try clear hfz71_0
      try clear hfz71_1
      try clear hfz71_2
      try clear hfz71_3
      try clear hfz79_0
      try clear hfz79_1
      try clear hfz79_2
      try clear hfz79_3
      obtain ⟨x12_1, x13_1, rfl, rfl, HA, HK1, HB⟩ := hrel
      cases gk with
      | zero => exact absurd HA.out (by simp [ploverlaw02_BencLong.l0])
      | succ k1 =>
        have H := HA.out
        clear HA
        simp only [ploverlaw02_BencLong.l0] at H
        by_cases c81 : x13_1 < (wrap64 (6 + (Go.bits .and .i64 a1 3)))
        · rw [if_pos c81] at H
          have c81b0 : decide (x13_1 < (wrap64 (6 + (Go.bits .and .i64 a1 3)))) = true := decide_eq_true c81
          clear c81
          by_cases c82 : 1 + x12_1.size ≤ 9223372036854775807
          · rw [if_pos c82] at H
            have c82b0 := eq_true c82
            have c82b1 : decide (1 + x12_1.size ≤ 9223372036854775807) = true := decide_eq_true c82
            try have c82b2 : (9223372036854775807 < 1 + x12_1.size) = False := eq_false (Nat.not_lt.2 c82)
            by_cases c83 : ((⟨#[108]⟩ : ByteArray) ++ x12_1).size + 1 ≤ 9223372036854775807
            · rw [if_pos c83] at H
              have c83b0 := eq_true c83
              have c83b1 : decide (((⟨#[108]⟩ : ByteArray) ++ x12_1).size + 1 ≤ 9223372036854775807) = true := decide_eq_true c83
              try have c83b2 : (9223372036854775807 < ((⟨#[108]⟩ : ByteArray) ++ x12_1).size + 1) = False := eq_false (Nat.not_lt.2 c83)
              have c83b3 : 1 + x12_1.size + 1 ≤ 9223372036854775807 := by have h := c83; simp only [ByteArray.size_append] at h; exact h
              try have c83b4 : (9223372036854775807 < 1 + x12_1.size + 1) = False := eq_false (Nat.not_lt.2 c83b3)
              have H' := Aside0.mk H
              clear H
              go_wp2
              go_roundg k1
              case measure => have := HK1.out; omega
              case rel => exact ⟨(((⟨#[108]⟩ : ByteArray) ++ x12_1) ++ (⟨#[101]⟩ : ByteArray)), (wrap64 (x13_1 + 1)), (by first | rfl | (simp; done) | (simp [*]; done)), (by first | rfl | (simp; done) | (simp [*]; done)), H', ⟨by have := HK1.out; omega⟩, ⟨by repeat (first | (with_reducible first | exact HB.out | apply below_alloc | apply pw_below_drewN | apply below_drew1) | exact HB.out)⟩⟩
            · rw [if_neg c83] at H
              exact absurd H (by simp)
          · rw [if_neg c82] at H
            exact absurd H (by simp)
        · rw [if_neg c81] at H
          have c81b0 : decide (x13_1 < (wrap64 (6 + (Go.bits .and .i64 a1 3)))) = false := decide_eq_false c81
          clear c81
          replace H := Option.bind_eq_some_iff.mp H
          obtain ⟨⟨t247, t248, t249, t250, t253, t254⟩, A840, H⟩ := H
          replace H : (if (Go.bits .and .i64 a1 3) > 2 then (if t253 = 0 then (if t254 = 22 then ((ploverlaw02_awake.f k1).bind fun t256 => (some t256)) else (some false)) else (some false)) else (if t253 = (x12_1.size : Int) then (if t254 = 0 then ((ploverlaw02_awake.f k1).bind fun t257 => (some t257)) else (some false)) else (some false))) = some r := H
          have A84 := Aside0.mk A840
          clear A840
          by_cases c85 : (Go.bits .and .i64 a1 3) > 2
          · rw [if_pos c85] at H
            have c85b0 : decide (2 < (Go.bits .and .i64 a1 3)) = true := decide_eq_true c85
            clear c85
            by_cases c86 : t253 = 0
            · rw [if_pos c86] at H
              have c86b0 : (t253 == 0) = true := beq_iff_eq.mpr c86
              have c86b1 : (t253 != 0) = false := bne_eq_false_iff_eq.mpr c86
              clear c86
              by_cases c87 : t254 = 22
              · rw [if_pos c87] at H
                have c87b0 : (t254 == 22) = true := beq_iff_eq.mpr c87
                have c87b1 : (t254 != 22) = false := bne_eq_false_iff_eq.mpr c87
                clear c87
                replace H := Option.bind_eq_some_iff.mp H
                obtain ⟨t256, A880, H⟩ := H
                replace H : (some t256) = some r := H
                have A88 := Aside0.mk A880
                clear A880
                obtain rfl := Option.some.inj H
                go_wp2_with (first | ((with_reducible refine gate_callee (f := 14) rfl ?_); refine goesL_ (some 88) rfl rfl Tryd.func14 (by kernel_rfl) rfl #[.string x12_1] rfl (by (try simp only [List.map_toArray, List.map_cons, List.map_nil]); first | done | rfl | (simp only [List.length_drop, List.length_take]; rfl)) ?_; (with_reducible refine (benc_Take.calls x12_1 t247 t248 t249 t250 t253 t254 _ (LaidW.below hL (by repeat (first | (with_reducible first | exact HB.out | apply below_alloc | apply pw_below_drewN | apply below_drew1) | exact HB.out))) A84.out).mono ?_); rintro e w89 ⟨v251, rfl, ho0, hb⟩; refine ⟨_, rfl, ?_⟩; have n0_ := Aside0.mk (Kd.R_lower ho0 (below_size (by repeat (first | (with_reducible first | exact HB.out | apply below_alloc | apply pw_below_drewN | apply below_drew1) | exact HB.out)))); have n1_ := Aside0.mk (below_step (by repeat (first | (with_reducible first | exact HB.out | apply below_alloc | apply pw_below_drewN | apply below_drew1) | exact HB.out)) hb); clear HB; have HO252 := n0_; have HB := n1_; clear n0_ n1_; (try clear hb); (try clear hb2); (try clear hk); (try clear hi); (try clear ho0)) | ((with_reducible refine gate_dst (N := 14) rfl ?_); (try (refine gate_guard (by rfl) ?_; dsimp only)); refine box_event ?hg (N := 14) ?hd (cs := #[.int .i64 0, .int .i64 0, .string (⟨#[]⟩ : ByteArray), .slice none 0 0]) (t := 24) ?hr ?_; (case hd => rfl); (case hg => rfl); (case hr => first | (go_simp; done) | (go_simp; rfl)); intro gb255 hg w90 hbox hb; have n0_ := Aside0.mk (Kd.R_below (Kd.R_elderB (by (with_reducible repeat (first | apply Kd.R_alloc | apply Kd.R_drewN | apply Kd.R_drew)); exact HO252.out) gb255 (Nat.le_of_eq hg.symm)) hb); have n1_ := Aside0.mk (below_step (by repeat (first | (with_reducible first | exact HB.out | apply below_alloc | apply pw_below_drewN | apply below_drew1) | exact HB.out)) hb); have n2_ := Aside0.mk (hbox); have n3_ := Aside0.mk ((by rw [hg]; exact (below_size (by repeat (first | (with_reducible first | exact HB.out | apply below_alloc | apply pw_below_drewN | apply below_drew1) | exact HB.out))) : w.heap.size ≤ gb255)); have n4_ := Aside0.mk ((by rw [hg]; exact (below_size (by repeat (first | (with_reducible first | exact HB.out | apply below_alloc | apply pw_below_drewN | apply below_drew1) | exact HB.out))) : w.heap.size ≤ gb255)); clear HO252; clear HB; have HO252 := n0_; have HB := n1_; have BK255 := n2_; have GW255 := n3_; have GE255 := n4_; clear n0_ n1_ n2_ n3_ n4_; clear hb hbox hg; have hcz91_0 : w90.cell? ⟨gb255, 0, none⟩ = some (.int .i64 0) := (blk_cell BK255.out 0).trans rfl; have hcz91_1 : w90.cell? ⟨gb255, 1, none⟩ = some (.int .i64 0) := (blk_cell BK255.out 1).trans rfl; have hcz91_2 : w90.cell? ⟨gb255, 2, none⟩ = some (.string (⟨#[]⟩ : ByteArray)) := (blk_cell BK255.out 2).trans rfl; have hcz91_3 : w90.cell? ⟨gb255, 3, none⟩ = some (.slice none 0 0) := (blk_cell BK255.out 3).trans rfl; have hfz91_0 := blk_frozen BK255.out 0; have hfz91_1 := blk_frozen BK255.out 1; have hfz91_2 := blk_frozen BK255.out 2; have hfz91_3 := blk_frozen BK255.out 3; obtain ⟨Ao92, co92, eo92⟩ := Kd.R_slice HO252.out; subst eo92) | (go_at_call 11; (with_reducible refine (ploverlaw02_awake.calls k1  t256 _ (LaidW.below hL (by repeat (first | (with_reducible first | exact HB.out | apply below_alloc | apply pw_below_drewN | apply below_drew1 | refine below_set ?_ GE255.out) | exact HB.out))) A88.out).mono ?_); rintro e w93 ⟨rfl, hb⟩; have n0_ := Aside0.mk (Kd.R_below (by (with_reducible repeat (first | apply Kd.R_alloc | apply Kd.R_drewN | apply Kd.R_drew)); exact (Kd.R_mono (Kd.R_far (p := ⟨gb255, 3, none⟩) (Kd.R_far (p := ⟨gb255, 2, none⟩) (Kd.R_far (p := ⟨gb255, 1, none⟩) (Kd.R_far (p := ⟨gb255, 0, none⟩) (Kd.R_mono HO252.out (fun k_ hk => (⟨hk, hk.2⟩ : _ ∧ k_ ≠ gb255))) (fun _ hk => hk.2) (.int .i64 t247)) (fun _ hk => hk.2) (.int .i64 t248)) (fun _ hk => hk.2) (.string t249)) (fun _ hk => hk.2) (.slice Ao92 t250.length co92)) (fun _ h_ => h_.1))) hb); have n1_ := Aside0.mk (blk_below (g := gb255) (o := .cells #[.int .i64 t247, .int .i64 t248, .string t249, .slice Ao92 t250.length co92] 24 (0, 0)) (by (with_reducible repeat (first | refine blk_drewN ?_ _ | refine blk_drew ?_ | refine blk_alloc ?_ _)); refine blk_put (cs := #[.int .i64 t247, .int .i64 t248, .string t249, .slice none 0 0]) ?_ 3 _ rfl; (with_reducible repeat (first | refine blk_drewN ?_ _ | refine blk_drew ?_ | refine blk_alloc ?_ _)); refine blk_put (cs := #[.int .i64 t247, .int .i64 t248, .string (⟨#[]⟩ : ByteArray), .slice none 0 0]) ?_ 2 _ rfl; (with_reducible repeat (first | refine blk_drewN ?_ _ | refine blk_drew ?_ | refine blk_alloc ?_ _)); refine blk_put (cs := #[.int .i64 t247, .int .i64 0, .string (⟨#[]⟩ : ByteArray), .slice none 0 0]) ?_ 1 _ rfl; (with_reducible repeat (first | refine blk_drewN ?_ _ | refine blk_drew ?_ | refine blk_alloc ?_ _)); refine blk_put (cs := #[.int .i64 0, .int .i64 0, .string (⟨#[]⟩ : ByteArray), .slice none 0 0]) ?_ 0 _ rfl; (with_reducible repeat (first | refine blk_drewN ?_ _ | refine blk_drew ?_ | refine blk_alloc ?_ _)); exact BK255.out) hb); have n2_ := Aside0.mk (below_step (by repeat (first | (with_reducible first | exact HB.out | apply below_alloc | apply pw_below_drewN | apply below_drew1 | refine below_set ?_ GE255.out) | exact HB.out)) hb); clear HO252; clear BK255; clear HB; have HO252 := n0_; have BK255 := n1_; have HB := n2_; clear n0_ n1_ n2_; (try clear hb); (try clear hb2); (try clear hk); (try clear hi)))
                go_ret
                exact ⟨by first | rfl | (simp [errW_none, errW_some] <;> rfl) | (simp [*, errW_none, errW_some] <;> rfl), by repeat (first | (with_reducible first | exact HB.out | apply below_alloc | apply pw_below_drewN | apply below_drew1 | refine below_set ?_ GE255.out) | exact HB.out)⟩
              · rw [if_neg c87] at H
                have c87b0 : (t254 == 22) = false := beq_eq_false_iff_ne.mpr c87
                have c87b1 : (t254 != 22) = true := bne_iff_ne.mpr c87
                obtain rfl := Option.some.inj H
                go_wp2_with (first | ((with_reducible refine gate_callee (f := 14) rfl ?_); refine goesL_ (some 88) rfl rfl Tryd.func14 (by kernel_rfl) rfl #[.string x12_1] rfl (by (try simp only [List.map_toArray, List.map_cons, List.map_nil]); first | done | rfl | (simp only [List.length_drop, List.length_take]; rfl)) ?_; (with_reducible refine (benc_Take.calls x12_1 t247 t248 t249 t250 t253 t254 _ (LaidW.below hL (by repeat (first | (with_reducible first | exact HB.out | apply below_alloc | apply pw_below_drewN | apply below_drew1) | exact HB.out))) A84.out).mono ?_); rintro e w94 ⟨v251, rfl, ho0, hb⟩; refine ⟨_, rfl, ?_⟩; have n0_ := Aside0.mk (Kd.R_lower ho0 (below_size (by repeat (first | (with_reducible first | exact HB.out | apply below_alloc | apply pw_below_drewN | apply below_drew1) | exact HB.out)))); have n1_ := Aside0.mk (below_step (by repeat (first | (with_reducible first | exact HB.out | apply below_alloc | apply pw_below_drewN | apply below_drew1) | exact HB.out)) hb); clear HB; have HO252 := n0_; have HB := n1_; clear n0_ n1_; (try clear hb); (try clear hb2); (try clear hk); (try clear hi); (try clear ho0)) | ((with_reducible refine gate_dst (N := 14) rfl ?_); (try (refine gate_guard (by rfl) ?_; dsimp only)); refine box_event ?hg (N := 14) ?hd (cs := #[.int .i64 0, .int .i64 0, .string (⟨#[]⟩ : ByteArray), .slice none 0 0]) (t := 24) ?hr ?_; (case hd => rfl); (case hg => rfl); (case hr => first | (go_simp; done) | (go_simp; rfl)); intro gb255 hg w95 hbox hb; have n0_ := Aside0.mk (Kd.R_below (Kd.R_elderB (by (with_reducible repeat (first | apply Kd.R_alloc | apply Kd.R_drewN | apply Kd.R_drew)); exact HO252.out) gb255 (Nat.le_of_eq hg.symm)) hb); have n1_ := Aside0.mk (below_step (by repeat (first | (with_reducible first | exact HB.out | apply below_alloc | apply pw_below_drewN | apply below_drew1) | exact HB.out)) hb); have n2_ := Aside0.mk (hbox); have n3_ := Aside0.mk ((by rw [hg]; exact (below_size (by repeat (first | (with_reducible first | exact HB.out | apply below_alloc | apply pw_below_drewN | apply below_drew1) | exact HB.out))) : w.heap.size ≤ gb255)); have n4_ := Aside0.mk ((by rw [hg]; exact (below_size (by repeat (first | (with_reducible first | exact HB.out | apply below_alloc | apply pw_below_drewN | apply below_drew1) | exact HB.out))) : w.heap.size ≤ gb255)); clear HO252; clear HB; have HO252 := n0_; have HB := n1_; have BK255 := n2_; have GW255 := n3_; have GE255 := n4_; clear n0_ n1_ n2_ n3_ n4_; clear hb hbox hg; have hcz96_0 : w95.cell? ⟨gb255, 0, none⟩ = some (.int .i64 0) := (blk_cell BK255.out 0).trans rfl; have hcz96_1 : w95.cell? ⟨gb255, 1, none⟩ = some (.int .i64 0) := (blk_cell BK255.out 1).trans rfl; have hcz96_2 : w95.cell? ⟨gb255, 2, none⟩ = some (.string (⟨#[]⟩ : ByteArray)) := (blk_cell BK255.out 2).trans rfl; have hcz96_3 : w95.cell? ⟨gb255, 3, none⟩ = some (.slice none 0 0) := (blk_cell BK255.out 3).trans rfl; have hfz96_0 := blk_frozen BK255.out 0; have hfz96_1 := blk_frozen BK255.out 1; have hfz96_2 := blk_frozen BK255.out 2; have hfz96_3 := blk_frozen BK255.out 3; obtain ⟨Ao97, co97, eo97⟩ := Kd.R_slice HO252.out; subst eo97))
                go_ret
                exact ⟨by first | rfl | (simp [errW_none, errW_some] <;> rfl) | (simp [*, errW_none, errW_some] <;> rfl), by repeat (first | (with_reducible first | exact HB.out | apply below_alloc | apply pw_below_drewN | apply below_drew1 | refine below_set ?_ GE255.out) | exact HB.out)⟩
            · rw [if_neg c86] at H
              have c86b0 : (t253 == 0) = false := beq_eq_false_iff_ne.mpr c86
              have c86b1 : (t253 != 0) = true := bne_iff_ne.mpr c86
              obtain rfl := Option.some.inj H
              go_wp2_with (first | ((with_reducible refine gate_callee (f := 14) rfl ?_); refine goesL_ (some 88) rfl rfl Tryd.func14 (by kernel_rfl) rfl #[.string x12_1] rfl (by (try simp only [List.map_toArray, List.map_cons, List.map_nil]); first | done | rfl | (simp only [List.length_drop, List.length_take]; rfl)) ?_; (with_reducible refine (benc_Take.calls x12_1 t247 t248 t249 t250 t253 t254 _ (LaidW.below hL (by repeat (first | (with_reducible first | exact HB.out | apply below_alloc | apply pw_below_drewN | apply below_drew1) | exact HB.out))) A84.out).mono ?_); rintro e w98 ⟨v251, rfl, ho0, hb⟩; refine ⟨_, rfl, ?_⟩; have n0_ := Aside0.mk (Kd.R_lower ho0 (below_size (by repeat (first | (with_reducible first | exact HB.out | apply below_alloc | apply pw_below_drewN | apply below_drew1) | exact HB.out)))); have n1_ := Aside0.mk (below_step (by repeat (first | (with_reducible first | exact HB.out | apply below_alloc | apply pw_below_drewN | apply below_drew1) | exact HB.out)) hb); clear HB; have HO252 := n0_; have HB := n1_; clear n0_ n1_; (try clear hb); (try clear hb2); (try clear hk); (try clear hi); (try clear ho0)) | ((with_reducible refine gate_dst (N := 14) rfl ?_); (try (refine gate_guard (by rfl) ?_; dsimp only)); refine box_event ?hg (N := 14) ?hd (cs := #[.int .i64 0, .int .i64 0, .string (⟨#[]⟩ : ByteArray), .slice none 0 0]) (t := 24) ?hr ?_; (case hd => rfl); (case hg => rfl); (case hr => first | (go_simp; done) | (go_simp; rfl)); intro gb255 hg w99 hbox hb; have n0_ := Aside0.mk (Kd.R_below (Kd.R_elderB (by (with_reducible repeat (first | apply Kd.R_alloc | apply Kd.R_drewN | apply Kd.R_drew)); exact HO252.out) gb255 (Nat.le_of_eq hg.symm)) hb); have n1_ := Aside0.mk (below_step (by repeat (first | (with_reducible first | exact HB.out | apply below_alloc | apply pw_below_drewN | apply below_drew1) | exact HB.out)) hb); have n2_ := Aside0.mk (hbox); have n3_ := Aside0.mk ((by rw [hg]; exact (below_size (by repeat (first | (with_reducible first | exact HB.out | apply below_alloc | apply pw_below_drewN | apply below_drew1) | exact HB.out))) : w.heap.size ≤ gb255)); have n4_ := Aside0.mk ((by rw [hg]; exact (below_size (by repeat (first | (with_reducible first | exact HB.out | apply below_alloc | apply pw_below_drewN | apply below_drew1) | exact HB.out))) : w.heap.size ≤ gb255)); clear HO252; clear HB; have HO252 := n0_; have HB := n1_; have BK255 := n2_; have GW255 := n3_; have GE255 := n4_; clear n0_ n1_ n2_ n3_ n4_; clear hb hbox hg; have hcz100_0 : w99.cell? ⟨gb255, 0, none⟩ = some (.int .i64 0) := (blk_cell BK255.out 0).trans rfl; have hcz100_1 : w99.cell? ⟨gb255, 1, none⟩ = some (.int .i64 0) := (blk_cell BK255.out 1).trans rfl; have hcz100_2 : w99.cell? ⟨gb255, 2, none⟩ = some (.string (⟨#[]⟩ : ByteArray)) := (blk_cell BK255.out 2).trans rfl; have hcz100_3 : w99.cell? ⟨gb255, 3, none⟩ = some (.slice none 0 0) := (blk_cell BK255.out 3).trans rfl; have hfz100_0 := blk_frozen BK255.out 0; have hfz100_1 := blk_frozen BK255.out 1; have hfz100_2 := blk_frozen BK255.out 2; have hfz100_3 := blk_frozen BK255.out 3; obtain ⟨Ao101, co101, eo101⟩ := Kd.R_slice HO252.out; subst eo101))
              go_ret
              exact ⟨by first | rfl | (simp [errW_none, errW_some] <;> rfl) | (simp [*, errW_none, errW_some] <;> rfl), by repeat (first | (with_reducible first | exact HB.out | apply below_alloc | apply pw_below_drewN | apply below_drew1 | refine below_set ?_ GE255.out) | exact HB.out)⟩
          · rw [if_neg c85] at H
            have c85b0 : decide (2 < (Go.bits .and .i64 a1 3)) = false := decide_eq_false c85
            clear c85
            by_cases c102 : t253 = (x12_1.size : Int)
            · rw [if_pos c102] at H
              have c102b0 : (t253 == (x12_1.size : Int)) = true := beq_iff_eq.mpr c102
              have c102b1 : (t253 != (x12_1.size : Int)) = false := bne_eq_false_iff_eq.mpr c102
              clear c102
              by_cases c103 : t254 = 0
              · rw [if_pos c103] at H
                have c103b0 : (t254 == 0) = true := beq_iff_eq.mpr c103
                have c103b1 : (t254 != 0) = false := bne_eq_false_iff_eq.mpr c103
                clear c103
                replace H := Option.bind_eq_some_iff.mp H
                obtain ⟨t257, A1040, H⟩ := H
                replace H : (some t257) = some r := H
                have A104 := Aside0.mk A1040
                clear A1040
                obtain rfl := Option.some.inj H
                go_wp2_with (first | ((with_reducible refine gate_callee (f := 14) rfl ?_); refine goesL_ (some 88) rfl rfl Tryd.func14 (by kernel_rfl) rfl #[.string x12_1] rfl (by (try simp only [List.map_toArray, List.map_cons, List.map_nil]); first | done | rfl | (simp only [List.length_drop, List.length_take]; rfl)) ?_; (with_reducible refine (benc_Take.calls x12_1 t247 t248 t249 t250 t253 t254 _ (LaidW.below hL (by repeat (first | (with_reducible first | exact HB.out | apply below_alloc | apply pw_below_drewN | apply below_drew1) | exact HB.out))) A84.out).mono ?_); rintro e w105 ⟨v251, rfl, ho0, hb⟩; refine ⟨_, rfl, ?_⟩; have n0_ := Aside0.mk (Kd.R_lower ho0 (below_size (by repeat (first | (with_reducible first | exact HB.out | apply below_alloc | apply pw_below_drewN | apply below_drew1) | exact HB.out)))); have n1_ := Aside0.mk (below_step (by repeat (first | (with_reducible first | exact HB.out | apply below_alloc | apply pw_below_drewN | apply below_drew1) | exact HB.out)) hb); clear HB; have HO252 := n0_; have HB := n1_; clear n0_ n1_; (try clear hb); (try clear hb2); (try clear hk); (try clear hi); (try clear ho0)) | ((with_reducible refine gate_dst (N := 14) rfl ?_); (try (refine gate_guard (by rfl) ?_; dsimp only)); refine box_event ?hg (N := 14) ?hd (cs := #[.int .i64 0, .int .i64 0, .string (⟨#[]⟩ : ByteArray), .slice none 0 0]) (t := 24) ?hr ?_; (case hd => rfl); (case hg => rfl); (case hr => first | (go_simp; done) | (go_simp; rfl)); intro gb255 hg w106 hbox hb; have n0_ := Aside0.mk (Kd.R_below (Kd.R_elderB (by (with_reducible repeat (first | apply Kd.R_alloc | apply Kd.R_drewN | apply Kd.R_drew)); exact HO252.out) gb255 (Nat.le_of_eq hg.symm)) hb); have n1_ := Aside0.mk (below_step (by repeat (first | (with_reducible first | exact HB.out | apply below_alloc | apply pw_below_drewN | apply below_drew1) | exact HB.out)) hb); have n2_ := Aside0.mk (hbox); have n3_ := Aside0.mk ((by rw [hg]; exact (below_size (by repeat (first | (with_reducible first | exact HB.out | apply below_alloc | apply pw_below_drewN | apply below_drew1) | exact HB.out))) : w.heap.size ≤ gb255)); have n4_ := Aside0.mk ((by rw [hg]; exact (below_size (by repeat (first | (with_reducible first | exact HB.out | apply below_alloc | apply pw_below_drewN | apply below_drew1) | exact HB.out))) : w.heap.size ≤ gb255)); clear HO252; clear HB; have HO252 := n0_; have HB := n1_; have BK255 := n2_; have GW255 := n3_; have GE255 := n4_; clear n0_ n1_ n2_ n3_ n4_; clear hb hbox hg; have hcz107_0 : w106.cell? ⟨gb255, 0, none⟩ = some (.int .i64 0) := (blk_cell BK255.out 0).trans rfl; have hcz107_1 : w106.cell? ⟨gb255, 1, none⟩ = some (.int .i64 0) := (blk_cell BK255.out 1).trans rfl; have hcz107_2 : w106.cell? ⟨gb255, 2, none⟩ = some (.string (⟨#[]⟩ : ByteArray)) := (blk_cell BK255.out 2).trans rfl; have hcz107_3 : w106.cell? ⟨gb255, 3, none⟩ = some (.slice none 0 0) := (blk_cell BK255.out 3).trans rfl; have hfz107_0 := blk_frozen BK255.out 0; have hfz107_1 := blk_frozen BK255.out 1; have hfz107_2 := blk_frozen BK255.out 2; have hfz107_3 := blk_frozen BK255.out 3; obtain ⟨Ao108, co108, eo108⟩ := Kd.R_slice HO252.out; subst eo108) | (go_at_call 11; (with_reducible refine (ploverlaw02_awake.calls k1  t257 _ (LaidW.below hL (by repeat (first | (with_reducible first | exact HB.out | apply below_alloc | apply pw_below_drewN | apply below_drew1 | refine below_set ?_ GE255.out) | exact HB.out))) A104.out).mono ?_); rintro e w109 ⟨rfl, hb⟩; have n0_ := Aside0.mk (Kd.R_below (by (with_reducible repeat (first | apply Kd.R_alloc | apply Kd.R_drewN | apply Kd.R_drew)); exact (Kd.R_mono (Kd.R_far (p := ⟨gb255, 3, none⟩) (Kd.R_far (p := ⟨gb255, 2, none⟩) (Kd.R_far (p := ⟨gb255, 1, none⟩) (Kd.R_far (p := ⟨gb255, 0, none⟩) (Kd.R_mono HO252.out (fun k_ hk => (⟨hk, hk.2⟩ : _ ∧ k_ ≠ gb255))) (fun _ hk => hk.2) (.int .i64 t247)) (fun _ hk => hk.2) (.int .i64 t248)) (fun _ hk => hk.2) (.string t249)) (fun _ hk => hk.2) (.slice Ao108 t250.length co108)) (fun _ h_ => h_.1))) hb); have n1_ := Aside0.mk (blk_below (g := gb255) (o := .cells #[.int .i64 t247, .int .i64 t248, .string t249, .slice Ao108 t250.length co108] 24 (0, 0)) (by (with_reducible repeat (first | refine blk_drewN ?_ _ | refine blk_drew ?_ | refine blk_alloc ?_ _)); refine blk_put (cs := #[.int .i64 t247, .int .i64 t248, .string t249, .slice none 0 0]) ?_ 3 _ rfl; (with_reducible repeat (first | refine blk_drewN ?_ _ | refine blk_drew ?_ | refine blk_alloc ?_ _)); refine blk_put (cs := #[.int .i64 t247, .int .i64 t248, .string (⟨#[]⟩ : ByteArray), .slice none 0 0]) ?_ 2 _ rfl; (with_reducible repeat (first | refine blk_drewN ?_ _ | refine blk_drew ?_ | refine blk_alloc ?_ _)); refine blk_put (cs := #[.int .i64 t247, .int .i64 0, .string (⟨#[]⟩ : ByteArray), .slice none 0 0]) ?_ 1 _ rfl; (with_reducible repeat (first | refine blk_drewN ?_ _ | refine blk_drew ?_ | refine blk_alloc ?_ _)); refine blk_put (cs := #[.int .i64 0, .int .i64 0, .string (⟨#[]⟩ : ByteArray), .slice none 0 0]) ?_ 0 _ rfl; (with_reducible repeat (first | refine blk_drewN ?_ _ | refine blk_drew ?_ | refine blk_alloc ?_ _)); exact BK255.out) hb); have n2_ := Aside0.mk (below_step (by repeat (first | (with_reducible first | exact HB.out | apply below_alloc | apply pw_below_drewN | apply below_drew1 | refine below_set ?_ GE255.out) | exact HB.out)) hb); clear HO252; clear BK255; clear HB; have HO252 := n0_; have BK255 := n1_; have HB := n2_; clear n0_ n1_ n2_; (try clear hb); (try clear hb2); (try clear hk); (try clear hi)))
                go_ret
                exact ⟨by first | rfl | (simp [errW_none, errW_some] <;> rfl) | (simp [*, errW_none, errW_some] <;> rfl), by repeat (first | (with_reducible first | exact HB.out | apply below_alloc | apply pw_below_drewN | apply below_drew1 | refine below_set ?_ GE255.out) | exact HB.out)⟩
              · rw [if_neg c103] at H
                have c103b0 : (t254 == 0) = false := beq_eq_false_iff_ne.mpr c103
                have c103b1 : (t254 != 0) = true := bne_iff_ne.mpr c103
                obtain rfl := Option.some.inj H
                go_wp2_with (first | ((with_reducible refine gate_callee (f := 14) rfl ?_); refine goesL_ (some 88) rfl rfl Tryd.func14 (by kernel_rfl) rfl #[.string x12_1] rfl (by (try simp only [List.map_toArray, List.map_cons, List.map_nil]); first | done | rfl | (simp only [List.length_drop, List.length_take]; rfl)) ?_; (with_reducible refine (benc_Take.calls x12_1 t247 t248 t249 t250 t253 t254 _ (LaidW.below hL (by repeat (first | (with_reducible first | exact HB.out | apply below_alloc | apply pw_below_drewN | apply below_drew1) | exact HB.out))) A84.out).mono ?_); rintro e w110 ⟨v251, rfl, ho0, hb⟩; refine ⟨_, rfl, ?_⟩; have n0_ := Aside0.mk (Kd.R_lower ho0 (below_size (by repeat (first | (with_reducible first | exact HB.out | apply below_alloc | apply pw_below_drewN | apply below_drew1) | exact HB.out)))); have n1_ := Aside0.mk (below_step (by repeat (first | (with_reducible first | exact HB.out | apply below_alloc | apply pw_below_drewN | apply below_drew1) | exact HB.out)) hb); clear HB; have HO252 := n0_; have HB := n1_; clear n0_ n1_; (try clear hb); (try clear hb2); (try clear hk); (try clear hi); (try clear ho0)) | ((with_reducible refine gate_dst (N := 14) rfl ?_); (try (refine gate_guard (by rfl) ?_; dsimp only)); refine box_event ?hg (N := 14) ?hd (cs := #[.int .i64 0, .int .i64 0, .string (⟨#[]⟩ : ByteArray), .slice none 0 0]) (t := 24) ?hr ?_; (case hd => rfl); (case hg => rfl); (case hr => first | (go_simp; done) | (go_simp; rfl)); intro gb255 hg w111 hbox hb; have n0_ := Aside0.mk (Kd.R_below (Kd.R_elderB (by (with_reducible repeat (first | apply Kd.R_alloc | apply Kd.R_drewN | apply Kd.R_drew)); exact HO252.out) gb255 (Nat.le_of_eq hg.symm)) hb); have n1_ := Aside0.mk (below_step (by repeat (first | (with_reducible first | exact HB.out | apply below_alloc | apply pw_below_drewN | apply below_drew1) | exact HB.out)) hb); have n2_ := Aside0.mk (hbox); have n3_ := Aside0.mk ((by rw [hg]; exact (below_size (by repeat (first | (with_reducible first | exact HB.out | apply below_alloc | apply pw_below_drewN | apply below_drew1) | exact HB.out))) : w.heap.size ≤ gb255)); have n4_ := Aside0.mk ((by rw [hg]; exact (below_size (by repeat (first | (with_reducible first | exact HB.out | apply below_alloc | apply pw_below_drewN | apply below_drew1) | exact HB.out))) : w.heap.size ≤ gb255)); clear HO252; clear HB; have HO252 := n0_; have HB := n1_; have BK255 := n2_; have GW255 := n3_; have GE255 := n4_; clear n0_ n1_ n2_ n3_ n4_; clear hb hbox hg; have hcz112_0 : w111.cell? ⟨gb255, 0, none⟩ = some (.int .i64 0) := (blk_cell BK255.out 0).trans rfl; have hcz112_1 : w111.cell? ⟨gb255, 1, none⟩ = some (.int .i64 0) := (blk_cell BK255.out 1).trans rfl; have hcz112_2 : w111.cell? ⟨gb255, 2, none⟩ = some (.string (⟨#[]⟩ : ByteArray)) := (blk_cell BK255.out 2).trans rfl; have hcz112_3 : w111.cell? ⟨gb255, 3, none⟩ = some (.slice none 0 0) := (blk_cell BK255.out 3).trans rfl; have hfz112_0 := blk_frozen BK255.out 0; have hfz112_1 := blk_frozen BK255.out 1; have hfz112_2 := blk_frozen BK255.out 2; have hfz112_3 := blk_frozen BK255.out 3; obtain ⟨Ao113, co113, eo113⟩ := Kd.R_slice HO252.out; subst eo113))
                go_ret
                exact ⟨by first | rfl | (simp [errW_none, errW_some] <;> rfl) | (simp [*, errW_none, errW_some] <;> rfl), by repeat (first | (with_reducible first | exact HB.out | apply below_alloc | apply pw_below_drewN | apply below_drew1 | refine below_set ?_ GE255.out) | exact HB.out)⟩
            · rw [if_neg c102] at H
              have c102b0 : (t253 == (x12_1.size : Int)) = false := beq_eq_false_iff_ne.mpr c102
              have c102b1 : (t253 != (x12_1.size : Int)) = true := bne_iff_ne.mpr c102
              obtain rfl := Option.some.inj H
              go_wp2_with (first | ((with_reducible refine gate_callee (f := 14) rfl ?_); refine goesL_ (some 88) rfl rfl Tryd.func14 (by kernel_rfl) rfl #[.string x12_1] rfl (by (try simp only [List.map_toArray, List.map_cons, List.map_nil]); first | done | rfl | (simp only [List.length_drop, List.length_take]; rfl)) ?_; (with_reducible refine (benc_Take.calls x12_1 t247 t248 t249 t250 t253 t254 _ (LaidW.below hL (by repeat (first | (with_reducible first | exact HB.out | apply below_alloc | apply pw_below_drewN | apply below_drew1) | exact HB.out))) A84.out).mono ?_); rintro e w114 ⟨v251, rfl, ho0, hb⟩; refine ⟨_, rfl, ?_⟩; have n0_ := Aside0.mk (Kd.R_lower ho0 (below_size (by repeat (first | (with_reducible first | exact HB.out | apply below_alloc | apply pw_below_drewN | apply below_drew1) | exact HB.out)))); have n1_ := Aside0.mk (below_step (by repeat (first | (with_reducible first | exact HB.out | apply below_alloc | apply pw_below_drewN | apply below_drew1) | exact HB.out)) hb); clear HB; have HO252 := n0_; have HB := n1_; clear n0_ n1_; (try clear hb); (try clear hb2); (try clear hk); (try clear hi); (try clear ho0)) | ((with_reducible refine gate_dst (N := 14) rfl ?_); (try (refine gate_guard (by rfl) ?_; dsimp only)); refine box_event ?hg (N := 14) ?hd (cs := #[.int .i64 0, .int .i64 0, .string (⟨#[]⟩ : ByteArray), .slice none 0 0]) (t := 24) ?hr ?_; (case hd => rfl); (case hg => rfl); (case hr => first | (go_simp; done) | (go_simp; rfl)); intro gb255 hg w115 hbox hb; have n0_ := Aside0.mk (Kd.R_below (Kd.R_elderB (by (with_reducible repeat (first | apply Kd.R_alloc | apply Kd.R_drewN | apply Kd.R_drew)); exact HO252.out) gb255 (Nat.le_of_eq hg.symm)) hb); have n1_ := Aside0.mk (below_step (by repeat (first | (with_reducible first | exact HB.out | apply below_alloc | apply pw_below_drewN | apply below_drew1) | exact HB.out)) hb); have n2_ := Aside0.mk (hbox); have n3_ := Aside0.mk ((by rw [hg]; exact (below_size (by repeat (first | (with_reducible first | exact HB.out | apply below_alloc | apply pw_below_drewN | apply below_drew1) | exact HB.out))) : w.heap.size ≤ gb255)); have n4_ := Aside0.mk ((by rw [hg]; exact (below_size (by repeat (first | (with_reducible first | exact HB.out | apply below_alloc | apply pw_below_drewN | apply below_drew1) | exact HB.out))) : w.heap.size ≤ gb255)); clear HO252; clear HB; have HO252 := n0_; have HB := n1_; have BK255 := n2_; have GW255 := n3_; have GE255 := n4_; clear n0_ n1_ n2_ n3_ n4_; clear hb hbox hg; have hcz116_0 : w115.cell? ⟨gb255, 0, none⟩ = some (.int .i64 0) := (blk_cell BK255.out 0).trans rfl; have hcz116_1 : w115.cell? ⟨gb255, 1, none⟩ = some (.int .i64 0) := (blk_cell BK255.out 1).trans rfl; have hcz116_2 : w115.cell? ⟨gb255, 2, none⟩ = some (.string (⟨#[]⟩ : ByteArray)) := (blk_cell BK255.out 2).trans rfl; have hcz116_3 : w115.cell? ⟨gb255, 3, none⟩ = some (.slice none 0 0) := (blk_cell BK255.out 3).trans rfl; have hfz116_0 := blk_frozen BK255.out 0; have hfz116_1 := blk_frozen BK255.out 1; have hfz116_2 := blk_frozen BK255.out 2; have hfz116_3 := blk_frozen BK255.out 3; obtain ⟨Ao117, co117, eo117⟩ := Kd.R_slice HO252.out; subst eo117))
              go_ret
              exact ⟨by first | rfl | (simp [errW_none, errW_some] <;> rfl) | (simp [*, errW_none, errW_some] <;> rfl), by repeat (first | (with_reducible first | exact HB.out | apply below_alloc | apply pw_below_drewN | apply below_drew1 | refine below_set ?_ GE255.out) | exact HB.out)⟩
def ploverlaw02_BencLong.Pure : Prop := ∀ (a0 : Int) (a1 : Int), (Lit.int .i64 a0).wf = true → (Lit.int .i64 a1).wf = true → ∃ k, ploverlaw02_BencLong.f k a0 a1 = some true
theorem ploverlaw02_BencLong.walk (P : ploverlaw02_BencLong.Pure) (a0 : Int) (a1 : Int) (w : World) (hL : LaidW w) (w0 : (Lit.int .i64 a0).wf = true) (w1 : (Lit.int .i64 a1).wf = true) :
    Calls Tryd.prog 7 #[.int .i64 a0, .int .i64 a1] w fun e w' => e = .returned (.bool true) ∧ Below w.heap.size w w' := by
  obtain ⟨k, h⟩ := P a0 a1 w0 w1
  refine (ploverlaw02_BencLong.calls k a0 a1 true w hL h).mono ?_
  rintro e w' ⟨rfl, hd⟩
  exact ⟨rfl, hd⟩
end Go.Proofs.YtcdfedbecgfanaaDoor.P
namespace Go.Proofs.YtcdfedbecgfanaaDoor.Giv
open Go.RowKit Go.Lib
set_option linter.unusedVariables false
set_option linter.unusedSimpArgs false
def isD (c : UInt8) : Prop := 48 ≤ c.toNat ∧ c.toNat ≤ 57
def dv (c : UInt8) : Nat := c.toNat - 48
def foldN (a : Nat) (ds : List UInt8) : Nat := ds.foldl (fun a c => 10 * a + dv c) a
theorem foldN_nil (a : Nat) : foldN a [] = a := rfl
theorem foldN_cons (a : Nat) (c : UInt8) (t : List UInt8) : foldN a (c :: t) = foldN (10 * a + dv c) t := by unfold foldN; rw [List.foldl_cons]
theorem foldN_app (a : Nat) (l r : List UInt8) : foldN a (l ++ r) = foldN (foldN a l) r := List.foldl_append ..
theorem foldN_ge : ∀ (ds : List UInt8) (a : Nat), a ≤ foldN a ds
  | [], a => Nat.le_refl _
  | c :: t, a => by rw [foldN_cons]; have := foldN_ge t (10 * a + dv c); omega
theorem digit_of {u : Nat} (h : u < 10) : (UInt8.ofNat (48 + u)).toNat = 48 + u := by
  rw [UInt8.toNat_ofNat']
  omega
theorem dd_isD (u : Nat) : ∀ c ∈ decDigits u, isD c := by
  induction u using Nat.strongRecOn with
  | _ u ih =>
    intro c hc
    by_cases h : u < 10
    · rw [dd_small h] at hc
      rw [List.mem_singleton.1 hc]
      unfold isD
      rw [digit_of h]
      omega
    · rw [dd_big h] at hc
      rcases List.mem_append.1 hc with hc | hc
      · exact ih (u / 10) (by omega) c hc
      · rw [List.mem_singleton.1 hc]
        unfold isD
        rw [digit_of (by omega)]
        omega
theorem dd_fold (u : Nat) : foldN 0 (decDigits u) = u := by
  induction u using Nat.strongRecOn with
  | _ u ih =>
    by_cases h : u < 10
    · rw [dd_small h, foldN_cons, foldN_nil]
      unfold dv
      rw [digit_of h]
      omega
    · rw [dd_big h, foldN_app, ih (u / 10) (by omega), foldN_cons, foldN_nil]
      unfold dv
      rw [digit_of (by omega)]
      omega
theorem dd_head (u : Nat) : ∃ c t, decDigits u = c :: t ∧ (c.toNat = 48 → u = 0 ∧ t = []) := by
  induction u using Nat.strongRecOn with
  | _ u ih =>
    by_cases h : u < 10
    · rw [dd_small h]
      exact ⟨_, _, rfl, fun e => by rw [digit_of h] at e; exact ⟨by omega, rfl⟩⟩
    · rw [dd_big h]
      obtain ⟨c, t, e, h2⟩ := ih (u / 10) (by omega)
      rw [e]
      exact ⟨c, _, rfl, fun e2 => by have := (h2 e2).1; omega⟩
def sgn (neg : Bool) (m : Nat) : Int := if neg = true then -(m : Int) else (m : Int)
def fits (neg : Bool) (m : Nat) : Prop := m ≤ 9223372036854775807 + (if neg = true then 1 else 0)
instance (neg : Bool) (m : Nat) : Decidable (fits neg m) := by unfold fits; infer_instance
theorem u8_ne {c d : UInt8} (h : c.toNat ≠ d.toNat) : ¬ c = d := fun e => h (by rw [e])
theorem isD_not {c : UInt8} (h : isD c) : ¬ c = 101 ∧ ¬ c = 58 ∧ ¬ c < 48 ∧ ¬ 57 < c := by
  unfold isD at h
  refine ⟨u8_ne ?_, u8_ne ?_, ?_, ?_⟩
  · show c.toNat ≠ 101; omega
  · show c.toNat ≠ 58; omega
  · rw [UInt8.lt_iff_toNat_lt]; show ¬ c.toNat < 48; omega
  · rw [UInt8.lt_iff_toNat_lt]; show ¬ 57 < c.toNat; omega
theorem numL_digit (neg z st : Bool) (m : Nat) (c : UInt8) (t : List UInt8) (hc : isD c) (hz : st = true → z = false) (h0 : st = false → c.toNat = 48 → neg = false) :
    numL neg z st (sgn neg m) (c :: t) = if fits neg (10 * m + dv c) then ((numL neg (if st then z else c == 48) true (sgn neg (10 * m + dv c)) t).1, (numL neg (if st then z else c == 48) true (sgn neg (10 * m + dv c)) t).2.1, (numL neg (if st then z else c == 48) true (sgn neg (10 * m + dv c)) t).2.2 + 1) else (20, 0, 0) := by
  obtain ⟨n1, n2, n3, n4⟩ := isD_not hc
  have hcv : ((c.toNat : Int) - 48) = (dv c : Int) := by unfold isD at hc; unfold dv; omega
  have hb : ¬(c < 48 ∨ 57 < c ∨ (st = true ∧ z = true) ∨ (st = false ∧ c = 48 ∧ neg = true)) := by
    rintro (h | h | ⟨h, h'⟩ | ⟨h, h', h''⟩)
    · exact n3 h
    · exact n4 h
    · rw [hz h] at h'; cases h'
    · rw [h0 h (by rw [h']; rfl)] at h''; cases h''
  rw [numL, if_neg (by rintro ⟨e, _⟩; exact n1 e), if_neg hb, hcv]
  cases neg with
  | true =>
    rw [if_pos rfl]
    have e : 10 * sgn true m - (dv c : Int) = sgn true (10 * m + dv c) := by unfold sgn; rw [if_pos rfl, if_pos rfl]; omega
    rw [e]
    by_cases hf : fits true (10 * m + dv c)
    · rw [if_pos hf, if_neg (by unfold fits at hf; unfold sgn; rw [if_pos rfl] at hf ⊢; omega)]
    · rw [if_neg hf, if_pos (by unfold fits at hf; unfold sgn; rw [if_pos rfl] at hf ⊢; omega)]
  | false =>
    rw [if_neg (by decide)]
    have e : 10 * sgn false m + (dv c : Int) = sgn false (10 * m + dv c) := by unfold sgn; rw [if_neg (by decide), if_neg (by decide)]; omega
    rw [e]
    by_cases hf : fits false (10 * m + dv c)
    · rw [if_pos hf, if_neg (by unfold fits at hf; unfold sgn; rw [if_neg (by decide)] at hf ⊢; omega)]
    · rw [if_neg hf, if_pos (by unfold fits at hf; unfold sgn; rw [if_neg (by decide)] at hf ⊢; omega)]
theorem fits_le {neg : Bool} {a b : Nat} (h : fits neg b) (hab : a ≤ b) : fits neg a := by unfold fits at *; omega
theorem numL_run (neg : Bool) (rest : List UInt8) : ∀ (ds : List UInt8) (m : Nat), (∀ c ∈ ds, isD c) → fits neg (foldN m ds) → numL neg false true (sgn neg m) (ds ++ 101 :: rest) = (0, sgn neg (foldN m ds), ds.length + 1)
  | [], m, _, _ => by
    rw [List.nil_append, numL, if_pos ⟨rfl, rfl⟩]
    rfl
  | c :: t, m, hD, hf => by
    rw [foldN_cons] at hf ⊢
    have hf1 : fits neg (10 * m + dv c) := fits_le hf (foldN_ge t _)
    rw [List.cons_append, numL_digit neg false true m c (t ++ 101 :: rest) (hD c (by simp)) (fun _ => rfl) (fun h => by cases h), if_pos hf1, if_pos rfl, numL_run neg rest t (10 * m + dv c) (fun x hx => hD x (by simp [hx])) hf]
    simp
theorem numL_dd (neg : Bool) (m : Nat) (rest : List UInt8) (hf : fits neg m) (h0 : neg = true → m ≠ 0) : numL neg false false 0 (decDigits m ++ 101 :: rest) = (0, sgn neg m, (decDigits m).length + 1) := by
  obtain ⟨c, t, e, h48⟩ := dd_head m
  have hD := dd_isD m
  have hF := dd_fold m
  rw [e] at hD hF ⊢
  rw [foldN_cons] at hF
  have hs : (0 : Int) = sgn neg 0 := by unfold sgn; split <;> rfl
  have hc48 : c.toNat = 48 → neg = false := fun h => by
    cases hn : neg with
    | false => rfl
    | true => exact absurd (h48 h).1 (h0 hn)
  have key := numL_digit neg false false 0 c (t ++ 101 :: rest) (hD c (by simp)) (fun h => by cases h) (fun _ => hc48)
  rw [← hs] at key
  rw [List.cons_append, key, if_pos (fits_le hf (by rw [← hF]; exact foldN_ge t _)), if_neg (by decide)]
  by_cases hz : c.toNat = 48
  · obtain ⟨hm, ht⟩ := h48 hz
    subst ht
    rw [foldN_nil] at hF
    rw [hF, List.nil_append, numL, if_pos ⟨rfl, rfl⟩]
    rfl
  · have hzz : (c == 48) = false := beq_eq_false_iff_ne.2 (u8_ne (by show c.toNat ≠ 48; exact hz))
    rw [hzz, numL_run neg rest t (10 * 0 + dv c) (fun x hx => hD x (by simp [hx])) (by rw [hF]; exact hf), hF]
    simp
theorem lenL_digit (z st : Bool) (m : Nat) (c : UInt8) (t : List UInt8) (hc : isD c) (hz : st = true → z = false) :
    lenL z st m (c :: t) = if 65536 < 10 * m + dv c then (23, 0, 0) else ((lenL (if st then z else c == 48) true (10 * m + dv c) t).1, (lenL (if st then z else c == 48) true (10 * m + dv c) t).2.1, (lenL (if st then z else c == 48) true (10 * m + dv c) t).2.2 + 1) := by
  obtain ⟨n1, n2, n3, n4⟩ := isD_not hc
  have hb : ¬(c < 48 ∨ 57 < c ∨ (st = true ∧ z = true)) := by
    rintro (h | h | ⟨h, h'⟩)
    · exact n3 h
    · exact n4 h
    · rw [hz h] at h'; cases h'
  rw [lenL, if_neg (by rintro ⟨e, _⟩; exact n2 e), if_neg hb]
  rfl
theorem lenL_run (rest : List UInt8) : ∀ (ds : List UInt8) (m : Nat), (∀ c ∈ ds, isD c) → foldN m ds ≤ 65536 → lenL false true m (ds ++ 58 :: rest) = (0, foldN m ds, ds.length + 1)
  | [], m, _, _ => by
    rw [List.nil_append, lenL, if_pos ⟨rfl, rfl⟩]
    rfl
  | c :: t, m, hD, hf => by
    rw [foldN_cons] at hf ⊢
    have := foldN_ge t (10 * m + dv c)
    rw [List.cons_append, lenL_digit false true m c (t ++ 58 :: rest) (hD c (by simp)) (fun _ => rfl), if_neg (by omega), if_pos rfl, lenL_run rest t (10 * m + dv c) (fun x hx => hD x (by simp [hx])) hf]
    simp
theorem lenL_dd (m : Nat) (rest : List UInt8) (hf : m ≤ 65536) : lenL false false 0 (decDigits m ++ 58 :: rest) = (0, m, (decDigits m).length + 1) := by
  obtain ⟨c, t, e, h48⟩ := dd_head m
  have hD := dd_isD m
  have hF := dd_fold m
  rw [e] at hD hF ⊢
  rw [foldN_cons] at hF
  have := foldN_ge t (10 * 0 + dv c)
  rw [List.cons_append, lenL_digit false false 0 c (t ++ 58 :: rest) (hD c (by simp)) (fun h => by cases h), if_neg (by omega), if_neg (by decide)]
  by_cases hz : c.toNat = 48
  · obtain ⟨hm, ht⟩ := h48 hz
    subst ht
    rw [foldN_nil] at hF
    rw [hF, List.nil_append, lenL, if_pos ⟨rfl, rfl⟩]
    rfl
  · have hzz : (c == 48) = false := beq_eq_false_iff_ne.2 (u8_ne (by show c.toNat ≠ 48; exact hz))
    rw [hzz, lenL_run rest t (10 * 0 + dv c) (fun x hx => hD x (by simp [hx])) (by omega), hF]
    simp
end Go.Proofs.YtcdfedbecgfanaaDoor.Giv
namespace Go.Proofs.YtcdfedbecgfanaaDoor.Giv
open Go.RowKit Go.Lib
set_option linter.unusedVariables false
set_option linter.unusedSimpArgs false
mutual
def nrm : V → V
  | ⟨k, n, s, L⟩ => if k = 1 then intV n else if k = 2 then strV s else lisV (nrms L)
def nrms : List V → List V
  | [] => []
  | x :: xs => nrm x :: nrms xs
end
theorem nrm_eq (v : V) : nrm v = if v.f0 = 1 then intV v.f1 else if v.f0 = 2 then strV v.f2 else lisV (nrms v.f3) := by obtain ⟨k, n, s, L⟩ := v; rw [nrm]
theorem nrms_nil : nrms [] = [] := by rw [nrms]
theorem nrms_cons (x : V) (xs : List V) : nrms (x :: xs) = nrm x :: nrms xs := by rw [nrms]
mutual
def tok : V → Bool
  | ⟨k, n, s, L⟩ => if k = 1 then true else if k = 2 then decide (s.size ≤ 65536) else toks L
def toks : List V → Bool
  | [] => true
  | x :: xs => tok x && toks xs
end
theorem tok_eq (v : V) : tok v = if v.f0 = 1 then true else if v.f0 = 2 then decide (v.f2.size ≤ 65536) else toks v.f3 := by obtain ⟨k, n, s, L⟩ := v; rw [tok]
theorem toks_nil : toks [] = true := by rw [toks]
theorem toks_cons (x : V) (xs : List V) : toks (x :: xs) = (tok x && toks xs) := by rw [toks]
mutual
theorem tok_of_len : ∀ v : V, (enc v).length ≤ 65537 → tok v = true
  | ⟨k, n, s, L⟩, h => by
    rw [enc] at h
    rw [tok]
    by_cases c1 : k = 1
    · rw [if_pos c1]
    · rw [if_neg c1] at h ⊢
      by_cases c2 : k = 2
      · rw [if_pos c2] at h ⊢
        rw [List.length_append, List.length_cons, data_size] at h
        exact decide_eq_true (by omega)
      · rw [if_neg c2] at h ⊢
        rw [List.length_cons, List.length_append] at h
        exact toks_of_len L (by omega)
theorem toks_of_len : ∀ L : List V, (encs L).length ≤ 65537 → toks L = true
  | [], _ => toks_nil
  | x :: xs, h => by
    rw [encs_cons, List.length_append] at h
    rw [toks_cons, tok_of_len x (by omega), toks_of_len xs (by omega)]
    rfl
end
theorem itoa_neg {n : Int} (h : n < 0) : itoa n = 45 :: decDigits n.natAbs := by unfold itoa; rw [if_pos h]
theorem itoa_pos {n : Int} (h : ¬ n < 0) : itoa n = decDigits n.toNat := by unfold itoa; rw [if_neg h]
theorem dd_head45 (u : Nat) (r : List UInt8) : (decDigits u ++ r).head? ≠ some 45 := by
  obtain ⟨c, t, e, _⟩ := dd_head u
  have := dd_isD u c (by rw [e]; simp)
  rw [e, List.cons_append, List.head?_cons]
  intro h
  have h := Option.some.inj h
  rw [h] at this
  exact absurd this.1 (by decide)
theorem intL_itoa (n : Int) (h0 : -9223372036854775808 ≤ n) (h1 : n ≤ 9223372036854775807) (rest : List UInt8) : intL (itoa n ++ 101 :: rest) = (0, n, (itoa n).length + 1) := by
  unfold intL
  by_cases c : n < 0
  · rw [itoa_neg c, List.cons_append, if_pos (show (45 :: (decDigits n.natAbs ++ 101 :: rest)).head? = some 45 from rfl), List.tail_cons, numL_dd true n.natAbs rest (by unfold fits; rw [if_pos rfl]; omega) (fun _ => by omega)]
    have e : sgn true n.natAbs = n := by unfold sgn; rw [if_pos rfl]; omega
    rw [e]
    simp
  · rw [itoa_pos c, if_neg (dd_head45 _ _), numL_dd false n.toNat rest (by unfold fits; omega) (fun h => by cases h)]
    have e : sgn false n.toNat = n := by unfold sgn; rw [if_neg (by decide)]; omega
    rw [e]
theorem enc_head (v : V) (hk : kin v = true) : ∃ c t, enc v = c :: t ∧ c ≠ 101 := by
  rw [enc_eq]
  by_cases c1 : v.f0 = 1
  · rw [if_pos c1]; exact ⟨_, _, rfl, by decide⟩
  · rw [if_neg c1]
    by_cases c2 : v.f0 = 2
    · rw [if_pos c2, itoa_pos (by omega)]
      obtain ⟨c, t, e, _⟩ := dd_head ((v.f2.size : Int)).toNat
      have := dd_isD _ c (by rw [e]; simp)
      rw [e]
      exact ⟨c, _, rfl, (isD_not this).1⟩
    · rw [if_neg c2]; exact ⟨_, _, rfl, by decide⟩
theorem kins_mem {x : V} : ∀ {L : List V}, x ∈ L → kins L = true → kin x = true
  | y :: ys, h, ho => by
    rw [kins_cons, Bool.and_eq_true] at ho
    rcases List.mem_cons.1 h with rfl | h
    · exact ho.1
    · exact kins_mem h ho.2
theorem toks_mem {x : V} : ∀ {L : List V}, x ∈ L → toks L = true → tok x = true
  | y :: ys, h, ho => by
    rw [toks_cons, Bool.and_eq_true] at ho
    rcases List.mem_cons.1 h with rfl | h
    · exact ho.1
    · exact toks_mem h ho.2
theorem deps_mem {x : V} : ∀ {L : List V}, x ∈ L → dep x ≤ deps L
  | y :: ys, h => by
    rw [deps_cons]
    rcases List.mem_cons.1 h with rfl | h
    · omega
    · have := deps_mem h; omega
def Back (v : V) (d : Nat) : Prop := ∀ rest, valL d (enc v ++ rest) = (0, nrm v, (enc v).length)
theorem listL_back (d : Nat) (rest : List UInt8) : ∀ (L : List V), (∀ x ∈ L, kin x = true ∧ Back x d) → ∀ k, (encs L).length < k → listL (valL d) k (encs L ++ 101 :: rest) = (0, nrms L, (encs L).length + 1)
  | [], _, k, hk => by
    obtain ⟨k, rfl⟩ : ∃ j, k = j + 1 := ⟨k - 1, by omega⟩
    rw [encs_nil, List.nil_append, listL, if_pos rfl, nrms_nil]
    rfl
  | x :: xs, h, k, hk => by
    obtain ⟨k, rfl⟩ : ∃ j, k = j + 1 := ⟨k - 1, by omega⟩
    obtain ⟨c, t, e, hc⟩ := enc_head x (h x (by simp)).1
    have hb := (h x (by simp)).2 (encs xs ++ 101 :: rest)
    rw [encs_cons, List.append_assoc]
    have hlen : (enc x).length = t.length + 1 := by rw [e]; simp
    rw [encs_cons, List.length_append] at hk
    have ih := listL_back d rest xs (fun y hy => h y (by simp [hy])) k (by omega)
    have hd : (enc x ++ (encs xs ++ 101 :: rest)).drop (enc x).length = encs xs ++ 101 :: rest := List.drop_left
    have e1 : enc x ++ (encs xs ++ 101 :: rest) = c :: (t ++ (encs xs ++ 101 :: rest)) := by rw [e]; rfl
    rw [e1] at hb hd ⊢
    rw [listL, if_neg hc, hb]
    simp only
    rw [hd, ih]
    simp only [if_true]
    rw [nrms_cons, List.length_append]
    simp
    omega
theorem back : ∀ (n : Nat) (v : V), wt v ≤ n → kin v = true → okV v = true → tok v = true → ∀ d, dep v ≤ d → Back v d := by
  intro n
  induction n with
  | zero => intro v h; have := wt_eq v; omega
  | succ n ih =>
    intro v hw hk ho ht d hd rest
    rw [enc_eq, nrm_eq]
    rw [kin_eq] at hk
    rw [tok_eq] at ht
    obtain ⟨o1, o2, o3⟩ := (okV_iff v).1 ho
    by_cases c1 : v.f0 = 1
    · rw [if_pos c1, if_pos c1, List.cons_append, valL_cons, if_pos rfl, List.append_assoc]
      show (if (intL (itoa v.f1 ++ 101 :: rest)).1 = 0 then _ else _) = _
      rw [show [101] ++ rest = 101 :: rest from rfl, intL_itoa v.f1 o1 o2 rest]
      simp
    · rw [if_neg c1] at hk ht ⊢
      rw [if_neg c1]
      by_cases c2 : v.f0 = 2
      · rw [if_pos c2] at hk ht ⊢
        rw [if_pos c2, itoa_pos (by omega), Int.toNat_natCast]
        have hs := of_decide_eq_true ht
        obtain ⟨c, t, e, _⟩ := dd_head v.f2.size
        have hc := dd_isD _ c (by rw [e]; simp)
        have hl := lenL_dd v.f2.size (v.f2.data.toList ++ rest) hs
        have e1 : decDigits v.f2.size ++ 58 :: v.f2.data.toList ++ rest = c :: (t ++ (58 :: (v.f2.data.toList ++ rest))) := by rw [e]; simp
        have e2 : decDigits v.f2.size ++ 58 :: (v.f2.data.toList ++ rest) = c :: (t ++ (58 :: (v.f2.data.toList ++ rest))) := by rw [e]; simp
        rw [e1, valL_cons, ← e2, hl]
        have hz := data_size v.f2
        obtain ⟨k1, k2, k3, k4⟩ := isD_not hc
        have h105 : ¬ c = 105 := u8_ne (by unfold isD at hc; show c.toNat ≠ 105; omega)
        have hdig : 48 ≤ c ∧ c ≤ 57 := ⟨UInt8.not_lt.1 k3, UInt8.not_lt.1 k4⟩
        rw [if_neg h105, if_pos hdig, if_pos rfl]
        simp only
        rw [if_neg (by simp only [List.length_append, List.length_cons, hz]; omega)]
        have hdrop : (decDigits v.f2.size ++ 58 :: (v.f2.data.toList ++ rest)).drop ((decDigits v.f2.size).length + 1) = v.f2.data.toList ++ rest := by
          rw [List.drop_append, List.drop_of_length_le (by omega), show (decDigits v.f2.size).length + 1 - (decDigits v.f2.size).length = 1 by omega]
          rfl
        rw [hdrop, ← hz, List.take_left]
        simp only [List.length_append, List.length_cons]
        refine congrArg (fun q => (0, q)) ?_
        refine congr (congrArg Prod.mk ?_) (by first | rfl | omega)
        unfold strV
        simp
      · rw [if_neg c2] at hk ht ⊢
        rw [if_neg c2]
        by_cases c3 : v.f0 = 3
        · rw [if_pos c3] at hk
          rw [dep_eq, if_pos c3] at hd
          obtain ⟨d, rfl⟩ : ∃ j, d = j + 1 := ⟨d - 1, by omega⟩
          rw [wt_eq] at hw
          have hall : ∀ x ∈ v.f3, kin x = true ∧ Back x d := fun x hx => by
            have h1 := kins_mem hx hk
            exact ⟨h1, ih x (by have := wt_mem hx; omega) h1 (okV_mem hx o3) (toks_mem hx ht) d (by have := deps_mem hx; omega)⟩
          rw [List.cons_append, List.append_assoc, show [101] ++ rest = 101 :: rest from rfl, valL_cons, if_neg (by decide), if_neg (by decide), if_neg (by decide)]
          have hb := listL_back d rest v.f3 hall (encs v.f3 ++ 101 :: rest).length (by simp)
          dsimp only
          rw [hb]
          simp
        · rw [if_neg c3] at hk
          cases hk
theorem enc_int (n : Int) : enc (intV n) = 105 :: (itoa n ++ [101]) := by unfold intV; rw [enc]; rfl
theorem enc_str (s : ByteArray) : enc (strV s) = itoa (s.size : Int) ++ (58 :: s.data.toList) := by unfold strV; rw [enc]; rfl
theorem enc_lis (L : List V) : enc (lisV L) = 108 :: (encs L ++ [101]) := by unfold lisV; rw [enc]; rfl
theorem kin_int (n : Int) : kin (intV n) = true := by unfold intV; rw [kin]; rfl
theorem kin_str (s : ByteArray) : kin (strV s) = true := by unfold strV; rw [kin]; rfl
theorem kin_lis (L : List V) : kin (lisV L) = kins L := by unfold lisV; rw [kin]; rfl
theorem dep_int (n : Int) : dep (intV n) = 0 := by unfold intV; rw [dep]; rfl
theorem dep_str (s : ByteArray) : dep (strV s) = 0 := by unfold strV; rw [dep]; rfl
theorem dep_lis (L : List V) : dep (lisV L) = deps L + 1 := by unfold lisV; rw [dep]; rfl
theorem ok_int {n : Int} (h0 : -9223372036854775808 ≤ n) (h1 : n ≤ 9223372036854775807) : okV (intV n) = true := (okV_iff _).2 ⟨h0, h1, okVs_nil⟩
theorem ok_str (s : ByteArray) : okV (strV s) = true := (okV_iff _).2 ⟨show (-9223372036854775808 : Int) ≤ 0 by decide, show (0 : Int) ≤ 9223372036854775807 by decide, okVs_nil⟩
theorem ok_lis {L : List V} (h : okVs L = true) : okV (lisV L) = true := (okV_iff _).2 ⟨show (-9223372036854775808 : Int) ≤ 0 by decide, show (0 : Int) ≤ 9223372036854775807 by decide, h⟩
end Go.Proofs.YtcdfedbecgfanaaDoor.Giv
namespace Go.Proofs.YtcdfedbecgfanaaDoor.Pure
open Go.RowKit Go.Lib Go.Proofs.YtcdfedbecgfanaaDoor.Giv Go.Proofs.YtcdfedbecgfanaaDoor.P Go.Proofs.YtcdfedbecgfanaaDoorW.PrintWords Go.Proofs.YtcdfedbecgfanaaDoorW.PrintLast Go.Proofs.YtcdfedbecgfanaaDoorW.PrintMore
set_option linter.unusedVariables false
set_option linter.unusedSimpArgs false
theorem data_ext {a b : ByteArray} (h : a.data.toList = b.data.toList) : a = b := by
  cases a; cases b
  simp at h
  rw [h]
end Go.Proofs.YtcdfedbecgfanaaDoor.Pure
namespace Go.Proofs.YtcdfedbecgfanaaDoor.Pure
open Go.RowKit Go.Lib Go.Proofs.YtcdfedbecgfanaaDoor.Giv Go.Proofs.YtcdfedbecgfanaaDoor.P Go.Proofs.YtcdfedbecgfanaaDoorW.PrintWords Go.Proofs.YtcdfedbecgfanaaDoorW.PrintLast Go.Proofs.YtcdfedbecgfanaaDoorW.PrintMore
set_option linter.unusedVariables false
set_option linter.unusedSimpArgs false
theorem V_eta (x : V) : (⟨x.f0, x.f1, x.f2, x.f3⟩ : V) = x := by cases x; rfl
abbrev Q6 := Int × Int × ByteArray × List V × Int × Int
def RdR (g : Nat → Option Q6) (R : Int × V × Nat) : Prop := ∃ q : Q6, Ev g q ∧ (R.1 = 0 → q = (R.2.1.f0, R.2.1.f1, R.2.1.f2, R.2.1.f3, (R.2.2 : Int), 0)) ∧ (R.1 ≠ 0 → q.2.2.2.2.2 = R.1)
theorem RdR.step {g f : Nat → Option Q6} {R : Int × V × Nat} (h : ∀ k, g (k + 1) = f k) (hf : RdR f R) : RdR g R := by
  obtain ⟨q, hq, h1, h2⟩ := hf
  exact ⟨q, Ev.step h hq, h1, h2⟩
theorem take_yes {s : ByteArray} (h : s.size ≤ 1099511627776) : benc_Take.f s = some (flat (takeM s)) := by unfold benc_Take.f; rw [if_pos h]
theorem put_yes {v : V} (h : fitV v = true) : benc_Put.f v.f0 v.f1 v.f2 v.f3 = some (putM v) := by unfold benc_Put.f; rw [V_eta]; exact if_pos h
mutual
def sam : V → V → Bool
  | ⟨k, n, s, L⟩, b => if k = b.f0 then (if k = 1 then n == b.f1 else if k = 2 then s.toList == b.f2.toList else sams L b.f3) else false
def sams : List V → List V → Bool
  | [], [] => true
  | x :: xs, y :: ys => sam x y && sams xs ys
  | _, _ => false
end
theorem sam_eq (a b : V) : sam a b = if a.f0 = b.f0 then (if a.f0 = 1 then a.f1 == b.f1 else if a.f0 = 2 then a.f2.toList == b.f2.toList else sams a.f3 b.f3) else false := by obtain ⟨k, n, s, L⟩ := a; rw [sam]
theorem sams_cons (x y : V) (xs ys : List V) : sams (x :: xs) (y :: ys) = (sam x y && sams xs ys) := by rw [sams]
theorem sams_nil : sams [] [] = true := by rw [sams]
theorem sams_len : ∀ (a b : List V), sams a b = true → a.length = b.length
  | [], [], _ => rfl
  | x :: xs, y :: ys, h => by
    rw [sams_cons, Bool.and_eq_true] at h
    simp [sams_len xs ys h.2]
  | [], y :: ys, h => by rw [sams] at h; cases h; simp; simp
  | x :: xs, [], h => by rw [sams] at h; cases h; simp; simp
theorem same_ev (n : Nat) : ∀ (a b : V), wt a ≤ n → n ≤ 4611686018427387904 → wt b ≤ 4611686018427387904 → Ev (fun k => ploverref02_Same.f k a.f0 a.f1 a.f2 a.f3 b.f0 b.f1 b.f2 b.f3) (sam a b) := by
  induction n with
  | zero => intro v _ h; have := wt_eq v; omega
  | succ n ih =>
    intro v u hw hb hub
    have hz := wt_eq v
    have hll := wts_len v.f3
    rw [sam_eq]
    by_cases c0 : v.f0 = u.f0
    · rw [if_pos c0]
      by_cases c1 : v.f0 = 1
      · rw [if_pos c1]
        refine Ev.step (f := fun _ => some (v.f1 == u.f1)) (fun k => ?_) (Ev.now _)
        simp only [ploverref02_Same.f]; rw [if_pos c0, if_pos c1]
      · rw [if_neg c1]
        by_cases c2 : v.f0 = 2
        · rw [if_pos c2]
          refine Ev.step (f := fun _ => some (v.f2.toList == u.f2.toList)) (fun k => ?_) (Ev.now _)
          simp only [ploverref02_Same.f]; rw [if_pos c0, if_neg c1, if_pos c2]
        · rw [if_neg c2]
          by_cases c3 : v.f3.length = u.f3.length
          · have hlu := wts_len u.f3
            have hzu := wt_eq u
            have loop : ∀ (d i : Nat), v.f3.length - i ≤ d → i ≤ v.f3.length → Ev (fun k => ploverref02_Same.l0 k (i : Int) v.f0 v.f1 v.f2 v.f3 u.f0 u.f1 u.f2 u.f3) (sams (v.f3.drop i) (u.f3.drop i)) := by
              intro d
              have fin : ∀ i : Nat, i = v.f3.length → Ev (fun k => ploverref02_Same.l0 k (i : Int) v.f0 v.f1 v.f2 v.f3 u.f0 u.f1 u.f2 u.f3) (sams (v.f3.drop i) (u.f3.drop i)) := by
                intro i hi
                rw [List.drop_of_length_le (by omega), List.drop_of_length_le (by omega), sams_nil]
                refine Ev.step (f := fun _ => some true) (fun k => ?_) (Ev.now _)
                simp only [ploverref02_Same.l0]
                rw [if_neg (by omega)]
              induction d with
              | zero =>
                intro i h1 h2
                exact fin i (by omega)
              | succ d ihd =>
                intro i h1 h2
                by_cases hlt : i < v.f3.length
                · have hlt2 : i < u.f3.length := by omega
                  have hm1 := wt_mem (List.getElem_mem hlt)
                  have hm2 := wt_mem (List.getElem_mem hlt2)
                  have hx := ih v.f3[i] u.f3[i] (by omega) (by omega) (by omega)
                  have hn := ihd (i + 1) (by omega) (by omega)
                  rw [List.drop_eq_getElem_cons hlt, List.drop_eq_getElem_cons hlt2, sams_cons]
                  refine Ev.step (f := fun k => (ploverref02_Same.f k v.f3[i].f0 v.f3[i].f1 v.f3[i].f2 v.f3[i].f3 u.f3[i].f0 u.f3[i].f1 u.f3[i].f2 u.f3[i].f3).bind fun q => if q = true then ploverref02_Same.l0 k ((i + 1 : Nat) : Int) v.f0 v.f1 v.f2 v.f3 u.f0 u.f1 u.f2 u.f3 else some false) (fun k => ?_) (Ev.bind hx ?_)
                  · simp only [ploverref02_Same.l0]
                    rw [if_pos (by omega), if_pos (by omega), if_pos (by omega), rd_at _ _ hlt, rd_at _ _ hlt2, w64 (n := (i : Int) + 1) (by omega) (by omega)]
                    rfl
                  · cases sam v.f3[i] u.f3[i] with
                    | true => rw [Bool.true_and]; exact Ev.congr (fun k => if_pos rfl) hn
                    | false => rw [Bool.false_and]; exact Ev.congr (fun k => if_neg (by decide)) (Ev.now _)
                · exact fin i (by omega)
            have := loop v.f3.length 0 (by omega) (by omega)
            rw [List.drop_zero, List.drop_zero] at this
            refine Ev.step (f := fun k => ploverref02_Same.l0 k ((0 : Nat) : Int) v.f0 v.f1 v.f2 v.f3 u.f0 u.f1 u.f2 u.f3) (fun k => ?_) this
            simp only [ploverref02_Same.f]; rw [if_pos c0, if_neg c1, if_neg c2, if_pos (by omega)]
            rfl
          · have hf : sams v.f3 u.f3 = false := by
              rw [Bool.eq_false_iff]
              exact fun h => c3 (sams_len _ _ h)
            rw [hf]
            refine Ev.step (f := fun _ => some false) (fun k => ?_) (Ev.now _)
            simp only [ploverref02_Same.f]; rw [if_pos c0, if_neg c1, if_neg c2, if_neg (by omega)]
    · rw [if_neg c0]
      refine Ev.step (f := fun _ => some false) (fun k => ?_) (Ev.now _)
      simp only [ploverref02_Same.f]; rw [if_neg c0]
theorem toList0 : (⟨#[]⟩ : ByteArray).toList = [] := by rw [toList_data]
mutual
theorem sam_self : ∀ (a : V), sam a (nrm a) = kin a ∨ kin a = false
  | ⟨k, n, s, L⟩ => by
    rw [sam, nrm, kin]
    by_cases c1 : k = 1
    · subst c1; simp [intV]
    · by_cases c2 : k = 2
      · subst c2; simp [strV]
      · by_cases c3 : k = 3
        · subst c3
          have := sams_self L
          simpa [lisV] using this
        · right; rw [if_neg c1, if_neg c2, if_neg c3]
theorem sams_self : ∀ (a : List V), sams a (nrms a) = kins a ∨ kins a = false
  | [] => by left; rw [nrms_nil, sams_nil, kins_nil]
  | x :: xs => by
    rw [nrms_cons, sams_cons, kins_cons]
    rcases sam_self x with h | h
    · rcases sams_self xs with h2 | h2
      · left; rw [h, h2]
      · right; rw [h2, Bool.and_false]
    · right; rw [h, Bool.false_and]
end
theorem sam_back {v : V} (h : kin v = true) : sam v (nrm v) = true := by
  rcases sam_self v with h2 | h2
  · rw [h2, h]
  · rw [h2] at h; cases h
end Go.Proofs.YtcdfedbecgfanaaDoor.Pure
namespace Go.Proofs.YtcdfedbecgfanaaDoor
open Go.RowKit
def Veil (p : Prop) : Prop := Unit → p
theorem Veil.out {p : Prop} (h : Veil p) : p := h ()
theorem i64_in {n : Int} (h0 : -9223372036854775808 ≤ n) (h1 : n ≤ 9223372036854775807) : IntKind.i64.wrap n = n := by rw [IntKind.wrap_i64]; omega
theorem and_mask_i64 (x : Int) (i : Nat) (hi : i ≤ 62) : bits .and .i64 x ((2 ^ i - 1 : Nat) : Int) = x % ((2 ^ i : Nat) : Int) := by
  have hp : 0 < 2 ^ i := Nat.two_pow_pos i
  have hle : 2 ^ i ≤ 2 ^ 62 := Nat.pow_le_pow_right (by decide) hi
  show IntKind.i64.wrap ((BitVec.ofInt 64 x &&& BitVec.ofInt 64 ((2 ^ i - 1 : Nat) : Int)).toNat : Int) = _
  rw [BitVec.toNat_and, BitVec.ofInt_natCast, BitVec.toNat_ofNat, Nat.mod_eq_of_lt (by omega), BitVec.toNat_ofInt, Nat.and_two_pow_sub_one_eq_mod]
  have hm := Int.emod_nonneg x (show (18446744073709551616 : Int) ≠ 0 by decide)
  have hd : ((2 ^ i : Nat) : Int) ∣ 18446744073709551616 := by
    have : (2 ^ i : Nat) ∣ 2 ^ 64 := Nat.pow_dvd_pow 2 (by omega)
    exact Int.natCast_dvd_natCast.2 this
  have e : (((x % 18446744073709551616).toNat % 2 ^ i : Nat) : Int) = x % ((2 ^ i : Nat) : Int) := by
    rw [Int.natCast_emod, Int.toNat_of_nonneg hm]
    exact Int.emod_emod_of_dvd x hd
  have e' : (((x % ((2 ^ 64 : Nat) : Int)).toNat % 2 ^ i : Nat) : Int) = x % ((2 ^ i : Nat) : Int) := e
  rw [e']
  have h0 := Int.emod_nonneg x (show ((2 ^ i : Nat) : Int) ≠ 0 by omega)
  have h1 := Int.emod_lt_of_pos x (show (0 : Int) < ((2 ^ i : Nat) : Int) by omega)
  exact i64_in (by omega) (by omega)
def Blk (w : World) (b : Nat) (c : Array Value) (t : TypeId) : Prop := w.heap[b]? = some (.cells c t (0, 0))
theorem Blk.lt {w : World} {b : Nat} {c : Array Value} {t : TypeId} (h : Blk w b c t) : b < w.heap.size := (Array.getElem?_eq_some_iff.1 h).1
theorem Blk.cell {w : World} {b : Nat} {c : Array Value} {t : TypeId} (h : Blk w b c t) (i : Nat) : w.cell? ⟨b, i, none⟩ = c[i]? := by
  unfold Blk at h
  simp [World.cell?, h]
theorem Blk.free {w : World} {b : Nat} {c : Array Value} {t : TypeId} (h : Blk w b c t) (i : Nat) : w.frozen? ⟨b, i, none⟩ = false := by
  unfold Blk at h
  simp [World.frozen?, h]
theorem Blk.new (w : World) (c : Array Value) (t : TypeId) : Blk (w.alloc (.cells c t)) w.heap.size c t := by
  show (w.heap.push _)[w.heap.size]? = _
  rw [Array.getElem?_push, if_pos rfl]
theorem Blk.alloc {w : World} {b : Nat} {c : Array Value} {t : TypeId} (h : Blk w b c t) (o : Obj) : Blk (w.alloc o) b c t := by
  have := h.lt
  unfold Blk at *
  rw [Below.heap_alloc _ _ _ this]; exact h
theorem Blk.drew {w : World} {b : Nat} {c : Array Value} {t : TypeId} (h : Blk w b c t) : Blk w.drew b c t := h
theorem Blk.set {w : World} {b : Nat} {c : Array Value} {t : TypeId} (h : Blk w b c t) (i : Nat) (v : Value) : Blk (w.setCell ⟨b, i, none⟩ v) b (c.setIfInBounds i v) t := by
  unfold Blk at *
  simp [World.setCell, Array.getElem?_modify, h]
theorem Blk.below {w w' : World} {B b : Nat} {c : Array Value} {t : TypeId} (h : Blk w b c t) (hb : Below B w w') (hB : b < B) : Blk w' b c t := by
  unfold Blk at *
  rw [hb.block b hB]; exact h
def BlkM (w : World) (b : Nat) (c : Array Value) (t : TypeId) (f : Nat × Nat) : Prop := w.heap[b]? = some (.cells c t f)
theorem BlkM.lt {w : World} {b : Nat} {c : Array Value} {t : TypeId} {f : Nat × Nat} (h : BlkM w b c t f) : b < w.heap.size := (Array.getElem?_eq_some_iff.1 h).1
theorem BlkM.cell {w : World} {b : Nat} {c : Array Value} {t : TypeId} {f : Nat × Nat} (h : BlkM w b c t f) (i : Nat) : w.cell? ⟨b, i, none⟩ = c[i]? := by
  unfold BlkM at h
  simp [World.cell?, h]
theorem BlkM.free {w : World} {b : Nat} {c : Array Value} {t : TypeId} {f : Nat × Nat} (h : BlkM w b c t f) {i : Nat} (hi : i < f.1) : w.frozen? ⟨b, i, none⟩ = false := by
  unfold BlkM at h
  simp [World.frozen?, h]
  omega
theorem BlkM.new (w : World) (c : Array Value) (t : TypeId) (f : Nat × Nat) : BlkM (w.alloc (.cells c t f)) w.heap.size c t f := by
  show (w.heap.push _)[w.heap.size]? = _
  rw [Array.getElem?_push, if_pos rfl]
theorem BlkM.alloc {w : World} {b : Nat} {c : Array Value} {t : TypeId} {f : Nat × Nat} (h : BlkM w b c t f) (o : Obj) : BlkM (w.alloc o) b c t f := by
  have := h.lt
  unfold BlkM at *
  rw [Below.heap_alloc _ _ _ this]; exact h
theorem BlkM.drew {w : World} {b : Nat} {c : Array Value} {t : TypeId} {f : Nat × Nat} (h : BlkM w b c t f) : BlkM w.drew b c t f := h
theorem BlkM.set {w : World} {b : Nat} {c : Array Value} {t : TypeId} {f : Nat × Nat} (h : BlkM w b c t f) (i : Nat) (v : Value) : BlkM (w.setCell ⟨b, i, none⟩ v) b (c.setIfInBounds i v) t f := by
  unfold BlkM at *
  simp [World.setCell, Array.getElem?_modify, h]
theorem BlkM.below {w w' : World} {B b : Nat} {c : Array Value} {t : TypeId} {f : Nat × Nat} (h : BlkM w b c t f) (hb : Below B w w') (hB : b < B) : BlkM w' b c t f := by
  unfold BlkM at *
  rw [hb.block b hB]; exact h
def Later (w : World) : Type := { v : World // Below w.heap.size w v }
instance (w : World) : Nonempty (Later w) := ⟨⟨w, Below.refl _ _⟩⟩
theorem Later.call {P : Program} {f : FuncId} {args : Array Value} {w : World} {v : Value} {x : Later w}
    (h : Calls P f args x.1 fun e w' => e = .returned v ∧ Below x.1.heap.size x.1 w') : Calls P f args x.1 fun e w' => e = .returned v ∧ ∃ y : Later w, w' = y.1 :=
  h.mono fun _ w' ⟨he, hb⟩ => ⟨he, ⟨w', x.2.trans (hb.mono x.2.size)⟩, rfl⟩
theorem Later.cell {w : World} (x : Later w) {p : Addr} (hp : p.block < w.heap.size) : x.1.cell? p = w.cell? p := x.2.cell hp
end Go.Proofs.YtcdfedbecgfanaaDoor
namespace Go.Proofs.YtcdfedbecgfanaaDoor.Pure
open Go.RowKit Go.Lib Go.Proofs.YtcdfedbecgfanaaDoor.Giv Go.Proofs.YtcdfedbecgfanaaDoor.P Go.Proofs.YtcdfedbecgfanaaDoorW.PrintWords Go.Proofs.YtcdfedbecgfanaaDoorW.PrintLast Go.Proofs.YtcdfedbecgfanaaDoorW.PrintMore
set_option linter.unusedVariables false
set_option linter.unusedSimpArgs false
theorem fit_of {v : V} (ho : okV v = true) (hw : wt v ≤ 70368744177664) : fitV v = true := by unfold fitV; rw [ho, decide_eq_true hw]; rfl
theorem bytes_lit (l : List UInt8) : (⟨l.toArray⟩ : ByteArray).data.toList = l := by simp
theorem putM_of {v : V} (hk : kin v = true) (hd : dep v ≤ 8) (hl : (enc v).length ≤ 65536) : putM v = (⟨(enc v).toArray⟩, 0) := by
  have e : chk v 0 = 0 := by rw [chk_top, if_pos hk, if_neg (show ¬ 8 < dep v by omega)]
  unfold putM
  rw [if_pos e, if_pos hl]
theorem takeM_back {v : V} (hk : kin v = true) (ho : okV v = true) (hd : dep v ≤ 8) (hl : (enc v).length ≤ 65536) (rest : List UInt8) : takeM ⟨(enc v ++ rest).toArray⟩ = (nrm v, ((enc v).length : Int), 0) := by
  have hb := back (wt v) v (Nat.le_refl _) hk ho (tok_of_len v (by omega)) 8 hd rest
  unfold takeM
  rw [bytes_lit, hb]
  simp only [if_true]
  rw [if_pos hl]
def v0 : V := lisV [intV 12, strV ⟨#[97, 98]⟩]
theorem enc_v0 : enc v0 = [108, 105, 49, 50, 101, 50, 58, 97, 98, 101] := by
  unfold v0
  have h12 : itoa 12 = [49, 50] := by
    rw [itoa_pos (by decide), show (12 : Int).toNat = 12 from rfl, dd_big (by decide), dd_small (by decide)]
    rfl
  have h2 : itoa (((⟨#[97, 98]⟩ : ByteArray).size : Nat) : Int) = [50] := by
    rw [itoa_pos (by decide)]
    show decDigits 2 = _
    rw [dd_small (by decide)]
    rfl
  rw [enc_lis, encs_cons, encs_cons, encs_nil, enc_int, enc_str, h12, h2]
  rfl
theorem v0_facts : kin v0 = true ∧ okV v0 = true ∧ dep v0 ≤ 8 ∧ wt v0 ≤ 1000 := by
  unfold v0
  refine ⟨?_, ?_, ?_, ?_⟩
  · rw [kin_lis, kins_cons, kins_cons, kins_nil, kin_int, kin_str]; rfl
  · refine ok_lis ((okVs_cons _ _).2 ⟨ok_int (by decide) (by decide), (okVs_cons _ _).2 ⟨ok_str _, okVs_nil⟩⟩)
  · rw [dep_lis, deps_cons, deps_cons, deps_nil, dep_int, dep_str]; omega
  · rw [wt_eq]
    unfold lisV
    rw [wts_cons, wts_cons, wts_nil, wt_eq, wt_eq]
    unfold intV strV
    rw [wts_nil]
    decide
theorem awake_ev : Ev (fun k => ploverlaw02_awake.f k) true := by
  obtain ⟨hk, ho, hd, hw⟩ := v0_facts
  unfold ploverlaw02_awake.f
  have hput : benc_Put.f 3 0 (⟨#[]⟩ : ByteArray) [(⟨1, 12, (⟨#[]⟩ : ByteArray), ([] : List V)⟩ : V), (⟨2, 0, (⟨#[97, 98]⟩ : ByteArray), ([] : List V)⟩ : V)] = some (⟨#[108, 105, 49, 50, 101, 50, 58, 97, 98, 101]⟩, 0) := by
    have h := put_yes (fit_of ho (by omega))
    rw [putM_of hk hd (by rw [enc_v0]; decide), enc_v0] at h
    exact h
  have htake : benc_Take.f (⟨#[108, 105, 49, 50, 101, 50, 58, 97, 98, 101, 120]⟩ : ByteArray) = some (flat (nrm v0, 10, 0)) := by
    have h := takeM_back hk ho hd (by rw [enc_v0]; decide) [120]
    rw [enc_v0] at h
    rw [take_yes (by decide)]
    exact congrArg (fun x => some (flat x)) h
  have hs := same_ev (wt v0) v0 (nrm v0) (Nat.le_refl _) (by omega) (by
    unfold v0
    rw [nrm_eq]
    show wt (lisV (nrms [intV 12, strV ⟨#[97, 98]⟩])) ≤ _
    rw [nrms_cons, nrms_cons, nrms_nil, nrm_eq, nrm_eq]
    show wt (lisV [intV 12, strV ⟨#[97, 98]⟩]) ≤ _
    have := v0_facts.2.2.2
    unfold v0 at this
    omega)
  rw [sam_back hk] at hs
  refine Ev.congr (fun k => Option.bind_some _ _) ?_
  refine Ev.congr (fun k => by rw [hput, Option.bind_some, htake, Option.bind_some]) ?_
  refine Ev.congr (fun k => if_pos (by rw [toList_data])) ?_
  refine Ev.congr (fun k => if_pos rfl) ?_
  exact Ev.bind hs (Ev.congr (fun k => by rw [if_pos rfl]; exact if_pos rfl) (Ev.now _))
end Go.Proofs.YtcdfedbecgfanaaDoor.Pure
namespace Go.Proofs.YtcdfedbecgfanaaDoor.Pure
open Go.RowKit Go.Lib Go.Proofs.YtcdfedbecgfanaaDoor.Giv Go.Proofs.YtcdfedbecgfanaaDoor.P Go.Proofs.YtcdfedbecgfanaaDoorW.PrintWords Go.Proofs.YtcdfedbecgfanaaDoorW.PrintLast Go.Proofs.YtcdfedbecgfanaaDoorW.PrintMore
set_option linter.unusedVariables false
set_option linter.unusedSimpArgs false
def nest : Nat → V
  | 0 => lisV []
  | n + 1 => lisV [nest n]
theorem nest_facts : ∀ n, kin (nest n) = true ∧ okV (nest n) = true ∧ dep (nest n) = n + 1 ∧ (enc (nest n)).length = 2 * n + 2 ∧ wt (nest n) = 30 * (n + 1)
  | 0 => by
    unfold nest
    refine ⟨by rw [kin_lis, kins_nil], ok_lis okVs_nil, by rw [dep_lis, deps_nil], by rw [enc_lis, encs_nil]; rfl, ?_⟩
    rw [wt_eq]; unfold lisV; rw [wts_nil]; rfl
  | n + 1 => by
    obtain ⟨h1, h2, h3, h4, h5⟩ := nest_facts n
    unfold nest
    refine ⟨by rw [kin_lis, kins_cons, kins_nil, h1]; rfl, ok_lis ((okVs_cons _ _).2 ⟨h2, okVs_nil⟩), by rw [dep_lis, deps_cons, deps_nil, h3]; omega, by rw [enc_lis, encs_cons, encs_nil]; simp [h4]; omega, ?_⟩
    rw [wt_eq]
    unfold lisV
    show 30 + 2 * 0 + wts [nest n] = _
    rw [wts_cons, wts_nil, h5]
    omega
theorem deep_bad : ∀ (d m : Nat) (rest : List UInt8), d ≤ m → (valL d (enc (nest m) ++ rest)).1 = 22
  | 0, m, rest, _ => by
    cases m <;> (unfold nest; rw [enc_lis, List.cons_append, valL_cons, if_neg (by decide), if_neg (by decide), if_neg (by decide)])
  | d + 1, m, rest, h => by
    obtain ⟨m, rfl⟩ : ∃ q, m = q + 1 := ⟨m - 1, by omega⟩
    unfold nest
    rw [enc_lis, encs_cons, encs_nil, List.append_nil, List.cons_append, List.append_assoc, valL_cons, if_neg (by decide), if_neg (by decide), if_neg (by decide)]
    have hv := deep_bad d m ([101] ++ rest) (by omega)
    obtain ⟨c, t, e, hc⟩ := enc_head (nest m) (nest_facts m).1
    have hl : ∀ k, (listL (valL d) (k + 1) (enc (nest m) ++ ([101] ++ rest))).1 = 22 := by
      intro k
      have e1 : enc (nest m) ++ ([101] ++ rest) = c :: (t ++ ([101] ++ rest)) := by rw [e]; rfl
      rw [e1] at hv ⊢
      rw [listL, if_neg hc, if_neg (by rw [hv]; decide), hv]
    have hlen : ∃ k, (enc (nest m) ++ ([101] ++ rest)).length = k + 1 := ⟨(enc (nest m) ++ ([101] ++ rest)).length - 1, by rw [List.length_append, (nest_facts m).2.2.2.1]; omega⟩
    obtain ⟨k, hk⟩ := hlen
    dsimp only
    rw [hk, if_neg (by rw [hl k]; decide), hl k]
theorem and3 (x : Int) : ∃ j : Nat, Go.bits .and .i64 x 3 = (j : Int) ∧ j ≤ 3 := by
  have h := and_mask_i64 x 2 (by decide)
  have e : (((2 ^ 2 - 1 : Nat)) : Int) = 3 := by decide +kernel
  have e2 : (((2 ^ 2 : Nat)) : Int) = 4 := by decide +kernel
  rw [e, e2] at h
  rw [h]
  have h1 := Int.emod_nonneg x (show (4 : Int) ≠ 0 by decide)
  have h2 := Int.emod_lt_of_pos x (show (0 : Int) < 4 by decide)
  exact ⟨(x % 4).toNat, by omega, by omega⟩
theorem dd_five {u : Nat} (h0 : 10000 ≤ u) (h1 : u < 100000) : (decDigits u).length = 5 := by
  rw [dd_big (by omega), dd_big (by omega), dd_big (by omega), dd_big (by omega), dd_small (by omega)]
  rfl
theorem deep_loop (j : Nat) (hj : j ≤ 3) : ∀ (d i : Nat), 6 + j - i ≤ d → i ≤ 6 + j → ∀ s : ByteArray, (i = 0 ∧ s = ⟨#[]⟩ ∨ ∃ q, i = q + 1 ∧ s = ⟨(enc (nest q)).toArray⟩) → Ev (fun k => ploverlaw02_BencLong.l0 k (j : Int) s (i : Int)) true := by
  intro d
  have fin : ∀ s : ByteArray, (∃ q, 6 + j = q + 1 ∧ s = ⟨(enc (nest q)).toArray⟩) → Ev (fun k => ploverlaw02_BencLong.l0 k (j : Int) s ((6 + j : Nat) : Int)) true := by
    rintro s ⟨q, hq, rfl⟩
    obtain ⟨h1, h2, h3, h4, h5⟩ := nest_facts q
    have hsz : (⟨(enc (nest q)).toArray⟩ : ByteArray).size = (enc (nest q)).length := by show ((enc (nest q)).toArray).size = _; simp
    refine Ev.step (f := fun k => (ploverlaw02_awake.f k).bind fun t => some t) (fun k => ?_) (Ev.bind awake_ev (Ev.now _))
    simp only [ploverlaw02_BencLong.l0]
    rw [w64 (by omega) (by omega), if_neg (by omega), take_yes (by rw [hsz]; omega), Option.bind_some]
    by_cases h : (j : Int) > 2
    · rw [if_pos h]
      have hb := deep_bad 8 q [] (by omega)
      rw [List.append_nil] at hb
      have ht : takeM ⟨(enc (nest q)).toArray⟩ = (zV, 0, 22) := by
        unfold takeM
        rw [bytes_lit, hb, if_neg (by decide)]
      rw [ht]
      unfold flat
      simp only
      rw [if_pos trivial, if_pos trivial]
    · rw [if_neg h]
      have ht := takeM_back h1 h2 (by omega) (by omega) []
      rw [List.append_nil] at ht
      rw [ht, hsz]
      unfold flat
      simp only
      rw [if_pos trivial, if_pos trivial]
  induction d with
  | zero =>
    intro i h1 h2 s hs
    obtain rfl : i = 6 + j := by omega
    rcases hs with ⟨h, _⟩ | h
    · omega
    · exact fin s h
  | succ d ih =>
    intro i h1 h2 s hs
    by_cases he : i = 6 + j
    · subst he
      rcases hs with ⟨h, _⟩ | h
      · omega
      · exact fin s h
    · have hn : ∃ q, i + 1 = q + 1 ∧ ((⟨#[108]⟩ : ByteArray) ++ s) ++ (⟨#[101]⟩ : ByteArray) = ⟨(enc (nest q)).toArray⟩ := by
        refine ⟨i, rfl, data_ext ?_⟩
        rw [Giv.data_app, Giv.data_app, bytes_lit]
        rcases hs with ⟨rfl, rfl⟩ | ⟨q, rfl, rfl⟩
        · unfold nest
          rw [enc_lis, encs_nil]
          rfl
        · rw [show nest (q + 1) = lisV [nest q] from rfl, enc_lis, encs_cons, encs_nil, bytes_lit, List.append_nil]
          rfl
      have hsz : s.size ≤ 100 := by
        rcases hs with ⟨rfl, rfl⟩ | ⟨q, rfl, rfl⟩
        · decide
        · show ((enc (nest q)).toArray).size ≤ _
          rw [List.size_toArray, (nest_facts q).2.2.2.1]
          omega
      refine Ev.step (f := fun k => ploverlaw02_BencLong.l0 k (j : Int) (((⟨#[108]⟩ : ByteArray) ++ s) ++ (⟨#[101]⟩ : ByteArray)) ((i + 1 : Nat) : Int)) (fun k => ?_) (ih (i + 1) (by omega) (by omega) _ (.inr hn))
      simp only [ploverlaw02_BencLong.l0]
      rw [w64 (n := 6 + (j : Int)) (by omega) (by omega), if_pos (by omega), if_pos (by omega), if_pos (by rw [ByteArray.size_append]; show 1 + s.size + 1 ≤ _; omega), w64 (n := (i : Int) + 1) (by omega) (by omega)]
      rfl
theorem BencLong : ploverlaw02_BencLong.Pure := by
  intro a0 a1 h0 h1
  refine Ev.rounds ?_
  obtain ⟨j, hj, hj3⟩ := and3 a1
  unfold ploverlaw02_BencLong.f
  rw [hj]
  by_cases hw : Go.bits .and .i64 a0 1 = 0
  · refine Ev.congr (fun k => if_pos hw) ?_
    have w1 : wrap64 (65528 + (j : Int)) = ((65528 + j : Nat) : Int) := by rw [w64 (by omega) (by omega)]; omega
    have w2 : wrap64 (65534 + (j : Int)) = ((65534 + j : Nat) : Int) := by rw [w64 (by omega) (by omega)]; omega
    rw [w1, w2, Int.toNat_natCast]
    have hsz : (strOfNums (List.replicate (65528 + j) 0)).size = 65528 + j := by rw [strOfNums_size, List.length_replicate]
    have hle : (65528 + j : Nat) ≤ 281474976710656 := by omega
    refine Ev.congr (fun k => by rw [if_pos (by omega), if_pos hle, Option.bind_some]) ?_
    generalize strOfNums (List.replicate (65528 + j) 0) = s at *
    have he : (enc (strV s)).length = 65534 + j := by
      rw [enc_str, itoa_pos (by omega), Int.toNat_natCast, List.length_append, List.length_cons, data_size, hsz, dd_five (by omega) (by omega)]
      omega
    have hwt : wt (strV s) = 30 + 2 * s.size := by rw [wt_eq]; unfold strV; simp [wts_nil]
    have hp := put_yes (v := strV s) (fit_of (ok_str s) (by rw [hwt]; omega))
    have hp' : benc_Put.f 2 0 s ([] : List V) = some (putM (strV s)) := hp
    refine Ev.congr (fun k => by rw [hp', Option.bind_some]) ?_
    by_cases h2 : (j : Int) > 2
    · have hpm : putM (strV s) = (⟨#[]⟩, 23) := by
        have e : chk (strV s) 0 = 0 := by rw [chk_top, kin_str, if_pos rfl, dep_str, if_neg (by decide)]
        unfold putM
        rw [if_pos e, if_neg (by omega)]
      rw [hpm]
      exact Ev.congr (fun k => by rw [if_pos h2, if_pos toList0, if_pos rfl]) (Ev.bind awake_ev (Ev.now _))
    · have hpm := putM_of (kin_str s) (by rw [dep_str]; omega) (show (enc (strV s)).length ≤ 65536 by omega)
      have ht := takeM_back (kin_str s) (ok_str s) (by rw [dep_str]; omega) (show (enc (strV s)).length ≤ 65536 by omega) []
      rw [List.append_nil] at ht
      have hes : (⟨(enc (strV s)).toArray⟩ : ByteArray).size = 65534 + j := by show ((enc (strV s)).toArray).size = _; simp [he]
      have hn : nrm (strV s) = strV s := by rw [nrm_eq]; rfl
      rw [hpm]
      refine Ev.congr (fun k => ?_) (Ev.bind awake_ev (Ev.now true))
      rw [if_neg h2, take_yes (by rw [hes]; omega), Option.bind_some, ht, hn, hes, he]
      unfold flat
      simp only
      rw [if_pos trivial, if_pos trivial, if_pos (show (strV s).f2.toList = s.toList from rfl), if_pos trivial, if_pos trivial]
  · refine Ev.congr (fun k => if_neg hw) ?_
    exact deep_loop j hj3 (6 + j) 0 (by omega) (by omega) ⟨#[]⟩ (.inl ⟨rfl, rfl⟩)
end Go.Proofs.YtcdfedbecgfanaaDoor.Pure
namespace Go.Proofs.YtcdfedbecgfanaaDoor.Lay
open Go.RowKit Go.Lib
def LL : List (String × DataW Unit) := [("math/bits.deBruijn32tab", Rows.laid_math_bits_deBruijn32tab), ("math/bits.deBruijn64tab", Rows.laid_math_bits_deBruijn64tab), ("internal/strconv.uint64pow10", Rows.laid_internal_strconv_uint64pow10)]
def cellsOf : DataW Unit → List Value
  | .agg l => l.map fun | .lit (.int k z) => .int k z | _ => .nilIface
  | _ => []
noncomputable def laidWorld (os : Os) : World :=
  let w0 := World.holding Tryd.prog os ⟨#[], #[], []⟩
  let put (h : Array Obj) (g : Nat) (cs : Array Value) : Array Obj := h.modify g fun
    | .cells _ t frozen => .cells cs t frozen
    | o => o
  let h1 := put w0.heap 1 (cellsOf Rows.laid_math_bits_deBruijn32tab).toArray
  let h2 := put h1 2 (cellsOf Rows.laid_math_bits_deBruijn64tab).toArray
  let h3 := put h2 0 (cellsOf Rows.laid_internal_strconv_uint64pow10).toArray
  { w0 with heap := h3 }
theorem laid_met (os : Os) (args : Array Value) : laidMet Tryd.prog LL ((laidWorld os).forCall (fun _ _ => 0) ⟨#[], args, []⟩).memory :=
  (LaidIn.of_run (l := LL) [1, 2, 0] 8 (by kernel_rfl) (by kernel_rfl) (by kernel_rfl) (by kernel_rfl)).met
theorem eqP : (Rows.laid_internal_strconv_uint64pow10 : DataW Unit) = Lib.tabData .u64 Lib.pow10Tab := by kernel_rfl
theorem tabIs_of_reads {name : String} {k : IntKind} {zs : List Int} {W : World} {g : Nat} {t e : TypeId} {n : Nat} (hg : Tryd.prog.globalNamed name = some g) (hty : (Tryd.prog.globals[g]?).map (·.type) = some t) (ht : Tryd.prog.underlying t = some (.array n e)) (he : Tryd.prog.underlying e = some (.int k)) (hce : Tryd.prog.cellsOf e = 1) (hct : Tryd.prog.cellsOf t = n)
    (h : VarReads Tryd.prog W name (tabData k zs)) : Lib.TabIs Tryd.prog W name k zs := by
  obtain ⟨g', t', cs, fuel, p, h1, h2, h3, h4⟩ := h
  obtain rfl : g' = g := by rw [hg] at h1; exact (Option.some.inj h1).symm
  obtain rfl : t' = t := by rw [hty] at h2; exact (Option.some.inj h2).symm
  have := cells_of_tab ht he hce hct h4
  unfold Lib.TabIs
  rw [h3]
  congr 1
  apply Array.toList_inj.1
  rw [this]
theorem laidW_of {W : World} (hL : laidMetH Tryd.prog LL W) : Giv.LaidW W := by
  have h1 := Lib.laidMet.reads hL (.tail _ (.tail _ (.head _)))
  rw [eqP] at h1
  exact tabIs_of_reads (t := 83) (e := 76) (n := 20) Giv.pow10_named (by kernel_rfl) Tryd.underlying83 Tryd.underlying76 (by kernel_rfl) (by kernel_rfl) h1
theorem own : ownKnob Tryd.prog.godebug = none := by kernel_rfl
theorem laidOut : laidOutB Tryd.prog = true := by kernel_rfl
end Go.Proofs.YtcdfedbecgfanaaDoor.Lay
