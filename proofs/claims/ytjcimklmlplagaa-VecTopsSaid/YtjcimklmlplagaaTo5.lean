/- Texts put together by prune.py: Px6, VecP, Opn, VecOp. -/
import Derived.ChangeArms
import Derived.DataReads
import Derived.SizedLaws
import Derived.Test.YtjcimklmlplagaaTo4
namespace Go.Proofs.Ytjcimklmlplagaa.P
open Go.RowKit Go.Proofs.YtjcimklmlplagaaW.PrintWords Go.Proofs.YtjcimklmlplagaaW.PrintLast Go.Proofs.YtjcimklmlplagaaW.PrintMore
attribute [local go_sem] max2_int min2_int max_two min_two max_three min_three max_four min_four   -- for this text's walks alone
set_option linter.unusedVariables false
set_option linter.unusedSimpArgs false
open Go.Proofs.Ytjcimklmlplagaa.Giv
def ploverlaw05_VecFew.f (k : Nat) (l0 : List (S32)) (a1 : Int) (a2 : Int) : Option (Bool) := if (l0.length : Int) > 100 then ((ploverlaw05_tops.f k).bind fun t206 => (some t206)) else ((vec_Top.f l0 (mn (Go.bits .and .i64 a1 63) (Go.bits .and .i64 a2 63))).bind fun bt207 => ((vec_Top.f l0 (mx (Go.bits .and .i64 a1 63) (Go.bits .and .i64 a2 63))).bind fun bt211 => (if bt207.2 = 0 then (if bt211.2 = 0 then (if (bt207.1.length : Int) = (mn (mn (Go.bits .and .i64 a1 63) (Go.bits .and .i64 a2 63)) (bt211.1.length : Int)) then (if 0 ≤ (bt207.1.length : Int) then (if (bt207.1.length : Int) ≤ (bt211.1.length : Int) then ((ploverref05_Same.f k bt207.1 (bt211.1.take ((bt207.1.length : Int) : Int).toNat)).bind fun t219 => (if t219 = true then ((ploverlaw05_tops.f k).bind fun t220 => (some t220)) else (some false))) else (none)) else (none)) else (some false)) else (some false)) else (some false))))
set_option maxHeartbeats 8000000 in
set_option maxRecDepth 100000 in
theorem ploverlaw05_VecFew.calls (k : Nat) (A0 : Option Addr) (c0 : Nat) (l0 : List (S32)) (a1 : Int) (a2 : Int) (r : Bool) (w : World) (hr0 : Kd.C k32 w A0 l0.length l0) (hc0 : l0.length ≤ c0) (h : ploverlaw05_VecFew.f k l0 a1 a2 = some r) :
    Calls Try.prog 5 #[.slice A0 l0.length c0, .int .i64 a1, .int .i64 a2] w fun e w' => e = .returned (.bool r) ∧ Below w.heap.size w w' := by
  have HR0 := Aside0.mk hr0
  have HC0 := Aside0.mk hc0
  clear hr0 hc0
  have HB := Aside0.mk (Below.refl w.heap.size w)
  have H : (if (l0.length : Int) > 100 then ((ploverlaw05_tops.f k).bind fun t206 => (some t206)) else ((vec_Top.f l0 (mn (Go.bits .and .i64 a1 63) (Go.bits .and .i64 a2 63))).bind fun bt207 => ((vec_Top.f l0 (mx (Go.bits .and .i64 a1 63) (Go.bits .and .i64 a2 63))).bind fun bt211 => (if bt207.2 = 0 then (if bt211.2 = 0 then (if (bt207.1.length : Int) = (mn (mn (Go.bits .and .i64 a1 63) (Go.bits .and .i64 a2 63)) (bt211.1.length : Int)) then (if 0 ≤ (bt207.1.length : Int) then (if (bt207.1.length : Int) ≤ (bt211.1.length : Int) then ((ploverref05_Same.f k bt207.1 (bt211.1.take ((bt207.1.length : Int) : Int).toNat)).bind fun t219 => (if t219 = true then ((ploverlaw05_tops.f k).bind fun t220 => (some t220)) else (some false))) else (none)) else (none)) else (some false)) else (some false)) else (some false))))) = some r := h
  clear h
  by_cases c4 : (l0.length : Int) > 100
  · rw [if_pos c4] at H
    have c4b0 : decide (100 < (l0.length : Int)) = true := decide_eq_true c4
    have c4b1 : decide (100 < l0.length) = true := decide_eq_true (by omega)
    clear c4
    replace H := Option.bind_eq_some_iff.mp H
    obtain ⟨t206, A50, H⟩ := H
    replace H : (some t206) = some r := H
    have A5 := Aside0.mk A50
    clear A50
    obtain rfl := Option.some.inj H
    go_enter Try.func5, Try.ntmps5
    go_wp2_with (first | ((with_reducible refine gate_callee (f := 8) rfl ?_); refine goesL_ (some 16) rfl rfl Try.func8 (by kernel_rfl) rfl #[] rfl (by (try simp only [List.map_toArray, List.map_cons, List.map_nil]); first | done | rfl | (simp only [List.length_drop, List.length_take]; rfl)) ?_; (with_reducible refine (ploverlaw05_tops.calls k  t206 _ A5.out).mono ?_); rintro e w6 ⟨rfl, hb⟩; refine ⟨_, rfl, ?_⟩; have n0_ := Aside0.mk (below_step (by repeat (first | (with_reducible first | exact HB.out | apply below_alloc | apply pw_below_drewN | apply below_drew1) | exact HB.out)) hb); clear HB; have HB := n0_; clear n0_; (try clear hb); (try clear hb2); (try clear hk); (try clear hi)))
    go_ret
    exact ⟨by first | rfl | (simp [errW_none, errW_some] <;> rfl) | (simp [*, errW_none, errW_some] <;> rfl), by repeat (first | (with_reducible first | exact HB.out | apply below_alloc | apply pw_below_drewN | apply below_drew1) | exact HB.out)⟩
  · rw [if_neg c4] at H
    have c4b0 : decide (100 < (l0.length : Int)) = false := decide_eq_false c4
    have c4b1 : decide (100 < l0.length) = false := decide_eq_false (by omega)
    clear c4
    obtain ⟨ji7, hji7⟩ : ∃ j_ : Int, (mn (Go.bits .and .i64 a1 63) (Go.bits .and .i64 a2 63)) = j_ := ⟨_, rfl⟩
    replace H : ((vec_Top.f l0 (ji7)).bind fun bt207 => ((vec_Top.f l0 (mx (Go.bits .and .i64 a1 63) (Go.bits .and .i64 a2 63))).bind fun bt211 => (if bt207.2 = 0 then (if bt211.2 = 0 then (if (bt207.1.length : Int) = (mn (ji7) (bt211.1.length : Int)) then (if 0 ≤ (bt207.1.length : Int) then (if (bt207.1.length : Int) ≤ (bt211.1.length : Int) then ((ploverref05_Same.f k bt207.1 (bt211.1.take ((bt207.1.length : Int) : Int).toNat)).bind fun t219 => (if t219 = true then ((ploverlaw05_tops.f k).bind fun t220 => (some t220)) else (some false))) else (none)) else (none)) else (some false)) else (some false)) else (some false)))) = some r := by first | (rw [hji7] at H; exact H) | (simp only [hji7] at H ⊢; exact H)
    have hji7_ : (if (Go.bits .and .i64 a2 63) < (Go.bits .and .i64 a1 63) then (Go.bits .and .i64 a2 63) else (Go.bits .and .i64 a1 63)) = ji7 := hji7
    obtain ⟨ji8, hji8⟩ : ∃ j_ : Int, (mx (Go.bits .and .i64 a1 63) (Go.bits .and .i64 a2 63)) = j_ := ⟨_, rfl⟩
    replace H : ((vec_Top.f l0 (ji7)).bind fun bt207 => ((vec_Top.f l0 (ji8)).bind fun bt211 => (if bt207.2 = 0 then (if bt211.2 = 0 then (if (bt207.1.length : Int) = (mn (ji7) (bt211.1.length : Int)) then (if 0 ≤ (bt207.1.length : Int) then (if (bt207.1.length : Int) ≤ (bt211.1.length : Int) then ((ploverref05_Same.f k bt207.1 (bt211.1.take ((bt207.1.length : Int) : Int).toNat)).bind fun t219 => (if t219 = true then ((ploverlaw05_tops.f k).bind fun t220 => (some t220)) else (some false))) else (none)) else (none)) else (some false)) else (some false)) else (some false)))) = some r := by first | (rw [hji8] at H; exact H) | (simp only [hji8] at H ⊢; exact H)
    have hji8_ : (if (Go.bits .and .i64 a1 63) < (Go.bits .and .i64 a2 63) then (Go.bits .and .i64 a2 63) else (Go.bits .and .i64 a1 63)) = ji8 := hji8
    replace H := Option.bind_eq_some_iff.mp H
    obtain ⟨⟨t207, t208⟩, A90, H⟩ := H
    replace H : ((vec_Top.f l0 (ji8)).bind fun bt211 => (if t208 = 0 then (if bt211.2 = 0 then (if (t207.length : Int) = (mn (ji7) (bt211.1.length : Int)) then (if 0 ≤ (t207.length : Int) then (if (t207.length : Int) ≤ (bt211.1.length : Int) then ((ploverref05_Same.f k t207 (bt211.1.take ((t207.length : Int) : Int).toNat)).bind fun t219 => (if t219 = true then ((ploverlaw05_tops.f k).bind fun t220 => (some t220)) else (some false))) else (none)) else (none)) else (some false)) else (some false)) else (some false))) = some r := H
    have A9 := Aside0.mk A90
    clear A90
    replace H := Option.bind_eq_some_iff.mp H
    obtain ⟨⟨t211, t212⟩, A100, H⟩ := H
    replace H : (if t208 = 0 then (if t212 = 0 then (if (t207.length : Int) = (mn (ji7) (t211.length : Int)) then (if 0 ≤ (t207.length : Int) then (if (t207.length : Int) ≤ (t211.length : Int) then ((ploverref05_Same.f k t207 (t211.take ((t207.length : Int) : Int).toNat)).bind fun t219 => (if t219 = true then ((ploverlaw05_tops.f k).bind fun t220 => (some t220)) else (some false))) else (none)) else (none)) else (some false)) else (some false)) else (some false)) = some r := H
    have A10 := Aside0.mk A100
    clear A100
    by_cases c11 : t208 = 0
    · rw [if_pos c11] at H
      have c11b0 : (t208 == 0) = true := beq_iff_eq.mpr c11
      have c11b1 : (t208 != 0) = false := bne_eq_false_iff_eq.mpr c11
      clear c11
      by_cases c12 : t212 = 0
      · rw [if_pos c12] at H
        have c12b0 : (t212 == 0) = true := beq_iff_eq.mpr c12
        have c12b1 : (t212 != 0) = false := bne_eq_false_iff_eq.mpr c12
        clear c12
        obtain ⟨ji13, hji13⟩ : ∃ j_ : Int, (mn (ji7) (t211.length : Int)) = j_ := ⟨_, rfl⟩
        replace H : (if (t207.length : Int) = (ji13) then (if 0 ≤ (t207.length : Int) then (if (t207.length : Int) ≤ (t211.length : Int) then ((ploverref05_Same.f k t207 (t211.take ((t207.length : Int) : Int).toNat)).bind fun t219 => (if t219 = true then ((ploverlaw05_tops.f k).bind fun t220 => (some t220)) else (some false))) else (none)) else (none)) else (some false)) = some r := by first | (rw [hji13] at H; exact H) | (simp only [hji13] at H ⊢; exact H)
        (try rw [hji13] at A9)
        (try rw [hji13] at A10)
        have hji13_ : (if (t211.length : Int) < (ji7) then (t211.length : Int) else (ji7)) = ji13 := hji13
        by_cases c14 : (t207.length : Int) = (ji13)
        · rw [if_pos c14] at H
          have c14b0 : ((t207.length : Int) == (ji13)) = true := beq_iff_eq.mpr c14
          have c14b1 : ((t207.length : Int) != (ji13)) = false := bne_eq_false_iff_eq.mpr c14
          clear c14
          by_cases c15 : 0 ≤ (t207.length : Int)
          · rw [if_pos c15] at H
            have c15b0 := eq_true c15
            have c15b1 : decide (0 ≤ (t207.length : Int)) = true := decide_eq_true c15
            clear c15
            by_cases c16 : (t207.length : Int) ≤ (t211.length : Int)
            · rw [if_pos c16] at H
              have c16b0 := eq_true c16
              have c16b1 : decide ((t207.length : Int) ≤ (t211.length : Int)) = true := decide_eq_true c16
              clear c16
              obtain ⟨y215, hy215⟩ : ∃ y_ : List (S32), y_ = (t211.take ((t207.length : Int) : Int).toNat) := ⟨_, rfl⟩
              replace H : ((ploverref05_Same.f k t207 y215).bind fun t219 => (if t219 = true then ((ploverlaw05_tops.f k).bind fun t220 => (some t220)) else (some false))) = some r := by first | (rw [hy215]; with_reducible exact H) | (have H2_ := (Option.bind_some _ _).symm.trans H; rw [hy215]; with_reducible exact H2_) | (have H2_ := (Option.bind_some _ _).symm.trans H; with_reducible exact H2_) | with_reducible exact H | (rw [hy215]; exact H) | exact H
              have Ny215 := Aside0.mk hy215
              clear hy215
              replace H := Option.bind_eq_some_iff.mp H
              obtain ⟨t219, A170, H⟩ := H
              replace H : (if t219 = true then ((ploverlaw05_tops.f k).bind fun t220 => (some t220)) else (some false)) = some r := H
              have A17 := Aside0.mk A170
              clear A170
              by_cases c18 : t219 = true
              · subst c18
                have H1 : ((ploverlaw05_tops.f k).bind fun t220 => (some t220)) = some r := by rw [if_pos rfl] at H; exact H
                clear H
                have H := H1
                clear H1
                replace H := Option.bind_eq_some_iff.mp H
                obtain ⟨t220, A190, H⟩ := H
                replace H : (some t220) = some r := H
                have A19 := Aside0.mk A190
                clear A190
                obtain rfl := Option.some.inj H
                go_enter Try.func5, Try.ntmps5
                go_wp2_with (first | ((with_reducible refine gate_callee (f := 9) rfl ?_); refine goesL_ (some 30) rfl rfl Try.func9 (by kernel_rfl) rfl #[.slice A0 l0.length c0, .int .i64 ji7] rfl (by (try simp only [List.map_toArray, List.map_cons, List.map_nil]); first | done | (simp only [hji7]; rfl) | rfl | (simp only [List.length_drop, List.length_take]; rfl)) ?_; (with_reducible refine (vec_Top.calls _ _ l0 ji7 t207 t208 _ ?side1 ?side2 A9.out).mono ?_); (case side1 => repeat (first | exact HR0.out | (with_reducible refine Kd.C_alloc ?_ _) | (with_reducible refine Kd.C_drewN ?_ _) | (with_reducible refine Kd.C_drew ?_))); (case side2 => exact HC0.out); rintro e w20 ⟨v209, rfl, ho0, hb⟩; refine ⟨_, rfl, ?_⟩; have n0_ := Aside0.mk (Kd.R_lower ho0 (below_size (by repeat (first | (with_reducible first | exact HB.out | apply below_alloc | apply pw_below_drewN | apply below_drew1) | exact HB.out)))); have n1_ := Aside0.mk (below_step (by repeat (first | (with_reducible first | exact HB.out | apply below_alloc | apply pw_below_drewN | apply below_drew1) | exact HB.out)) hb); clear HB; have HO210 := n0_; have HB := n1_; clear n0_ n1_; (try clear hb); (try clear hb2); (try clear hk); (try clear hi); (try clear ho0)) | ((with_reducible refine gate_callee (f := 9) rfl ?_); refine goesL_ (some 36) rfl rfl Try.func9 (by kernel_rfl) rfl #[.slice A0 l0.length c0, .int .i64 ji8] rfl (by (try simp only [List.map_toArray, List.map_cons, List.map_nil]); first | done | (simp only [hji8]; rfl) | rfl | (simp only [List.length_drop, List.length_take]; rfl)) ?_; (with_reducible refine (vec_Top.calls _ _ l0 ji8 t211 t212 _ ?side1 ?side2 A10.out).mono ?_); (case side1 => repeat (first | exact (Kd.C_below HR0.out HB.out) | (with_reducible refine Kd.C_alloc ?_ _) | (with_reducible refine Kd.C_drewN ?_ _) | (with_reducible refine Kd.C_drew ?_))); (case side2 => exact HC0.out); rintro e w21 ⟨v213, rfl, ho0, hb⟩; refine ⟨_, rfl, ?_⟩; have n0_ := Aside0.mk (Kd.R_elder' (by (with_reducible repeat (first | apply Kd.R_alloc | apply Kd.R_drewN | apply Kd.R_drew)); exact HO210.out) (Kd.R_base ho0) hb); have n1_ := Aside0.mk (Kd.R_lower (Kd.R_new' ho0 (Kd.R_lt (by (with_reducible repeat (first | apply Kd.R_alloc | apply Kd.R_drewN | apply Kd.R_drew)); exact HO210.out))) (below_size (by repeat (first | (with_reducible first | exact HB.out | apply below_alloc | apply pw_below_drewN | apply below_drew1) | exact HB.out)))); have n2_ := Aside0.mk (below_step (by repeat (first | (with_reducible first | exact HB.out | apply below_alloc | apply pw_below_drewN | apply below_drew1) | exact HB.out)) hb); clear HO210; clear HB; have HO210 := n0_; have HO214 := n1_; have HB := n2_; clear n0_ n1_ n2_; (try clear hb); (try clear hb2); (try clear hk); (try clear hi); (try clear ho0); obtain ⟨Ao22, co22, eo22⟩ := Kd.R_slice HO210.out; subst eo22; obtain ⟨Ao23, co23, eo23⟩ := Kd.R_slice HO214.out; subst eo23; have q24 : ((t207.length : Int) : Int) ≤ ((t211.length : Int) : Int) := of_decide_eq_true (by first | (with_reducible assumption) | assumption); obtain ⟨i024, hi024, _, hsz24, _⟩ := info_parts info32; have hroom24 : t211.length ≤ co23 := (Kd.R_reads' HO214.out).2.1; have hC24 : Kd.C k32 _ Ao23 t211.length t211 := (Kd.R_reads' HO214.out).2.2; have hcut24 := cut_to (P := Try.prog) 22 32 .i64 Try.underlying22 hi024 Ao23 t211.length co23 (t207.length : Int) (of_decide_eq_true (by first | (with_reducible assumption) | assumption)) q24 hroom24; have hr24 := Kd.C_take (m := ((t207.length : Int) : Int).toNat) hC24 (by omega); have hy24 : y215.length = ((t207.length : Int) : Int).toNat := (by rw [Ny215.out, List.length_take]; omega); rw [← Ny215.out] at hr24; rw [← hy24] at hcut24; have HR218 := Aside0.mk hr24; have HC218 := Aside0.mk (show y215.length ≤ co23 from by omega); clear hr24 hC24 hroom24 hi024 hsz24; have KY24 := Aside0.mk hy24; clear hy24; have KL24 := Aside0.mk (show ((t207.length : Int) : Int).toNat ≤ t211.length from by omega); replace q24 := eq_true q24) | (go_at_call 11; (with_reducible refine (ploverref05_Same.calls k _ _ t207 _ _ y215 true _ ?side1 ?side2 ?side3 ?side4 A17.out).mono ?_); (case side1 => repeat (first | exact (Kd.R_reads' HO210.out).2.2 | (with_reducible refine Kd.C_alloc ?_ _) | (with_reducible refine Kd.C_drewN ?_ _) | (with_reducible refine Kd.C_drew ?_))); (case side2 => exact (Kd.R_reads' HO210.out).2.1); (case side3 => repeat (first | exact (by repeat (first | (with_reducible exact HR218.out) | (with_reducible refine Kd.C_alloc ?_ _) | (with_reducible refine Kd.C_drewN ?_ _) | (with_reducible refine Kd.C_drew ?_) | exact HR218.out)) | (with_reducible refine Kd.C_alloc ?_ _) | (with_reducible refine Kd.C_drewN ?_ _) | (with_reducible refine Kd.C_drew ?_))); (case side4 => exact HC218.out); rintro e w' ⟨rfl, ⟨nd, rfl⟩⟩) | (go_at_call 8; (with_reducible refine (ploverlaw05_tops.calls k  t220 _ A19.out).mono ?_); rintro e w25 ⟨rfl, hb⟩; have n0_ := Aside0.mk (Kd.R_below (by (with_reducible repeat (first | apply Kd.R_alloc | apply Kd.R_drewN | apply Kd.R_drew)); exact HO210.out) hb); have n1_ := Aside0.mk (Kd.R_below (by (with_reducible repeat (first | apply Kd.R_alloc | apply Kd.R_drewN | apply Kd.R_drew)); exact HO214.out) hb); have n2_ := Aside0.mk (Kd.C_below (by repeat (first | (with_reducible exact HR218.out) | (with_reducible refine Kd.C_alloc ?_ _) | (with_reducible refine Kd.C_drewN ?_ _) | (with_reducible refine Kd.C_drew ?_) | exact HR218.out)) hb); have n3_ := Aside0.mk (below_step (by repeat (first | (with_reducible first | exact HB.out | apply below_alloc | apply pw_below_drewN | apply below_drew1) | exact HB.out)) hb); clear HO210; clear HO214; clear HR218; clear HB; have HO210 := n0_; have HO214 := n1_; have HR218 := n2_; have HB := n3_; clear n0_ n1_ n2_ n3_; (try clear hb); (try clear hb2); (try clear hk); (try clear hi)))
                go_ret
                exact ⟨by first | rfl | (simp [errW_none, errW_some] <;> rfl) | (simp only [← hji7, ← hji8, ← hji13]; first | rfl | (simp [errW_none, errW_some] <;> rfl)) | (simp [*, errW_none, errW_some] <;> rfl), by repeat (first | (with_reducible first | exact HB.out | apply below_alloc | apply pw_below_drewN | apply below_drew1) | exact HB.out)⟩
              · replace c18 := Bool.eq_false_iff.mpr c18
                subst c18
                have H1 : (some false) = some r := by rw [if_neg (show ¬ (false = true) by decide)] at H; exact H
                clear H
                have H := H1
                clear H1
                obtain rfl := Option.some.inj H
                go_enter Try.func5, Try.ntmps5
                go_wp2_with (first | ((with_reducible refine gate_callee (f := 9) rfl ?_); refine goesL_ (some 30) rfl rfl Try.func9 (by kernel_rfl) rfl #[.slice A0 l0.length c0, .int .i64 ji7] rfl (by (try simp only [List.map_toArray, List.map_cons, List.map_nil]); first | done | (simp only [hji7]; rfl) | rfl | (simp only [List.length_drop, List.length_take]; rfl)) ?_; (with_reducible refine (vec_Top.calls _ _ l0 ji7 t207 t208 _ ?side1 ?side2 A9.out).mono ?_); (case side1 => repeat (first | exact HR0.out | (with_reducible refine Kd.C_alloc ?_ _) | (with_reducible refine Kd.C_drewN ?_ _) | (with_reducible refine Kd.C_drew ?_))); (case side2 => exact HC0.out); rintro e w26 ⟨v209, rfl, ho0, hb⟩; refine ⟨_, rfl, ?_⟩; have n0_ := Aside0.mk (Kd.R_lower ho0 (below_size (by repeat (first | (with_reducible first | exact HB.out | apply below_alloc | apply pw_below_drewN | apply below_drew1) | exact HB.out)))); have n1_ := Aside0.mk (below_step (by repeat (first | (with_reducible first | exact HB.out | apply below_alloc | apply pw_below_drewN | apply below_drew1) | exact HB.out)) hb); clear HB; have HO210 := n0_; have HB := n1_; clear n0_ n1_; (try clear hb); (try clear hb2); (try clear hk); (try clear hi); (try clear ho0)) | ((with_reducible refine gate_callee (f := 9) rfl ?_); refine goesL_ (some 36) rfl rfl Try.func9 (by kernel_rfl) rfl #[.slice A0 l0.length c0, .int .i64 ji8] rfl (by (try simp only [List.map_toArray, List.map_cons, List.map_nil]); first | done | (simp only [hji8]; rfl) | rfl | (simp only [List.length_drop, List.length_take]; rfl)) ?_; (with_reducible refine (vec_Top.calls _ _ l0 ji8 t211 t212 _ ?side1 ?side2 A10.out).mono ?_); (case side1 => repeat (first | exact (Kd.C_below HR0.out HB.out) | (with_reducible refine Kd.C_alloc ?_ _) | (with_reducible refine Kd.C_drewN ?_ _) | (with_reducible refine Kd.C_drew ?_))); (case side2 => exact HC0.out); rintro e w27 ⟨v213, rfl, ho0, hb⟩; refine ⟨_, rfl, ?_⟩; have n0_ := Aside0.mk (Kd.R_elder' (by (with_reducible repeat (first | apply Kd.R_alloc | apply Kd.R_drewN | apply Kd.R_drew)); exact HO210.out) (Kd.R_base ho0) hb); have n1_ := Aside0.mk (Kd.R_lower (Kd.R_new' ho0 (Kd.R_lt (by (with_reducible repeat (first | apply Kd.R_alloc | apply Kd.R_drewN | apply Kd.R_drew)); exact HO210.out))) (below_size (by repeat (first | (with_reducible first | exact HB.out | apply below_alloc | apply pw_below_drewN | apply below_drew1) | exact HB.out)))); have n2_ := Aside0.mk (below_step (by repeat (first | (with_reducible first | exact HB.out | apply below_alloc | apply pw_below_drewN | apply below_drew1) | exact HB.out)) hb); clear HO210; clear HB; have HO210 := n0_; have HO214 := n1_; have HB := n2_; clear n0_ n1_ n2_; (try clear hb); (try clear hb2); (try clear hk); (try clear hi); (try clear ho0); obtain ⟨Ao28, co28, eo28⟩ := Kd.R_slice HO210.out; subst eo28; obtain ⟨Ao29, co29, eo29⟩ := Kd.R_slice HO214.out; subst eo29; have q30 : ((t207.length : Int) : Int) ≤ ((t211.length : Int) : Int) := of_decide_eq_true (by first | (with_reducible assumption) | assumption); obtain ⟨i030, hi030, _, hsz30, _⟩ := info_parts info32; have hroom30 : t211.length ≤ co29 := (Kd.R_reads' HO214.out).2.1; have hC30 : Kd.C k32 _ Ao29 t211.length t211 := (Kd.R_reads' HO214.out).2.2; have hcut30 := cut_to (P := Try.prog) 22 32 .i64 Try.underlying22 hi030 Ao29 t211.length co29 (t207.length : Int) (of_decide_eq_true (by first | (with_reducible assumption) | assumption)) q30 hroom30; have hr30 := Kd.C_take (m := ((t207.length : Int) : Int).toNat) hC30 (by omega); have hy30 : y215.length = ((t207.length : Int) : Int).toNat := (by rw [Ny215.out, List.length_take]; omega); rw [← Ny215.out] at hr30; rw [← hy30] at hcut30; have HR218 := Aside0.mk hr30; have HC218 := Aside0.mk (show y215.length ≤ co29 from by omega); clear hr30 hC30 hroom30 hi030 hsz30; have KY30 := Aside0.mk hy30; clear hy30; have KL30 := Aside0.mk (show ((t207.length : Int) : Int).toNat ≤ t211.length from by omega); replace q30 := eq_true q30) | (go_at_call 11; (with_reducible refine (ploverref05_Same.calls k _ _ t207 _ _ y215 false _ ?side1 ?side2 ?side3 ?side4 A17.out).mono ?_); (case side1 => repeat (first | exact (Kd.R_reads' HO210.out).2.2 | (with_reducible refine Kd.C_alloc ?_ _) | (with_reducible refine Kd.C_drewN ?_ _) | (with_reducible refine Kd.C_drew ?_))); (case side2 => exact (Kd.R_reads' HO210.out).2.1); (case side3 => repeat (first | exact (by repeat (first | (with_reducible exact HR218.out) | (with_reducible refine Kd.C_alloc ?_ _) | (with_reducible refine Kd.C_drewN ?_ _) | (with_reducible refine Kd.C_drew ?_) | exact HR218.out)) | (with_reducible refine Kd.C_alloc ?_ _) | (with_reducible refine Kd.C_drewN ?_ _) | (with_reducible refine Kd.C_drew ?_))); (case side4 => exact HC218.out); rintro e w' ⟨rfl, ⟨nd, rfl⟩⟩))
                go_ret
                exact ⟨by first | rfl | (simp [errW_none, errW_some] <;> rfl) | (simp only [← hji7, ← hji8, ← hji13]; first | rfl | (simp [errW_none, errW_some] <;> rfl)) | (simp [*, errW_none, errW_some] <;> rfl), by repeat (first | (with_reducible first | exact HB.out | apply below_alloc | apply pw_below_drewN | apply below_drew1) | exact HB.out)⟩
            · rw [if_neg c16] at H
              exact absurd H (by simp)
          · rw [if_neg c15] at H
            exact absurd H (by simp)
        · rw [if_neg c14] at H
          have c14b0 : ((t207.length : Int) == (ji13)) = false := beq_eq_false_iff_ne.mpr c14
          have c14b1 : ((t207.length : Int) != (ji13)) = true := bne_iff_ne.mpr c14
          obtain rfl := Option.some.inj H
          go_enter Try.func5, Try.ntmps5
          go_wp2_with (first | ((with_reducible refine gate_callee (f := 9) rfl ?_); refine goesL_ (some 30) rfl rfl Try.func9 (by kernel_rfl) rfl #[.slice A0 l0.length c0, .int .i64 ji7] rfl (by (try simp only [List.map_toArray, List.map_cons, List.map_nil]); first | done | (simp only [hji7]; rfl) | rfl | (simp only [List.length_drop, List.length_take]; rfl)) ?_; (with_reducible refine (vec_Top.calls _ _ l0 ji7 t207 t208 _ ?side1 ?side2 A9.out).mono ?_); (case side1 => repeat (first | exact HR0.out | (with_reducible refine Kd.C_alloc ?_ _) | (with_reducible refine Kd.C_drewN ?_ _) | (with_reducible refine Kd.C_drew ?_))); (case side2 => exact HC0.out); rintro e w31 ⟨v209, rfl, ho0, hb⟩; refine ⟨_, rfl, ?_⟩; have n0_ := Aside0.mk (Kd.R_lower ho0 (below_size (by repeat (first | (with_reducible first | exact HB.out | apply below_alloc | apply pw_below_drewN | apply below_drew1) | exact HB.out)))); have n1_ := Aside0.mk (below_step (by repeat (first | (with_reducible first | exact HB.out | apply below_alloc | apply pw_below_drewN | apply below_drew1) | exact HB.out)) hb); clear HB; have HO210 := n0_; have HB := n1_; clear n0_ n1_; (try clear hb); (try clear hb2); (try clear hk); (try clear hi); (try clear ho0)) | ((with_reducible refine gate_callee (f := 9) rfl ?_); refine goesL_ (some 36) rfl rfl Try.func9 (by kernel_rfl) rfl #[.slice A0 l0.length c0, .int .i64 ji8] rfl (by (try simp only [List.map_toArray, List.map_cons, List.map_nil]); first | done | (simp only [hji8]; rfl) | rfl | (simp only [List.length_drop, List.length_take]; rfl)) ?_; (with_reducible refine (vec_Top.calls _ _ l0 ji8 t211 t212 _ ?side1 ?side2 A10.out).mono ?_); (case side1 => repeat (first | exact (Kd.C_below HR0.out HB.out) | (with_reducible refine Kd.C_alloc ?_ _) | (with_reducible refine Kd.C_drewN ?_ _) | (with_reducible refine Kd.C_drew ?_))); (case side2 => exact HC0.out); rintro e w32 ⟨v213, rfl, ho0, hb⟩; refine ⟨_, rfl, ?_⟩; have n0_ := Aside0.mk (Kd.R_elder' (by (with_reducible repeat (first | apply Kd.R_alloc | apply Kd.R_drewN | apply Kd.R_drew)); exact HO210.out) (Kd.R_base ho0) hb); have n1_ := Aside0.mk (Kd.R_lower (Kd.R_new' ho0 (Kd.R_lt (by (with_reducible repeat (first | apply Kd.R_alloc | apply Kd.R_drewN | apply Kd.R_drew)); exact HO210.out))) (below_size (by repeat (first | (with_reducible first | exact HB.out | apply below_alloc | apply pw_below_drewN | apply below_drew1) | exact HB.out)))); have n2_ := Aside0.mk (below_step (by repeat (first | (with_reducible first | exact HB.out | apply below_alloc | apply pw_below_drewN | apply below_drew1) | exact HB.out)) hb); clear HO210; clear HB; have HO210 := n0_; have HO214 := n1_; have HB := n2_; clear n0_ n1_ n2_; (try clear hb); (try clear hb2); (try clear hk); (try clear hi); (try clear ho0); obtain ⟨Ao33, co33, eo33⟩ := Kd.R_slice HO210.out; subst eo33; obtain ⟨Ao34, co34, eo34⟩ := Kd.R_slice HO214.out; subst eo34))
          go_ret
          exact ⟨by first | rfl | (simp [errW_none, errW_some] <;> rfl) | (simp only [← hji7, ← hji8, ← hji13]; first | rfl | (simp [errW_none, errW_some] <;> rfl)) | (simp [*, errW_none, errW_some] <;> rfl), by repeat (first | (with_reducible first | exact HB.out | apply below_alloc | apply pw_below_drewN | apply below_drew1) | exact HB.out)⟩
      · rw [if_neg c12] at H
        have c12b0 : (t212 == 0) = false := beq_eq_false_iff_ne.mpr c12
        have c12b1 : (t212 != 0) = true := bne_iff_ne.mpr c12
        obtain rfl := Option.some.inj H
        go_enter Try.func5, Try.ntmps5
        go_wp2_with (first | ((with_reducible refine gate_callee (f := 9) rfl ?_); refine goesL_ (some 30) rfl rfl Try.func9 (by kernel_rfl) rfl #[.slice A0 l0.length c0, .int .i64 ji7] rfl (by (try simp only [List.map_toArray, List.map_cons, List.map_nil]); first | done | (simp only [hji7]; rfl) | rfl | (simp only [List.length_drop, List.length_take]; rfl)) ?_; (with_reducible refine (vec_Top.calls _ _ l0 ji7 t207 t208 _ ?side1 ?side2 A9.out).mono ?_); (case side1 => repeat (first | exact HR0.out | (with_reducible refine Kd.C_alloc ?_ _) | (with_reducible refine Kd.C_drewN ?_ _) | (with_reducible refine Kd.C_drew ?_))); (case side2 => exact HC0.out); rintro e w35 ⟨v209, rfl, ho0, hb⟩; refine ⟨_, rfl, ?_⟩; have n0_ := Aside0.mk (Kd.R_lower ho0 (below_size (by repeat (first | (with_reducible first | exact HB.out | apply below_alloc | apply pw_below_drewN | apply below_drew1) | exact HB.out)))); have n1_ := Aside0.mk (below_step (by repeat (first | (with_reducible first | exact HB.out | apply below_alloc | apply pw_below_drewN | apply below_drew1) | exact HB.out)) hb); clear HB; have HO210 := n0_; have HB := n1_; clear n0_ n1_; (try clear hb); (try clear hb2); (try clear hk); (try clear hi); (try clear ho0)) | ((with_reducible refine gate_callee (f := 9) rfl ?_); refine goesL_ (some 36) rfl rfl Try.func9 (by kernel_rfl) rfl #[.slice A0 l0.length c0, .int .i64 ji8] rfl (by (try simp only [List.map_toArray, List.map_cons, List.map_nil]); first | done | (simp only [hji8]; rfl) | rfl | (simp only [List.length_drop, List.length_take]; rfl)) ?_; (with_reducible refine (vec_Top.calls _ _ l0 ji8 t211 t212 _ ?side1 ?side2 A10.out).mono ?_); (case side1 => repeat (first | exact (Kd.C_below HR0.out HB.out) | (with_reducible refine Kd.C_alloc ?_ _) | (with_reducible refine Kd.C_drewN ?_ _) | (with_reducible refine Kd.C_drew ?_))); (case side2 => exact HC0.out); rintro e w36 ⟨v213, rfl, ho0, hb⟩; refine ⟨_, rfl, ?_⟩; have n0_ := Aside0.mk (Kd.R_elder' (by (with_reducible repeat (first | apply Kd.R_alloc | apply Kd.R_drewN | apply Kd.R_drew)); exact HO210.out) (Kd.R_base ho0) hb); have n1_ := Aside0.mk (Kd.R_lower (Kd.R_new' ho0 (Kd.R_lt (by (with_reducible repeat (first | apply Kd.R_alloc | apply Kd.R_drewN | apply Kd.R_drew)); exact HO210.out))) (below_size (by repeat (first | (with_reducible first | exact HB.out | apply below_alloc | apply pw_below_drewN | apply below_drew1) | exact HB.out)))); have n2_ := Aside0.mk (below_step (by repeat (first | (with_reducible first | exact HB.out | apply below_alloc | apply pw_below_drewN | apply below_drew1) | exact HB.out)) hb); clear HO210; clear HB; have HO210 := n0_; have HO214 := n1_; have HB := n2_; clear n0_ n1_ n2_; (try clear hb); (try clear hb2); (try clear hk); (try clear hi); (try clear ho0)))
        go_ret
        exact ⟨by first | rfl | (simp [errW_none, errW_some] <;> rfl) | (simp only [← hji7, ← hji8]; first | rfl | (simp [errW_none, errW_some] <;> rfl)) | (simp [*, errW_none, errW_some] <;> rfl), by repeat (first | (with_reducible first | exact HB.out | apply below_alloc | apply pw_below_drewN | apply below_drew1) | exact HB.out)⟩
    · rw [if_neg c11] at H
      have c11b0 : (t208 == 0) = false := beq_eq_false_iff_ne.mpr c11
      have c11b1 : (t208 != 0) = true := bne_iff_ne.mpr c11
      obtain rfl := Option.some.inj H
      go_enter Try.func5, Try.ntmps5
      go_wp2_with (first | ((with_reducible refine gate_callee (f := 9) rfl ?_); refine goesL_ (some 30) rfl rfl Try.func9 (by kernel_rfl) rfl #[.slice A0 l0.length c0, .int .i64 ji7] rfl (by (try simp only [List.map_toArray, List.map_cons, List.map_nil]); first | done | (simp only [hji7]; rfl) | rfl | (simp only [List.length_drop, List.length_take]; rfl)) ?_; (with_reducible refine (vec_Top.calls _ _ l0 ji7 t207 t208 _ ?side1 ?side2 A9.out).mono ?_); (case side1 => repeat (first | exact HR0.out | (with_reducible refine Kd.C_alloc ?_ _) | (with_reducible refine Kd.C_drewN ?_ _) | (with_reducible refine Kd.C_drew ?_))); (case side2 => exact HC0.out); rintro e w37 ⟨v209, rfl, ho0, hb⟩; refine ⟨_, rfl, ?_⟩; have n0_ := Aside0.mk (Kd.R_lower ho0 (below_size (by repeat (first | (with_reducible first | exact HB.out | apply below_alloc | apply pw_below_drewN | apply below_drew1) | exact HB.out)))); have n1_ := Aside0.mk (below_step (by repeat (first | (with_reducible first | exact HB.out | apply below_alloc | apply pw_below_drewN | apply below_drew1) | exact HB.out)) hb); clear HB; have HO210 := n0_; have HB := n1_; clear n0_ n1_; (try clear hb); (try clear hb2); (try clear hk); (try clear hi); (try clear ho0)) | ((with_reducible refine gate_callee (f := 9) rfl ?_); refine goesL_ (some 36) rfl rfl Try.func9 (by kernel_rfl) rfl #[.slice A0 l0.length c0, .int .i64 ji8] rfl (by (try simp only [List.map_toArray, List.map_cons, List.map_nil]); first | done | (simp only [hji8]; rfl) | rfl | (simp only [List.length_drop, List.length_take]; rfl)) ?_; (with_reducible refine (vec_Top.calls _ _ l0 ji8 t211 t212 _ ?side1 ?side2 A10.out).mono ?_); (case side1 => repeat (first | exact (Kd.C_below HR0.out HB.out) | (with_reducible refine Kd.C_alloc ?_ _) | (with_reducible refine Kd.C_drewN ?_ _) | (with_reducible refine Kd.C_drew ?_))); (case side2 => exact HC0.out); rintro e w38 ⟨v213, rfl, ho0, hb⟩; refine ⟨_, rfl, ?_⟩; have n0_ := Aside0.mk (Kd.R_elder' (by (with_reducible repeat (first | apply Kd.R_alloc | apply Kd.R_drewN | apply Kd.R_drew)); exact HO210.out) (Kd.R_base ho0) hb); have n1_ := Aside0.mk (Kd.R_lower (Kd.R_new' ho0 (Kd.R_lt (by (with_reducible repeat (first | apply Kd.R_alloc | apply Kd.R_drewN | apply Kd.R_drew)); exact HO210.out))) (below_size (by repeat (first | (with_reducible first | exact HB.out | apply below_alloc | apply pw_below_drewN | apply below_drew1) | exact HB.out)))); have n2_ := Aside0.mk (below_step (by repeat (first | (with_reducible first | exact HB.out | apply below_alloc | apply pw_below_drewN | apply below_drew1) | exact HB.out)) hb); clear HO210; clear HB; have HO210 := n0_; have HO214 := n1_; have HB := n2_; clear n0_ n1_ n2_; (try clear hb); (try clear hb2); (try clear hk); (try clear hi); (try clear ho0)))
      go_ret
      exact ⟨by first | rfl | (simp [errW_none, errW_some] <;> rfl) | (simp only [← hji7, ← hji8]; first | rfl | (simp [errW_none, errW_some] <;> rfl)) | (simp [*, errW_none, errW_some] <;> rfl), by repeat (first | (with_reducible first | exact HB.out | apply below_alloc | apply pw_below_drewN | apply below_drew1) | exact HB.out)⟩
def vec_Check.f (l0 : List Int) (a1 : Int) : Option (Int) := (vec_is.f l0).bind fun t221 => (if t221 = true then (if (l0.length : Int) = a1 then (some 0) else (some 50)) else (some 50))
set_option maxHeartbeats 8000000 in
set_option maxRecDepth 100000 in
theorem vec_Check.calls (A0 : Option Addr) (c0 : Nat) (l0 : List Int) (a1 : Int) (r : Int) (w : World) (hr0 : Kd.C (Kd.int .i64) w A0 l0.length l0) (hc0 : l0.length ≤ c0) (h : vec_Check.f l0 a1 = some r) :
    Calls Try.prog 30 #[.slice A0 l0.length c0, .int .i64 a1] w fun e w' => e = .returned (.int .i64 r) ∧ Drawn0 w w' := by
  have HR0 := Aside0.mk hr0
  have HC0 := Aside0.mk hc0
  clear hr0 hc0
  have H : ((vec_is.f l0).bind fun t221 => (if t221 = true then (if (l0.length : Int) = a1 then (some 0) else (some 50)) else (some 50))) = some r := h
  clear h
  replace H := Option.bind_eq_some_iff.mp H
  obtain ⟨t221, A30, H⟩ := H
  replace H : (if t221 = true then (if (l0.length : Int) = a1 then (some 0) else (some 50)) else (some 50)) = some r := H
  have A3 := Aside0.mk A30
  clear A30
  by_cases c4 : t221 = true
  · subst c4
    have H1 : (if (l0.length : Int) = a1 then (some 0) else (some 50)) = some r := by rw [if_pos rfl] at H; exact H
    clear H
    have H := H1
    clear H1
    by_cases c5 : (l0.length : Int) = a1
    · rw [if_pos c5] at H
      have c5b0 : ((l0.length : Int) == a1) = true := beq_iff_eq.mpr c5
      have c5b1 : ((l0.length : Int) != a1) = false := bne_eq_false_iff_eq.mpr c5
      clear c5
      obtain rfl := Option.some.inj H
      go_enter Try.func30, Try.ntmps30
      go_wp2_with (first | ((with_reducible refine gate_callee (f := 20) rfl ?_); refine goesL_ (some 6) rfl rfl Try.func20 (by kernel_rfl) rfl #[.slice A0 l0.length c0] rfl (by (try simp only [List.map_toArray, List.map_cons, List.map_nil]); first | done | rfl | (simp only [List.length_drop, List.length_take]; rfl)) ?_; (with_reducible refine (vec_is.calls _ _ l0 true _ ?side1 ?side2 A3.out).mono ?_); (case side1 => repeat (first | exact HR0.out | (with_reducible refine Kd.C_alloc ?_ _) | (with_reducible refine Kd.C_drewN ?_ _) | (with_reducible refine Kd.C_drew ?_))); (case side2 => exact HC0.out); rintro e w' ⟨rfl, ⟨nd, rfl⟩⟩; refine ⟨_, rfl, ?_⟩))
      go_ret
      exact ⟨by first | rfl | (simp; done) | (simp [*]; done), by repeat (first | exact Drawn0.refl _ | apply Drawn0.step)⟩
    · rw [if_neg c5] at H
      have c5b0 : ((l0.length : Int) == a1) = false := beq_eq_false_iff_ne.mpr c5
      have c5b1 : ((l0.length : Int) != a1) = true := bne_iff_ne.mpr c5
      obtain rfl := Option.some.inj H
      go_enter Try.func30, Try.ntmps30
      go_wp2_with (first | ((with_reducible refine gate_callee (f := 20) rfl ?_); refine goesL_ (some 6) rfl rfl Try.func20 (by kernel_rfl) rfl #[.slice A0 l0.length c0] rfl (by (try simp only [List.map_toArray, List.map_cons, List.map_nil]); first | done | rfl | (simp only [List.length_drop, List.length_take]; rfl)) ?_; (with_reducible refine (vec_is.calls _ _ l0 true _ ?side1 ?side2 A3.out).mono ?_); (case side1 => repeat (first | exact HR0.out | (with_reducible refine Kd.C_alloc ?_ _) | (with_reducible refine Kd.C_drewN ?_ _) | (with_reducible refine Kd.C_drew ?_))); (case side2 => exact HC0.out); rintro e w' ⟨rfl, ⟨nd, rfl⟩⟩; refine ⟨_, rfl, ?_⟩))
      go_ret
      exact ⟨by first | rfl | (simp; done) | (simp [*]; done), by repeat (first | exact Drawn0.refl _ | apply Drawn0.step)⟩
  · replace c4 := Bool.eq_false_iff.mpr c4
    subst c4
    have H1 : (some 50) = some r := by rw [if_neg (show ¬ (false = true) by decide)] at H; exact H
    clear H
    have H := H1
    clear H1
    obtain rfl := Option.some.inj H
    go_enter Try.func30, Try.ntmps30
    go_wp2_with (first | ((with_reducible refine gate_callee (f := 20) rfl ?_); refine goesL_ (some 6) rfl rfl Try.func20 (by kernel_rfl) rfl #[.slice A0 l0.length c0] rfl (by (try simp only [List.map_toArray, List.map_cons, List.map_nil]); first | done | rfl | (simp only [List.length_drop, List.length_take]; rfl)) ?_; (with_reducible refine (vec_is.calls _ _ l0 false _ ?side1 ?side2 A3.out).mono ?_); (case side1 => repeat (first | exact HR0.out | (with_reducible refine Kd.C_alloc ?_ _) | (with_reducible refine Kd.C_drewN ?_ _) | (with_reducible refine Kd.C_drew ?_))); (case side2 => exact HC0.out); rintro e w' ⟨rfl, ⟨nd, rfl⟩⟩; refine ⟨_, rfl, ?_⟩))
    go_ret
    exact ⟨by first | rfl | (simp; done) | (simp [*]; done), by repeat (first | exact Drawn0.refl _ | apply Drawn0.step)⟩
mutual
def vec_Dist.j0 : Nat → List Int → List Int → Bool → Option (Int × Int)
  | 0, _, _, _ => none
  | k + 1, x0, x1, x18 => if x18 = true then (some (0, 50)) else (vec_Dist.l0 k x1 0 x0 (x0.length : Int) 0)
def vec_Dist.l0 : Nat → List Int → Int → List Int → Int → Int → Option (Int × Int)
  | 0, _, _, _, _, _ => none
  | k + 1, x1, x6, x19, x20, x21 => if x21 < x20 then (if 0 ≤ x21 then (if x21 < (x19.length : Int) then (if x21 < (x1.length : Int) then (vec_Dist.l0 k x1 (wrap64 (x6 + (mx (wrap64 ((rd x19 x21) - (rd x1 x21))) (wrap64 ((rd x1 x21) - (rd x19 x21)))))) x19 x20 (wrap64 (x21 + 1))) else (none)) else (none)) else (none)) else (some (x6, 0))
end
def vec_Dist.f (k : Nat) (l0 : List Int) (l1 : List Int) : Option (Int × Int) := (vec_is.f l0).bind fun t222 => (if t222 = true then ((vec_Check.f l1 (l0.length : Int)).bind fun t223 => (vec_Dist.j0 k l0 l1 (t223 != 0))) else (vec_Dist.j0 k l0 l1 true))
set_option maxHeartbeats 8000000 in
set_option maxRecDepth 100000 in
theorem vec_Dist.calls (k : Nat) (A0 : Option Addr) (c0 : Nat) (l0 : List Int) (A1 : Option Addr) (c1 : Nat) (l1 : List Int) (r1 : Int) (r2 : Int) (w : World) (hr0 : Kd.C (Kd.int .i64) w A0 l0.length l0) (hc0 : l0.length ≤ c0) (hr1 : Kd.C (Kd.int .i64) w A1 l1.length l1) (hc1 : l1.length ≤ c1) (h : vec_Dist.f k l0 l1 = some (r1, r2)) :
    Calls Try.prog 21 #[.slice A0 l0.length c0, .slice A1 l1.length c1] w fun e w' => e = .returned (.tuple #[.int .i64 r1, .int .i64 r2]) ∧ Below w.heap.size w w' := by
  have HR0 := Aside0.mk hr0
  have HC0 := Aside0.mk hc0
  clear hr0 hc0
  have HR1 := Aside0.mk hr1
  have HC1 := Aside0.mk hc1
  clear hr1 hc1
  have HB := Aside0.mk (Below.refl w.heap.size w)
  have H : ((vec_is.f l0).bind fun t222 => (if t222 = true then ((vec_Check.f l1 (l0.length : Int)).bind fun t223 => (vec_Dist.j0 k l0 l1 (t223 != 0))) else (vec_Dist.j0 k l0 l1 true))) = some (r1, r2) := h
  clear h
  have HC3 := Aside0.mk H
  clear H
  go_enter Try.func21, Try.ntmps21
  go_upto_region 1 with (fail)
  repeat (go_quiet (fail); go_upto_region 1 with (fail))
  go_cut [18] (fun v18 wc => ∃ (kq : Nat) (x18_2 : Bool), v18 = .bool x18_2 ∧ Aside0 (vec_Dist.j0 kq l0 l1 x18_2 = some (r1, r2)) ∧ Aside0 (kq ≤ k) ∧ Aside0 (Below w.heap.size w wc))
  case first =>
    have H := HC3.out
    clear HC3
    replace H := Option.bind_eq_some_iff.mp H
    obtain ⟨t222, A40, H⟩ := H
    replace H : (if t222 = true then ((vec_Check.f l1 (l0.length : Int)).bind fun t223 => (vec_Dist.j0 k l0 l1 (t223 != 0))) else (vec_Dist.j0 k l0 l1 true)) = some (r1, r2) := H
    have A4 := Aside0.mk A40
    clear A40
    by_cases c5 : t222 = true
    · subst c5
      have H1 : ((vec_Check.f l1 (l0.length : Int)).bind fun t223 => (vec_Dist.j0 k l0 l1 (t223 != 0))) = some (r1, r2) := by rw [if_pos rfl] at H; exact H
      clear H
      have H := H1
      clear H1
      replace H := Option.bind_eq_some_iff.mp H
      obtain ⟨t223, A60, H⟩ := H
      replace H : (vec_Dist.j0 k l0 l1 (t223 != 0)) = some (r1, r2) := H
      have A6 := Aside0.mk A60
      clear A60
      have H' := Aside0.mk H
      clear H
      go_wp2_with (first | (go_at_call 20; (with_reducible refine (vec_is.calls _ _ l0 true _ ?side1 ?side2 A4.out).mono ?_); (case side1 => repeat (first | exact (Kd.C_below HR0.out HB.out) | (with_reducible refine Kd.C_alloc ?_ _) | (with_reducible refine Kd.C_drewN ?_ _) | (with_reducible refine Kd.C_drew ?_))); (case side2 => exact HC0.out); rintro e w' ⟨rfl, ⟨nd, rfl⟩⟩; (try first | exact ⟨rfl, _, World.drewN_drewN _ _ _⟩ | exact ⟨rfl, _, Eq.trans (World.drewN_drewN _ _ _) (congrArg (World.drewN _) (Nat.add_assoc _ _ _))⟩)) | (go_at_call 30; (with_reducible refine (vec_Check.calls _ _ l1 (l0.length : Int) t223 _ ?side1 ?side2 A6.out).mono ?_); (case side1 => repeat (first | exact (Kd.C_below HR1.out (by repeat (first | (with_reducible first | exact HB.out | apply below_alloc | apply pw_below_drewN | apply below_drew1) | exact HB.out))) | (with_reducible refine Kd.C_alloc ?_ _) | (with_reducible refine Kd.C_drewN ?_ _) | (with_reducible refine Kd.C_drew ?_))); (case side2 => exact HC1.out); rintro e w' ⟨rfl, ⟨nd, rfl⟩⟩; (try first | exact ⟨rfl, _, World.drewN_drewN _ _ _⟩ | exact ⟨rfl, _, Eq.trans (World.drewN_drewN _ _ _) (congrArg (World.drewN _) (Nat.add_assoc _ _ _))⟩)))
      repeat (go_quiet (first | (go_at_call 20; (with_reducible refine (vec_is.calls _ _ l0 true _ ?side1 ?side2 A4.out).mono ?_); (case side1 => repeat (first | exact (Kd.C_below HR0.out HB.out) | (with_reducible refine Kd.C_alloc ?_ _) | (with_reducible refine Kd.C_drewN ?_ _) | (with_reducible refine Kd.C_drew ?_))); (case side2 => exact HC0.out); rintro e w' ⟨rfl, ⟨nd, rfl⟩⟩; (try first | exact ⟨rfl, _, World.drewN_drewN _ _ _⟩ | exact ⟨rfl, _, Eq.trans (World.drewN_drewN _ _ _) (congrArg (World.drewN _) (Nat.add_assoc _ _ _))⟩)) | (go_at_call 30; (with_reducible refine (vec_Check.calls _ _ l1 (l0.length : Int) t223 _ ?side1 ?side2 A6.out).mono ?_); (case side1 => repeat (first | exact (Kd.C_below HR1.out (by repeat (first | (with_reducible first | exact HB.out | apply below_alloc | apply pw_below_drewN | apply below_drew1) | exact HB.out))) | (with_reducible refine Kd.C_alloc ?_ _) | (with_reducible refine Kd.C_drewN ?_ _) | (with_reducible refine Kd.C_drew ?_))); (case side2 => exact HC1.out); rintro e w' ⟨rfl, ⟨nd, rfl⟩⟩; (try first | exact ⟨rfl, _, World.drewN_drewN _ _ _⟩ | exact ⟨rfl, _, Eq.trans (World.drewN_drewN _ _ _) (congrArg (World.drewN _) (Nat.add_assoc _ _ _))⟩))); try go_wp2_with (first | (go_at_call 20; (with_reducible refine (vec_is.calls _ _ l0 true _ ?side1 ?side2 A4.out).mono ?_); (case side1 => repeat (first | exact (Kd.C_below HR0.out HB.out) | (with_reducible refine Kd.C_alloc ?_ _) | (with_reducible refine Kd.C_drewN ?_ _) | (with_reducible refine Kd.C_drew ?_))); (case side2 => exact HC0.out); rintro e w' ⟨rfl, ⟨nd, rfl⟩⟩; (try first | exact ⟨rfl, _, World.drewN_drewN _ _ _⟩ | exact ⟨rfl, _, Eq.trans (World.drewN_drewN _ _ _) (congrArg (World.drewN _) (Nat.add_assoc _ _ _))⟩)) | (go_at_call 30; (with_reducible refine (vec_Check.calls _ _ l1 (l0.length : Int) t223 _ ?side1 ?side2 A6.out).mono ?_); (case side1 => repeat (first | exact (Kd.C_below HR1.out (by repeat (first | (with_reducible first | exact HB.out | apply below_alloc | apply pw_below_drewN | apply below_drew1) | exact HB.out))) | (with_reducible refine Kd.C_alloc ?_ _) | (with_reducible refine Kd.C_drewN ?_ _) | (with_reducible refine Kd.C_drew ?_))); (case side2 => exact HC1.out); rintro e w' ⟨rfl, ⟨nd, rfl⟩⟩; (try first | exact ⟨rfl, _, World.drewN_drewN _ _ _⟩ | exact ⟨rfl, _, Eq.trans (World.drewN_drewN _ _ _) (congrArg (World.drewN _) (Nat.add_assoc _ _ _))⟩))))
      go_meet
      case rel => exact ⟨_, ((t223 != 0)), (by first | rfl | (simp; done) | (simp [*]; done)), H', ⟨by first | omega | exact Nat.le_refl _⟩, ⟨by repeat (first | (with_reducible first | exact HB.out | apply below_alloc | apply pw_below_drewN | apply below_drew1) | exact HB.out)⟩⟩
    · replace c5 := Bool.eq_false_iff.mpr c5
      subst c5
      have H1 : (vec_Dist.j0 k l0 l1 true) = some (r1, r2) := by rw [if_neg (show ¬ (false = true) by decide)] at H; exact H
      clear H
      have H := H1
      clear H1
      have H' := Aside0.mk H
      clear H
      go_wp2_with (first | (go_at_call 20; (with_reducible refine (vec_is.calls _ _ l0 false _ ?side1 ?side2 A4.out).mono ?_); (case side1 => repeat (first | exact (Kd.C_below HR0.out HB.out) | (with_reducible refine Kd.C_alloc ?_ _) | (with_reducible refine Kd.C_drewN ?_ _) | (with_reducible refine Kd.C_drew ?_))); (case side2 => exact HC0.out); rintro e w' ⟨rfl, ⟨nd, rfl⟩⟩; (try first | exact ⟨rfl, _, World.drewN_drewN _ _ _⟩ | exact ⟨rfl, _, Eq.trans (World.drewN_drewN _ _ _) (congrArg (World.drewN _) (Nat.add_assoc _ _ _))⟩)))
      repeat (go_quiet (first | (go_at_call 20; (with_reducible refine (vec_is.calls _ _ l0 false _ ?side1 ?side2 A4.out).mono ?_); (case side1 => repeat (first | exact (Kd.C_below HR0.out HB.out) | (with_reducible refine Kd.C_alloc ?_ _) | (with_reducible refine Kd.C_drewN ?_ _) | (with_reducible refine Kd.C_drew ?_))); (case side2 => exact HC0.out); rintro e w' ⟨rfl, ⟨nd, rfl⟩⟩; (try first | exact ⟨rfl, _, World.drewN_drewN _ _ _⟩ | exact ⟨rfl, _, Eq.trans (World.drewN_drewN _ _ _) (congrArg (World.drewN _) (Nat.add_assoc _ _ _))⟩))); try go_wp2_with (first | (go_at_call 20; (with_reducible refine (vec_is.calls _ _ l0 false _ ?side1 ?side2 A4.out).mono ?_); (case side1 => repeat (first | exact (Kd.C_below HR0.out HB.out) | (with_reducible refine Kd.C_alloc ?_ _) | (with_reducible refine Kd.C_drewN ?_ _) | (with_reducible refine Kd.C_drew ?_))); (case side2 => exact HC0.out); rintro e w' ⟨rfl, ⟨nd, rfl⟩⟩; (try first | exact ⟨rfl, _, World.drewN_drewN _ _ _⟩ | exact ⟨rfl, _, Eq.trans (World.drewN_drewN _ _ _) (congrArg (World.drewN _) (Nat.add_assoc _ _ _))⟩))))
      go_meet
      case rel => exact ⟨_, (true), (by first | rfl | (simp; done) | (simp [*]; done)), H', ⟨by first | omega | exact Nat.le_refl _⟩, ⟨by repeat (first | (with_reducible first | exact HB.out | apply below_alloc | apply pw_below_drewN | apply below_drew1) | exact HB.out)⟩⟩
  case rest =>
    clear HC3
    try clear c1
    try clear c2
    try clear p2
    try clear c5
    obtain ⟨kq, x18_2, rfl, HA, HJ2, HB⟩ := hcut
    cases kq with
    | zero => exact absurd HA.out (by simp [vec_Dist.j0])
    | succ kj2 =>
      have H := HA.out
      clear HA
      simp only [vec_Dist.j0] at H
      by_cases c7 : x18_2 = true
      · subst c7
        have H1 : (some (0, 50)) = some (r1, r2) := by rw [if_pos rfl] at H; exact H
        clear H
        have H := H1
        clear H1
        simp only [Option.some.injEq, Prod.mk.injEq] at H
        obtain ⟨rfl, rfl⟩ := H
        go_wp2
        repeat (go_quiet (fail); try go_wp2)
        go_ret2
        exact ⟨by first | rfl | (simp [errW_none, errW_some] <;> rfl) | (simp [*, errW_none, errW_some] <;> rfl), by repeat (first | (with_reducible first | exact HB.out | apply below_alloc | apply pw_below_drewN | apply below_drew1) | exact HB.out)⟩
      · replace c7 := Bool.eq_false_iff.mpr c7
        subst c7
        have H1 : (vec_Dist.l0 kj2 l1 0 l0 (l0.length : Int) 0) = some (r1, r2) := by rw [if_neg (show ¬ (false = true) by decide)] at H; exact H
        clear H
        have H := H1
        clear H1
        have H' := Aside0.mk H
        clear H
        go_wp2
        repeat (go_quiet (fail); try go_wp2)
        go_loopg [6, 21] kj2 (fun kq v6 v21 w' => ∃ (x6_2 : Int) (x21_2 : Int), v6 = .int .i64 x6_2 ∧ v21 = .int .i64 x21_2 ∧ Aside0 (vec_Dist.l0 kq l1 x6_2 l0 (l0.length : Int) x21_2 = some (r1, r2)) ∧ Aside0 (kq ≤ kj2) ∧ Aside0 (Below w.heap.size w w'))
        case atStart => exact ⟨(0), (0), (by first | rfl | (simp; done) | (simp [*]; done)), (by first | rfl | (simp; done) | (simp [*]; done)), H', ⟨Nat.le_refl _⟩, ⟨by repeat (first | (with_reducible first | exact HB.out | apply below_alloc | apply pw_below_drewN | apply below_drew1) | exact HB.out)⟩⟩
        case round =>
          clear H'
          try clear c1
          try clear c2
          try clear p2
          try clear c5
          try clear c7
          try clear p2
          obtain ⟨x6_2, x21_2, rfl, rfl, HA, HK2, HB⟩ := hrel
          cases gk with
          | zero => exact absurd HA.out (by simp [vec_Dist.l0])
          | succ k2 =>
            have H := HA.out
            clear HA
            simp only [vec_Dist.l0] at H
            by_cases c8 : x21_2 < (l0.length : Int)
            · rw [if_pos c8] at H
              have c8b0 : decide (x21_2 < (l0.length : Int)) = true := decide_eq_true c8
              clear c8
              by_cases c9 : 0 ≤ x21_2
              · rw [if_pos c9] at H
                have c9b0 : decide (0 ≤ x21_2) = true := decide_eq_true c9
                clear c9
                by_cases c10 : x21_2 < (l0.length : Int)
                · rw [if_pos c10] at H
                  have c10b0 : decide (x21_2 < (l0.length : Int)) = true := decide_eq_true c10
                  clear c10
                  by_cases c11 : x21_2 < (l1.length : Int)
                  · rw [if_pos c11] at H
                    have c11b0 : decide (x21_2 < (l1.length : Int)) = true := decide_eq_true c11
                    clear c11
                    obtain ⟨ji12, hji12⟩ : ∃ j_ : Int, (mx (wrap64 ((rd l0 x21_2) - (rd l1 x21_2))) (wrap64 ((rd l1 x21_2) - (rd l0 x21_2)))) = j_ := ⟨_, rfl⟩
                    replace H : (vec_Dist.l0 k2 l1 (wrap64 (x6_2 + (ji12))) l0 (l0.length : Int) (wrap64 (x21_2 + 1))) = some (r1, r2) := by first | (rw [hji12] at H; exact H) | (simp only [hji12] at H ⊢; exact H)
                    have hji12_ : (if (wrap64 ((rd l0 x21_2) - (rd l1 x21_2))) < (wrap64 ((rd l1 x21_2) - (rd l0 x21_2))) then (wrap64 ((rd l1 x21_2) - (rd l0 x21_2))) else (wrap64 ((rd l0 x21_2) - (rd l1 x21_2)))) = ji12 := hji12
                    have H' := Aside0.mk H
                    clear H
                    have p224 : 0 ≤ (x21_2 : Int) := of_decide_eq_true (by first | (with_reducible assumption) | assumption)
                    have q224 : x21_2 < (l0.length : Int) := of_decide_eq_true (by first | (with_reducible assumption) | assumption)
                    obtain ⟨ad224, e224, hx224_0⟩ := Kd.at_int HR0.out x21_2 p224 q224
                    cases e224
                    replace hx224_0 := (HB.out.cell (World.block_lt_of_cell? w _ hx224_0)).trans hx224_0
                    replace p224 := eq_true p224
                    replace q224 := eq_true q224
                    have p225 : 0 ≤ (x21_2 : Int) := of_decide_eq_true (by first | (with_reducible assumption) | assumption)
                    have q225 : x21_2 < (l1.length : Int) := of_decide_eq_true (by first | (with_reducible assumption) | assumption)
                    obtain ⟨ad225, e225, hx225_0⟩ := Kd.at_int HR1.out x21_2 p225 q225
                    cases e225
                    replace hx225_0 := (HB.out.cell (World.block_lt_of_cell? w _ hx225_0)).trans hx225_0
                    replace p225 := eq_true p225
                    replace q225 := eq_true q225
                    have p226 : 0 ≤ (x21_2 : Int) := of_decide_eq_true (by first | (with_reducible assumption) | assumption)
                    have q226 : x21_2 < (l1.length : Int) := of_decide_eq_true (by first | (with_reducible assumption) | assumption)
                    obtain ⟨ad226, e226, hx226_0⟩ := Kd.at_int HR1.out x21_2 p226 q226
                    obtain rfl : ad225 = ad226 := (by injection e226)
                    replace hx226_0 := (HB.out.cell (World.block_lt_of_cell? w _ hx226_0)).trans hx226_0
                    replace p226 := eq_true p226
                    replace q226 := eq_true q226
                    go_wp2
                    repeat (go_quiet (fail); try go_wp2)
                    go_roundg k2
                    case measure => have := HJ2.out; have := HK2.out; omega
                    case rel => exact ⟨(wrap64 (x6_2 + (ji12))), (wrap64 (x21_2 + 1)), (by first | rfl | (simp; done) | (simp only [← hji12] <;> (first | rfl | simp)) | (simp [*]; done)), (by first | rfl | (simp; done) | (simp [*]; done)), H', ⟨by have := HJ2.out; have := HK2.out; omega⟩, ⟨by repeat (first | (with_reducible first | exact HB.out | apply below_alloc | apply pw_below_drewN | apply below_drew1) | exact HB.out)⟩⟩
                  · rw [if_neg c11] at H
                    exact absurd H (by simp)
                · rw [if_neg c10] at H
                  exact absurd H (by simp)
              · rw [if_neg c9] at H
                exact absurd H (by simp)
            · rw [if_neg c8] at H
              have c8b0 : decide (x21_2 < (l0.length : Int)) = false := decide_eq_false c8
              clear c8
              simp only [Option.some.injEq, Prod.mk.injEq] at H
              obtain ⟨rfl, rfl⟩ := H
              go_wp2
              repeat (go_quiet (fail); try go_wp2)
              go_ret2
              exact ⟨by first | rfl | (simp [errW_none, errW_some] <;> rfl) | (simp [*, errW_none, errW_some] <;> rfl), by repeat (first | (with_reducible first | exact HB.out | apply below_alloc | apply pw_below_drewN | apply below_drew1) | exact HB.out)⟩
def vec_Search.l0 : Nat → List Int → Int → List (S32) → List (S46) → Int → Int → Option ((List (S32)) × Int)
  | 0, _, _, _, _, _, _ => none
  | k + 1, x1, x2, x8, x16, x17, x18 => if x18 < x17 then (if 0 ≤ x18 then (if x18 < (x16.length : Int) then ((vec_Dist.f k x1 ((rd_T46 x16 x18).f1)).bind fun bt230 => (if bt230.2 = 0 then (if x8.length < 8796093022208 then (vec_Search.l0 k x1 x2 (x8 ++ [(⟨(rd_T46 x16 x18).f0, bt230.1⟩ : S32)]) x16 x17 (wrap64 (x18 + 1))) else (none)) else (some (([] : List (S32)), bt230.2)))) else (none)) else (none)) else (if x2 < 1 then (some (([] : List (S32)), 51)) else ((vec_Top.f x8 x2).bind fun bt235 => (some (bt235.1, bt235.2))))
def vec_Search.f (k : Nat) (l0 : List (S46)) (l1 : List Int) (a2 : Int) : Option ((List (S32)) × Int) := (vec_is.f l1).bind fun t227 => (if t227 = true then (vec_Search.l0 k l1 a2 ([] : List (S32)) l0 (l0.length : Int) 0) else (some (([] : List (S32)), 50)))
set_option maxHeartbeats 8000000 in
set_option maxRecDepth 100000 in
theorem vec_Search.calls (k : Nat) (A0 : Option Addr) (c0 : Nat) (l0 : List (S46)) (A1 : Option Addr) (c1 : Nat) (l1 : List Int) (a2 : Int) (r1 : List (S32)) (r2 : Int) (w : World) (hr0 : Kd.C k46 w A0 l0.length l0) (hc0 : l0.length ≤ c0) (hr1 : Kd.C (Kd.int .i64) w A1 l1.length l1) (hc1 : l1.length ≤ c1) (h : vec_Search.f k l0 l1 a2 = some (r1, r2)) :
    Calls Try.prog 14 #[.slice A0 l0.length c0, .slice A1 l1.length c1, .int .i64 a2] w fun e w' => ∃ v0_ : Value, e = .returned (.tuple #[v0_, .int .i64 r2]) ∧ Kd.R k32 32 w' w.heap.size (fun _ => True) v0_ r1 ∧ Below w.heap.size w w' := by
  have hu46 := Try.underlying46
  have hu32 := Try.underlying32
  have HR0 := Aside0.mk hr0
  have HC0 := Aside0.mk hc0
  clear hr0 hc0
  have HR1 := Aside0.mk hr1
  have HC1 := Aside0.mk hc1
  clear hr1 hc1
  have HB := Aside0.mk (Below.refl w.heap.size w)
  have H : ((vec_is.f l1).bind fun t227 => (if t227 = true then (vec_Search.l0 k l1 a2 ([] : List (S32)) l0 (l0.length : Int) 0) else (some (([] : List (S32)), 50)))) = some (r1, r2) := h
  clear h
  replace H := Option.bind_eq_some_iff.mp H
  obtain ⟨t227, A40, H⟩ := H
  replace H : (if t227 = true then (vec_Search.l0 k l1 a2 ([] : List (S32)) l0 (l0.length : Int) 0) else (some (([] : List (S32)), 50))) = some (r1, r2) := H
  have A4 := Aside0.mk A40
  clear A40
  by_cases c5 : t227 = true
  · subst c5
    have H1 : (vec_Search.l0 k l1 a2 ([] : List (S32)) l0 (l0.length : Int) 0) = some (r1, r2) := by rw [if_pos rfl] at H; exact H
    clear H
    have H := H1
    clear H1
    have H' := Aside0.mk H
    clear H
    go_enter Try.func14, Try.ntmps14
    go_wp2_with (first | ((with_reducible refine gate_callee (f := 20) rfl ?_); refine goesL_ (some 14) rfl rfl Try.func20 (by kernel_rfl) rfl #[.slice A1 l1.length c1] rfl (by (try simp only [List.map_toArray, List.map_cons, List.map_nil]); first | done | rfl | (simp only [List.length_drop, List.length_take]; rfl)) ?_; (with_reducible refine (vec_is.calls _ _ l1 true _ ?side1 ?side2 A4.out).mono ?_); (case side1 => repeat (first | exact HR1.out | (with_reducible refine Kd.C_alloc ?_ _) | (with_reducible refine Kd.C_drewN ?_ _) | (with_reducible refine Kd.C_drew ?_))); (case side2 => exact HC1.out); rintro e w' ⟨rfl, ⟨nd, rfl⟩⟩; refine ⟨_, rfl, ?_⟩))
    go_loopg [8, 18] k (fun kq v8 v18 w' => ∃ (x8_1 : List (S32)) (x18_1 : Int), v18 = .int .i64 x18_1 ∧ Aside0 (vec_Search.l0 kq l1 a2 x8_1 l0 (l0.length : Int) x18_1 = some (r1, r2)) ∧ Aside0 (kq ≤ k) ∧ Aside0 (Kd.R k32 32 w' w.heap.size (fun _ => True) v8 x8_1) ∧ Aside0 (Below w.heap.size w w'))
    case atStart => exact ⟨(([] : List (S32))), (0), (by first | rfl | (simp; done) | (simp [*]; done)), H', ⟨Nat.le_refl _⟩, ⟨by first | exact Kd.R_nil _ _ _ _ _ | exact Kd.N_nil _ _ _ _ _ | exact Kd.V_nil _ _ _ _ _ | exact Kd.Q_nil _ _ _ _ _ | exact Kd.S_nil _ _ _ _ _⟩, ⟨by repeat (first | (with_reducible first | exact HB.out | apply below_alloc | apply pw_below_drewN | apply below_drew1) | exact HB.out)⟩⟩
    case round =>
      clear H'
      try clear c1
      try clear c2
      try clear p2
      try clear c5
      obtain ⟨x8_1, x18_1, rfl, HA, HK1, HO_8, HB⟩ := hrel
      cases gk with
      | zero => exact absurd HA.out (by simp [vec_Search.l0])
      | succ k1 =>
        have H := HA.out
        clear HA
        simp only [vec_Search.l0] at H
        by_cases c6 : x18_1 < (l0.length : Int)
        · rw [if_pos c6] at H
          have c6b0 : decide (x18_1 < (l0.length : Int)) = true := decide_eq_true c6
          clear c6
          by_cases c7 : 0 ≤ x18_1
          · rw [if_pos c7] at H
            have c7b0 : decide (0 ≤ x18_1) = true := decide_eq_true c7
            clear c7
            by_cases c8 : x18_1 < (l0.length : Int)
            · rw [if_pos c8] at H
              have c8b0 : decide (x18_1 < (l0.length : Int)) = true := decide_eq_true c8
              clear c8
              replace H := Option.bind_eq_some_iff.mp H
              obtain ⟨⟨t230, t231⟩, A90, H⟩ := H
              replace H : (if t231 = 0 then (if x8_1.length < 8796093022208 then (vec_Search.l0 k1 l1 a2 (x8_1 ++ [(⟨(rd_T46 l0 x18_1).f0, t230⟩ : S32)]) l0 (l0.length : Int) (wrap64 (x18_1 + 1))) else (none)) else (some (([] : List (S32)), t231))) = some (r1, r2) := H
              have A9 := Aside0.mk A90
              clear A90
              by_cases c10 : t231 = 0
              · rw [if_pos c10] at H
                have c10b0 : (t231 == 0) = true := beq_iff_eq.mpr c10
                have c10b1 : (t231 != 0) = false := bne_eq_false_iff_eq.mpr c10
                clear c10
                by_cases c11 : x8_1.length < 8796093022208
                · rw [if_pos c11] at H
                  have LMc11 := Aside0.mk c11
                  clear c11
                  obtain ⟨y232, hy232⟩ : ∃ y_ : List (S32), y_ = (x8_1 ++ [(⟨(rd_T46 l0 x18_1).f0, t230⟩ : S32)]) := ⟨_, rfl⟩
                  replace H : (vec_Search.l0 k1 l1 a2 y232 l0 (l0.length : Int) (wrap64 (x18_1 + 1))) = some (r1, r2) := by first | (rw [hy232]; with_reducible exact H) | (have H2_ := (Option.bind_some _ _).symm.trans H; rw [hy232]; with_reducible exact H2_) | (have H2_ := (Option.bind_some _ _).symm.trans H; with_reducible exact H2_) | with_reducible exact H | (rw [hy232]; exact H) | exact H
                  have Ny232 := Aside0.mk hy232
                  clear hy232
                  have H' := Aside0.mk H
                  clear H
                  have p228 : 0 ≤ (x18_1 : Int) := of_decide_eq_true (by first | (with_reducible assumption) | assumption)
                  have q228 : x18_1 < (l0.length : Int) := of_decide_eq_true (by first | (with_reducible assumption) | assumption)
                  obtain ⟨ad228, A228_1, c228_1, e228, hx228_0, hx228_1, hl228_1, hi228_1⟩ := at_T46 HR0.out x18_1 p228 q228
                  cases e228
                  replace hx228_0 := (HB.out.cell (World.block_lt_of_cell? w _ hx228_0)).trans hx228_0
                  replace hx228_1 := (HB.out.cell (World.block_lt_of_cell? w _ hx228_1)).trans hx228_1
                  have HR228_1 := Aside0.mk hi228_1
                  have HC228_1 := Aside0.mk hl228_1
                  clear hi228_1 hl228_1
                  replace p228 := eq_true p228
                  replace q228 := eq_true q228
                  go_wp2_with (first | ((with_reducible refine gate_dst (N := 10) rfl ?_); refine box_event ?hg (N := 10) ?hd (cs := #[.int .i64 0, .slice none 0 0]) (t := 46) ?hr ?_; (case hd => rfl); (case hg => rfl); (case hr => first | (go_simp; done) | (go_simp; rfl)); intro gb229 hg w12 hbox hb; have n0_ := Aside0.mk (Kd.R_below (by (with_reducible repeat (first | apply Kd.R_alloc | apply Kd.R_drewN | apply Kd.R_drew)); exact HO_8.out) hb); have n1_ := Aside0.mk (below_step (by repeat (first | (with_reducible first | exact HB.out | apply below_alloc | apply pw_below_drewN | apply below_drew1) | exact HB.out)) hb); have n2_ := Aside0.mk (hbox); have n3_ := Aside0.mk ((by rw [hg]; exact (below_size (by repeat (first | (with_reducible first | exact HB.out | apply below_alloc | apply pw_below_drewN | apply below_drew1) | exact HB.out))) : w.heap.size ≤ gb229)); have n4_ := Aside0.mk ((by rw [hg]; exact (below_size (by repeat (first | (with_reducible first | exact HB.out | apply below_alloc | apply pw_below_drewN | apply below_drew1) | exact HB.out))) : w.heap.size ≤ gb229)); clear HO_8; clear HB; have HO_8 := n0_; have HB := n1_; have BK229 := n2_; have GW229 := n3_; have GE229 := n4_; clear n0_ n1_ n2_ n3_ n4_; clear hb hbox hg; have hcz13_0 : w12.cell? ⟨gb229, 0, none⟩ = some (.int .i64 0) := (blk_cell BK229.out 0).trans rfl; have hcz13_1 : w12.cell? ⟨gb229, 1, none⟩ = some (.slice none 0 0) := (blk_cell BK229.out 1).trans rfl; have hfz13_0 := blk_frozen BK229.out 0; have hfz13_1 := blk_frozen BK229.out 1) | ((with_reducible refine gate_callee (f := 21) rfl ?_); refine goesL_ (some 26) rfl rfl Try.func21 (by kernel_rfl) rfl #[.slice A1 l1.length c1, .slice A228_1 ((rd_T46 l0 x18_1).f1).length c228_1] rfl (by (try simp only [List.map_toArray, List.map_cons, List.map_nil]); first | done | rfl | (simp only [List.length_drop, List.length_take]; rfl)) ?_; (with_reducible refine (vec_Dist.calls k1 _ _ l1 _ _ ((rd_T46 l0 x18_1).f1) t230 t231 _ ?side1 ?side2 ?side3 ?side4 A9.out).mono ?_); (case side1 => exact Kd.C_below HR1.out (by repeat (first | (with_reducible first | exact HB.out | apply below_alloc | apply pw_below_drewN | apply below_drew1 | refine below_set ?_ GE229.out) | exact HB.out))); (case side2 => exact HC1.out); (case side3 => exact Kd.C_below HR228_1.out (by repeat (first | (with_reducible first | exact HB.out | apply below_alloc | apply pw_below_drewN | apply below_drew1 | refine below_set ?_ GE229.out) | exact HB.out))); (case side4 => exact HC228_1.out); rintro e w14 ⟨rfl, hb⟩; refine ⟨_, rfl, ?_⟩; have n0_ := Aside0.mk (Kd.R_below (by (with_reducible repeat (first | apply Kd.R_alloc | apply Kd.R_drewN | apply Kd.R_drew)); exact (Kd.R_mono (Kd.R_far (p := ⟨gb229, 1, none⟩) (Kd.R_far (p := ⟨gb229, 0, none⟩) (Kd.R_types HO_8.out BK229.out (by decide)) (fun _ hk => hk.2) (.int .i64 ((rd_T46 l0 x18_1).f0))) (fun _ hk => hk.2) (.slice A228_1 ((rd_T46 l0 x18_1).f1).length c228_1)) (fun _ h_ => h_.1))) hb); have n1_ := Aside0.mk (blk_below (g := gb229) (o := .cells #[.int .i64 ((rd_T46 l0 x18_1).f0), .slice A228_1 ((rd_T46 l0 x18_1).f1).length c228_1] 46 (0, 0)) (by (with_reducible repeat (first | refine blk_drewN ?_ _ | refine blk_drew ?_ | refine blk_alloc ?_ _)); refine blk_put (cs := #[.int .i64 ((rd_T46 l0 x18_1).f0), .slice none 0 0]) ?_ 1 _ rfl; (with_reducible repeat (first | refine blk_drewN ?_ _ | refine blk_drew ?_ | refine blk_alloc ?_ _)); refine blk_put (cs := #[.int .i64 0, .slice none 0 0]) ?_ 0 _ rfl; (with_reducible repeat (first | refine blk_drewN ?_ _ | refine blk_drew ?_ | refine blk_alloc ?_ _)); exact BK229.out) hb); have n2_ := Aside0.mk (below_step (by repeat (first | (with_reducible first | exact HB.out | apply below_alloc | apply pw_below_drewN | apply below_drew1 | refine below_set ?_ GE229.out) | exact HB.out)) hb); clear HO_8; clear BK229; clear HB; have HO_8 := n0_; have BK229 := n1_; have HB := n2_; clear n0_ n1_ n2_; (try clear hb); (try clear hb2); (try clear hk); (try clear hi); have hcz15_0 : w14.cell? ⟨gb229, 0, none⟩ = some (.int .i64 ((rd_T46 l0 x18_1).f0)) := (blk_cell BK229.out 0).trans rfl; have hcz15_1 : w14.cell? ⟨gb229, 1, none⟩ = some (.slice A228_1 ((rd_T46 l0 x18_1).f1).length c228_1) := (blk_cell BK229.out 1).trans rfl; have hfz15_0 := blk_frozen BK229.out 0; have hfz15_1 := blk_frozen BK229.out 1) | ((with_reducible refine gate_builtin (b := .append) (xs := #[.tmp 32, .tmp 37]) rfl ?_); at_builtin; refine Kd.R_append k32 (w0 := w) w.heap.size rfl (.tmp 32) (.tmp 37) 22 32 (.agg #[(.int .i64 0), (.int .i64 0)]) 16 rfl Try.underlying22 info32 rfl (by decide) (by omega) u8 x8_1 (⟨(rd_T46 l0 x18_1).f0, t230⟩ : S32) [.int .i64 ((rd_T46 l0 x18_1).f0), .int .i64 t230] (fun _ => True) (fun _ => False) rfl rfl ?aP (fun _ hk => hk.elim) ?aF ?aO ?aB ?aS ?aL ?_; (case aP => exact k32_mkM _ _ _ (⟨(rd_T46 l0 x18_1).f0, t230⟩ : S32)); (case aB => exact (by repeat (first | (with_reducible first | exact HB.out | apply below_alloc | apply pw_below_drewN | apply below_drew1 | refine below_set ?_ GE229.out) | exact HB.out))); (case aF => exact (fun _ _ => trivial)); (case aO => exact (by (with_reducible repeat (first | apply Kd.R_alloc | apply Kd.R_drewN | apply Kd.R_drew)); exact HO_8.out)); (case aS => exact (below_size (by repeat (first | (with_reducible first | exact HB.out | apply below_alloc | apply pw_below_drewN | apply below_drew1 | refine below_set ?_ GE229.out) | exact HB.out)))); (case aL => have := LMc11.out; omega); intro v233 w16 ho hb hg hat; rw [← Ny232.out] at ho; have n0_ := Aside0.mk (blk_grown (g := gb229) (o := .cells #[.int .i64 ((rd_T46 l0 x18_1).f0), .slice A228_1 ((rd_T46 l0 x18_1).f1).length c228_1] 46 (0, 0)) (by (with_reducible repeat (first | refine blk_drewN ?_ _ | refine blk_drew ?_ | refine blk_alloc ?_ _)); exact BK229.out) hg (Kd.R_ne HO_8.out BK229.out (by decide))); have n1_ := Aside0.mk (hb); have n2_ := Aside0.mk (ho); clear BK229; clear HB; clear HO_8; have BK229 := n0_; have HB := n1_; have HO234 := n2_; clear n0_ n1_ n2_; clear ho hb hg hat))
                  go_roundg k1
                  case measure => have := HK1.out; omega
                  case rel => exact ⟨(y232), (wrap64 (x18_1 + 1)), (by first | rfl | (simp; done) | (simp [*]; done)), H', ⟨by have := HK1.out; omega⟩, ⟨by (with_reducible repeat (first | apply Kd.R_alloc | apply Kd.R_drewN | apply Kd.R_drew)); exact HO234.out⟩, ⟨by repeat (first | (with_reducible first | exact HB.out | apply below_alloc | apply pw_below_drewN | apply below_drew1 | refine below_set ?_ GE229.out) | exact HB.out)⟩⟩
                · rw [if_neg c11] at H
                  exact absurd H (by simp)
              · rw [if_neg c10] at H
                have c10b0 : (t231 == 0) = false := beq_eq_false_iff_ne.mpr c10
                have c10b1 : (t231 != 0) = true := bne_iff_ne.mpr c10
                simp only [Option.some.injEq, Prod.mk.injEq] at H
                obtain ⟨rfl, rfl⟩ := H
                have p228 : 0 ≤ (x18_1 : Int) := of_decide_eq_true (by first | (with_reducible assumption) | assumption)
                have q228 : x18_1 < (l0.length : Int) := of_decide_eq_true (by first | (with_reducible assumption) | assumption)
                obtain ⟨ad228, A228_1, c228_1, e228, hx228_0, hx228_1, hl228_1, hi228_1⟩ := at_T46 HR0.out x18_1 p228 q228
                cases e228
                replace hx228_0 := (HB.out.cell (World.block_lt_of_cell? w _ hx228_0)).trans hx228_0
                replace hx228_1 := (HB.out.cell (World.block_lt_of_cell? w _ hx228_1)).trans hx228_1
                have HR228_1 := Aside0.mk hi228_1
                have HC228_1 := Aside0.mk hl228_1
                clear hi228_1 hl228_1
                replace p228 := eq_true p228
                replace q228 := eq_true q228
                go_wp2_with (first | ((with_reducible refine gate_dst (N := 10) rfl ?_); refine box_event ?hg (N := 10) ?hd (cs := #[.int .i64 0, .slice none 0 0]) (t := 46) ?hr ?_; (case hd => rfl); (case hg => rfl); (case hr => first | (go_simp; done) | (go_simp; rfl)); intro gb229 hg w17 hbox hb; have n0_ := Aside0.mk (Kd.R_below (by (with_reducible repeat (first | apply Kd.R_alloc | apply Kd.R_drewN | apply Kd.R_drew)); exact HO_8.out) hb); have n1_ := Aside0.mk (below_step (by repeat (first | (with_reducible first | exact HB.out | apply below_alloc | apply pw_below_drewN | apply below_drew1) | exact HB.out)) hb); have n2_ := Aside0.mk (hbox); have n3_ := Aside0.mk ((by rw [hg]; exact (below_size (by repeat (first | (with_reducible first | exact HB.out | apply below_alloc | apply pw_below_drewN | apply below_drew1) | exact HB.out))) : w.heap.size ≤ gb229)); have n4_ := Aside0.mk ((by rw [hg]; exact (below_size (by repeat (first | (with_reducible first | exact HB.out | apply below_alloc | apply pw_below_drewN | apply below_drew1) | exact HB.out))) : w.heap.size ≤ gb229)); clear HO_8; clear HB; have HO_8 := n0_; have HB := n1_; have BK229 := n2_; have GW229 := n3_; have GE229 := n4_; clear n0_ n1_ n2_ n3_ n4_; clear hb hbox hg; have hcz18_0 : w17.cell? ⟨gb229, 0, none⟩ = some (.int .i64 0) := (blk_cell BK229.out 0).trans rfl; have hcz18_1 : w17.cell? ⟨gb229, 1, none⟩ = some (.slice none 0 0) := (blk_cell BK229.out 1).trans rfl; have hfz18_0 := blk_frozen BK229.out 0; have hfz18_1 := blk_frozen BK229.out 1) | ((with_reducible refine gate_callee (f := 21) rfl ?_); refine goesL_ (some 26) rfl rfl Try.func21 (by kernel_rfl) rfl #[.slice A1 l1.length c1, .slice A228_1 ((rd_T46 l0 x18_1).f1).length c228_1] rfl (by (try simp only [List.map_toArray, List.map_cons, List.map_nil]); first | done | rfl | (simp only [List.length_drop, List.length_take]; rfl)) ?_; (with_reducible refine (vec_Dist.calls k1 _ _ l1 _ _ ((rd_T46 l0 x18_1).f1) t230 t231 _ ?side1 ?side2 ?side3 ?side4 A9.out).mono ?_); (case side1 => exact Kd.C_below HR1.out (by repeat (first | (with_reducible first | exact HB.out | apply below_alloc | apply pw_below_drewN | apply below_drew1 | refine below_set ?_ GE229.out) | exact HB.out))); (case side2 => exact HC1.out); (case side3 => exact Kd.C_below HR228_1.out (by repeat (first | (with_reducible first | exact HB.out | apply below_alloc | apply pw_below_drewN | apply below_drew1 | refine below_set ?_ GE229.out) | exact HB.out))); (case side4 => exact HC228_1.out); rintro e w19 ⟨rfl, hb⟩; refine ⟨_, rfl, ?_⟩; have n0_ := Aside0.mk (Kd.R_below (by (with_reducible repeat (first | apply Kd.R_alloc | apply Kd.R_drewN | apply Kd.R_drew)); exact (Kd.R_mono (Kd.R_far (p := ⟨gb229, 1, none⟩) (Kd.R_far (p := ⟨gb229, 0, none⟩) (Kd.R_types HO_8.out BK229.out (by decide)) (fun _ hk => hk.2) (.int .i64 ((rd_T46 l0 x18_1).f0))) (fun _ hk => hk.2) (.slice A228_1 ((rd_T46 l0 x18_1).f1).length c228_1)) (fun _ h_ => h_.1))) hb); have n1_ := Aside0.mk (blk_below (g := gb229) (o := .cells #[.int .i64 ((rd_T46 l0 x18_1).f0), .slice A228_1 ((rd_T46 l0 x18_1).f1).length c228_1] 46 (0, 0)) (by (with_reducible repeat (first | refine blk_drewN ?_ _ | refine blk_drew ?_ | refine blk_alloc ?_ _)); refine blk_put (cs := #[.int .i64 ((rd_T46 l0 x18_1).f0), .slice none 0 0]) ?_ 1 _ rfl; (with_reducible repeat (first | refine blk_drewN ?_ _ | refine blk_drew ?_ | refine blk_alloc ?_ _)); refine blk_put (cs := #[.int .i64 0, .slice none 0 0]) ?_ 0 _ rfl; (with_reducible repeat (first | refine blk_drewN ?_ _ | refine blk_drew ?_ | refine blk_alloc ?_ _)); exact BK229.out) hb); have n2_ := Aside0.mk (below_step (by repeat (first | (with_reducible first | exact HB.out | apply below_alloc | apply pw_below_drewN | apply below_drew1 | refine below_set ?_ GE229.out) | exact HB.out)) hb); clear HO_8; clear BK229; clear HB; have HO_8 := n0_; have BK229 := n1_; have HB := n2_; clear n0_ n1_ n2_; (try clear hb); (try clear hb2); (try clear hk); (try clear hi)))
                go_ret2
                exact ⟨_, by first | rfl | (simp [errW_none, errW_some] <;> rfl) | (simp [*, errW_none, errW_some] <;> rfl), by first | exact Kd.R_nil _ _ _ _ _ | exact Kd.N_nil _ _ _ _ _ | exact Kd.V_nil _ _ _ _ _ | exact Kd.Q_nil _ _ _ _ _ | exact Kd.S_nil _ _ _ _ _, by repeat (first | (with_reducible first | exact HB.out | apply below_alloc | apply pw_below_drewN | apply below_drew1 | refine below_set ?_ GE229.out) | exact HB.out)⟩
            · rw [if_neg c8] at H
              exact absurd H (by simp)
          · rw [if_neg c7] at H
            exact absurd H (by simp)
        · rw [if_neg c6] at H
          have c6b0 : decide (x18_1 < (l0.length : Int)) = false := decide_eq_false c6
          clear c6
          by_cases c20 : a2 < 1
          · rw [if_pos c20] at H
            have c20b0 : decide (a2 < 1) = true := decide_eq_true c20
            clear c20
            simp only [Option.some.injEq, Prod.mk.injEq] at H
            obtain ⟨rfl, rfl⟩ := H
            go_wp2
            go_ret2
            exact ⟨_, by first | rfl | (simp [errW_none, errW_some] <;> rfl) | (simp [*, errW_none, errW_some] <;> rfl), by first | exact Kd.R_nil _ _ _ _ _ | exact Kd.N_nil _ _ _ _ _ | exact Kd.V_nil _ _ _ _ _ | exact Kd.Q_nil _ _ _ _ _ | exact Kd.S_nil _ _ _ _ _, by repeat (first | (with_reducible first | exact HB.out | apply below_alloc | apply pw_below_drewN | apply below_drew1) | exact HB.out)⟩
          · rw [if_neg c20] at H
            have c20b0 : decide (a2 < 1) = false := decide_eq_false c20
            clear c20
            replace H := Option.bind_eq_some_iff.mp H
            obtain ⟨⟨t235, t236⟩, A210, H⟩ := H
            replace H : (some (t235, t236)) = some (r1, r2) := H
            have A21 := Aside0.mk A210
            clear A210
            simp only [Option.some.injEq, Prod.mk.injEq] at H
            obtain ⟨rfl, rfl⟩ := H
            obtain ⟨Ao22, co22, eo22⟩ := Kd.R_slice HO_8.out
            subst eo22
            go_wp2_with (first | ((with_reducible refine gate_callee (f := 9) rfl ?_); refine goesL_ (some 44) rfl rfl Try.func9 (by kernel_rfl) rfl #[.slice Ao22 x8_1.length co22, .int .i64 a2] rfl (by (try simp only [List.map_toArray, List.map_cons, List.map_nil]); first | done | rfl | (simp only [List.length_drop, List.length_take]; rfl)) ?_; (with_reducible refine (vec_Top.calls _ _ x8_1 a2 t235 t236 _ ?side1 ?side2 A21.out).mono ?_); (case side1 => repeat (first | exact (Kd.R_reads' HO_8.out).2.2 | (with_reducible refine Kd.C_alloc ?_ _) | (with_reducible refine Kd.C_drewN ?_ _) | (with_reducible refine Kd.C_drew ?_))); (case side2 => exact (Kd.R_reads' HO_8.out).2.1); rintro e w23 ⟨v237, rfl, ho0, hb⟩; refine ⟨_, rfl, ?_⟩; have n0_ := Aside0.mk (Kd.R_elder' (by (with_reducible repeat (first | apply Kd.R_alloc | apply Kd.R_drewN | apply Kd.R_drew)); exact HO_8.out) (Kd.R_base ho0) hb); have n1_ := Aside0.mk (Kd.R_lower (Kd.R_new' ho0 (Kd.R_lt (by (with_reducible repeat (first | apply Kd.R_alloc | apply Kd.R_drewN | apply Kd.R_drew)); exact HO_8.out))) (below_size (by repeat (first | (with_reducible first | exact HB.out | apply below_alloc | apply pw_below_drewN | apply below_drew1) | exact HB.out)))); have n2_ := Aside0.mk (below_step (by repeat (first | (with_reducible first | exact HB.out | apply below_alloc | apply pw_below_drewN | apply below_drew1) | exact HB.out)) hb); clear HO_8; clear HB; have HO_8 := n0_; have HO238 := n1_; have HB := n2_; clear n0_ n1_ n2_; (try clear hb); (try clear hb2); (try clear hk); (try clear hi); (try clear ho0)))
            go_ret2
            exact ⟨_, by first | rfl | (simp [errW_none, errW_some] <;> rfl) | (simp [*, errW_none, errW_some] <;> rfl), by (with_reducible repeat (first | apply Kd.R_alloc | apply Kd.R_drewN | apply Kd.R_drew)); exact Kd.R_mono HO238.out (fun _ hk => trivial), by repeat (first | (with_reducible first | exact HB.out | apply below_alloc | apply pw_below_drewN | apply below_drew1) | exact HB.out)⟩
  · replace c5 := Bool.eq_false_iff.mpr c5
    subst c5
    have H1 : (some (([] : List (S32)), 50)) = some (r1, r2) := by rw [if_neg (show ¬ (false = true) by decide)] at H; exact H
    clear H
    have H := H1
    clear H1
    simp only [Option.some.injEq, Prod.mk.injEq] at H
    obtain ⟨rfl, rfl⟩ := H
    go_enter Try.func14, Try.ntmps14
    go_wp2_with (first | ((with_reducible refine gate_callee (f := 20) rfl ?_); refine goesL_ (some 14) rfl rfl Try.func20 (by kernel_rfl) rfl #[.slice A1 l1.length c1] rfl (by (try simp only [List.map_toArray, List.map_cons, List.map_nil]); first | done | rfl | (simp only [List.length_drop, List.length_take]; rfl)) ?_; (with_reducible refine (vec_is.calls _ _ l1 false _ ?side1 ?side2 A4.out).mono ?_); (case side1 => repeat (first | exact HR1.out | (with_reducible refine Kd.C_alloc ?_ _) | (with_reducible refine Kd.C_drewN ?_ _) | (with_reducible refine Kd.C_drew ?_))); (case side2 => exact HC1.out); rintro e w' ⟨rfl, ⟨nd, rfl⟩⟩; refine ⟨_, rfl, ?_⟩))
    go_ret2
    exact ⟨_, by first | rfl | (simp [errW_none, errW_some] <;> rfl) | (simp [*, errW_none, errW_some] <;> rfl), by first | exact Kd.R_nil _ _ _ _ _ | exact Kd.N_nil _ _ _ _ _ | exact Kd.V_nil _ _ _ _ _ | exact Kd.Q_nil _ _ _ _ _ | exact Kd.S_nil _ _ _ _ _, by repeat (first | (with_reducible first | exact HB.out | apply below_alloc | apply pw_below_drewN | apply below_drew1) | exact HB.out)⟩
def ploverlaw05_VecSearches.f (k : Nat) (l0 : List (S46)) (l1 : List Int) (a2 : Int) : Option (Bool) := if (l0.length : Int) > 60 then ((ploverlaw05_tops.f k).bind fun t260 => (some t260)) else ((vec_Search.f k l0 l1 a2).bind fun bt261 => ((ploverref05_Search.f k l0 l1 a2).bind fun bt265 => ((ploverref05_Same.f k bt261.1 bt265.1).bind fun t269 => (if t269 = true then (if bt261.2 = bt265.2 then ((ploverlaw05_tops.f k).bind fun t270 => (some t270)) else (some false)) else (some false)))))
set_option maxHeartbeats 8000000 in
set_option maxRecDepth 100000 in
theorem ploverlaw05_VecSearches.calls (k : Nat) (A0 : Option Addr) (c0 : Nat) (l0 : List (S46)) (A1 : Option Addr) (c1 : Nat) (l1 : List Int) (a2 : Int) (r : Bool) (w : World) (hr0 : Kd.C k46 w A0 l0.length l0) (hc0 : l0.length ≤ c0) (hr1 : Kd.C (Kd.int .i64) w A1 l1.length l1) (hc1 : l1.length ≤ c1) (h : ploverlaw05_VecSearches.f k l0 l1 a2 = some r) :
    Calls Try.prog 7 #[.slice A0 l0.length c0, .slice A1 l1.length c1, .int .i64 a2] w fun e w' => e = .returned (.bool r) ∧ Below w.heap.size w w' := by
  have HR0 := Aside0.mk hr0
  have HC0 := Aside0.mk hc0
  clear hr0 hc0
  have HR1 := Aside0.mk hr1
  have HC1 := Aside0.mk hc1
  clear hr1 hc1
  have HB := Aside0.mk (Below.refl w.heap.size w)
  have H : (if (l0.length : Int) > 60 then ((ploverlaw05_tops.f k).bind fun t260 => (some t260)) else ((vec_Search.f k l0 l1 a2).bind fun bt261 => ((ploverref05_Search.f k l0 l1 a2).bind fun bt265 => ((ploverref05_Same.f k bt261.1 bt265.1).bind fun t269 => (if t269 = true then (if bt261.2 = bt265.2 then ((ploverlaw05_tops.f k).bind fun t270 => (some t270)) else (some false)) else (some false)))))) = some r := h
  clear h
  by_cases c4 : (l0.length : Int) > 60
  · rw [if_pos c4] at H
    have c4b0 : decide (60 < (l0.length : Int)) = true := decide_eq_true c4
    have c4b1 : decide (60 < l0.length) = true := decide_eq_true (by omega)
    clear c4
    replace H := Option.bind_eq_some_iff.mp H
    obtain ⟨t260, A50, H⟩ := H
    replace H : (some t260) = some r := H
    have A5 := Aside0.mk A50
    clear A50
    obtain rfl := Option.some.inj H
    go_enter Try.func7, Try.ntmps7
    go_wp2_with (first | ((with_reducible refine gate_callee (f := 8) rfl ?_); refine goesL_ (some 14) rfl rfl Try.func8 (by kernel_rfl) rfl #[] rfl (by (try simp only [List.map_toArray, List.map_cons, List.map_nil]); first | done | rfl | (simp only [List.length_drop, List.length_take]; rfl)) ?_; (with_reducible refine (ploverlaw05_tops.calls k  t260 _ A5.out).mono ?_); rintro e w6 ⟨rfl, hb⟩; refine ⟨_, rfl, ?_⟩; have n0_ := Aside0.mk (below_step (by repeat (first | (with_reducible first | exact HB.out | apply below_alloc | apply pw_below_drewN | apply below_drew1) | exact HB.out)) hb); clear HB; have HB := n0_; clear n0_; (try clear hb); (try clear hb2); (try clear hk); (try clear hi)))
    go_ret
    exact ⟨by first | rfl | (simp [errW_none, errW_some] <;> rfl) | (simp [*, errW_none, errW_some] <;> rfl), by repeat (first | (with_reducible first | exact HB.out | apply below_alloc | apply pw_below_drewN | apply below_drew1) | exact HB.out)⟩
  · rw [if_neg c4] at H
    have c4b0 : decide (60 < (l0.length : Int)) = false := decide_eq_false c4
    have c4b1 : decide (60 < l0.length) = false := decide_eq_false (by omega)
    clear c4
    replace H := Option.bind_eq_some_iff.mp H
    obtain ⟨⟨t261, t262⟩, A70, H⟩ := H
    replace H : ((ploverref05_Search.f k l0 l1 a2).bind fun bt265 => ((ploverref05_Same.f k t261 bt265.1).bind fun t269 => (if t269 = true then (if t262 = bt265.2 then ((ploverlaw05_tops.f k).bind fun t270 => (some t270)) else (some false)) else (some false)))) = some r := H
    have A7 := Aside0.mk A70
    clear A70
    replace H := Option.bind_eq_some_iff.mp H
    obtain ⟨⟨t265, t266⟩, A80, H⟩ := H
    replace H : ((ploverref05_Same.f k t261 t265).bind fun t269 => (if t269 = true then (if t262 = t266 then ((ploverlaw05_tops.f k).bind fun t270 => (some t270)) else (some false)) else (some false))) = some r := H
    have A8 := Aside0.mk A80
    clear A80
    replace H := Option.bind_eq_some_iff.mp H
    obtain ⟨t269, A90, H⟩ := H
    replace H : (if t269 = true then (if t262 = t266 then ((ploverlaw05_tops.f k).bind fun t270 => (some t270)) else (some false)) else (some false)) = some r := H
    have A9 := Aside0.mk A90
    clear A90
    by_cases c10 : t269 = true
    · subst c10
      have H1 : (if t262 = t266 then ((ploverlaw05_tops.f k).bind fun t270 => (some t270)) else (some false)) = some r := by rw [if_pos rfl] at H; exact H
      clear H
      have H := H1
      clear H1
      by_cases c11 : t262 = t266
      · rw [if_pos c11] at H
        have c11b0 : (t262 == t266) = true := beq_iff_eq.mpr c11
        have c11b1 : (t262 != t266) = false := bne_eq_false_iff_eq.mpr c11
        clear c11
        replace H := Option.bind_eq_some_iff.mp H
        obtain ⟨t270, A120, H⟩ := H
        replace H : (some t270) = some r := H
        have A12 := Aside0.mk A120
        clear A120
        obtain rfl := Option.some.inj H
        go_enter Try.func7, Try.ntmps7
        go_wp2_with (first | ((with_reducible refine gate_callee (f := 14) rfl ?_); refine goesL_ (some 19) rfl rfl Try.func14 (by kernel_rfl) rfl #[.slice A0 l0.length c0, .slice A1 l1.length c1, .int .i64 a2] rfl (by (try simp only [List.map_toArray, List.map_cons, List.map_nil]); first | done | rfl | (simp only [List.length_drop, List.length_take]; rfl)) ?_; (with_reducible refine (vec_Search.calls k _ _ l0 _ _ l1 a2 t261 t262 _ ?side1 ?side2 ?side3 ?side4 A7.out).mono ?_); (case side1 => repeat (first | exact HR0.out | (with_reducible refine Kd.C_alloc ?_ _) | (with_reducible refine Kd.C_drewN ?_ _) | (with_reducible refine Kd.C_drew ?_))); (case side2 => exact HC0.out); (case side3 => repeat (first | exact HR1.out | (with_reducible refine Kd.C_alloc ?_ _) | (with_reducible refine Kd.C_drewN ?_ _) | (with_reducible refine Kd.C_drew ?_))); (case side4 => exact HC1.out); rintro e w13 ⟨v263, rfl, ho0, hb⟩; refine ⟨_, rfl, ?_⟩; have n0_ := Aside0.mk (Kd.R_lower ho0 (below_size (by repeat (first | (with_reducible first | exact HB.out | apply below_alloc | apply pw_below_drewN | apply below_drew1) | exact HB.out)))); have n1_ := Aside0.mk (below_step (by repeat (first | (with_reducible first | exact HB.out | apply below_alloc | apply pw_below_drewN | apply below_drew1) | exact HB.out)) hb); clear HB; have HO264 := n0_; have HB := n1_; clear n0_ n1_; (try clear hb); (try clear hb2); (try clear hk); (try clear hi); (try clear ho0)) | ((with_reducible refine gate_callee (f := 15) rfl ?_); refine goesL_ (some 26) rfl rfl Try.func15 (by kernel_rfl) rfl #[.slice A0 l0.length c0, .slice A1 l1.length c1, .int .i64 a2] rfl (by (try simp only [List.map_toArray, List.map_cons, List.map_nil]); first | done | rfl | (simp only [List.length_drop, List.length_take]; rfl)) ?_; (with_reducible refine (ploverref05_Search.calls k _ _ l0 _ _ l1 a2 t265 t266 _ ?side1 ?side2 ?side3 ?side4 A8.out).mono ?_); (case side1 => repeat (first | exact (Kd.C_below HR0.out HB.out) | (with_reducible refine Kd.C_alloc ?_ _) | (with_reducible refine Kd.C_drewN ?_ _) | (with_reducible refine Kd.C_drew ?_))); (case side2 => exact HC0.out); (case side3 => repeat (first | exact (Kd.C_below HR1.out HB.out) | (with_reducible refine Kd.C_alloc ?_ _) | (with_reducible refine Kd.C_drewN ?_ _) | (with_reducible refine Kd.C_drew ?_))); (case side4 => exact HC1.out); rintro e w14 ⟨v267, rfl, ho0, hb⟩; refine ⟨_, rfl, ?_⟩; have n0_ := Aside0.mk (Kd.R_elder' (by (with_reducible repeat (first | apply Kd.R_alloc | apply Kd.R_drewN | apply Kd.R_drew)); exact HO264.out) (Kd.R_base ho0) hb); have n1_ := Aside0.mk (Kd.R_lower (Kd.R_new' ho0 (Kd.R_lt (by (with_reducible repeat (first | apply Kd.R_alloc | apply Kd.R_drewN | apply Kd.R_drew)); exact HO264.out))) (below_size (by repeat (first | (with_reducible first | exact HB.out | apply below_alloc | apply pw_below_drewN | apply below_drew1) | exact HB.out)))); have n2_ := Aside0.mk (below_step (by repeat (first | (with_reducible first | exact HB.out | apply below_alloc | apply pw_below_drewN | apply below_drew1) | exact HB.out)) hb); clear HO264; clear HB; have HO264 := n0_; have HO268 := n1_; have HB := n2_; clear n0_ n1_ n2_; (try clear hb); (try clear hb2); (try clear hk); (try clear hi); (try clear ho0); obtain ⟨Ao15, co15, eo15⟩ := Kd.R_slice HO264.out; subst eo15; obtain ⟨Ao16, co16, eo16⟩ := Kd.R_slice HO268.out; subst eo16) | ((with_reducible refine gate_callee (f := 11) rfl ?_); refine goesL_ (some 31) rfl rfl Try.func11 (by kernel_rfl) rfl #[.slice Ao15 t261.length co15, .slice Ao16 t265.length co16] rfl (by (try simp only [List.map_toArray, List.map_cons, List.map_nil]); first | done | rfl | (simp only [List.length_drop, List.length_take]; rfl)) ?_; (with_reducible refine (ploverref05_Same.calls k _ _ t261 _ _ t265 true _ ?side1 ?side2 ?side3 ?side4 A9.out).mono ?_); (case side1 => repeat (first | exact (Kd.R_reads' HO264.out).2.2 | (with_reducible refine Kd.C_alloc ?_ _) | (with_reducible refine Kd.C_drewN ?_ _) | (with_reducible refine Kd.C_drew ?_))); (case side2 => exact (Kd.R_reads' HO264.out).2.1); (case side3 => repeat (first | exact (Kd.R_reads' HO268.out).2.2 | (with_reducible refine Kd.C_alloc ?_ _) | (with_reducible refine Kd.C_drewN ?_ _) | (with_reducible refine Kd.C_drew ?_))); (case side4 => exact (Kd.R_reads' HO268.out).2.1); rintro e w' ⟨rfl, ⟨nd, rfl⟩⟩; refine ⟨_, rfl, ?_⟩) | (go_at_call 8; (with_reducible refine (ploverlaw05_tops.calls k  t270 _ A12.out).mono ?_); rintro e w17 ⟨rfl, hb⟩; have n0_ := Aside0.mk (Kd.R_below (by (with_reducible repeat (first | apply Kd.R_alloc | apply Kd.R_drewN | apply Kd.R_drew)); exact HO264.out) hb); have n1_ := Aside0.mk (Kd.R_below (by (with_reducible repeat (first | apply Kd.R_alloc | apply Kd.R_drewN | apply Kd.R_drew)); exact HO268.out) hb); have n2_ := Aside0.mk (below_step (by repeat (first | (with_reducible first | exact HB.out | apply below_alloc | apply pw_below_drewN | apply below_drew1) | exact HB.out)) hb); clear HO264; clear HO268; clear HB; have HO264 := n0_; have HO268 := n1_; have HB := n2_; clear n0_ n1_ n2_; (try clear hb); (try clear hb2); (try clear hk); (try clear hi)))
        go_ret
        exact ⟨by first | rfl | (simp [errW_none, errW_some] <;> rfl) | (simp [*, errW_none, errW_some] <;> rfl), by repeat (first | (with_reducible first | exact HB.out | apply below_alloc | apply pw_below_drewN | apply below_drew1) | exact HB.out)⟩
      · rw [if_neg c11] at H
        have c11b0 : (t262 == t266) = false := beq_eq_false_iff_ne.mpr c11
        have c11b1 : (t262 != t266) = true := bne_iff_ne.mpr c11
        obtain rfl := Option.some.inj H
        go_enter Try.func7, Try.ntmps7
        go_wp2_with (first | ((with_reducible refine gate_callee (f := 14) rfl ?_); refine goesL_ (some 19) rfl rfl Try.func14 (by kernel_rfl) rfl #[.slice A0 l0.length c0, .slice A1 l1.length c1, .int .i64 a2] rfl (by (try simp only [List.map_toArray, List.map_cons, List.map_nil]); first | done | rfl | (simp only [List.length_drop, List.length_take]; rfl)) ?_; (with_reducible refine (vec_Search.calls k _ _ l0 _ _ l1 a2 t261 t262 _ ?side1 ?side2 ?side3 ?side4 A7.out).mono ?_); (case side1 => repeat (first | exact HR0.out | (with_reducible refine Kd.C_alloc ?_ _) | (with_reducible refine Kd.C_drewN ?_ _) | (with_reducible refine Kd.C_drew ?_))); (case side2 => exact HC0.out); (case side3 => repeat (first | exact HR1.out | (with_reducible refine Kd.C_alloc ?_ _) | (with_reducible refine Kd.C_drewN ?_ _) | (with_reducible refine Kd.C_drew ?_))); (case side4 => exact HC1.out); rintro e w18 ⟨v263, rfl, ho0, hb⟩; refine ⟨_, rfl, ?_⟩; have n0_ := Aside0.mk (Kd.R_lower ho0 (below_size (by repeat (first | (with_reducible first | exact HB.out | apply below_alloc | apply pw_below_drewN | apply below_drew1) | exact HB.out)))); have n1_ := Aside0.mk (below_step (by repeat (first | (with_reducible first | exact HB.out | apply below_alloc | apply pw_below_drewN | apply below_drew1) | exact HB.out)) hb); clear HB; have HO264 := n0_; have HB := n1_; clear n0_ n1_; (try clear hb); (try clear hb2); (try clear hk); (try clear hi); (try clear ho0)) | ((with_reducible refine gate_callee (f := 15) rfl ?_); refine goesL_ (some 26) rfl rfl Try.func15 (by kernel_rfl) rfl #[.slice A0 l0.length c0, .slice A1 l1.length c1, .int .i64 a2] rfl (by (try simp only [List.map_toArray, List.map_cons, List.map_nil]); first | done | rfl | (simp only [List.length_drop, List.length_take]; rfl)) ?_; (with_reducible refine (ploverref05_Search.calls k _ _ l0 _ _ l1 a2 t265 t266 _ ?side1 ?side2 ?side3 ?side4 A8.out).mono ?_); (case side1 => repeat (first | exact (Kd.C_below HR0.out HB.out) | (with_reducible refine Kd.C_alloc ?_ _) | (with_reducible refine Kd.C_drewN ?_ _) | (with_reducible refine Kd.C_drew ?_))); (case side2 => exact HC0.out); (case side3 => repeat (first | exact (Kd.C_below HR1.out HB.out) | (with_reducible refine Kd.C_alloc ?_ _) | (with_reducible refine Kd.C_drewN ?_ _) | (with_reducible refine Kd.C_drew ?_))); (case side4 => exact HC1.out); rintro e w19 ⟨v267, rfl, ho0, hb⟩; refine ⟨_, rfl, ?_⟩; have n0_ := Aside0.mk (Kd.R_elder' (by (with_reducible repeat (first | apply Kd.R_alloc | apply Kd.R_drewN | apply Kd.R_drew)); exact HO264.out) (Kd.R_base ho0) hb); have n1_ := Aside0.mk (Kd.R_lower (Kd.R_new' ho0 (Kd.R_lt (by (with_reducible repeat (first | apply Kd.R_alloc | apply Kd.R_drewN | apply Kd.R_drew)); exact HO264.out))) (below_size (by repeat (first | (with_reducible first | exact HB.out | apply below_alloc | apply pw_below_drewN | apply below_drew1) | exact HB.out)))); have n2_ := Aside0.mk (below_step (by repeat (first | (with_reducible first | exact HB.out | apply below_alloc | apply pw_below_drewN | apply below_drew1) | exact HB.out)) hb); clear HO264; clear HB; have HO264 := n0_; have HO268 := n1_; have HB := n2_; clear n0_ n1_ n2_; (try clear hb); (try clear hb2); (try clear hk); (try clear hi); (try clear ho0); obtain ⟨Ao20, co20, eo20⟩ := Kd.R_slice HO264.out; subst eo20; obtain ⟨Ao21, co21, eo21⟩ := Kd.R_slice HO268.out; subst eo21) | ((with_reducible refine gate_callee (f := 11) rfl ?_); refine goesL_ (some 31) rfl rfl Try.func11 (by kernel_rfl) rfl #[.slice Ao20 t261.length co20, .slice Ao21 t265.length co21] rfl (by (try simp only [List.map_toArray, List.map_cons, List.map_nil]); first | done | rfl | (simp only [List.length_drop, List.length_take]; rfl)) ?_; (with_reducible refine (ploverref05_Same.calls k _ _ t261 _ _ t265 true _ ?side1 ?side2 ?side3 ?side4 A9.out).mono ?_); (case side1 => repeat (first | exact (Kd.R_reads' HO264.out).2.2 | (with_reducible refine Kd.C_alloc ?_ _) | (with_reducible refine Kd.C_drewN ?_ _) | (with_reducible refine Kd.C_drew ?_))); (case side2 => exact (Kd.R_reads' HO264.out).2.1); (case side3 => repeat (first | exact (Kd.R_reads' HO268.out).2.2 | (with_reducible refine Kd.C_alloc ?_ _) | (with_reducible refine Kd.C_drewN ?_ _) | (with_reducible refine Kd.C_drew ?_))); (case side4 => exact (Kd.R_reads' HO268.out).2.1); rintro e w' ⟨rfl, ⟨nd, rfl⟩⟩; refine ⟨_, rfl, ?_⟩))
        go_ret
        exact ⟨by first | rfl | (simp [errW_none, errW_some] <;> rfl) | (simp [*, errW_none, errW_some] <;> rfl), by repeat (first | (with_reducible first | exact HB.out | apply below_alloc | apply pw_below_drewN | apply below_drew1) | exact HB.out)⟩
    · replace c10 := Bool.eq_false_iff.mpr c10
      subst c10
      have H1 : (some false) = some r := by rw [if_neg (show ¬ (false = true) by decide)] at H; exact H
      clear H
      have H := H1
      clear H1
      obtain rfl := Option.some.inj H
      go_enter Try.func7, Try.ntmps7
      go_wp2_with (first | ((with_reducible refine gate_callee (f := 14) rfl ?_); refine goesL_ (some 19) rfl rfl Try.func14 (by kernel_rfl) rfl #[.slice A0 l0.length c0, .slice A1 l1.length c1, .int .i64 a2] rfl (by (try simp only [List.map_toArray, List.map_cons, List.map_nil]); first | done | rfl | (simp only [List.length_drop, List.length_take]; rfl)) ?_; (with_reducible refine (vec_Search.calls k _ _ l0 _ _ l1 a2 t261 t262 _ ?side1 ?side2 ?side3 ?side4 A7.out).mono ?_); (case side1 => repeat (first | exact HR0.out | (with_reducible refine Kd.C_alloc ?_ _) | (with_reducible refine Kd.C_drewN ?_ _) | (with_reducible refine Kd.C_drew ?_))); (case side2 => exact HC0.out); (case side3 => repeat (first | exact HR1.out | (with_reducible refine Kd.C_alloc ?_ _) | (with_reducible refine Kd.C_drewN ?_ _) | (with_reducible refine Kd.C_drew ?_))); (case side4 => exact HC1.out); rintro e w22 ⟨v263, rfl, ho0, hb⟩; refine ⟨_, rfl, ?_⟩; have n0_ := Aside0.mk (Kd.R_lower ho0 (below_size (by repeat (first | (with_reducible first | exact HB.out | apply below_alloc | apply pw_below_drewN | apply below_drew1) | exact HB.out)))); have n1_ := Aside0.mk (below_step (by repeat (first | (with_reducible first | exact HB.out | apply below_alloc | apply pw_below_drewN | apply below_drew1) | exact HB.out)) hb); clear HB; have HO264 := n0_; have HB := n1_; clear n0_ n1_; (try clear hb); (try clear hb2); (try clear hk); (try clear hi); (try clear ho0)) | ((with_reducible refine gate_callee (f := 15) rfl ?_); refine goesL_ (some 26) rfl rfl Try.func15 (by kernel_rfl) rfl #[.slice A0 l0.length c0, .slice A1 l1.length c1, .int .i64 a2] rfl (by (try simp only [List.map_toArray, List.map_cons, List.map_nil]); first | done | rfl | (simp only [List.length_drop, List.length_take]; rfl)) ?_; (with_reducible refine (ploverref05_Search.calls k _ _ l0 _ _ l1 a2 t265 t266 _ ?side1 ?side2 ?side3 ?side4 A8.out).mono ?_); (case side1 => repeat (first | exact (Kd.C_below HR0.out HB.out) | (with_reducible refine Kd.C_alloc ?_ _) | (with_reducible refine Kd.C_drewN ?_ _) | (with_reducible refine Kd.C_drew ?_))); (case side2 => exact HC0.out); (case side3 => repeat (first | exact (Kd.C_below HR1.out HB.out) | (with_reducible refine Kd.C_alloc ?_ _) | (with_reducible refine Kd.C_drewN ?_ _) | (with_reducible refine Kd.C_drew ?_))); (case side4 => exact HC1.out); rintro e w23 ⟨v267, rfl, ho0, hb⟩; refine ⟨_, rfl, ?_⟩; have n0_ := Aside0.mk (Kd.R_elder' (by (with_reducible repeat (first | apply Kd.R_alloc | apply Kd.R_drewN | apply Kd.R_drew)); exact HO264.out) (Kd.R_base ho0) hb); have n1_ := Aside0.mk (Kd.R_lower (Kd.R_new' ho0 (Kd.R_lt (by (with_reducible repeat (first | apply Kd.R_alloc | apply Kd.R_drewN | apply Kd.R_drew)); exact HO264.out))) (below_size (by repeat (first | (with_reducible first | exact HB.out | apply below_alloc | apply pw_below_drewN | apply below_drew1) | exact HB.out)))); have n2_ := Aside0.mk (below_step (by repeat (first | (with_reducible first | exact HB.out | apply below_alloc | apply pw_below_drewN | apply below_drew1) | exact HB.out)) hb); clear HO264; clear HB; have HO264 := n0_; have HO268 := n1_; have HB := n2_; clear n0_ n1_ n2_; (try clear hb); (try clear hb2); (try clear hk); (try clear hi); (try clear ho0); obtain ⟨Ao24, co24, eo24⟩ := Kd.R_slice HO264.out; subst eo24; obtain ⟨Ao25, co25, eo25⟩ := Kd.R_slice HO268.out; subst eo25) | ((with_reducible refine gate_callee (f := 11) rfl ?_); refine goesL_ (some 31) rfl rfl Try.func11 (by kernel_rfl) rfl #[.slice Ao24 t261.length co24, .slice Ao25 t265.length co25] rfl (by (try simp only [List.map_toArray, List.map_cons, List.map_nil]); first | done | rfl | (simp only [List.length_drop, List.length_take]; rfl)) ?_; (with_reducible refine (ploverref05_Same.calls k _ _ t261 _ _ t265 false _ ?side1 ?side2 ?side3 ?side4 A9.out).mono ?_); (case side1 => repeat (first | exact (Kd.R_reads' HO264.out).2.2 | (with_reducible refine Kd.C_alloc ?_ _) | (with_reducible refine Kd.C_drewN ?_ _) | (with_reducible refine Kd.C_drew ?_))); (case side2 => exact (Kd.R_reads' HO264.out).2.1); (case side3 => repeat (first | exact (Kd.R_reads' HO268.out).2.2 | (with_reducible refine Kd.C_alloc ?_ _) | (with_reducible refine Kd.C_drewN ?_ _) | (with_reducible refine Kd.C_drew ?_))); (case side4 => exact (Kd.R_reads' HO268.out).2.1); rintro e w' ⟨rfl, ⟨nd, rfl⟩⟩; refine ⟨_, rfl, ?_⟩))
      go_ret
      exact ⟨by first | rfl | (simp [errW_none, errW_some] <;> rfl) | (simp [*, errW_none, errW_some] <;> rfl), by repeat (first | (with_reducible first | exact HB.out | apply below_alloc | apply pw_below_drewN | apply below_drew1) | exact HB.out)⟩
end Go.Proofs.Ytjcimklmlplagaa.P
namespace Go.Proofs.Ytjcimklmlplagaa.Pure
open Go.RowKit Go.Lib Go.Proofs.Ytjcimklmlplagaa.Giv Go.Proofs.Ytjcimklmlplagaa.P Go.Proofs.YtjcimklmlplagaaW.PrintWords Go.Proofs.YtjcimklmlplagaaW.PrintLast
set_option linter.unusedVariables false
set_option linter.unusedSimpArgs false
theorem Ev.to {α : Type} {g : Nat → Option α} {r r' : α} (h : Ev g r) (e : r = r') : Ev g r' := e ▸ h
theorem w64 {n : Int} (h0 : -9223372036854775808 ≤ n) (h1 : n ≤ 9223372036854775807) : wrap64 n = n := by unfold wrap64; omega
theorem w64_succ (i n : Nat) (h : i < n) (hn : n ≤ 1099511627776000) : wrap64 ((i : Int) + 1) = ((i + 1 : Nat) : Int) := by rw [w64 (by omega) (by omega)]; rfl
theorem same_l0 (A : List S32) (hn : A.length ≤ 1000) : ∀ (d i : Nat), A.length - i ≤ d → i ≤ A.length → Ev (fun k => ploverref05_Same.l0 k A A (i : Int)) true := by
  intro d
  induction d with
  | zero =>
    intro i h1 h2
    refine Ev.step (f := fun _ => some true) (fun k => ?_) (Ev.now _)
    simp only [ploverref05_Same.l0]; rw [if_neg (by omega)]
  | succ d ih =>
    intro i h1 h2
    by_cases hlt : i < A.length
    · refine Ev.step (f := fun k => ploverref05_Same.l0 k A A ((i + 1 : Nat) : Int)) (fun k => ?_) (ih (i + 1) (by omega) (by omega))
      simp only [ploverref05_Same.l0]
      rw [if_pos (by omega), if_pos (by omega), if_pos (by omega), if_neg (by simp), w64_succ i A.length hlt (by omega)]
    · exact ih i (by omega) h2
theorem same_refl (A : List S32) (hn : A.length ≤ 1000) : Ev (fun k => ploverref05_Same.f k A A) true := by
  unfold ploverref05_Same.f
  exact Ev.congr (fun k => if_pos rfl) (same_l0 A hn A.length 0 (by omega) (by omega))
theorem topF_of {l : List S32} {k : Int} (h0 : 0 ≤ k) (h1 : k ≤ 64) (hl : l.length ≤ 1000) (hok : l.all okH = true) : vec_Top.f l k = some ((TopT.F S32.f0 ltH l []).take k.toNat, 0) := by
  unfold vec_Top.f
  rw [if_neg (by omega), if_pos ⟨hl, hok⟩]
theorem F_len (l : List S32) (s : List Int) : (TopT.F S32.f0 ltH l s).length ≤ l.length := by
  have : ∀ (t : List S32) (s : List Int), (TopT.firsts S32.f0 t s).length ≤ t.length := by
    intro t
    induction t with
    | nil => intro s; exact Nat.le_refl _
    | cons x t ih =>
      intro s
      rw [TopT.firsts]
      split
      · have := ih s; simp only [List.length_cons]; omega
      · have := ih (x.f0 :: s); simp only [List.length_cons]; omega
  have h := this (l.mergeSort (TopT.le ltH)) s
  rw [List.length_mergeSort] at h
  exact h
theorem F_ok {l : List S32} (h : l.all okH = true) (s : List Int) (n : Nat) : ((TopT.F S32.f0 ltH l s).take n).all okH = true := by
  rw [List.all_eq_true] at *
  exact fun x hx => h x (TopT.F_mem ordH l s x (List.mem_of_mem_take hx))
theorem three : (TopT.F S32.f0 ltH [⟨3, 2⟩, ⟨1, 2⟩, ⟨3, 1⟩] []).take 2 = [⟨3, 1⟩, ⟨1, 2⟩] := by
  rw [TopT.F_cons (h := ⟨3, 1⟩) ordH ⟨by simp, by simp, by simp [ltH]⟩, TopT.F_cons (h := ⟨1, 2⟩) ordH ⟨by simp, by simp, by simp [ltH]⟩]
  rfl
theorem tops_spec : Ev (fun k => ploverlaw05_tops.f k) true := by
  unfold ploverlaw05_tops.f
  refine Ev.congr (f := fun k => (ploverref05_Same.f k ([⟨3, 1⟩, ⟨1, 2⟩] : List S32) ([⟨3, 1⟩, ⟨1, 2⟩] : List S32)).bind fun t113 => (if t113 = true then (some ((0 : Int) == 0)) else (some false))) (fun k => ?_) ?_
  · rw [topF_of (by decide) (by decide) (by simp) (by decide)]
    simp only [Option.bind_some]
    have e2 : (2 : Int).toNat = 2 := rfl
    rw [e2, three]
  · refine Ev.bind (same_refl _ (by simp)) ?_
    exact Ev.congr (f := fun _ => some true) (fun k => rfl) (Ev.now _)
theorem tops_end : Ev (fun k => (ploverlaw05_tops.f k).bind fun t => (some t)) true := Ev.bind (f := fun n t => some t) tops_spec (Ev.now _)
theorem less_eq (x y : S32) : ploverref05_Less.f x.f0 x.f1 y.f0 y.f1 = some (ltH x y) := by
  unfold ploverref05_Less.f ltH
  by_cases h : x.f1 = y.f1
  · rw [if_pos h]; simp [h]
  · rw [if_neg h]; simp [h]
theorem rd_at (l : List S32) (i : Nat) (h : i < l.length) : rd_T32 l (i : Int) = l[i] := by
  unfold rd_T32
  rw [Int.toNat_natCast, List.getD_eq_getElem?_getD, List.getElem?_eq_getElem h, Option.getD_some]
def ids (l : List S32) : List Int := l.map S32.f0
def nextB (l : List S32) (b i : Int) (there : Bool) : Int := if there = true then b else if b < 0 then i else if ltH (rd_T32 l i) (rd_T32 l b) = true then i else b
theorem l2_spec (l out : List S32) (K : Int) (b : Int) (i : Nat) (r : List S32) (hl : l.length ≤ 1000) (ho : out.length ≤ 1000) (hi : i < l.length) (hb : b < l.length) :
    ∀ (d j : Nat) (th : Bool), out.length - j ≤ d → j ≤ out.length → Ev (fun k => ploverref05_top.l1 k l K out (nextB l b i (th || (out.drop j).any (fun x => x.f0 == (l[i]).f0))) ((i + 1 : Nat) : Int)) r → Ev (fun k => ploverref05_top.l2 k l K out b i th j) r := by
  intro d
  have hend : ∀ (j : Nat) (th : Bool), j = out.length → Ev (fun k => ploverref05_top.l1 k l K out (nextB l b i th) ((i + 1 : Nat) : Int)) r → Ev (fun k => ploverref05_top.l2 k l K out b i th j) r := by
    intro j th hj h
    refine Ev.step (fun k => ?_) h
    simp only [ploverref05_top.l2]
    rw [if_neg (by omega)]
    unfold nextB
    rw [w64_succ i l.length hi (by omega)]
    cases th with
    | true => simp only [if_true]
    | false =>
      by_cases hb0 : b < 0
      · simp only [hb0, if_true, Bool.false_eq_true, if_false]
      · simp only [hb0, Bool.false_eq_true, if_false]
        rw [if_pos (by omega), if_pos (by omega), if_pos (by omega), if_pos hb, less_eq, Option.bind_some]
        split <;> rfl
  induction d with
  | zero =>
    intro j th h1 h2 h
    rw [List.drop_of_length_le (by omega), List.any_nil, Bool.or_false] at h
    exact hend j th (by omega) h
  | succ d ih =>
    intro j th h1 h2 h
    by_cases hlt : j < out.length
    · rw [List.drop_eq_getElem_cons hlt, List.any_cons] at h
      cases th with
      | true =>
        refine Ev.step (f := fun k => ploverref05_top.l2 k l K out b i true ((j + 1 : Nat) : Int)) (fun k => ?_) (ih (j + 1) true (by omega) (by omega) (by simpa using h))
        simp only [ploverref05_top.l2]
        rw [if_pos (by omega), if_pos trivial, w64_succ j out.length hlt (by omega)]
      | false =>
        refine Ev.step (f := fun k => ploverref05_top.l2 k l K out b i ((out[j]).f0 == (l[i]).f0) ((j + 1 : Nat) : Int)) (fun k => ?_) (ih (j + 1) _ (by omega) (by omega) (by simpa using h))
        simp only [ploverref05_top.l2]
        rw [if_pos (by omega), if_neg (by decide), if_pos (by omega), if_pos (by omega), if_pos (by omega), w64_succ j out.length hlt (by omega), rd_at out j hlt, rd_at l i hi]
    · rw [List.drop_of_length_le (by omega), List.any_nil, Bool.or_false] at h
      exact hend j th (by omega) h
def Bst (l : List S32) (S : List Int) (i : Nat) (b : Int) : Prop :=
  (b = -1 ∧ ∀ (t : Nat) (h : t < l.length), t < i → (l[t]).f0 ∈ S) ∨ (∃ (c : Nat) (hc : c < l.length), b = c ∧ c < i ∧ (l[c]).f0 ∉ S ∧ ∀ (t : Nat) (h : t < l.length), t < i → (l[t]).f0 ∉ S → ltH l[t] l[c] = false)
theorem Bst.lt {l : List S32} {S : List Int} {i : Nat} {b : Int} (h : Bst l S i b) (hl : 0 < l.length) : b < l.length := by
  rcases h with ⟨rfl, _⟩ | ⟨c, hc, rfl, _⟩ <;> omega
theorem Bst.next {l : List S32} {S : List Int} {i : Nat} {b : Int} (h : Bst l S i b) (hi : i < l.length) (th : Bool) (ht : th = decide ((l[i]).f0 ∈ S)) : Bst l S (i + 1) (nextB l b i th) := by
  unfold nextB
  by_cases hs : (l[i]).f0 ∈ S
  · rw [if_pos (by rw [ht]; simpa using hs)]
    rcases h with ⟨rfl, h⟩ | ⟨c, hc, rfl, h1, h2, h3⟩
    · refine .inl ⟨rfl, fun t h' hti => ?_⟩
      by_cases e : t = i
      · subst e; exact hs
      · exact h t h' (by omega)
    · refine .inr ⟨c, hc, rfl, by omega, h2, fun t h' hti hn => ?_⟩
      by_cases e : t = i
      · subst e; exact absurd hs hn
      · exact h3 t h' (by omega) hn
  · rw [if_neg (by rw [ht]; simpa using hs)]
    rcases h with ⟨rfl, h⟩ | ⟨c, hc, rfl, h1, h2, h3⟩
    · rw [if_pos (by omega)]
      refine .inr ⟨i, hi, rfl, by omega, hs, fun t h' hti hn => ?_⟩
      by_cases e : t = i
      · subst e; exact ordH.irr _
      · exact absurd (h t h' (by omega)) hn
    · rw [if_neg (by omega), rd_at l i hi, rd_at l c hc]
      by_cases hlt : ltH l[i] l[c] = true
      · rw [if_pos hlt]
        refine .inr ⟨i, hi, rfl, by omega, hs, fun t h' hti hn => ?_⟩
        by_cases e : t = i
        · subst e; exact ordH.irr _
        · cases hq : ltH l[t] l[i] with
          | false => rfl
          | true =>
            have := h3 t h' (by omega) hn
            rw [ordH.tr _ _ _ hq hlt] at this
            cases this
      · rw [if_neg hlt]
        refine .inr ⟨c, hc, rfl, by omega, h2, fun t h' hti hn => ?_⟩
        by_cases e : t = i
        · subst e; simpa using hlt
        · exact h3 t h' (by omega) hn
theorem any_ids (out : List S32) (x : Int) : (false || (out.drop 0).any (fun y => y.f0 == x)) = decide (x ∈ ids out) := by
  rw [List.drop_zero, Bool.false_or]
  unfold ids
  induction out with
  | nil => rfl
  | cons y t ih =>
    rw [List.any_cons, ih, List.map_cons]
    by_cases h : y.f0 = x
    · simp [h]
    · have h' : ¬ x = y.f0 := fun e => h e.symm
      simp [h, h', List.mem_cons]
theorem l1_spec (l out : List S32) (K : Int) (r : List S32) (hl : l.length ≤ 1000) (ho : out.length ≤ 1000)
    (hend : ∀ b, Bst l (ids out) l.length b → Ev (fun k => ploverref05_top.l1 k l K out b (l.length : Int)) r) :
    ∀ (d i : Nat) (b : Int), l.length - i ≤ d → i ≤ l.length → Bst l (ids out) i b → Ev (fun k => ploverref05_top.l1 k l K out b i) r := by
  intro d
  induction d with
  | zero =>
    intro i b h1 h2 hb
    obtain rfl : i = l.length := by omega
    exact hend b hb
  | succ d ih =>
    intro i b h1 h2 hb
    by_cases hlt : i < l.length
    · refine Ev.step (f := fun k => ploverref05_top.l2 k l K out b i false ((0 : Nat) : Int)) (fun k => ?_) (l2_spec l out K b i r hl ho hlt (hb.lt (by omega)) out.length 0 false (by omega) (by omega) (ih (i + 1) _ (by omega) (by omega) (hb.next hlt _ (any_ids out _))))
      simp only [ploverref05_top.l1]
      rw [if_pos (by omega)]
      rfl
    · obtain rfl : i = l.length := by omega
      exact hend b hb
theorem ids_snoc (out : List S32) (h : S32) (i : Int) : i ∈ ids (out ++ [h]) ↔ i ∈ h.f0 :: ids out := by
  unfold ids; simp [or_comm]
theorem l0_spec (l : List S32) (K : Nat) (hl : l.length ≤ 1000) (hK : K ≤ 64) : ∀ (d : Nat) (out : List S32), K - out.length ≤ d → out.length ≤ K →
    Ev (fun k => ploverref05_top.l0 k l (K : Int) out) (out ++ (TopT.F S32.f0 ltH l (ids out)).take (K - out.length)) := by
  intro d
  have hfull : ∀ out : List S32, out.length = K → Ev (fun k => ploverref05_top.l0 k l (K : Int) out) (out ++ (TopT.F S32.f0 ltH l (ids out)).take (K - out.length)) := by
    intro out h
    refine Ev.step (f := fun _ => some out) (fun k => ?_) ?_
    · simp only [ploverref05_top.l0]; rw [if_neg (by omega)]
    · rw [h, Nat.sub_self, List.take_zero, List.append_nil]; exact Ev.now _
  induction d with
  | zero => intro out h1 h2; exact hfull out (by omega)
  | succ d ih =>
    intro out h1 h2
    by_cases hlt : out.length < K
    · refine Ev.step (f := fun k => ploverref05_top.l1 k l (K : Int) out (-1) ((0 : Nat) : Int)) (fun k => ?_) ?_
      · simp only [ploverref05_top.l0]; rw [if_pos (by omega)]; rfl
      · refine l1_spec l out K _ hl (by omega) (fun b hb => ?_) l.length 0 (-1) (by omega) (by omega) (.inl ⟨rfl, fun t h hh => by omega⟩)
        rcases hb with ⟨rfl, h⟩ | ⟨c, hc, rfl, _, h2', h3⟩
        · rw [TopT.F_nil ordH (fun x hx => by
            obtain ⟨t, ht, rfl⟩ := List.getElem_of_mem hx
            exact h t ht ht), List.take_nil, List.append_nil]
          refine Ev.step (f := fun _ => some out) (fun k => ?_) (Ev.now _)
          simp only [ploverref05_top.l1]
          rw [if_neg (by omega), if_pos (by omega)]
        · have hB : TopT.Best S32.f0 ltH l (ids out) l[c] := ⟨List.getElem_mem hc, h2', fun x hx hn => by
            obtain ⟨t, ht, rfl⟩ := List.getElem_of_mem hx
            exact h3 t ht ht hn⟩
          rw [TopT.F_cons ordH hB, show K - out.length = (K - (out.length + 1)) + 1 by omega, List.take_succ_cons]
          have := ih (out ++ [l[c]]) (by rw [List.length_append, List.length_singleton]; omega) (by rw [List.length_append, List.length_singleton]; omega)
          rw [TopT.F_congr l (ids (out ++ [l[c]])) (l[c].f0 :: ids out) (ids_snoc out _), List.length_append, List.length_singleton, List.append_assoc] at this
          refine Ev.step (f := fun k => ploverref05_top.l0 k l (K : Int) (out ++ [l[c]])) (fun k => ?_) this
          simp only [ploverref05_top.l1]
          rw [if_neg (by omega), if_neg (by omega), if_pos (by omega), if_pos (by omega), if_pos (by omega), rd_at l c hc]
    · exact hfull out (by omega)
theorem refTop_spec (l : List S32) (K : Nat) (hl : l.length ≤ 1000) (hK : K ≤ 64) : Ev (fun k => ploverref05_top.f k l (K : Int)) ((TopT.F S32.f0 ltH l []).take K) := by
  have := l0_spec l K hl hK K [] (by simp) (by simp)
  exact Ev.to this (by simp [ids])
def topR (l : List S32) (k : Int) : List S32 × Int := if k < 0 ∨ 64 < k then ([], 51) else ((TopT.F S32.f0 ltH l []).take k.toNat, 0)
theorem topR_len (l : List S32) (k : Int) (h : l.length ≤ 1000) : (topR l k).1.length ≤ 1000 := by
  unfold topR
  split
  · simp
  · have := F_len l []
    simp only [List.length_take]; omega
theorem topF_spec (l : List S32) (k : Int) (hl : l.length ≤ 1000) (hok : l.all okH = true) : vec_Top.f l k = some (topR l k) := by
  unfold vec_Top.f topR
  by_cases h : k < 0 ∨ 64 < k
  · rw [if_pos h, if_pos h]
  · rw [if_neg h, if_neg h, if_pos ⟨hl, hok⟩]
theorem refTopT_spec (l : List S32) (k : Int) (hl : l.length ≤ 1000) : Ev (fun n => ploverref05_Top.f n l k) (topR l k) := by
  unfold ploverref05_Top.f topR
  by_cases h : k < 0
  · rw [if_pos (.inl h)]; exact Ev.congr (fun n => if_pos h) (Ev.now _)
  · by_cases h' : k > 64
    · rw [if_pos (.inr h')]; exact Ev.congr (fun n => (if_neg h).trans (if_pos h')) (Ev.now _)
    · rw [if_neg (by omega)]
      refine Ev.congr (fun n => (if_neg h).trans (if_neg h')) ?_
      obtain ⟨K, rfl⟩ : ∃ K : Nat, k = K := ⟨k.toNat, by omega⟩
      refine Ev.bind (f := fun n t => some (t, 0)) (refTop_spec l K hl (by omega)) ?_
      rw [Int.toNat_natCast]
      exact Ev.now _
theorem VecTops_pure (l : List S32) (k : Int) (hok : l.all okH = true) (_ : (Lit.int .i64 k).wf = true) : ∃ n, ploverlaw05_VecTops.f n l k = some true := by
  refine Ev.rounds ?_
  unfold ploverlaw05_VecTops.f
  by_cases h : (l.length : Int) > 100
  · exact Ev.congr (fun n => if_pos h) (Ev.bind (f := fun n t => some t) tops_spec (Ev.now _))
  · refine Ev.congr (fun n => if_neg h) ?_
    rw [topF_spec l k (by omega) hok]
    simp only [Option.bind_some]
    refine Ev.bind (refTopT_spec l k (by omega)) ?_
    refine Ev.bind (same_refl _ (topR_len l k (by omega))) ?_
    exact Ev.congr (f := fun n => (ploverlaw05_tops.f n).bind fun t => (some t)) (fun n => by simp) tops_end
theorem mask63 (z : Int) : ∃ t : Nat, Go.bits .and .i64 z 63 = (t : Int) ∧ t ≤ 63 := by
  have hm := and_mask_i64 z 6 (by decide)
  have e2 : (((2 ^ 6 - 1 : Nat)) : Int) = 63 := by decide +kernel
  have e3 : (((2 ^ 6 : Nat)) : Int) = 64 := by decide +kernel
  rw [e2, e3] at hm
  rw [hm]
  have h0 := Int.emod_nonneg z (show (64 : Int) ≠ 0 by decide)
  have h1 := Int.emod_lt_of_pos z (show (0 : Int) < 64 by decide)
  exact ⟨(z % 64).toNat, by omega, by omega⟩
theorem VecMerges_pure (a b : List S32) (k : Int) (hoa : a.all okH = true) (hob : b.all okH = true) (_ : (Lit.int .i64 k).wf = true) : ∃ n, ploverlaw05_VecMerges.f n a b k = some true := by
  refine Ev.rounds ?_
  have bad : Ev (fun n => ploverlaw05_VecMerges.j0 n a b k true) true := by
    refine Ev.step (f := fun n => (ploverlaw05_tops.f n).bind fun t175 => (some t175)) (fun n => ?_) (Ev.bind (f := fun n t => some t) tops_spec (Ev.now _))
    simp only [ploverlaw05_VecMerges.j0]
    rw [if_pos trivial]
  unfold ploverlaw05_VecMerges.f
  by_cases h : (a.length : Int) > 60
  · exact Ev.congr (fun n => if_pos h) bad
  · refine Ev.congr (fun n => if_neg h) ?_
    by_cases h' : (b.length : Int) > 60
    · rw [decide_eq_true h']; exact bad
    · rw [decide_eq_false h']
      obtain ⟨K, hK, hK1⟩ := mask63 k
      have la := F_len a []
      have lb := F_len b []
      have ea := topF_of (k := (K : Int)) (by omega) (by omega) (show a.length ≤ 1000 by omega) hoa
      have eb := topF_of (k := (K : Int)) (by omega) (by omega) (show b.length ≤ 1000 by omega) hob
      have eab := topF_of (l := a ++ b) (k := (K : Int)) (by omega) (by omega) (by rw [List.length_append]; omega) (by rw [List.all_append, hoa, hob]; rfl)
      have exy := topF_of (l := (TopT.F S32.f0 ltH a []).take K ++ (TopT.F S32.f0 ltH b []).take K) (k := (K : Int)) (by omega) (by omega) (by rw [List.length_append, List.length_take, List.length_take]; omega) (by rw [List.all_append, F_ok hoa, F_ok hob]; rfl)
      rw [Int.toNat_natCast] at ea eb eab exy
      have hm := TopT.merges (key := S32.f0) ordH a b K K [] (by simp)
      refine Ev.step (f := fun n => (ploverref05_Same.f n ((TopT.F S32.f0 ltH (a ++ b) []).take K) ((TopT.F S32.f0 ltH (a ++ b) []).take K)).bind fun t204 => (if t204 = true then ((ploverlaw05_tops.f n).bind fun t205 => (some t205)) else (some false))) (fun n => ?_) ?_
      · simp only [ploverlaw05_VecMerges.j0]
        rw [if_neg (by decide), hK, ea, eb]
        simp only [Option.bind_some, List.nil_append, List.length_nil]
        rw [if_pos (by omega), if_pos (by omega), if_pos (by rw [List.length_take]; omega), if_pos (by rw [List.length_take, List.length_take]; omega), eab, exy]
        simp only [Option.bind_some]
        rw [hm]
        rfl
      · refine Ev.bind (same_refl _ (by have := F_len (a ++ b) []; rw [List.length_append] at this; rw [List.length_take]; omega)) ?_
        exact Ev.congr (f := fun n => (ploverlaw05_tops.f n).bind fun t => (some t)) (fun n => by simp) tops_end
theorem VecFew_pure (l : List S32) (x y : Int) (hok : l.all okH = true) (_ : (Lit.int .i64 x).wf = true) (_ : (Lit.int .i64 y).wf = true) : ∃ n, ploverlaw05_VecFew.f n l x y = some true := by
  refine Ev.rounds ?_
  unfold ploverlaw05_VecFew.f
  by_cases h : (l.length : Int) > 100
  · exact Ev.congr (fun n => if_pos h) (Ev.bind (f := fun n t => some t) tops_spec (Ev.now _))
  · refine Ev.congr (fun n => if_neg h) ?_
    obtain ⟨p, hp, hp1⟩ := mask63 x
    obtain ⟨q, hq, hq1⟩ := mask63 y
    rw [hp, hq]
    obtain ⟨few, hf, more, hm, hle, hf1, hm1⟩ : ∃ few : Nat, mn (p : Int) (q : Int) = few ∧ ∃ more : Nat, mx (p : Int) (q : Int) = more ∧ few ≤ more ∧ few ≤ 63 ∧ more ≤ 63 := by
      refine ⟨min p q, by unfold mn; split <;> omega, max p q, by unfold mx; split <;> omega, by omega, by omega, by omega⟩
    rw [hf, hm, topF_of (by omega) (by omega) (by omega) hok, topF_of (by omega) (by omega) (by omega) hok]
    simp only [Option.bind_some, Int.toNat_natCast]
    have e1 : ((TopT.F S32.f0 ltH l []).take few).length = min few ((TopT.F S32.f0 ltH l []).take more).length := by rw [List.length_take, List.length_take]; omega
    have e2 : ((TopT.F S32.f0 ltH l []).take more).take ((TopT.F S32.f0 ltH l []).take few).length = (TopT.F S32.f0 ltH l []).take few := by
      rw [List.take_take, List.length_take]
      by_cases hc : few ≤ (TopT.F S32.f0 ltH l []).length
      · congr 1; omega
      · rw [List.take_of_length_le (by omega), List.take_of_length_le (by omega)]
    have g1 : (((TopT.F S32.f0 ltH l []).take few).length : Int) = mn (few : Int) (((TopT.F S32.f0 ltH l []).take more).length : Int) := by
      generalize ((TopT.F S32.f0 ltH l []).take few).length = p at *
      generalize ((TopT.F S32.f0 ltH l []).take more).length = q at *
      unfold mn; split <;> omega
    have g2 : (((TopT.F S32.f0 ltH l []).take few).length : Int) ≤ (((TopT.F S32.f0 ltH l []).take more).length : Int) := by omega
    refine Ev.congr (f := fun n => (ploverref05_Same.f n ((TopT.F S32.f0 ltH l []).take few) ((TopT.F S32.f0 ltH l []).take few)).bind fun t => (if t = true then ((ploverlaw05_tops.f n).bind fun t220 => (some t220)) else (some false))) (fun n => ?_) ?_
    · rw [if_pos trivial, if_pos trivial, if_pos g1, if_pos (by omega), if_pos g2, e2]
    · refine Ev.bind (same_refl _ (by have := F_len l []; rw [List.length_take]; omega)) ?_
      exact Ev.congr (f := fun n => (ploverlaw05_tops.f n).bind fun t => (some t)) (fun n => by simp) tops_end
end Go.Proofs.Ytjcimklmlplagaa.Pure
namespace Go.Proofs.Ytjcimklmlplagaa.Opn
open Go.RowKit Go.Proofs.YtjcimklmlplagaaW.PrintWords
set_option linter.unusedVariables false
def OpensAt {α : Type} (P : Program) (n : Nat) (t : TypeId) (d : Kd α) (G : α → Prop) : Prop :=
  ∀ {H : Type} {enc : TypeId × Value → H} {w : World} {base : Nat} {spare : Nat → Bool} {held : Bool} {cs : List Value} {dd : DataW H} {ps : List MemPlace},
    DataW.trod enc P w base spare held n t cs = some (dd, ps) → (∀ x ∈ dd.weights P t, x ≤ reachBytes) → ∃ a, d.K w a cs ∧ G a
def FieldsAt {α : Type} (P : Program) (n : Nat) (fs : List Field) (start : Nat) (d : Kd α) (G : α → Prop) : Prop :=
  ∀ {H : Type} {enc : TypeId × Value → H} {w : World} {base : Nat} {spare : Nat → Bool} {held : Bool} {cs : List Value} {xs : List (DataW H × List MemPlace)},
    xs.length = fs.length → (∀ (i : Nat) (f : Field), fs[i]? = some f → DataW.trod enc P w base spare held n f.type ((cs.drop f.offset).take (P.cellsOf f.type)) = xs[i]?) →
    (∀ x ∈ DataW.weightsEach P (fs.map Field.type) (xs.map (·.1)), x ≤ reachBytes) → cs.length = start + d.sz → ∃ a, d.K w a (cs.drop start) ∧ G a
section
variable {α β : Type} {P : Program} {n : Nat} {t e : TypeId} {d : Kd α} {G : α → Prop}
theorem OpensAt.map {d' : Kd β} {G' : β → Prop} (g : α → β) (h : OpensAt P n t d G) (hg : ∀ w a cs, d.K w a cs → G a → d'.K w (g a) cs ∧ G' (g a)) : OpensAt P n t d' G' := by
  intro H enc w base spare held cs dd ps ht hw
  obtain ⟨a, h1, h2⟩ := h ht hw
  exact ⟨g a, (hg _ _ _ h1 h2).1, (hg _ _ _ h1 h2).2⟩
theorem opens_int {k : IntKind} (hu : P.underlying t = some (.int k)) : OpensAt P n t (Kd.int k) (fun z => (Lit.int k z).wf = true) := by
  intro H enc w base spare held cs dd ps ht hw
  obtain ⟨z, rfl, _, hz⟩ := DataW.trod_int hu ht
  exact ⟨z, rfl, hz⟩
theorem mem_weightsAll {H : Type} {P : Program} {e : TypeId} : ∀ {l : List (DataW H)} {x : DataW H}, x ∈ l → ∀ y ∈ x.weights P e, y ∈ DataW.weightsAll P e l
  | [], _, h, _, _ => absurd h (List.not_mem_nil)
  | a :: l, x, h, y, hy => by
    rw [DataW.weightsAll]
    rcases List.mem_cons.1 h with rfl | h
    · exact List.mem_append_left _ hy
    · exact List.mem_append_right _ (mem_weightsAll h y hy)
theorem choose_list {γ : Type} (L : Nat) (Q : Nat → γ → Prop) (h : ∀ i, i < L → ∃ a, Q i a) : ∃ l : List γ, l.length = L ∧ ∀ i a, l[i]? = some a → Q i a := by
  induction L with
  | zero => exact ⟨[], rfl, fun i a hi => by simp at hi⟩
  | succ L ih =>
    obtain ⟨l, h1, h2⟩ := ih (fun i hi => h i (by omega))
    obtain ⟨a, ha⟩ := h L (by omega)
    refine ⟨l ++ [a], by simp [h1], fun i b hi => ?_⟩
    by_cases hl : i < l.length
    · rw [List.getElem?_append_left hl] at hi
      exact h2 i b hi
    · rw [List.getElem?_append_right (by omega)] at hi
      have : i - l.length = 0 := by
        cases hq : i - l.length with
        | zero => rfl
        | succ m => rw [hq] at hi; simp at hi
      rw [this] at hi
      simp at hi
      subst hi
      obtain rfl : i = L := by omega
      exact ha
theorem addr_add_add (a : Addr) (i j : Nat) : (a.add i).add j = a.add (i + j) := by
  unfold Addr.add
  by_cases h1 : i = 0
  · subst h1; simp
  · by_cases h2 : j = 0
    · subst h2; simp
    · have h3 : ¬ i + j = 0 := by omega
      simp [h1, h2, Nat.add_assoc]
theorem cells_all {w : World} {base : Nat} {a : Addr} {m : Nat} {cs : List Value} (h : w.cells? base a m = some cs) : cs.length = m ∧ ∀ i u, cs[i]? = some u → w.cell? (a.add i) = some u := by
  obtain ⟨_, h1, h2⟩ := World.cells?_some h
  refine ⟨h1, fun i u hu => ?_⟩
  have hi : i < m := by rw [← h1]; exact (List.getElem?_eq_some_iff.1 hu).1
  rw [h2 i hi]
  exact hu
theorem opens_slice (hu : P.underlying t = some (.slice e)) (hc : P.cellsOf e = d.sz) (B : Nat) (hB : P.bytesOf e = B) (h : ∀ m, m < n → OpensAt P m e d G) :
    OpensAt P n t (Kd.slice e d) (fun l => (∀ x ∈ l, G x) ∧ l.length * B ≤ 140737488351232) := by
  intro H enc w base spare held cs dd ps ht hw
  rcases DataW.trod_slice hu ht with ⟨rfl, hx⟩ | ⟨a, len, cap, elems, rest, m, rfl, rfl, hx, _, hl, hm, hlen, hel, _, _⟩
  · exact ⟨[], ⟨none, 0, rfl, Nat.le_refl _, rfl, by simp, fun h => absurd h (Nat.lt_irrefl 0)⟩, by simp, by simp⟩
  · obtain ⟨rfl, _⟩ := Prod.mk.inj hx
    rw [DataW.weights, hu] at hw
    dsimp only at hw
    have hB' := hw _ List.mem_cons_self
    rw [hB] at hB'
    simp only [List.length_map, hlen] at hB'
    have hb : len * B ≤ 140737488351232 := Nat.le_trans (Nat.mul_le_mul_right _ (Nat.le_add_right _ _)) hB'
    obtain ⟨l, h1, h2⟩ := choose_list (γ := α) len (fun i y => ∃ c, c.length = d.sz ∧ d.K w y c ∧ (∀ q u, c[q]? = some u → w.cell? (a.add (i * d.sz + q)) = some u) ∧ G y) (fun i hi => by
      have hi' := hel i hi
      rw [List.getElem?_eq_getElem (by omega)] at hi'
      obtain ⟨c, hc1, hc2⟩ := Option.bind_eq_some_iff.1 hi'
      obtain ⟨k1, k2⟩ := cells_all hc1
      obtain ⟨y, y1, y2⟩ := h m (Nat.lt_succ_self _) hc2 (fun x hx => hw x (List.mem_cons_of_mem _ (List.mem_append_left _ (mem_weightsAll (List.mem_map_of_mem (List.getElem_mem (by omega))) x hx))))
      refine ⟨y, c, by rw [k1, hc], y1, fun q u hq => ?_, y2⟩
      have := k2 q u hq
      rw [hc] at this
      rw [← addr_add_add]
      exact this)
    refine ⟨l, ⟨some a, cap, by rw [h1], by omega, rfl, by unfold maxLen at hm; omega, fun _ => ⟨a, rfl, fun j p hp => ?_⟩⟩, fun x hx => ?_, by rw [h1]; exact hb⟩
    · obtain ⟨c, c1, c2, c3, _⟩ := h2 j p hp
      exact ⟨c, c1, c2, c3⟩
    · obtain ⟨i, hi, rfl⟩ := List.getElem_of_mem hx
      obtain ⟨_, _, _, _, g⟩ := h2 i _ (List.getElem?_eq_getElem hi)
      exact g
theorem fields_one {f : Field} {start : Nat} (ho : f.offset = start) (hc : P.cellsOf f.type = d.sz) (h : OpensAt P n f.type d G) : FieldsAt P n [f] start d G := by
  intro H enc w base spare held cs xs hl ht hw hlen
  match xs, hl with
  | [x], _ =>
    have h0 := ht 0 f rfl
    rw [ho, hc, List.take_of_length_le (by rw [List.length_drop]; omega)] at h0
    exact h (dd := x.1) (ps := x.2) h0 (fun y hy => hw y (by simpa [DataW.weightsEach] using hy))
theorem fields_cons {f : Field} {fs : List Field} {start : Nat} {d2 : Kd β} {G2 : β → Prop} (ho : f.offset = start) (hc : P.cellsOf f.type = d.sz) (h : OpensAt P n f.type d G) (h2 : FieldsAt P n fs (start + d.sz) d2 G2) :
    FieldsAt P n (f :: fs) start (Kd.pair d d2) (fun a => G a.1 ∧ G2 a.2) := by
  intro H enc w base spare held cs xs hl ht hw hlen
  match xs, hl with
  | x :: xs, hl =>
    have hs : (Kd.pair d d2).sz = d.sz + d2.sz := rfl
    rw [hs] at hlen
    have h0 := ht 0 f rfl
    rw [ho, hc] at h0
    have hw' : ∀ y ∈ DataW.weights P f.type x.1 ++ DataW.weightsEach P (fs.map Field.type) (xs.map (·.1)), y ≤ reachBytes := by
      intro y hy
      exact hw y (by simpa [DataW.weightsEach] using hy)
    obtain ⟨a, a1, a2⟩ := h (dd := x.1) (ps := x.2) h0 (fun y hy => hw' y (List.mem_append_left _ hy))
    obtain ⟨b, b1, b2⟩ := h2 (cs := cs) (xs := xs) (by simpa using hl) (fun i g hg => ht (i + 1) g hg) (fun y hy => hw' y (List.mem_append_right _ hy)) (by omega)
    refine ⟨(a, b), ⟨(cs.drop start).take d.sz, cs.drop (start + d.sz), ?_, a1, b1⟩, a2, b2⟩
    rw [← List.drop_drop, List.take_append_drop]
theorem opens_struct {fs : Array Field} (hu : P.underlying t = some (.struct fs)) (hc : P.cellsOf t = d.sz) (h : ∀ m, m < n → FieldsAt P m fs.toList 0 d G) : OpensAt P n t d G := by
  intro H enc w base spare held cs dd ps ht hw
  obtain ⟨xs, m, rfl, hx, hl, hxs, hf⟩ := DataW.trod_struct hu ht
  obtain ⟨rfl, _⟩ := Prod.mk.inj hx
  rw [DataW.weights, hu] at hw
  obtain ⟨a, a1, a2⟩ := h m (Nat.lt_succ_self _) (cs := cs) (xs := xs) (by simpa using hxs) (fun i f hi => hf i f (by simpa using hi)) hw (by rw [hl, hc]; omega)
  exact ⟨a, by simpa using a1, a2⟩
end
theorem weights_of {H : Type} {P : Program} {ts : List TypeId} {ds : List (DataW H)} {j : Nat} {t : TypeId} {d : DataW H} (hsz : (DataW.weightsEach P ts ds).all (· ≤ reachBytes) = true) (ht : ts[j]? = some t) (hd : ds[j]? = some d) : ∀ x ∈ d.weights P t, x ≤ reachBytes := by
  intro x hx
  have := List.all_eq_true.1 hsz x (DataW.weights_mem_each ht hd x hx)
  simpa using this
end Go.Proofs.Ytjcimklmlplagaa.Opn
namespace Go.Proofs.Ytjcimklmlplagaa.Opn
open Go.RowKit Go.Proofs.YtjcimklmlplagaaW.PrintWords
set_option linter.unusedVariables false
theorem wf64 {z : Int} (h : (Lit.int .i64 z).wf = true) : -9223372036854775808 ≤ z ∧ z ≤ 9223372036854775807 := by
  simpa [Lit.wf, show IntKind.i64.min = -9223372036854775808 from rfl, show IntKind.i64.max = 9223372036854775807 from rfl] using h
theorem opens_hit : ∀ n, OpensAt Try.prog n 32 P.k32 (fun x => Giv.okH x = true) := fun n =>
  OpensAt.map (d := Kd.pair (Kd.int .i64) (Kd.int .i64)) (fun a => (⟨a.1, a.2⟩ : P.S32)) (opens_struct Try.underlying32 (by kernel_rfl) (fun m hm => fields_cons rfl (by kernel_rfl) (opens_int (by kernel_rfl)) (fields_one rfl (by kernel_rfl) (opens_int (by kernel_rfl))))) (fun w a cs h1 h2 => ⟨h1, by
    have := wf64 h2.1
    unfold Giv.okH
    simpa using this⟩)
theorem opens_point : ∀ n, OpensAt Try.prog n 46 P.k46 (fun x => (-9223372036854775808 ≤ x.f0 ∧ x.f0 ≤ 9223372036854775807) ∧ x.f1.length ≤ 1000000000000000) := fun n =>
  OpensAt.map (d := Kd.pair (Kd.int .i64) (Kd.slice 3 (Kd.int .i64))) (fun a => (⟨a.1, a.2⟩ : P.S46)) (opens_struct Try.underlying46 (by kernel_rfl) (fun m hm => fields_cons rfl (by kernel_rfl) (opens_int (by kernel_rfl)) (fields_one rfl (by kernel_rfl) (opens_slice (e := 3) (by kernel_rfl) (by kernel_rfl) 8 (by kernel_rfl) (fun q hq => opens_int (by kernel_rfl)))))) (fun w a cs h1 h2 => ⟨h1, wf64 h2.1, by have := h2.2.2; simp only; omega⟩)
theorem open_hits {H : Type} {enc : TypeId × Value → H} {W : World} {base : Nat} {spare : Nat → Bool} {held : Bool} {v : Value} {d : DataW H} {ps : List MemPlace} {r : Reach} {b0 : Nat}
    (hval : Value.okWide Try.prog W r b0 22 v) (hd : DataW.Trod enc Try.prog W base spare held 22 v d ps) (hw : ∀ x ∈ d.weights Try.prog 22, x ≤ reachBytes) :
    ∃ (l : List P.S32) (A : Option Addr) (c : Nat), v = .slice A l.length c ∧ Kd.C P.k32 W A l.length l ∧ l.length ≤ c ∧ l.all Giv.okH = true := by
  obtain ⟨a, len, cap, rfl⟩ := Go.WideShapes.okWide_slice Try.underlying22 hval
  obtain ⟨n, hn⟩ := hd
  obtain ⟨l0, ⟨A, c, he, hl, hC⟩, hg, _⟩ := opens_slice (d := P.k32) (e := 32) Try.underlying22 (by kernel_rfl) (Try.prog.bytesOf 32) rfl (fun m hm => opens_hit m) hn hw
  have he' : Value.slice a len cap = Value.slice A l0.length c := by
    have : ([Value.slice a len cap] : List Value) = [.slice A l0.length c] := he
    exact (List.cons.inj this).1
  exact ⟨l0, A, c, he', hC, hl, List.all_eq_true.2 hg⟩
theorem open_points {H : Type} {enc : TypeId × Value → H} {W : World} {base : Nat} {spare : Nat → Bool} {held : Bool} {v : Value} {d : DataW H} {ps : List MemPlace} {r : Reach} {b0 : Nat}
    (hval : Value.okWide Try.prog W r b0 35 v) (hd : DataW.Trod enc Try.prog W base spare held 35 v d ps) (hw : ∀ x ∈ d.weights Try.prog 35, x ≤ reachBytes) :
    ∃ (l : List P.S46) (A : Option Addr) (c : Nat), v = .slice A l.length c ∧ Kd.C P.k46 W A l.length l ∧ l.length ≤ c ∧ (∀ x ∈ l, (-9223372036854775808 ≤ x.f0 ∧ x.f0 ≤ 9223372036854775807) ∧ x.f1.length ≤ 1000000000000000) := by
  obtain ⟨a, len, cap, rfl⟩ := Go.WideShapes.okWide_slice Try.underlying35 hval
  obtain ⟨n, hn⟩ := hd
  obtain ⟨l0, ⟨A, c, he, hl, hC⟩, hg, _⟩ := opens_slice (d := P.k46) (e := 46) Try.underlying35 (by kernel_rfl) (Try.prog.bytesOf 46) rfl (fun m hm => opens_point m) hn hw
  have he' : Value.slice a len cap = Value.slice A l0.length c := by
    have : ([Value.slice a len cap] : List Value) = [.slice A l0.length c] := he
    exact (List.cons.inj this).1
  exact ⟨l0, A, c, he', hC, hl, hg⟩
theorem open_vec {H : Type} {enc : TypeId × Value → H} {W : World} {base : Nat} {spare : Nat → Bool} {held : Bool} {v : Value} {d : DataW H} {ps : List MemPlace} {r : Reach} {b0 : Nat}
    (hval : Value.okWide Try.prog W r b0 36 v) (hd : DataW.Trod enc Try.prog W base spare held 36 v d ps) (hw : ∀ x ∈ d.weights Try.prog 36, x ≤ reachBytes) :
    ∃ (l : List Int) (A : Option Addr) (c : Nat), v = .slice A l.length c ∧ Kd.C (Kd.int .i64) W A l.length l ∧ l.length ≤ c ∧ l.length ≤ 1000000000000000 := by
  obtain ⟨a, len, cap, rfl⟩ := Go.WideShapes.okWide_slice Try.underlying36 hval
  obtain ⟨n, hn⟩ := hd
  obtain ⟨l0, ⟨A, c, he, hl, hC⟩, hg, hz⟩ := opens_slice (d := Kd.int .i64) (e := 3) Try.underlying36 (by kernel_rfl) 8 (by kernel_rfl) (fun m hm => opens_int (by kernel_rfl)) hn hw
  have he' : Value.slice a len cap = Value.slice A l0.length c := by
    have : ([Value.slice a len cap] : List Value) = [.slice A l0.length c] := he
    exact (List.cons.inj this).1
  exact ⟨l0, A, c, he', hC, hl, by omega⟩
theorem open_hit {H : Type} {enc : TypeId × Value → H} {W : World} {base : Nat} {spare : Nat → Bool} {held : Bool} {v : Value} {d : DataW H} {ps : List MemPlace} {r : Reach} {b0 : Nat}
    (hval : Value.okWide Try.prog W r b0 32 v) (hd : DataW.Trod enc Try.prog W base spare held 32 v d ps) (hw : ∀ x ∈ d.weights Try.prog 32, x ≤ reachBytes) :
    ∃ (a b : Int), v = .agg #[.int .i64 a, .int .i64 b] := by
  obtain ⟨cs, rfl, _⟩ := Go.WideShapes.okWide_struct Try.underlying32 hval
  obtain ⟨n, hn⟩ := hd
  obtain ⟨x, hK, _⟩ := opens_hit n hn hw
  refine ⟨x.f0, x.f1, ?_⟩
  congr 1
  exact Array.toList_inj.1 (P.k32_open hK)
end Go.Proofs.Ytjcimklmlplagaa.Opn
