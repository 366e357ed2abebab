/- Texts put together by prune.py: Px12, BncHrp, BncJrp, BncXrp, FrmP, FrmRp, FrmQp, PstC, PstD, PstE, PstF, PstN. -/
import Derived.Lib.SmallJoins
import Derived.Laws.EntriesVeiled
import Derived.Deep.RegionHeld3
import Derived.Test.YtlggihnkhimfkaaDoorSl4
namespace Go.Proofs.YtlggihnkhimfkaaDoor.P
open Go.RowKit Go.Proofs.YtlggihnkhimfkaaDoorW.PrintWords Go.Proofs.YtlggihnkhimfkaaDoorW.PrintLast Go.Proofs.YtlggihnkhimfkaaDoorW.PrintMore
attribute [local go_sem] max2_int min2_int max_two min_two max_three min_three max_four min_four   -- for this text's walks alone
set_option linter.unusedVariables false
set_option linter.unusedSimpArgs false
open Go.Proofs.YtlggihnkhimfkaaDoor.Giv
def frame_Put.f (a0 : ByteArray) : Option (ByteArray × Int) := if (a0.size : Int) > 262144 then (some ((⟨#[]⟩ : ByteArray), 23)) else ((crc_Hex.f (a0.size : Int)).bind fun bt370 => ((crc_Sum.f a0).bind fun t372 => ((crc_Hex.f t372).bind fun bt373 => (if bt370.1.size + bt373.1.size ≤ 9223372036854775807 then (if (bt370.1 ++ bt373.1).size + 1 ≤ 9223372036854775807 then (if ((bt370.1 ++ bt373.1) ++ (⟨#[124]⟩ : ByteArray)).size + a0.size ≤ 9223372036854775807 then (if (((bt370.1 ++ bt373.1) ++ (⟨#[124]⟩ : ByteArray)) ++ a0).size + 1 ≤ 9223372036854775807 then (some ((((bt370.1 ++ bt373.1) ++ (⟨#[124]⟩ : ByteArray)) ++ a0) ++ (⟨#[10]⟩ : ByteArray), 0)) else (none)) else (none)) else (none)) else (none)))))
set_option maxHeartbeats 8000000 in
set_option maxRecDepth 100000 in
theorem frame_Put.calls (a0 : ByteArray) (r1 : ByteArray) (r2 : Int) (w : World) (hL : LaidW w) (h : frame_Put.f a0 = some (r1, r2)) :
    Calls Tryd.prog 20 #[.string a0] w fun e w' => e = .returned (.tuple #[.string r1, .int .i64 r2]) ∧ Below w.heap.size w w' := by
  have HB := Aside0.mk (Below.refl w.heap.size w)
  have H : (if (a0.size : Int) > 262144 then (some ((⟨#[]⟩ : ByteArray), 23)) else ((crc_Hex.f (a0.size : Int)).bind fun bt370 => ((crc_Sum.f a0).bind fun t372 => ((crc_Hex.f t372).bind fun bt373 => (if bt370.1.size + bt373.1.size ≤ 9223372036854775807 then (if (bt370.1 ++ bt373.1).size + 1 ≤ 9223372036854775807 then (if ((bt370.1 ++ bt373.1) ++ (⟨#[124]⟩ : ByteArray)).size + a0.size ≤ 9223372036854775807 then (if (((bt370.1 ++ bt373.1) ++ (⟨#[124]⟩ : ByteArray)) ++ a0).size + 1 ≤ 9223372036854775807 then (some ((((bt370.1 ++ bt373.1) ++ (⟨#[124]⟩ : ByteArray)) ++ a0) ++ (⟨#[10]⟩ : ByteArray), 0)) else (none)) else (none)) else (none)) else (none)))))) = some (r1, r2) := h
  clear h
  by_cases c2 : (a0.size : Int) > 262144
  · rw [if_pos c2] at H
    have c2b0 : decide (262144 < (a0.size : Int)) = true := decide_eq_true c2
    have c2b1 : decide (262144 < a0.size) = true := decide_eq_true (by omega)
    clear c2
    simp only [Option.some.injEq, Prod.mk.injEq] at H
    obtain ⟨rfl, rfl⟩ := H
    go_enter Tryd.func20, Tryd.ntmps20
    go_wp2
    go_ret2
    exact ⟨by first | rfl | (simp [errW_none, errW_some] <;> rfl) | (simp [*, errW_none, errW_some] <;> rfl), by repeat (first | (with_reducible first | exact HB.out | apply below_alloc | apply pw_below_drewN | apply below_drew1) | exact HB.out)⟩
  · rw [if_neg c2] at H
    have c2b0 : decide (262144 < (a0.size : Int)) = false := decide_eq_false c2
    have c2b1 : decide (262144 < a0.size) = false := decide_eq_false (by omega)
    clear c2
    replace H := Option.bind_eq_some_iff.mp H
    obtain ⟨⟨t370, t371⟩, A30, H⟩ := H
    replace H : ((crc_Sum.f a0).bind fun t372 => ((crc_Hex.f t372).bind fun bt373 => (if t370.size + bt373.1.size ≤ 9223372036854775807 then (if (t370 ++ bt373.1).size + 1 ≤ 9223372036854775807 then (if ((t370 ++ bt373.1) ++ (⟨#[124]⟩ : ByteArray)).size + a0.size ≤ 9223372036854775807 then (if (((t370 ++ bt373.1) ++ (⟨#[124]⟩ : ByteArray)) ++ a0).size + 1 ≤ 9223372036854775807 then (some ((((t370 ++ bt373.1) ++ (⟨#[124]⟩ : ByteArray)) ++ a0) ++ (⟨#[10]⟩ : ByteArray), 0)) else (none)) else (none)) else (none)) else (none)))) = some (r1, r2) := H
    have A3 := Aside0.mk A30
    clear A30
    replace H := Option.bind_eq_some_iff.mp H
    obtain ⟨t372, A40, H⟩ := H
    replace H : ((crc_Hex.f t372).bind fun bt373 => (if t370.size + bt373.1.size ≤ 9223372036854775807 then (if (t370 ++ bt373.1).size + 1 ≤ 9223372036854775807 then (if ((t370 ++ bt373.1) ++ (⟨#[124]⟩ : ByteArray)).size + a0.size ≤ 9223372036854775807 then (if (((t370 ++ bt373.1) ++ (⟨#[124]⟩ : ByteArray)) ++ a0).size + 1 ≤ 9223372036854775807 then (some ((((t370 ++ bt373.1) ++ (⟨#[124]⟩ : ByteArray)) ++ a0) ++ (⟨#[10]⟩ : ByteArray), 0)) else (none)) else (none)) else (none)) else (none))) = some (r1, r2) := H
    have A4 := Aside0.mk A40
    clear A40
    replace H := Option.bind_eq_some_iff.mp H
    obtain ⟨⟨t373, t374⟩, A50, H⟩ := H
    replace H : (if t370.size + t373.size ≤ 9223372036854775807 then (if (t370 ++ t373).size + 1 ≤ 9223372036854775807 then (if ((t370 ++ t373) ++ (⟨#[124]⟩ : ByteArray)).size + a0.size ≤ 9223372036854775807 then (if (((t370 ++ t373) ++ (⟨#[124]⟩ : ByteArray)) ++ a0).size + 1 ≤ 9223372036854775807 then (some ((((t370 ++ t373) ++ (⟨#[124]⟩ : ByteArray)) ++ a0) ++ (⟨#[10]⟩ : ByteArray), 0)) else (none)) else (none)) else (none)) else (none)) = some (r1, r2) := H
    have A5 := Aside0.mk A50
    clear A50
    by_cases c6 : t370.size + t373.size ≤ 9223372036854775807
    · rw [if_pos c6] at H
      have c6b0 := eq_true c6
      have c6b1 : decide (t370.size + t373.size ≤ 9223372036854775807) = true := decide_eq_true c6
      try have c6b2 : (9223372036854775807 < t370.size + t373.size) = False := eq_false (Nat.not_lt.2 c6)
      by_cases c7 : (t370 ++ t373).size + 1 ≤ 9223372036854775807
      · rw [if_pos c7] at H
        have c7b0 := eq_true c7
        have c7b1 : decide ((t370 ++ t373).size + 1 ≤ 9223372036854775807) = true := decide_eq_true c7
        try have c7b2 : (9223372036854775807 < (t370 ++ t373).size + 1) = False := eq_false (Nat.not_lt.2 c7)
        have c7b3 : t370.size + t373.size + 1 ≤ 9223372036854775807 := by have h := c7; simp only [ByteArray.size_append] at h; exact h
        try have c7b4 : (9223372036854775807 < t370.size + t373.size + 1) = False := eq_false (Nat.not_lt.2 c7b3)
        by_cases c8 : ((t370 ++ t373) ++ (⟨#[124]⟩ : ByteArray)).size + a0.size ≤ 9223372036854775807
        · rw [if_pos c8] at H
          have c8b0 := eq_true c8
          have c8b1 : decide (((t370 ++ t373) ++ (⟨#[124]⟩ : ByteArray)).size + a0.size ≤ 9223372036854775807) = true := decide_eq_true c8
          try have c8b2 : (9223372036854775807 < ((t370 ++ t373) ++ (⟨#[124]⟩ : ByteArray)).size + a0.size) = False := eq_false (Nat.not_lt.2 c8)
          have c8b3 : t370.size + t373.size + 1 + a0.size ≤ 9223372036854775807 := by have h := c8; simp only [ByteArray.size_append] at h; exact h
          try have c8b4 : (9223372036854775807 < t370.size + t373.size + 1 + a0.size) = False := eq_false (Nat.not_lt.2 c8b3)
          by_cases c9 : (((t370 ++ t373) ++ (⟨#[124]⟩ : ByteArray)) ++ a0).size + 1 ≤ 9223372036854775807
          · rw [if_pos c9] at H
            have c9b0 := eq_true c9
            have c9b1 : decide ((((t370 ++ t373) ++ (⟨#[124]⟩ : ByteArray)) ++ a0).size + 1 ≤ 9223372036854775807) = true := decide_eq_true c9
            try have c9b2 : (9223372036854775807 < (((t370 ++ t373) ++ (⟨#[124]⟩ : ByteArray)) ++ a0).size + 1) = False := eq_false (Nat.not_lt.2 c9)
            have c9b3 : t370.size + t373.size + 1 + a0.size + 1 ≤ 9223372036854775807 := by have h := c9; simp only [ByteArray.size_append] at h; exact h
            try have c9b4 : (9223372036854775807 < t370.size + t373.size + 1 + a0.size + 1) = False := eq_false (Nat.not_lt.2 c9b3)
            simp only [Option.some.injEq, Prod.mk.injEq] at H
            obtain ⟨rfl, rfl⟩ := H
            go_enter Tryd.func20, Tryd.ntmps20
            go_wp2_with (first | ((with_reducible refine gate_callee (f := 38) rfl ?_); refine goesL_ (some 14) rfl rfl Tryd.func38 (by kernel_rfl) rfl #[.int .i64 (a0.size : Int)] rfl (by (try simp only [List.map_toArray, List.map_cons, List.map_nil]); first | done | rfl | (simp only [List.length_drop, List.length_take]; rfl)) ?_; (with_reducible refine (crc_Hex.calls (a0.size : Int) t370 t371 _ (LaidW.below hL (by repeat (first | (with_reducible first | exact HB.out | apply below_alloc | apply pw_below_drewN | apply below_drew1) | exact HB.out))) A3.out).mono ?_); rintro e w10 ⟨rfl, hb⟩; refine ⟨_, rfl, ?_⟩; have n0_ := Aside0.mk (below_step (by repeat (first | (with_reducible first | exact HB.out | apply below_alloc | apply pw_below_drewN | apply below_drew1) | exact HB.out)) hb); clear HB; have HB := n0_; clear n0_; (try clear hb); (try clear hb2); (try clear hk); (try clear hi)) | ((with_reducible refine gate_callee (f := 39) rfl ?_); refine goesL_ (some 19) rfl rfl Tryd.func39 (by kernel_rfl) rfl #[.string a0] rfl (by (try simp only [List.map_toArray, List.map_cons, List.map_nil]); first | done | rfl | (simp only [List.length_drop, List.length_take]; rfl)) ?_; (with_reducible refine (crc_Sum.calls a0 t372 _ A4.out).mono ?_); rintro e w11 ⟨rfl, hb⟩; refine ⟨_, rfl, ?_⟩; have n0_ := Aside0.mk (below_step (by repeat (first | (with_reducible first | exact HB.out | apply below_alloc | apply pw_below_drewN | apply below_drew1) | exact HB.out)) hb); clear HB; have HB := n0_; clear n0_; (try clear hb); (try clear hb2); (try clear hk); (try clear hi)) | ((with_reducible refine gate_callee (f := 38) rfl ?_); refine goesL_ (some 20) rfl rfl Tryd.func38 (by kernel_rfl) rfl #[.int .i64 t372] rfl (by (try simp only [List.map_toArray, List.map_cons, List.map_nil]); first | done | rfl | (simp only [List.length_drop, List.length_take]; rfl)) ?_; (with_reducible refine (crc_Hex.calls t372 t373 t374 _ (LaidW.below hL (by repeat (first | (with_reducible first | exact HB.out | apply below_alloc | apply pw_below_drewN | apply below_drew1) | exact HB.out))) A5.out).mono ?_); rintro e w12 ⟨rfl, hb⟩; refine ⟨_, rfl, ?_⟩; have n0_ := Aside0.mk (below_step (by repeat (first | (with_reducible first | exact HB.out | apply below_alloc | apply pw_below_drewN | apply below_drew1) | exact HB.out)) hb); clear HB; have HB := n0_; clear n0_; (try clear hb); (try clear hb2); (try clear hk); (try clear hi)))
            go_ret2
            exact ⟨by first | rfl | (simp [errW_none, errW_some] <;> rfl) | (simp [*, errW_none, errW_some] <;> rfl), by repeat (first | (with_reducible first | exact HB.out | apply below_alloc | apply pw_below_drewN | apply below_drew1) | exact HB.out)⟩
          · rw [if_neg c9] at H
            exact absurd H (by simp)
        · rw [if_neg c8] at H
          exact absurd H (by simp)
      · rw [if_neg c7] at H
        exact absurd H (by simp)
    · rw [if_neg c6] at H
      exact absurd H (by simp)
def benc_Only.f (a0 : ByteArray) : Option (Int × Int × ByteArray × (List (S49)) × Int) := (benc_Take.f a0).bind fun bt376 => (if bt376.2.2.2.2.2 = 0 then (if bt376.2.2.2.2.1 < (a0.size : Int) then (some (0, 0, (⟨#[]⟩ : ByteArray), ([] : List (S49)), 20)) else (some (bt376.1, bt376.2.1, bt376.2.2.1, bt376.2.2.2.1, 0))) else (some (0, 0, (⟨#[]⟩ : ByteArray), ([] : List (S49)), bt376.2.2.2.2.2)))
set_option maxHeartbeats 8000000 in
set_option maxRecDepth 100000 in
theorem benc_Only.calls (a0 : ByteArray) (r1 : Int) (r2 : Int) (r3 : ByteArray) (r4 : List (S49)) (r5 : Int) (w : World) (hL : LaidW w) (h : benc_Only.f a0 = some (r1, r2, r3, r4, r5)) :
    Calls Tryd.prog 31 #[.string a0] w fun e w' => ∃ v3_ : Value, e = .returned (.tuple #[.agg #[.int .i64 r1, .int .i64 r2, .string r3, v3_], .int .i64 r5]) ∧ Kd.R k49 49 w' w.heap.size (fun _ => True) v3_ r4 ∧ Below w.heap.size w w' := by
  have hu49 := Tryd.underlying49
  have HB := Aside0.mk (Below.refl w.heap.size w)
  have H : ((benc_Take.f a0).bind fun bt376 => (if bt376.2.2.2.2.2 = 0 then (if bt376.2.2.2.2.1 < (a0.size : Int) then (some (0, 0, (⟨#[]⟩ : ByteArray), ([] : List (S49)), 20)) else (some (bt376.1, bt376.2.1, bt376.2.2.1, bt376.2.2.2.1, 0))) else (some (0, 0, (⟨#[]⟩ : ByteArray), ([] : List (S49)), bt376.2.2.2.2.2)))) = some (r1, r2, r3, r4, r5) := h
  clear h
  replace H := Option.bind_eq_some_iff.mp H
  obtain ⟨⟨t376, t377, t378, t379, t382, t383⟩, A20, H⟩ := H
  replace H : (if t383 = 0 then (if t382 < (a0.size : Int) then (some (0, 0, (⟨#[]⟩ : ByteArray), ([] : List (S49)), 20)) else (some (t376, t377, t378, t379, 0))) else (some (0, 0, (⟨#[]⟩ : ByteArray), ([] : List (S49)), t383))) = some (r1, r2, r3, r4, r5) := H
  have A2 := Aside0.mk A20
  clear A20
  by_cases c3 : t383 = 0
  · rw [if_pos c3] at H
    have c3b0 : (t383 == 0) = true := beq_iff_eq.mpr c3
    have c3b1 : (t383 != 0) = false := bne_eq_false_iff_eq.mpr c3
    clear c3
    by_cases c4 : t382 < (a0.size : Int)
    · rw [if_pos c4] at H
      have c4b0 : decide (t382 < (a0.size : Int)) = true := decide_eq_true c4
      clear c4
      simp only [Option.some.injEq, Prod.mk.injEq] at H
      obtain ⟨rfl, rfl, rfl, rfl, rfl⟩ := H
      go_enter Tryd.func31, Tryd.ntmps31
      go_wp2_with (first | ((with_reducible refine gate_dst (N := 2) rfl ?_); refine box_event ?hg (N := 2) ?hd (cs := #[.int .i64 0, .int .i64 0, .string (⟨#[]⟩ : ByteArray), .slice none 0 0]) (t := 49) ?hr ?_; (case hd => rfl); (case hg => rfl); (case hr => first | (go_simp; done) | (go_simp; rfl)); intro gb375 hg w5 hbox hb; have n0_ := Aside0.mk (below_step (by repeat (first | (with_reducible first | exact HB.out | apply below_alloc | apply pw_below_drewN | apply below_drew1) | exact HB.out)) hb); have n1_ := Aside0.mk (hbox); have n2_ := Aside0.mk ((by rw [hg]; exact (below_size (by repeat (first | (with_reducible first | exact HB.out | apply below_alloc | apply pw_below_drewN | apply below_drew1) | exact HB.out))) : w.heap.size ≤ gb375)); have n3_ := Aside0.mk ((by rw [hg]; exact (below_size (by repeat (first | (with_reducible first | exact HB.out | apply below_alloc | apply pw_below_drewN | apply below_drew1) | exact HB.out))) : w.heap.size ≤ gb375)); clear HB; have HB := n0_; have BK375 := n1_; have GW375 := n2_; have GE375 := n3_; clear n0_ n1_ n2_ n3_; clear hb hbox hg) | ((with_reducible refine gate_callee (f := 51) rfl ?_); refine goesL_ (some 9) rfl rfl Tryd.func51 (by kernel_rfl) rfl #[.string a0] rfl (by (try simp only [List.map_toArray, List.map_cons, List.map_nil]); first | done | rfl | (simp only [List.length_drop, List.length_take]; rfl)) ?_; (with_reducible refine (benc_Take.calls a0 t376 t377 t378 t379 t382 t383 _ (LaidW.below hL (by repeat (first | (with_reducible first | exact HB.out | apply below_alloc | apply pw_below_drewN | apply below_drew1 | refine below_set ?_ GE375.out) | exact HB.out))) A2.out).mono ?_); rintro e w6 ⟨v380, rfl, ho0, hb⟩; refine ⟨_, rfl, ?_⟩; have n0_ := Aside0.mk (Kd.R_lower (Kd.R_newB ho0 (g := gb375) (o := .cells #[.int .i64 0, .int .i64 0, .string (⟨#[]⟩ : ByteArray), .slice none 0 0] 49 (0, 0)) (by (with_reducible repeat (first | refine blk_drewN ?_ _ | refine blk_drew ?_ | refine blk_alloc ?_ _)); exact BK375.out)) (below_size (by repeat (first | (with_reducible first | exact HB.out | apply below_alloc | apply pw_below_drewN | apply below_drew1 | refine below_set ?_ GE375.out) | exact HB.out)))); have n1_ := Aside0.mk (blk_below (g := gb375) (o := .cells #[.int .i64 0, .int .i64 0, .string (⟨#[]⟩ : ByteArray), .slice none 0 0] 49 (0, 0)) (by (with_reducible repeat (first | refine blk_drewN ?_ _ | refine blk_drew ?_ | refine blk_alloc ?_ _)); exact BK375.out) hb); have n2_ := Aside0.mk (below_step (by repeat (first | (with_reducible first | exact HB.out | apply below_alloc | apply pw_below_drewN | apply below_drew1 | refine below_set ?_ GE375.out) | exact HB.out)) hb); clear BK375; clear HB; have HO381 := n0_; have BK375 := n1_; have HB := n2_; clear n0_ n1_ n2_; (try clear hb); (try clear hb2); (try clear hk); (try clear hi); (try clear ho0)) | ((with_reducible refine gate_dst (N := 4) rfl ?_); refine box_event ?hg (N := 4) ?hd (cs := #[.int .i64 0, .int .i64 0, .string (⟨#[]⟩ : ByteArray), .slice none 0 0]) (t := 49) ?hr ?_; (case hd => rfl); (case hg => rfl); (case hr => first | (go_simp; done) | (go_simp; rfl)); intro gb384 hg w7 hbox hb; have n0_ := Aside0.mk (Kd.R_below (Kd.R_elderB (by (with_reducible repeat (first | apply Kd.R_alloc | apply Kd.R_drewN | apply Kd.R_drew)); exact HO381.out) gb384 (Nat.le_of_eq hg.symm)) hb); have n1_ := Aside0.mk (blk_below (g := gb375) (o := .cells #[.int .i64 0, .int .i64 0, .string (⟨#[]⟩ : ByteArray), .slice none 0 0] 49 (0, 0)) (by (with_reducible repeat (first | refine blk_drewN ?_ _ | refine blk_drew ?_ | refine blk_alloc ?_ _)); exact BK375.out) hb); have n2_ := Aside0.mk (below_step (by repeat (first | (with_reducible first | exact HB.out | apply below_alloc | apply pw_below_drewN | apply below_drew1 | refine below_set ?_ GE375.out) | exact HB.out)) hb); have n3_ := Aside0.mk (hbox); have n4_ := Aside0.mk ((by rw [hg]; exact (below_size (by repeat (first | (with_reducible first | exact HB.out | apply below_alloc | apply pw_below_drewN | apply below_drew1 | refine below_set ?_ GE375.out) | exact HB.out))) : w.heap.size ≤ gb384)); have n5_ := Aside0.mk ((by rw [hg]; exact (below_size (by repeat (first | (with_reducible first | exact HB.out | apply below_alloc | apply pw_below_drewN | apply below_drew1 | refine below_set ?_ GE375.out) | exact HB.out))) : w.heap.size ≤ gb384)); have n6_ := Aside0.mk ((by rw [hg]; exact Nat.ne_of_lt (blk_lt (g := gb375) (o := .cells #[.int .i64 0, .int .i64 0, .string (⟨#[]⟩ : ByteArray), .slice none 0 0] 49 (0, 0)) (by (with_reducible repeat (first | refine blk_drewN ?_ _ | refine blk_drew ?_ | refine blk_alloc ?_ _)); exact BK375.out)) : gb375 ≠ gb384)); have n7_ := Aside0.mk ((by rw [hg]; exact Nat.ne_of_gt (blk_lt (g := gb375) (o := .cells #[.int .i64 0, .int .i64 0, .string (⟨#[]⟩ : ByteArray), .slice none 0 0] 49 (0, 0)) (by (with_reducible repeat (first | refine blk_drewN ?_ _ | refine blk_drew ?_ | refine blk_alloc ?_ _)); exact BK375.out)) : gb384 ≠ gb375)); clear HO381; clear BK375; clear HB; have HO381 := n0_; have BK375 := n1_; have HB := n2_; have BK384 := n3_; have GW384 := n4_; have GE384 := n5_; have NB375_384 := n6_; have NB384_375 := n7_; clear n0_ n1_ n2_ n3_ n4_ n5_ n6_ n7_; clear hb hbox hg; have hnb8 := NB384_375.out; have hnc8 := NB375_384.out; have hcz9_0 : w7.cell? ⟨gb384, 0, none⟩ = some (.int .i64 0) := (blk_cell BK384.out 0).trans rfl; have hcz9_1 : w7.cell? ⟨gb384, 1, none⟩ = some (.int .i64 0) := (blk_cell BK384.out 1).trans rfl; have hcz9_2 : w7.cell? ⟨gb384, 2, none⟩ = some (.string (⟨#[]⟩ : ByteArray)) := (blk_cell BK384.out 2).trans rfl; have hcz9_3 : w7.cell? ⟨gb384, 3, none⟩ = some (.slice none 0 0) := (blk_cell BK384.out 3).trans rfl; have hfz9_0 := blk_frozen BK384.out 0; have hfz9_1 := blk_frozen BK384.out 1; have hfz9_2 := blk_frozen BK384.out 2; have hfz9_3 := blk_frozen BK384.out 3; obtain ⟨Ao10, co10, eo10⟩ := Kd.R_slice HO381.out; subst eo10; have hcz11_0 : w7.cell? ⟨gb375, 0, none⟩ = some (.int .i64 0) := (blk_cell BK375.out 0).trans rfl; have hcz11_1 : w7.cell? ⟨gb375, 1, none⟩ = some (.int .i64 0) := (blk_cell BK375.out 1).trans rfl; have hcz11_2 : w7.cell? ⟨gb375, 2, none⟩ = some (.string (⟨#[]⟩ : ByteArray)) := (blk_cell BK375.out 2).trans rfl; have hcz11_3 : w7.cell? ⟨gb375, 3, none⟩ = some (.slice none 0 0) := (blk_cell BK375.out 3).trans rfl; have hfz11_0 := blk_frozen BK375.out 0; have hfz11_1 := blk_frozen BK375.out 1; have hfz11_2 := blk_frozen BK375.out 2; have hfz11_3 := blk_frozen BK375.out 3))
      refine bodyPost_ret (results_ct rfl _ _ gb375 49 #[.int .i64 0, .int .i64 0, .string (⟨#[]⟩ : ByteArray), .slice none 0 0] (0, 0) _ rfl (by (with_reducible repeat (first | refine blk_drewN ?_ _ | refine blk_drew ?_ | refine blk_alloc ?_ _)); refine blk_put (cs := #[.int .i64 0, .int .i64 0, .string (⟨#[]⟩ : ByteArray), .slice none 0 0]) ?_ 3 _ rfl; (with_reducible repeat (first | refine blk_drewN ?_ _ | refine blk_drew ?_ | refine blk_alloc ?_ _)); refine blk_put (cs := #[.int .i64 0, .int .i64 0, .string (⟨#[]⟩ : ByteArray), .slice none 0 0]) ?_ 2 _ rfl; (with_reducible repeat (first | refine blk_drewN ?_ _ | refine blk_drew ?_ | refine blk_alloc ?_ _)); refine blk_put (cs := #[.int .i64 0, .int .i64 0, .string (⟨#[]⟩ : ByteArray), .slice none 0 0]) ?_ 1 _ rfl; (with_reducible repeat (first | refine blk_drewN ?_ _ | refine blk_drew ?_ | refine blk_alloc ?_ _)); refine blk_put (cs := #[.int .i64 0, .int .i64 0, .string (⟨#[]⟩ : ByteArray), .slice none 0 0]) ?_ 0 _ rfl; (with_reducible repeat (first | refine blk_drewN ?_ _ | refine blk_drew ?_ | refine blk_alloc ?_ _)); refine blk_far ?_ NB375_384.out _; (with_reducible repeat (first | refine blk_drewN ?_ _ | refine blk_drew ?_ | refine blk_alloc ?_ _)); refine blk_far ?_ NB375_384.out _; (with_reducible repeat (first | refine blk_drewN ?_ _ | refine blk_drew ?_ | refine blk_alloc ?_ _)); refine blk_far ?_ NB375_384.out _; (with_reducible repeat (first | refine blk_drewN ?_ _ | refine blk_drew ?_ | refine blk_alloc ?_ _)); refine blk_far ?_ NB375_384.out _; (with_reducible repeat (first | refine blk_drewN ?_ _ | refine blk_drew ?_ | refine blk_alloc ?_ _)); exact BK375.out) Tryd.underlying49 rfl (by kernel_rfl)) rfl ?_
      exact ⟨_, by first | rfl | (simp [errW_none, errW_some] <;> rfl) | (simp [*, errW_none, errW_some] <;> rfl), by first | exact Kd.R_nil _ _ _ _ _ | exact Kd.N_nil _ _ _ _ _ | exact Kd.V_nil _ _ _ _ _ | exact Kd.Q_nil _ _ _ _ _ | exact Kd.S_nil _ _ _ _ _, by repeat (first | (with_reducible first | exact HB.out | apply below_alloc | apply pw_below_drewN | apply below_drew1 | refine below_set ?_ GE375.out | refine below_set ?_ GE384.out) | exact HB.out)⟩
    · rw [if_neg c4] at H
      have c4b0 : decide (t382 < (a0.size : Int)) = false := decide_eq_false c4
      clear c4
      simp only [Option.some.injEq, Prod.mk.injEq] at H
      obtain ⟨rfl, rfl, rfl, rfl, rfl⟩ := H
      go_enter Tryd.func31, Tryd.ntmps31
      go_wp2_with (first | ((with_reducible refine gate_dst (N := 2) rfl ?_); refine box_event ?hg (N := 2) ?hd (cs := #[.int .i64 0, .int .i64 0, .string (⟨#[]⟩ : ByteArray), .slice none 0 0]) (t := 49) ?hr ?_; (case hd => rfl); (case hg => rfl); (case hr => first | (go_simp; done) | (go_simp; rfl)); intro gb375 hg w12 hbox hb; have n0_ := Aside0.mk (below_step (by repeat (first | (with_reducible first | exact HB.out | apply below_alloc | apply pw_below_drewN | apply below_drew1) | exact HB.out)) hb); have n1_ := Aside0.mk (hbox); have n2_ := Aside0.mk ((by rw [hg]; exact (below_size (by repeat (first | (with_reducible first | exact HB.out | apply below_alloc | apply pw_below_drewN | apply below_drew1) | exact HB.out))) : w.heap.size ≤ gb375)); have n3_ := Aside0.mk ((by rw [hg]; exact (below_size (by repeat (first | (with_reducible first | exact HB.out | apply below_alloc | apply pw_below_drewN | apply below_drew1) | exact HB.out))) : w.heap.size ≤ gb375)); clear HB; have HB := n0_; have BK375 := n1_; have GW375 := n2_; have GE375 := n3_; clear n0_ n1_ n2_ n3_; clear hb hbox hg) | ((with_reducible refine gate_callee (f := 51) rfl ?_); refine goesL_ (some 9) rfl rfl Tryd.func51 (by kernel_rfl) rfl #[.string a0] rfl (by (try simp only [List.map_toArray, List.map_cons, List.map_nil]); first | done | rfl | (simp only [List.length_drop, List.length_take]; rfl)) ?_; (with_reducible refine (benc_Take.calls a0 t376 t377 t378 t379 t382 t383 _ (LaidW.below hL (by repeat (first | (with_reducible first | exact HB.out | apply below_alloc | apply pw_below_drewN | apply below_drew1 | refine below_set ?_ GE375.out) | exact HB.out))) A2.out).mono ?_); rintro e w13 ⟨v380, rfl, ho0, hb⟩; refine ⟨_, rfl, ?_⟩; have n0_ := Aside0.mk (Kd.R_lower (Kd.R_newB ho0 (g := gb375) (o := .cells #[.int .i64 0, .int .i64 0, .string (⟨#[]⟩ : ByteArray), .slice none 0 0] 49 (0, 0)) (by (with_reducible repeat (first | refine blk_drewN ?_ _ | refine blk_drew ?_ | refine blk_alloc ?_ _)); exact BK375.out)) (below_size (by repeat (first | (with_reducible first | exact HB.out | apply below_alloc | apply pw_below_drewN | apply below_drew1 | refine below_set ?_ GE375.out) | exact HB.out)))); have n1_ := Aside0.mk (blk_below (g := gb375) (o := .cells #[.int .i64 0, .int .i64 0, .string (⟨#[]⟩ : ByteArray), .slice none 0 0] 49 (0, 0)) (by (with_reducible repeat (first | refine blk_drewN ?_ _ | refine blk_drew ?_ | refine blk_alloc ?_ _)); exact BK375.out) hb); have n2_ := Aside0.mk (below_step (by repeat (first | (with_reducible first | exact HB.out | apply below_alloc | apply pw_below_drewN | apply below_drew1 | refine below_set ?_ GE375.out) | exact HB.out)) hb); clear BK375; clear HB; have HO381 := n0_; have BK375 := n1_; have HB := n2_; clear n0_ n1_ n2_; (try clear hb); (try clear hb2); (try clear hk); (try clear hi); (try clear ho0)) | ((with_reducible refine gate_dst (N := 4) rfl ?_); refine box_event ?hg (N := 4) ?hd (cs := #[.int .i64 0, .int .i64 0, .string (⟨#[]⟩ : ByteArray), .slice none 0 0]) (t := 49) ?hr ?_; (case hd => rfl); (case hg => rfl); (case hr => first | (go_simp; done) | (go_simp; rfl)); intro gb384 hg w14 hbox hb; have n0_ := Aside0.mk (Kd.R_below (Kd.R_elderB (by (with_reducible repeat (first | apply Kd.R_alloc | apply Kd.R_drewN | apply Kd.R_drew)); exact HO381.out) gb384 (Nat.le_of_eq hg.symm)) hb); have n1_ := Aside0.mk (blk_below (g := gb375) (o := .cells #[.int .i64 0, .int .i64 0, .string (⟨#[]⟩ : ByteArray), .slice none 0 0] 49 (0, 0)) (by (with_reducible repeat (first | refine blk_drewN ?_ _ | refine blk_drew ?_ | refine blk_alloc ?_ _)); exact BK375.out) hb); have n2_ := Aside0.mk (below_step (by repeat (first | (with_reducible first | exact HB.out | apply below_alloc | apply pw_below_drewN | apply below_drew1 | refine below_set ?_ GE375.out) | exact HB.out)) hb); have n3_ := Aside0.mk (hbox); have n4_ := Aside0.mk ((by rw [hg]; exact (below_size (by repeat (first | (with_reducible first | exact HB.out | apply below_alloc | apply pw_below_drewN | apply below_drew1 | refine below_set ?_ GE375.out) | exact HB.out))) : w.heap.size ≤ gb384)); have n5_ := Aside0.mk ((by rw [hg]; exact (below_size (by repeat (first | (with_reducible first | exact HB.out | apply below_alloc | apply pw_below_drewN | apply below_drew1 | refine below_set ?_ GE375.out) | exact HB.out))) : w.heap.size ≤ gb384)); have n6_ := Aside0.mk ((by rw [hg]; exact Nat.ne_of_lt (blk_lt (g := gb375) (o := .cells #[.int .i64 0, .int .i64 0, .string (⟨#[]⟩ : ByteArray), .slice none 0 0] 49 (0, 0)) (by (with_reducible repeat (first | refine blk_drewN ?_ _ | refine blk_drew ?_ | refine blk_alloc ?_ _)); exact BK375.out)) : gb375 ≠ gb384)); have n7_ := Aside0.mk ((by rw [hg]; exact Nat.ne_of_gt (blk_lt (g := gb375) (o := .cells #[.int .i64 0, .int .i64 0, .string (⟨#[]⟩ : ByteArray), .slice none 0 0] 49 (0, 0)) (by (with_reducible repeat (first | refine blk_drewN ?_ _ | refine blk_drew ?_ | refine blk_alloc ?_ _)); exact BK375.out)) : gb384 ≠ gb375)); clear HO381; clear BK375; clear HB; have HO381 := n0_; have BK375 := n1_; have HB := n2_; have BK384 := n3_; have GW384 := n4_; have GE384 := n5_; have NB375_384 := n6_; have NB384_375 := n7_; clear n0_ n1_ n2_ n3_ n4_ n5_ n6_ n7_; clear hb hbox hg; have hnb15 := NB384_375.out; have hnc15 := NB375_384.out; have hcz16_0 : w14.cell? ⟨gb384, 0, none⟩ = some (.int .i64 0) := (blk_cell BK384.out 0).trans rfl; have hcz16_1 : w14.cell? ⟨gb384, 1, none⟩ = some (.int .i64 0) := (blk_cell BK384.out 1).trans rfl; have hcz16_2 : w14.cell? ⟨gb384, 2, none⟩ = some (.string (⟨#[]⟩ : ByteArray)) := (blk_cell BK384.out 2).trans rfl; have hcz16_3 : w14.cell? ⟨gb384, 3, none⟩ = some (.slice none 0 0) := (blk_cell BK384.out 3).trans rfl; have hfz16_0 := blk_frozen BK384.out 0; have hfz16_1 := blk_frozen BK384.out 1; have hfz16_2 := blk_frozen BK384.out 2; have hfz16_3 := blk_frozen BK384.out 3; obtain ⟨Ao17, co17, eo17⟩ := Kd.R_slice HO381.out; subst eo17; have hcz18_0 : w14.cell? ⟨gb375, 0, none⟩ = some (.int .i64 0) := (blk_cell BK375.out 0).trans rfl; have hcz18_1 : w14.cell? ⟨gb375, 1, none⟩ = some (.int .i64 0) := (blk_cell BK375.out 1).trans rfl; have hcz18_2 : w14.cell? ⟨gb375, 2, none⟩ = some (.string (⟨#[]⟩ : ByteArray)) := (blk_cell BK375.out 2).trans rfl; have hcz18_3 : w14.cell? ⟨gb375, 3, none⟩ = some (.slice none 0 0) := (blk_cell BK375.out 3).trans rfl; have hfz18_0 := blk_frozen BK375.out 0; have hfz18_1 := blk_frozen BK375.out 1; have hfz18_2 := blk_frozen BK375.out 2; have hfz18_3 := blk_frozen BK375.out 3))
      refine bodyPost_ret (results_ct rfl _ _ gb375 49 #[.int .i64 t376, .int .i64 t377, .string t378, .slice Ao17 t379.length co17] (0, 0) _ rfl (by (with_reducible repeat (first | refine blk_drewN ?_ _ | refine blk_drew ?_ | refine blk_alloc ?_ _)); refine blk_put (cs := #[.int .i64 t376, .int .i64 t377, .string t378, .slice none 0 0]) ?_ 3 _ rfl; (with_reducible repeat (first | refine blk_drewN ?_ _ | refine blk_drew ?_ | refine blk_alloc ?_ _)); refine blk_put (cs := #[.int .i64 t376, .int .i64 t377, .string (⟨#[]⟩ : ByteArray), .slice none 0 0]) ?_ 2 _ rfl; (with_reducible repeat (first | refine blk_drewN ?_ _ | refine blk_drew ?_ | refine blk_alloc ?_ _)); refine blk_put (cs := #[.int .i64 t376, .int .i64 0, .string (⟨#[]⟩ : ByteArray), .slice none 0 0]) ?_ 1 _ rfl; (with_reducible repeat (first | refine blk_drewN ?_ _ | refine blk_drew ?_ | refine blk_alloc ?_ _)); refine blk_put (cs := #[.int .i64 0, .int .i64 0, .string (⟨#[]⟩ : ByteArray), .slice none 0 0]) ?_ 0 _ rfl; (with_reducible repeat (first | refine blk_drewN ?_ _ | refine blk_drew ?_ | refine blk_alloc ?_ _)); refine blk_far ?_ NB375_384.out _; (with_reducible repeat (first | refine blk_drewN ?_ _ | refine blk_drew ?_ | refine blk_alloc ?_ _)); refine blk_far ?_ NB375_384.out _; (with_reducible repeat (first | refine blk_drewN ?_ _ | refine blk_drew ?_ | refine blk_alloc ?_ _)); refine blk_far ?_ NB375_384.out _; (with_reducible repeat (first | refine blk_drewN ?_ _ | refine blk_drew ?_ | refine blk_alloc ?_ _)); refine blk_far ?_ NB375_384.out _; (with_reducible repeat (first | refine blk_drewN ?_ _ | refine blk_drew ?_ | refine blk_alloc ?_ _)); exact BK375.out) Tryd.underlying49 rfl (by kernel_rfl)) rfl ?_
      exact ⟨_, by first | rfl | (simp [errW_none, errW_some] <;> rfl) | (simp [*, errW_none, errW_some] <;> rfl), by (with_reducible repeat (first | apply Kd.R_alloc | apply Kd.R_drewN | apply Kd.R_drew)); exact Kd.R_mono (Kd.R_far (p := ⟨gb375, 3, none⟩) (Kd.R_far (p := ⟨gb375, 2, none⟩) (Kd.R_far (p := ⟨gb375, 1, none⟩) (Kd.R_far (p := ⟨gb375, 0, none⟩) (Kd.R_far (p := ⟨gb384, 3, none⟩) (Kd.R_far (p := ⟨gb384, 2, none⟩) (Kd.R_far (p := ⟨gb384, 1, none⟩) (Kd.R_far (p := ⟨gb384, 0, none⟩) (Kd.R_mono (Kd.R_mono HO381.out (fun k_ hk => (⟨hk, hk.2⟩ : _ ∧ k_ ≠ gb384))) (fun k_ hk => (⟨hk, hk.1.1.2⟩ : _ ∧ k_ ≠ gb375))) (fun _ hk => hk.1.2) (.int .i64 t376)) (fun _ hk => hk.1.2) (.int .i64 t377)) (fun _ hk => hk.1.2) (.string t378)) (fun _ hk => hk.1.2) (.slice Ao17 t379.length co17)) (fun _ hk => hk.2) (.int .i64 t376)) (fun _ hk => hk.2) (.int .i64 t377)) (fun _ hk => hk.2) (.string t378)) (fun _ hk => hk.2) (.slice Ao17 t379.length co17)) (fun _ hk => trivial), by repeat (first | (with_reducible first | exact HB.out | apply below_alloc | apply pw_below_drewN | apply below_drew1 | refine below_set ?_ GE375.out | refine below_set ?_ GE384.out) | exact HB.out)⟩
  · rw [if_neg c3] at H
    have c3b0 : (t383 == 0) = false := beq_eq_false_iff_ne.mpr c3
    have c3b1 : (t383 != 0) = true := bne_iff_ne.mpr c3
    simp only [Option.some.injEq, Prod.mk.injEq] at H
    obtain ⟨rfl, rfl, rfl, rfl, rfl⟩ := H
    go_enter Tryd.func31, Tryd.ntmps31
    go_wp2_with (first | ((with_reducible refine gate_dst (N := 2) rfl ?_); refine box_event ?hg (N := 2) ?hd (cs := #[.int .i64 0, .int .i64 0, .string (⟨#[]⟩ : ByteArray), .slice none 0 0]) (t := 49) ?hr ?_; (case hd => rfl); (case hg => rfl); (case hr => first | (go_simp; done) | (go_simp; rfl)); intro gb375 hg w19 hbox hb; have n0_ := Aside0.mk (below_step (by repeat (first | (with_reducible first | exact HB.out | apply below_alloc | apply pw_below_drewN | apply below_drew1) | exact HB.out)) hb); have n1_ := Aside0.mk (hbox); have n2_ := Aside0.mk ((by rw [hg]; exact (below_size (by repeat (first | (with_reducible first | exact HB.out | apply below_alloc | apply pw_below_drewN | apply below_drew1) | exact HB.out))) : w.heap.size ≤ gb375)); have n3_ := Aside0.mk ((by rw [hg]; exact (below_size (by repeat (first | (with_reducible first | exact HB.out | apply below_alloc | apply pw_below_drewN | apply below_drew1) | exact HB.out))) : w.heap.size ≤ gb375)); clear HB; have HB := n0_; have BK375 := n1_; have GW375 := n2_; have GE375 := n3_; clear n0_ n1_ n2_ n3_; clear hb hbox hg) | ((with_reducible refine gate_callee (f := 51) rfl ?_); refine goesL_ (some 9) rfl rfl Tryd.func51 (by kernel_rfl) rfl #[.string a0] rfl (by (try simp only [List.map_toArray, List.map_cons, List.map_nil]); first | done | rfl | (simp only [List.length_drop, List.length_take]; rfl)) ?_; (with_reducible refine (benc_Take.calls a0 t376 t377 t378 t379 t382 t383 _ (LaidW.below hL (by repeat (first | (with_reducible first | exact HB.out | apply below_alloc | apply pw_below_drewN | apply below_drew1 | refine below_set ?_ GE375.out) | exact HB.out))) A2.out).mono ?_); rintro e w20 ⟨v380, rfl, ho0, hb⟩; refine ⟨_, rfl, ?_⟩; have n0_ := Aside0.mk (Kd.R_lower (Kd.R_newB ho0 (g := gb375) (o := .cells #[.int .i64 0, .int .i64 0, .string (⟨#[]⟩ : ByteArray), .slice none 0 0] 49 (0, 0)) (by (with_reducible repeat (first | refine blk_drewN ?_ _ | refine blk_drew ?_ | refine blk_alloc ?_ _)); exact BK375.out)) (below_size (by repeat (first | (with_reducible first | exact HB.out | apply below_alloc | apply pw_below_drewN | apply below_drew1 | refine below_set ?_ GE375.out) | exact HB.out)))); have n1_ := Aside0.mk (blk_below (g := gb375) (o := .cells #[.int .i64 0, .int .i64 0, .string (⟨#[]⟩ : ByteArray), .slice none 0 0] 49 (0, 0)) (by (with_reducible repeat (first | refine blk_drewN ?_ _ | refine blk_drew ?_ | refine blk_alloc ?_ _)); exact BK375.out) hb); have n2_ := Aside0.mk (below_step (by repeat (first | (with_reducible first | exact HB.out | apply below_alloc | apply pw_below_drewN | apply below_drew1 | refine below_set ?_ GE375.out) | exact HB.out)) hb); clear BK375; clear HB; have HO381 := n0_; have BK375 := n1_; have HB := n2_; clear n0_ n1_ n2_; (try clear hb); (try clear hb2); (try clear hk); (try clear hi); (try clear ho0)) | ((with_reducible refine gate_dst (N := 4) rfl ?_); refine box_event ?hg (N := 4) ?hd (cs := #[.int .i64 0, .int .i64 0, .string (⟨#[]⟩ : ByteArray), .slice none 0 0]) (t := 49) ?hr ?_; (case hd => rfl); (case hg => rfl); (case hr => first | (go_simp; done) | (go_simp; rfl)); intro gb384 hg w21 hbox hb; have n0_ := Aside0.mk (Kd.R_below (Kd.R_elderB (by (with_reducible repeat (first | apply Kd.R_alloc | apply Kd.R_drewN | apply Kd.R_drew)); exact HO381.out) gb384 (Nat.le_of_eq hg.symm)) hb); have n1_ := Aside0.mk (blk_below (g := gb375) (o := .cells #[.int .i64 0, .int .i64 0, .string (⟨#[]⟩ : ByteArray), .slice none 0 0] 49 (0, 0)) (by (with_reducible repeat (first | refine blk_drewN ?_ _ | refine blk_drew ?_ | refine blk_alloc ?_ _)); exact BK375.out) hb); have n2_ := Aside0.mk (below_step (by repeat (first | (with_reducible first | exact HB.out | apply below_alloc | apply pw_below_drewN | apply below_drew1 | refine below_set ?_ GE375.out) | exact HB.out)) hb); have n3_ := Aside0.mk (hbox); have n4_ := Aside0.mk ((by rw [hg]; exact (below_size (by repeat (first | (with_reducible first | exact HB.out | apply below_alloc | apply pw_below_drewN | apply below_drew1 | refine below_set ?_ GE375.out) | exact HB.out))) : w.heap.size ≤ gb384)); have n5_ := Aside0.mk ((by rw [hg]; exact (below_size (by repeat (first | (with_reducible first | exact HB.out | apply below_alloc | apply pw_below_drewN | apply below_drew1 | refine below_set ?_ GE375.out) | exact HB.out))) : w.heap.size ≤ gb384)); have n6_ := Aside0.mk ((by rw [hg]; exact Nat.ne_of_lt (blk_lt (g := gb375) (o := .cells #[.int .i64 0, .int .i64 0, .string (⟨#[]⟩ : ByteArray), .slice none 0 0] 49 (0, 0)) (by (with_reducible repeat (first | refine blk_drewN ?_ _ | refine blk_drew ?_ | refine blk_alloc ?_ _)); exact BK375.out)) : gb375 ≠ gb384)); have n7_ := Aside0.mk ((by rw [hg]; exact Nat.ne_of_gt (blk_lt (g := gb375) (o := .cells #[.int .i64 0, .int .i64 0, .string (⟨#[]⟩ : ByteArray), .slice none 0 0] 49 (0, 0)) (by (with_reducible repeat (first | refine blk_drewN ?_ _ | refine blk_drew ?_ | refine blk_alloc ?_ _)); exact BK375.out)) : gb384 ≠ gb375)); clear HO381; clear BK375; clear HB; have HO381 := n0_; have BK375 := n1_; have HB := n2_; have BK384 := n3_; have GW384 := n4_; have GE384 := n5_; have NB375_384 := n6_; have NB384_375 := n7_; clear n0_ n1_ n2_ n3_ n4_ n5_ n6_ n7_; clear hb hbox hg; have hnb22 := NB384_375.out; have hnc22 := NB375_384.out; have hcz23_0 : w21.cell? ⟨gb384, 0, none⟩ = some (.int .i64 0) := (blk_cell BK384.out 0).trans rfl; have hcz23_1 : w21.cell? ⟨gb384, 1, none⟩ = some (.int .i64 0) := (blk_cell BK384.out 1).trans rfl; have hcz23_2 : w21.cell? ⟨gb384, 2, none⟩ = some (.string (⟨#[]⟩ : ByteArray)) := (blk_cell BK384.out 2).trans rfl; have hcz23_3 : w21.cell? ⟨gb384, 3, none⟩ = some (.slice none 0 0) := (blk_cell BK384.out 3).trans rfl; have hfz23_0 := blk_frozen BK384.out 0; have hfz23_1 := blk_frozen BK384.out 1; have hfz23_2 := blk_frozen BK384.out 2; have hfz23_3 := blk_frozen BK384.out 3; obtain ⟨Ao24, co24, eo24⟩ := Kd.R_slice HO381.out; subst eo24; have hcz25_0 : w21.cell? ⟨gb375, 0, none⟩ = some (.int .i64 0) := (blk_cell BK375.out 0).trans rfl; have hcz25_1 : w21.cell? ⟨gb375, 1, none⟩ = some (.int .i64 0) := (blk_cell BK375.out 1).trans rfl; have hcz25_2 : w21.cell? ⟨gb375, 2, none⟩ = some (.string (⟨#[]⟩ : ByteArray)) := (blk_cell BK375.out 2).trans rfl; have hcz25_3 : w21.cell? ⟨gb375, 3, none⟩ = some (.slice none 0 0) := (blk_cell BK375.out 3).trans rfl; have hfz25_0 := blk_frozen BK375.out 0; have hfz25_1 := blk_frozen BK375.out 1; have hfz25_2 := blk_frozen BK375.out 2; have hfz25_3 := blk_frozen BK375.out 3))
    refine bodyPost_ret (results_ct rfl _ _ gb375 49 #[.int .i64 0, .int .i64 0, .string (⟨#[]⟩ : ByteArray), .slice none 0 0] (0, 0) _ rfl (by (with_reducible repeat (first | refine blk_drewN ?_ _ | refine blk_drew ?_ | refine blk_alloc ?_ _)); refine blk_put (cs := #[.int .i64 0, .int .i64 0, .string (⟨#[]⟩ : ByteArray), .slice none 0 0]) ?_ 3 _ rfl; (with_reducible repeat (first | refine blk_drewN ?_ _ | refine blk_drew ?_ | refine blk_alloc ?_ _)); refine blk_put (cs := #[.int .i64 0, .int .i64 0, .string (⟨#[]⟩ : ByteArray), .slice none 0 0]) ?_ 2 _ rfl; (with_reducible repeat (first | refine blk_drewN ?_ _ | refine blk_drew ?_ | refine blk_alloc ?_ _)); refine blk_put (cs := #[.int .i64 0, .int .i64 0, .string (⟨#[]⟩ : ByteArray), .slice none 0 0]) ?_ 1 _ rfl; (with_reducible repeat (first | refine blk_drewN ?_ _ | refine blk_drew ?_ | refine blk_alloc ?_ _)); refine blk_put (cs := #[.int .i64 0, .int .i64 0, .string (⟨#[]⟩ : ByteArray), .slice none 0 0]) ?_ 0 _ rfl; (with_reducible repeat (first | refine blk_drewN ?_ _ | refine blk_drew ?_ | refine blk_alloc ?_ _)); refine blk_far ?_ NB375_384.out _; (with_reducible repeat (first | refine blk_drewN ?_ _ | refine blk_drew ?_ | refine blk_alloc ?_ _)); refine blk_far ?_ NB375_384.out _; (with_reducible repeat (first | refine blk_drewN ?_ _ | refine blk_drew ?_ | refine blk_alloc ?_ _)); refine blk_far ?_ NB375_384.out _; (with_reducible repeat (first | refine blk_drewN ?_ _ | refine blk_drew ?_ | refine blk_alloc ?_ _)); refine blk_far ?_ NB375_384.out _; (with_reducible repeat (first | refine blk_drewN ?_ _ | refine blk_drew ?_ | refine blk_alloc ?_ _)); exact BK375.out) Tryd.underlying49 rfl (by kernel_rfl)) rfl ?_
    exact ⟨_, by first | rfl | (simp [errW_none, errW_some] <;> rfl) | (simp [*, errW_none, errW_some] <;> rfl), by first | exact Kd.R_nil _ _ _ _ _ | exact Kd.N_nil _ _ _ _ _ | exact Kd.V_nil _ _ _ _ _ | exact Kd.Q_nil _ _ _ _ _ | exact Kd.S_nil _ _ _ _ _, by repeat (first | (with_reducible first | exact HB.out | apply below_alloc | apply pw_below_drewN | apply below_drew1 | refine below_set ?_ GE375.out | refine below_set ?_ GE384.out) | exact HB.out)⟩
end Go.Proofs.YtlggihnkhimfkaaDoor.P
namespace Go.Proofs.YtlggihnkhimfkaaDoor.Pure
open Go.RowKit Go.Lib Go.Proofs.YtlggihnkhimfkaaDoor.Giv Go.Proofs.YtlggihnkhimfkaaDoor.P Go.Proofs.YtlggihnkhimfkaaDoorW.PrintWords Go.Proofs.YtlggihnkhimfkaaDoorW.PrintLast Go.Proofs.YtlggihnkhimfkaaDoorW.PrintMore
set_option linter.unusedVariables false
set_option linter.unusedSimpArgs false
def nm (l : List UInt8) : List Int := l.map fun c => (c.toNat : Int)
theorem data_ext {a b : ByteArray} (h : a.data.toList = b.data.toList) : a = b := by
  cases a; cases b
  simp at h
  rw [h]
end Go.Proofs.YtlggihnkhimfkaaDoor.Pure
namespace Go.Proofs.YtlggihnkhimfkaaDoor.Pure
open Go.RowKit Go.Lib Go.Proofs.YtlggihnkhimfkaaDoor.Giv Go.Proofs.YtlggihnkhimfkaaDoor.P Go.Proofs.YtlggihnkhimfkaaDoorW.PrintWords Go.Proofs.YtlggihnkhimfkaaDoorW.PrintLast Go.Proofs.YtlggihnkhimfkaaDoorW.PrintMore
set_option linter.unusedVariables false
set_option linter.unusedSimpArgs false
theorem V_eta (x : V) : (⟨x.f0, x.f1, x.f2, x.f3⟩ : V) = x := by cases x; rfl
abbrev Q6 := Int × Int × ByteArray × List V × Int × Int
def RdR (g : Nat → Option Q6) (R : Int × V × Nat) : Prop := ∃ q : Q6, Ev g q ∧ (R.1 = 0 → q = (R.2.1.f0, R.2.1.f1, R.2.1.f2, R.2.1.f3, (R.2.2 : Int), 0)) ∧ (R.1 ≠ 0 → q.2.2.2.2.2 = R.1)
theorem RdR.step {g f : Nat → Option Q6} {R : Int × V × Nat} (h : ∀ k, g (k + 1) = f k) (hf : RdR f R) : RdR g R := by
  obtain ⟨q, hq, h1, h2⟩ := hf
  exact ⟨q, Ev.step h hq, h1, h2⟩
theorem RdR.bad (e : Int) (h : e ≠ 0) (R : Int × V × Nat) (hR : R.1 = e) (a b : Int) (c : ByteArray) (l : List V) (u : Int) : RdR (fun _ => some (a, b, c, l, u, e)) R :=
  ⟨_, Ev.now _, fun h2 => absurd (hR ▸ h2) h, fun _ => hR.symm⟩
theorem take_yes {s : ByteArray} (h : s.size ≤ 1099511627776) : benc_Take.f s = some (flat (takeM s)) := by unfold benc_Take.f; rw [if_pos h]
theorem put_yes {v : V} (h : fitV v = true) : benc_Put.f v.f0 v.f1 v.f2 v.f3 = some (putM v) := by unfold benc_Put.f; rw [V_eta]; exact if_pos h
def onlyM (s : ByteArray) : V × Int := if (takeM s).2.2 = 0 then (if (takeM s).2.1 < (s.size : Int) then (zV, 20) else ((takeM s).1, 0)) else (zV, (takeM s).2.2)
def flat5 (T : V × Int) : Int × Int × ByteArray × List V × Int := (T.1.f0, T.1.f1, T.1.f2, T.1.f3, T.2)
theorem only_yes {s : ByteArray} (h : s.size ≤ 1099511627776) : benc_Only.f s = some (flat5 (onlyM s)) := by
  unfold benc_Only.f onlyM
  rw [take_yes h]
  generalize takeM s = T
  obtain ⟨v, n, e⟩ := T
  simp only [flat, Option.bind_some]
  by_cases c : e = 0
  · rw [if_pos c, if_pos c]
    by_cases c2 : n < (s.size : Int)
    · rw [if_pos c2, if_pos c2]; rfl
    · rw [if_neg c2, if_neg c2]; rfl
  · rw [if_neg c, if_neg c]; rfl
end Go.Proofs.YtlggihnkhimfkaaDoor.Pure
namespace Go.Proofs.YtlggihnkhimfkaaDoor.Pure
open Go.RowKit Go.Lib Go.Proofs.YtlggihnkhimfkaaDoor.Giv Go.Proofs.YtlggihnkhimfkaaDoor.P Go.Proofs.YtlggihnkhimfkaaDoorW.PrintWords Go.Proofs.YtlggihnkhimfkaaDoorW.PrintLast Go.Proofs.YtlggihnkhimfkaaDoorW.PrintMore
set_option linter.unusedVariables false
set_option linter.unusedSimpArgs false
theorem fit_of {v : V} (ho : okV v = true) (hw : wt v ≤ 70368744177664) : fitV v = true := by unfold fitV; rw [ho, decide_eq_true hw]; rfl
theorem bytes_lit (l : List UInt8) : (⟨l.toArray⟩ : ByteArray).data.toList = l := by simp
theorem putM_of {v : V} (hk : kin v = true) (hd : dep v ≤ 8) (hl : (enc v).length ≤ 65536) : putM v = (⟨(enc v).toArray⟩, 0) := by
  have e : chk v 0 = 0 := by rw [chk_top, if_pos hk, if_neg (show ¬ 8 < dep v by omega)]
  unfold putM
  rw [if_pos e, if_pos hl]
theorem takeM_back {v : V} (hk : kin v = true) (ho : okV v = true) (hd : dep v ≤ 8) (hl : (enc v).length ≤ 65536) (rest : List UInt8) : takeM ⟨(enc v ++ rest).toArray⟩ = (nrm v, ((enc v).length : Int), 0) := by
  have hb := back (wt v) v (Nat.le_refl _) hk ho (tok_of_len v (by omega)) 8 hd rest
  unfold takeM
  rw [bytes_lit, hb]
  simp only [if_true]
  rw [if_pos hl]
theorem enc_len2 (v : V) : 2 ≤ (enc v).length := by
  rw [enc_eq]
  split
  · simp
  · split
    · have := dd_pos ((v.f2.size : Int)).toNat
      rw [itoa_pos (by omega)]
      simp only [List.length_append, List.length_cons]
      omega
    · simp
def v0 : V := lisV [intV 12, strV ⟨#[97, 98]⟩]
end Go.Proofs.YtlggihnkhimfkaaDoor.Pure
namespace Go.Proofs.YtlggihnkhimfkaaDoor.Giv
open Go.RowKit Go.Lib Go.Proofs.YtlggihnkhimfkaaDoor.Hx Go.Proofs.YtlggihnkhimfkaaDoorW.PrintWords
set_option linter.unusedVariables false
set_option linter.unusedSimpArgs false
def hx (n : Nat) : ByteArray := ⟨(hexL n 6).toArray⟩
def putF (s : ByteArray) : ByteArray := (((hx s.size ++ hx (crcSum s.data.toList)) ++ (⟨#[124]⟩ : ByteArray)) ++ s) ++ (⟨#[10]⟩ : ByteArray)
theorem frm_app (a b : ByteArray) : (a ++ b).data.toList = a.data.toList ++ b.data.toList := by
  rw [ByteArray.data_append, Array.toList_append]
theorem data_ext {a b : ByteArray} (h : a.data.toList = b.data.toList) : a = b := by
  cases a; cases b
  simp at h
  rw [h]
theorem data_extract (a : ByteArray) (i j : Nat) : (a.extract i j).data.toList = (a.data.toList.take j).drop i := by
  rw [ByteArray.data_extract, Array.toList_extract, List.extract_eq_take_drop, List.drop_take]
theorem hx_data (n : Nat) : (hx n).data.toList = hexL n 6 := rfl
theorem hx_size (n : Nat) : (hx n).size = 6 := by simp [hx, hexL, ByteArray.size]
theorem hexL_len (n : Nat) : (hexL n 6).length = 6 := by simp [hexL]
theorem putF_data (s : ByteArray) : (putF s).data.toList = hexL s.size 6 ++ (hexL (crcSum s.data.toList) 6 ++ (124 :: (s.data.toList ++ [10]))) := by
  unfold putF
  rw [frm_app, frm_app, frm_app, frm_app, hx_data, hx_data]
  simp
theorem putF_size (s : ByteArray) : (putF s).size = s.size + 14 := by
  rw [← list_size, putF_data]
  simp [hexL_len, list_size]
  omega
theorem bt_data (s : ByteArray) (i : Nat) : bt s (i : Int) = ((s.data.toList.getD i 0).toNat : Int) := by
  unfold bt
  rw [Int.toNat_natCast]
  split
  · rename_i h
    have h' : i < s.data.toList.length := by rw [list_size]; exact h
    rw [List.getD_eq_getElem?_getD, List.getElem?_eq_getElem h', Option.getD_some]
    rfl
  · rename_i h
    have h' : s.data.toList.length ≤ i := by rw [list_size]; exact Nat.le_of_not_lt h
    rw [List.getD_eq_getElem?_getD, List.getElem?_eq_none h']
    rfl
theorem unhex_hx {n : Nat} (h : n < 16777216) : unhexF (hx n) = ((n : Int), 0) := by
  unfold unhexF
  rw [if_pos (hx_size n), hx_data, hexL_fold n h]
theorem take_put (s tail : ByteArray) (hs : s.size ≤ 262144) : takeF (putF s ++ tail) = (s, ((putF s).size : Int), 0) := by
  have hc := crcSum_lt s.data.toList
  generalize hcs : crcSum s.data.toList = c at hc
  have hd : (putF s ++ tail).data.toList = hexL s.size 6 ++ (hexL c 6 ++ (124 :: (s.data.toList ++ (10 :: tail.data.toList)))) := by
    rw [frm_app, putF_data, hcs]; simp
  have hsz : (putF s ++ tail).size = s.size + 14 + tail.size := by rw [ByteArray.size_append, putF_size]
  have e1 : (putF s ++ tail).extract 0 6 = hx s.size := data_ext (by rw [data_extract, hd, List.take_left' (hexL_len _)]; rfl)
  have e2 : (putF s ++ tail).extract 6 12 = hx c := data_ext (by
    rw [data_extract, hd, ← List.append_assoc, List.take_left' (by simp [hexL_len]), List.drop_left' (hexL_len _)]; rfl)
  have e3 : bt (putF s ++ tail) 12 = 124 := by
    have := bt_data (putF s ++ tail) 12
    rw [hd, ← List.append_assoc, List.getD_eq_getElem?_getD, List.getElem?_append_right (by simp [hexL_len])] at this
    simpa [hexL_len] using this
  have e4 : ((putF s ++ tail).extract 13 (putF s ++ tail).size).data.toList = s.data.toList ++ (10 :: tail.data.toList) := by
    rw [data_extract, hd, List.take_of_length_le (by rw [hsz]; simp [hexL_len, list_size]; omega)]
    rw [show hexL s.size 6 ++ (hexL c 6 ++ 124 :: (s.data.toList ++ 10 :: tail.data.toList)) = (hexL s.size 6 ++ hexL c 6 ++ [124]) ++ (s.data.toList ++ 10 :: tail.data.toList) by simp]
    rw [List.drop_left' (by simp [hexL_len])]
  unfold takeF
  rw [if_neg (by omega), e1, e2, e3, unhex_hx (by omega), unhex_hx hc, if_pos ⟨rfl, rfl, by simpa using (by omega : (s.size : Int) ≤ 262144), rfl⟩]
  generalize (putF s ++ tail).extract 13 (putF s ++ tail).size = rest at e4
  have hr : rest.size = s.size + 1 + tail.size := by rw [← list_size, e4]; simp [list_size]; omega
  have hb : bt rest (s.size : Int) = 10 := by
    rw [bt_data, e4, List.getD_eq_getElem?_getD, List.getElem?_append_right (by rw [list_size]; omega)]
    simp [list_size]
  have hx0 : rest.extract 0 s.size = s := data_ext (by rw [data_extract, e4, List.take_left' (list_size s)]; rfl)
  show restT rest (s.size : Int) (c : Int) = _
  unfold restT
  rw [if_neg (by omega), hb, if_neg (by simp), Int.toNat_natCast, hx0, hcs, if_neg (by simp), putF_size]
  congr 2
  omega
set_option maxHeartbeats 4000000 in
theorem put_take {s : ByteArray} (h : (takeF s).2.2 = 0) : (takeF s).1.size ≤ 262144 ∧ ((takeF s).2.1 = ((takeF s).1.size : Int) + 14) ∧ (takeF s).1.size + 14 ≤ s.size ∧ s.data.toList.take ((takeF s).1.size + 14) = (putF (takeF s).1).data.toList := by
  unfold takeF at h
  have hT : takeF s = takeF s := rfl
  conv at hT => rhs; unfold takeF
  split at h
  · cases h
  · rename_i h13
    rw [if_neg h13] at hT
    split at h
    · rename_i hc
      rw [if_pos hc] at hT
      obtain ⟨c1, c2, c3, c4⟩ := hc
      rcases unhex_cases (s.extract 0 6) with e | ⟨n, hn, e⟩
      · rw [e] at c1; cases c1
      · rcases unhex_cases (s.extract 6 12) with e' | ⟨c, hcc, e'⟩
        · rw [e'] at c2; cases c2
        · rw [e, e'] at h hT
          rw [e] at c3
          obtain ⟨h1, h2, h3, h4⟩ := restT_used (by simp) h
          have hh : takeF s = ((s.extract 13 s.size).extract 0 n, 13 + (n : Int) + 1, 0) := hT.trans h2
          simp only [Int.toNat_natCast] at h1 h3 h4 c3
          have hsz : (s.extract 13 s.size).size = s.size - 13 := by rw [ByteArray.size_extract]; omega
          have hts : ((s.extract 13 s.size).extract 0 n).size = n := by rw [ByteArray.size_extract, hsz]; omega
          rw [hh]
          simp only [hts]
          have u1 := fold_hexL (s.extract 0 6).data.toList (by rw [list_size, ByteArray.size_extract]; omega)
          have u2 := fold_hexL (s.extract 6 12).data.toList (by rw [list_size, ByteArray.size_extract]; omega)
          have v1 : hexFold 0 (s.extract 0 6).data.toList = some n := by
            unfold unhexF at e
            rw [if_pos (by rw [ByteArray.size_extract]; omega)] at e
            cases hx : hexFold 0 (s.extract 0 6).data.toList with
            | none => rw [hx] at e; simp at e
            | some N => rw [hx] at e; simp at e; congr 1; omega
          have v2 : hexFold 0 (s.extract 6 12).data.toList = some c := by
            unfold unhexF at e'
            rw [if_pos (by rw [ByteArray.size_extract]; omega)] at e'
            cases hx : hexFold 0 (s.extract 6 12).data.toList with
            | none => rw [hx] at e'; simp at e'
            | some N => rw [hx] at e'; simp at e'; congr 1; omega
          have w1 := (u1 n v1).2
          have w2 := (u2 c v2).2
          refine ⟨by omega, by omega, by omega, ?_⟩
          rw [putF_data, hts]
          have h4' : crcSum ((s.extract 13 s.size).extract 0 n).data.toList = c := by omega
          rw [h4', ← w1, ← w2]
          simp only [data_extract]
          have hlen := list_size s
          have c4' : (s.data.toList.getD 12 0).toNat = 124 := by
            have := bt_data s 12
            rw [show ((12 : Nat) : Int) = 12 from rfl, c4] at this
            omega
          have h3' : (s.data.toList.getD (13 + n) 0).toNat = 10 := by
            have := bt_data (s.extract 13 s.size) n
            rw [h3, data_extract, List.take_of_length_le (by omega), List.getD_eq_getElem?_getD, List.getElem?_drop, ← List.getD_eq_getElem?_getD] at this
            omega
          generalize s.data.toList = l at *
          have z1 : l.getD 12 0 = 124 := UInt8.toNat_inj.1 c4'
          have z2 : l.getD (13 + n) 0 = 10 := UInt8.toNat_inj.1 h3'
          rw [List.take_of_length_le (show l.length ≤ s.size by omega)]
          apply List.ext_getElem?
          intro i
          have hn2 : 13 + n < l.length := by omega
          have t1 : ((l.take 6).drop 0).length = 6 := by simp; omega
          have t2 : ((l.take 12).drop 6).length = 6 := by simp; omega
          have t3 : (((l.drop 13).take n).drop 0).length = n := by simp; omega
          by_cases i1 : i < n + 14
          · rw [List.getElem?_take_of_lt i1]
            by_cases i2 : i < 6
            · rw [List.getElem?_append_left (by omega), List.drop_zero, List.getElem?_take_of_lt i2]
            · rw [List.getElem?_append_right (by omega), t1]
              by_cases i3 : i < 12
              · rw [List.getElem?_append_left (by omega), List.getElem?_drop, List.getElem?_take_of_lt (by omega)]
                congr 1; omega
              · rw [List.getElem?_append_right (by omega), t2]
                by_cases i4 : i = 12
                · subst i4
                  simp only [Nat.sub_self, show 12 - 6 - 6 = 0 from rfl, List.getElem?_cons_zero]
                  rw [List.getD_eq_getElem?_getD, List.getElem?_eq_getElem (by omega), Option.getD_some] at z1
                  rw [List.getElem?_eq_getElem (by omega), z1]
                · rw [show i - 6 - 6 = (i - 13) + 1 by omega, List.getElem?_cons_succ]
                  by_cases i5 : i < 13 + n
                  · rw [List.getElem?_append_left (by omega), List.drop_zero, List.getElem?_take_of_lt (by omega), List.getElem?_drop]
                    congr 1; omega
                  · obtain rfl : i = 13 + n := by omega
                    rw [List.getElem?_append_right (by omega), t3, show 13 + n - 13 - n = 0 by omega, List.getElem?_cons_zero]
                    rw [List.getD_eq_getElem?_getD, List.getElem?_eq_getElem (by omega), Option.getD_some] at z2
                    rw [List.getElem?_eq_getElem (by omega), z2]
          · rw [List.getElem?_eq_none (by simp; omega), List.getElem?_eq_none (by simp; omega)]
    · cases h
end Go.Proofs.YtlggihnkhimfkaaDoor.Giv
namespace Go.Proofs.YtlggihnkhimfkaaDoor.PurF
open Go.RowKit Go.Lib Go.Proofs.YtlggihnkhimfkaaDoor.Giv Go.Proofs.YtlggihnkhimfkaaDoor.Hx Go.Proofs.YtlggihnkhimfkaaDoor.P Go.Proofs.YtlggihnkhimfkaaDoorW.PrintWords Go.Proofs.YtlggihnkhimfkaaDoorW.PrintLast Go.Proofs.YtlggihnkhimfkaaDoorW.PrintMore
set_option linter.unusedVariables false
set_option linter.unusedSimpArgs false
theorem w64 {n : Int} (h0 : -9223372036854775808 ≤ n) (h1 : n ≤ 9223372036854775807) : wrap64 n = n := by unfold wrap64; omega
theorem hex_yes {n : Int} (h0 : -9223372036854775808 ≤ n) (h1 : n ≤ 9223372036854775807) : crc_Hex.f n = some (hexF n) := by unfold crc_Hex.f; rw [if_pos ⟨h0, h1⟩]
theorem sum_yes {s : ByteArray} (h : s.size ≤ 140737488351232) : crc_Sum.f s = some ((crcSum s.data.toList : Nat) : Int) := by unfold crc_Sum.f; rw [if_pos h]
theorem Ev.to {α : Type} {g : Nat → Option α} {r r' : α} (h : Ev g r) (e : r = r') : Ev g r' := e ▸ h
theorem hexF_nat {m : Nat} (h : m < 16777216) : hexF (m : Int) = (⟨(hexL m 6).toArray⟩, 0) := by unfold hexF; rw [if_pos (by omega)]; rfl
end Go.Proofs.YtlggihnkhimfkaaDoor.PurF
namespace Go.Proofs.YtlggihnkhimfkaaDoor.PurF
open Go.RowKit Go.Lib Go.Proofs.YtlggihnkhimfkaaDoor.Giv Go.Proofs.YtlggihnkhimfkaaDoor.Hx Go.Proofs.YtlggihnkhimfkaaDoor.P Go.Proofs.YtlggihnkhimfkaaDoorW.PrintWords Go.Proofs.YtlggihnkhimfkaaDoorW.PrintLast Go.Proofs.YtlggihnkhimfkaaDoorW.PrintMore
set_option linter.unusedVariables false
set_option linter.unusedSimpArgs false
theorem take_yes {s : ByteArray} (h : s.size ≤ 140737488351232) : frame_Take.f s = some (takeF s) := by unfold frame_Take.f; rw [if_pos h]
theorem all_yes {s : ByteArray} (h : s.size ≤ 1000000) : frame_All.f s = some ((allS s 0).1, ((allS s 0).2 : Int)) := by unfold frame_All.f; rw [if_pos h]
theorem put_yes {s : ByteArray} (h : s.size ≤ 262144) : frame_Put.f s = some (putF s, 0) := by
  have hc := crcSum_lt s.data.toList
  have e1 : (⟨#[124]⟩ : ByteArray).size = 1 := rfl
  unfold frame_Put.f
  rw [if_neg (by omega), hex_yes (by omega) (by omega), hexF_nat (by omega), sum_yes (by omega)]
  simp only [Option.bind_some]
  rw [hex_yes (by omega) (by omega), hexF_nat hc]
  simp only [Option.bind_some]
  have h1 := hx_size s.size
  have h2 := hx_size (crcSum s.data.toList)
  change (if (hx s.size).size + (hx (crcSum s.data.toList)).size ≤ 9223372036854775807 then (if (hx s.size ++ hx (crcSum s.data.toList)).size + 1 ≤ 9223372036854775807 then (if ((hx s.size ++ hx (crcSum s.data.toList)) ++ (⟨#[124]⟩ : ByteArray)).size + s.size ≤ 9223372036854775807 then (if (((hx s.size ++ hx (crcSum s.data.toList)) ++ (⟨#[124]⟩ : ByteArray)) ++ s).size + 1 ≤ 9223372036854775807 then (some ((((hx s.size ++ hx (crcSum s.data.toList)) ++ (⟨#[124]⟩ : ByteArray)) ++ s) ++ (⟨#[10]⟩ : ByteArray), 0)) else (none)) else (none)) else (none)) else (none)) = some (putF s, 0)
  rw [if_pos (by omega), if_pos (by simp only [ByteArray.size_append]; omega), if_pos (by simp only [ByteArray.size_append, e1]; omega), if_pos (by simp only [ByteArray.size_append, e1]; omega)]
  rfl
end Go.Proofs.YtlggihnkhimfkaaDoor.PurF
namespace Go.Proofs.YtlggihnkhimfkaaDoor.Giv
open Go.RowKit Go.Lib Go.Proofs.YtlggihnkhimfkaaDoorW.PrintWords Go.Proofs.YtlggihnkhimfkaaDoorW.PrintLast Go.Proofs.YtlggihnkhimfkaaDoorW.PrintMore
set_option linter.unusedVariables false
set_option linter.unusedSimpArgs false
def oddP (n : Int) : Bool := decide (n < 0) || decide (1099511627776 < n)
theorem oddP_calls (x : Int) (w : World) (b : Bool) (hb : oddP x = b) :
    Calls Tryd.prog 25 #[.int .i64 x] w fun e w' => e = .returned (.bool b) ∧ w = w' := by
  unfold oddP at hb
  by_cases h1 : x < 0
  · obtain rfl : b = true := by rw [← hb]; simp [h1]
    clear hb
    go_enter Tryd.func25, Tryd.ntmps25
    go_wp2
    go_ret
    exact ⟨rfl, rfl⟩
  · by_cases h2 : 1099511627776 < x
    · obtain rfl : b = true := by rw [← hb]; simp [h2]
      clear hb
      go_enter Tryd.func25, Tryd.ntmps25
      go_wp2
      go_ret
      exact ⟨rfl, rfl⟩
    · obtain rfl : b = false := by rw [← hb]; simp [h1, h2]
      clear hb
      go_enter Tryd.func25, Tryd.ntmps25
      go_wp2
      go_ret
      exact ⟨rfl, rfl⟩
theorem far_calls (x0 x1 : Int) (b : Nat) (w : World) (r : Bool) (hr : oddP x1 = r) (hc : w.cell? ⟨b, 0, none⟩ = some (.func (.func 25) #[] #[])) :
    Calls Tryd.prog 26 #[.agg #[.int .i64 x0, .int .i64 x1], .pointer (some ⟨b, 0, none⟩)] w fun e w' => e = .returned (.bool r) ∧ Below w.heap.size w w' := by
  have hlt := block_lt_of_cell hc
  have hc2 : (w.alloc (.cells #[.int .i64 x0, .int .i64 x1] 52)).cell? ⟨b, 0, none⟩ = some (.func (.func 25) #[] #[]) := Lib.cell?_alloc_some _ hc
  clear hc
  go_enter Tryd.func26, Tryd.ntmps26
  go_wp2_with fail
  refine (oddP_calls x1 _ r hr).mono ?_
  rintro e w' ⟨rfl, rfl⟩
  go_wp2
  go_ret
  exact ⟨rfl, (Below.refl _ _).alloc (Nat.le_refl _) _⟩
def firstP (p : Int → Bool) : List Int → Int
  | [] => -1
  | x :: l => if p x then 0 else if firstP p l < 0 then -1 else firstP p l + 1
theorem firstP_hit {p : Int → Bool} : ∀ (xs : List Int) (k : Nat), (∀ i, i < k → p (xs.getD i 0) = false) → k < xs.length → p (xs.getD k 0) = true → firstP p xs = k
  | x :: l, 0, _, _, h => by simp [firstP] at h ⊢; simp [h]
  | x :: l, k + 1, h0, h1, h => by
    have hx : p x = false := h0 0 (by omega)
    have ih := firstP_hit l k (fun i hi => h0 (i + 1) (by omega)) (by simpa using h1) h
    simp [firstP, hx, ih]
    omega
  | [], _, _, h, _ => by simp at h
theorem firstP_none {p : Int → Bool} : ∀ (xs : List Int), (∀ i, i < xs.length → p (xs.getD i 0) = false) → firstP p xs = -1
  | [], _ => rfl
  | x :: l, h => by
    have hx : p x = false := h 0 (by simp)
    have ih := firstP_none l (fun i hi => h (i + 1) (by simpa using hi))
    simp [firstP, hx, ih]
theorem firstP_any {p : Int → Bool} : ∀ (xs : List Int), decide (0 ≤ firstP p xs) = xs.any p
  | [] => rfl
  | x :: l => by
    have ih := firstP_any (p := p) l
    unfold firstP
    by_cases hx : p x = true
    · simp [hx]
    · simp only [Bool.not_eq_true] at hx
      rw [List.any_cons, hx, Bool.false_or, ← ih, if_neg (by decide)]
      by_cases h : firstP p l < 0
      · rw [if_pos h]; simp [h]
      · rw [if_neg h]; simp; omega
set_option maxHeartbeats 400000 in
theorem idxOdd_any (ao : Option Addr) (xs : List Int) (cap : Nat) (w : World) (hx : (Kd.int .i64).C w ao xs.length xs) :
    Calls Tryd.prog 46 #[.slice ao xs.length cap, .func (.func 25) #[] #[]] w fun e w' => e = .returned (.int .i64 (firstP oddP xs)) ∧ w = w' := by
  have h8 : xs.length ≤ 9223372036854775807 := Kd.C_max hx
  go_enter Tryd.func46, Tryd.ntmps46
  go_wp2
  go_loop [5, 8] (fun _ i => ∃ k : Nat, k ≤ xs.length ∧ i = .int .i64 k ∧ Veil (∀ i, i < k → oddP (xs.getD i 0) = false)) (fun _ i => xs.length - (Go.RowKit.intOf i).toNat)
  case atStart => exact ⟨0, Nat.zero_le _, rfl, veil (fun i hi => by omega)⟩
  case round =>
    obtain ⟨k, hk, rfl, Hk⟩ := hrel
    by_cases hlt : k < xs.length
    · obtain ⟨ad, rfl, hcell⟩ := Kd.at_int hx (k : Int) (by omega) (by omega)
      have exk : rd xs (k : Int) = xs.getD k 0 := by unfold rd; rw [Int.toNat_natCast]
      rw [exk, Int.toNat_natCast] at hcell
      clear exk hx
      generalize hxk : xs.getD k 0 = x at *
      have Hx := veil hxk
      clear hxk
      by_cases ho : oddP x = true
      · have Ho := veil ho
        clear ho
        go_wp2_with fail
        refine (oddP_calls _ _ true Ho.out).mono ?_
        rintro e w' ⟨rfl, rfl⟩
        go_wp2
        go_ret
        exact ⟨ret_int (firstP_hit xs k Hk.out hlt (by rw [Hx.out]; exact Ho.out)).symm, rfl⟩
      · have Ho : Veil (oddP x = false) := veil (by simpa using ho)
        clear ho
        go_wp2_with fail
        refine (oddP_calls _ _ false Ho.out).mono ?_
        rintro e w' ⟨rfl, rfl⟩
        go_wp2
        go_round
        case rel =>
          refine ⟨k + 1, by omega, by go_num, veil fun i hi => ?_⟩
          by_cases e : i = k
          · subst e; rw [Hx.out]; exact Ho.out
          · exact Hk.out i (by omega)
        case measure => simp [Go.RowKit.intOf]; omega
    · obtain rfl : k = xs.length := by omega
      clear hx
      go_wp2
      go_ret
      exact ⟨ret_int (firstP_none xs Hk.out).symm, rfl⟩
set_option maxHeartbeats 400000 in
theorem hasOdd_any (ao : Option Addr) (xs : List Int) (cap : Nat) (w : World) (b : Bool) (hx : (Kd.int .i64).C w ao xs.length xs) (hb : xs.any oddP = b) :
    Calls Tryd.prog 27 #[.slice ao xs.length cap, .func (.func 25) #[] #[]] w fun e w' => e = .returned (.bool b) ∧ w = w' := by
  have Hx := veil hx
  have Hb := veil ((firstP_any xs).trans hb)
  clear hx hb
  go_enter Tryd.func27, Tryd.ntmps27
  go_wp2_with fail
  refine (idxOdd_any _ _ _ _ Hx.out).mono ?_
  rintro e w' ⟨rfl, rfl⟩
  go_wp2
  go_ret
  exact ⟨ret_bool Hb.out, rfl⟩
def dists (l : List P.S52) : List Int := l.map (·.f1)
set_option maxHeartbeats 400000 in
theorem idxFar_any (ao : Option Addr) (xs : List P.S52) (cap b : Nat) (w : World) (hx : P.k52.C w ao xs.length xs) (hc : w.cell? ⟨b, 0, none⟩ = some (.func (.func 25) #[] #[])) :
    Calls Tryd.prog 48 #[.slice ao xs.length cap, .func (.func 26) #[] #[.pointer (some ⟨b, 0, none⟩)]] w fun e w' => e = .returned (.int .i64 (firstP oddP (dists xs))) ∧ Below w.heap.size w w' := by
  have h8 : xs.length ≤ 9223372036854775807 := Kd.C_max hx
  have hbl := block_lt_of_cell hc
  have HX := Aside0.mk hx
  have HC := Aside0.mk hc
  have hdl : (dists xs).length = xs.length := List.length_map _
  clear hx hc
  go_enter Tryd.func48, Tryd.ntmps48
  go_wp2
  go_loopw [5, 8] (fun _ i wr => ∃ k : Nat, k ≤ xs.length ∧ i = .int .i64 k ∧ Veil (∀ i, i < k → oddP ((dists xs).getD i 0) = false) ∧ Aside0 (Below w.heap.size w wr)) (fun _ i _ => xs.length - (Go.RowKit.intOf i).toNat)
  case atStart => exact ⟨0, Nat.zero_le _, rfl, veil (fun i hi => by omega), ⟨Below.refl _ _⟩⟩
  case round =>
    obtain ⟨k, hk, rfl, Hk, HB⟩ := hrel
    by_cases hlt : k < xs.length
    · obtain ⟨ad, rfl, c0, c1⟩ := P.at_T52 (Kd.C_below HX.out HB.out) (k : Int) (by omega) (by omega)
      have exk : P.rd_T52 xs (k : Int) = xs[k] := by unfold P.rd_T52; simp [hlt]
      have exd : (dists xs).getD k 0 = xs[k].f1 := by unfold dists; simp [hlt]
      rw [exk, Int.toNat_natCast] at c0 c1
      generalize xs[k] = p at *
      obtain ⟨x0, x1⟩ := p
      simp only at c0 c1 exd
      have Hx := veil exd
      have hcb := Aside0.mk (show wr.cell? ⟨b, 0, none⟩ = some (.func (.func 25) #[] #[]) from by rw [HB.out.cell (by exact hbl)]; exact HC.out)
      clear exk exd
      by_cases ho : oddP x1 = true
      · have Ho := veil ho
        clear ho
        go_wp2_with fail
        refine (far_calls x0 x1 b _ true Ho.out hcb.out).mono ?_
        rintro e w' ⟨rfl, hb1⟩
        have HB1 := Aside0.mk (HB.out.trans (hb1.mono HB.out.size))
        clear hb1
        go_wp2
        go_ret
        exact ⟨ret_int (firstP_hit (dists xs) k Hk.out (by omega) (by rw [Hx.out]; exact Ho.out)).symm, HB1.out⟩
      · have Ho : Veil (oddP x1 = false) := veil (by simpa using ho)
        clear ho
        go_wp2_with fail
        refine (far_calls x0 x1 b _ false Ho.out hcb.out).mono ?_
        rintro e w' ⟨rfl, hb1⟩
        have HB1 := Aside0.mk (HB.out.trans (hb1.mono HB.out.size))
        clear hb1
        go_wp2
        go_roundw
        case rel =>
          refine ⟨k + 1, by omega, by go_num, veil fun i hi => ?_, HB1⟩
          by_cases e : i = k
          · subst e; rw [Hx.out]; exact Ho.out
          · exact Hk.out i (by omega)
        case measure => simp [Go.RowKit.intOf]; omega
    · obtain rfl : k = xs.length := by omega
      go_wp2
      go_ret
      exact ⟨ret_int (firstP_none (dists xs) (by rw [hdl]; exact Hk.out)).symm, HB.out⟩
set_option maxHeartbeats 400000 in
theorem hasFar_any (ao : Option Addr) (xs : List P.S52) (cap b : Nat) (w : World) (r : Bool) (hx : P.k52.C w ao xs.length xs) (hc : w.cell? ⟨b, 0, none⟩ = some (.func (.func 25) #[] #[])) (hr : (dists xs).any oddP = r) :
    Calls Tryd.prog 29 #[.slice ao xs.length cap, .func (.func 26) #[] #[.pointer (some ⟨b, 0, none⟩)]] w fun e w' => e = .returned (.bool r) ∧ Below w.heap.size w w' := by
  have HC := Aside0.mk (idxFar_any ao xs cap b w hx hc)
  have Hb := veil ((firstP_any (dists xs)).trans hr)
  clear hx hc hr
  go_enter Tryd.func29, Tryd.ntmps29
  go_wp2_with fail
  refine HC.out.mono ?_
  rintro e w' ⟨rfl, hb1⟩
  have HB1 := Aside0.mk hb1
  clear hb1
  go_wp2
  go_ret
  exact ⟨ret_bool Hb.out, HB1.out⟩
end Go.Proofs.YtlggihnkhimfkaaDoor.Giv
namespace Go.Proofs.YtlggihnkhimfkaaDoor.Giv
open Go.RowKit Go.Lib Go.Proofs.YtlggihnkhimfkaaDoorW.PrintWords Go.Proofs.YtlggihnkhimfkaaDoorW.PrintLast Go.Proofs.YtlggihnkhimfkaaDoorW.PrintMore
set_option linter.unusedVariables false
set_option linter.unusedSimpArgs false
theorem cell_new2 (W1 : World) (c : Array Value) (t : TypeId) (n : Nat) (hn : W1.heap.size = n) (i : Nat) : (W1.alloc (.cells c t)).cell? ⟨n, i, none⟩ = c[i]? := by
  subst hn
  exact (Blk.new W1 c t).cell i
theorem lit_C (W : World) (xs : List Int) (t : TypeId) (cs : Array Value) (n : Nat) (hn : W.heap.size = n) (hcs : cs = (xs.map (Value.int .i64)).toArray) (hl : xs.length ≤ 1000) : (Kd.int .i64).C (W.alloc (.cells cs t)) (some ⟨n, 0, none⟩) xs.length xs := by
  subst hcs
  subst hn
  refine ⟨rfl, by omega, fun _ => ⟨_, rfl, fun j p hj => ⟨[.int .i64 p], rfl, rfl, fun i u hi => ?_⟩⟩⟩
  have h1 : (Kd.int .i64).sz = 1 := rfl
  have hi0 : i = 0 := by
    cases i with
    | zero => rfl
    | succ i => simp at hi
  subst hi0
  obtain rfl : Value.int .i64 p = u := by simpa using hi
  rw [h1, Nat.mul_one, Nat.add_zero, Addr.add_lit, Nat.zero_add, (Blk.new W _ t).cell]
  simp [hj]
def six (a0_2 a0_3 a0_4 a0_5 a0_6 a0_7 : Int) : List Int := [a0_2, a0_3, a0_4, a0_5, a0_6, a0_7]
def mayM (a0_0 a0_1 a0_2 a0_3 a0_4 a0_5 a0_6 a0_7 a0_8 a0_9 : Int) (l0_10 : List Int) (a0_11 a0_12 : Int) (a0_13 : Bool) (l0_14 : List P.S52) (a0_15 : ByteArray) : Bool :=
  !(decide (a0_0 < 1) || decide (19 < a0_0) || decide (a0_1 < 0) || decide (16 ≤ a0_1)) && !((six a0_2 a0_3 a0_4 a0_5 a0_6 a0_7).any oddP) &&
  !(decide (a0_8 < 0) || decide (3 < a0_8) || decide (a0_11 < 0) || decide (64 < a0_11)) && !(decide (0 < l0_10.length) && !isV l0_10) &&
  !(decide (a0_12 < 0) || decide (255 < a0_12) || decide (64 < l0_14.length) || (dists l0_14).any oddP) && !decide (262144 < a0_15.size)
def post_Check.f (a0_0 a0_1 a0_2 a0_3 a0_4 a0_5 a0_6 a0_7 a0_8 a0_9 : Int) (l0_10 : List Int) (a0_11 a0_12 : Int) (a0_13 : Bool) (l0_14 : List P.S52) (a0_15 : ByteArray) : Option Int := some (if mayM a0_0 a0_1 a0_2 a0_3 a0_4 a0_5 a0_6 a0_7 a0_8 a0_9 l0_10 a0_11 a0_12 a0_13 l0_14 a0_15 = true then 0 else 1)
def vchk (l : List Int) : Int := if isV l = true ∧ (l.length : Int) = (l.length : Int) then 0 else 50
theorem check_eq {l : List Int} : vchk l = if isV l = true then 0 else 50 := by
  unfold vchk
  simp
set_option maxRecDepth 100000 in
set_option maxHeartbeats 4000000 in
theorem chk_1a (a0_0 a0_1 a0_2 a0_3 a0_4 a0_5 a0_6 a0_7 a0_8 a0_9 : Int) (A0_10 : Option Addr) (c0_10 : Nat) (l0_10 : List Int) (a0_11 a0_12 : Int) (a0_13 : Bool) (A0_14 : Option Addr) (c0_14 : Nat) (l0_14 : List (P.S52)) (a0_15 : ByteArray) (w : World) (hr0_10 : Kd.C (Kd.int .i64) w A0_10 l0_10.length l0_10) (hc0_10 : l0_10.length ≤ c0_10) (hr0_14 : Kd.C P.k52 w A0_14 l0_14.length l0_14) (hc0_14 : l0_14.length ≤ c0_14) (p1 : a0_0 < 1) :
    Calls Tryd.prog 11 #[.agg #[.int .i64 a0_0, .int .i64 a0_1, .int .i64 a0_2, .int .i64 a0_3, .int .i64 a0_4, .int .i64 a0_5, .int .i64 a0_6, .int .i64 a0_7, .int .i64 a0_8, .int .i64 a0_9, .slice A0_10 l0_10.length c0_10, .int .i64 a0_11, .int .i64 a0_12, .bool a0_13, .slice A0_14 l0_14.length c0_14, .string a0_15]] w fun e w' => e = .returned (.int .i64 1) ∧ Below w.heap.size w w' := by
  have HR10 := Aside0.mk hr0_10
  have HR14 := Aside0.mk hr0_14
  clear hr0_10 hr0_14
  go_enter Tryd.func11, Tryd.ntmps11
  go_wp2
  go_ret
  exact ⟨rfl, (by repeat (first | exact Below.refl _ _ | apply below_alloc | apply pw_below_drewN | apply below_drew1))⟩
set_option maxRecDepth 100000 in
set_option maxHeartbeats 4000000 in
theorem chk_1b (a0_0 a0_1 a0_2 a0_3 a0_4 a0_5 a0_6 a0_7 a0_8 a0_9 : Int) (A0_10 : Option Addr) (c0_10 : Nat) (l0_10 : List Int) (a0_11 a0_12 : Int) (a0_13 : Bool) (A0_14 : Option Addr) (c0_14 : Nat) (l0_14 : List (P.S52)) (a0_15 : ByteArray) (w : World) (hr0_10 : Kd.C (Kd.int .i64) w A0_10 l0_10.length l0_10) (hc0_10 : l0_10.length ≤ c0_10) (hr0_14 : Kd.C P.k52 w A0_14 l0_14.length l0_14) (hc0_14 : l0_14.length ≤ c0_14) (p1 : 1 ≤ a0_0) (p2 : 19 < a0_0) :
    Calls Tryd.prog 11 #[.agg #[.int .i64 a0_0, .int .i64 a0_1, .int .i64 a0_2, .int .i64 a0_3, .int .i64 a0_4, .int .i64 a0_5, .int .i64 a0_6, .int .i64 a0_7, .int .i64 a0_8, .int .i64 a0_9, .slice A0_10 l0_10.length c0_10, .int .i64 a0_11, .int .i64 a0_12, .bool a0_13, .slice A0_14 l0_14.length c0_14, .string a0_15]] w fun e w' => e = .returned (.int .i64 1) ∧ Below w.heap.size w w' := by
  have HR10 := Aside0.mk hr0_10
  have HR14 := Aside0.mk hr0_14
  clear hr0_10 hr0_14
  go_enter Tryd.func11, Tryd.ntmps11
  go_wp2
  go_ret
  exact ⟨rfl, (by repeat (first | exact Below.refl _ _ | apply below_alloc | apply pw_below_drewN | apply below_drew1))⟩
set_option maxRecDepth 100000 in
set_option maxHeartbeats 4000000 in
theorem chk_1c (a0_0 a0_1 a0_2 a0_3 a0_4 a0_5 a0_6 a0_7 a0_8 a0_9 : Int) (A0_10 : Option Addr) (c0_10 : Nat) (l0_10 : List Int) (a0_11 a0_12 : Int) (a0_13 : Bool) (A0_14 : Option Addr) (c0_14 : Nat) (l0_14 : List (P.S52)) (a0_15 : ByteArray) (w : World) (hr0_10 : Kd.C (Kd.int .i64) w A0_10 l0_10.length l0_10) (hc0_10 : l0_10.length ≤ c0_10) (hr0_14 : Kd.C P.k52 w A0_14 l0_14.length l0_14) (hc0_14 : l0_14.length ≤ c0_14) (p1 : 1 ≤ a0_0) (p2 : a0_0 ≤ 19) (p3 : a0_1 < 0) :
    Calls Tryd.prog 11 #[.agg #[.int .i64 a0_0, .int .i64 a0_1, .int .i64 a0_2, .int .i64 a0_3, .int .i64 a0_4, .int .i64 a0_5, .int .i64 a0_6, .int .i64 a0_7, .int .i64 a0_8, .int .i64 a0_9, .slice A0_10 l0_10.length c0_10, .int .i64 a0_11, .int .i64 a0_12, .bool a0_13, .slice A0_14 l0_14.length c0_14, .string a0_15]] w fun e w' => e = .returned (.int .i64 1) ∧ Below w.heap.size w w' := by
  have HR10 := Aside0.mk hr0_10
  have HR14 := Aside0.mk hr0_14
  clear hr0_10 hr0_14
  go_enter Tryd.func11, Tryd.ntmps11
  go_wp2
  go_ret
  exact ⟨rfl, (by repeat (first | exact Below.refl _ _ | apply below_alloc | apply pw_below_drewN | apply below_drew1))⟩
set_option maxRecDepth 100000 in
set_option maxHeartbeats 4000000 in
theorem chk_1d (a0_0 a0_1 a0_2 a0_3 a0_4 a0_5 a0_6 a0_7 a0_8 a0_9 : Int) (A0_10 : Option Addr) (c0_10 : Nat) (l0_10 : List Int) (a0_11 a0_12 : Int) (a0_13 : Bool) (A0_14 : Option Addr) (c0_14 : Nat) (l0_14 : List (P.S52)) (a0_15 : ByteArray) (w : World) (hr0_10 : Kd.C (Kd.int .i64) w A0_10 l0_10.length l0_10) (hc0_10 : l0_10.length ≤ c0_10) (hr0_14 : Kd.C P.k52 w A0_14 l0_14.length l0_14) (hc0_14 : l0_14.length ≤ c0_14) (p1 : 1 ≤ a0_0) (p2 : a0_0 ≤ 19) (p3 : 0 ≤ a0_1) (p4 : 16 ≤ a0_1) :
    Calls Tryd.prog 11 #[.agg #[.int .i64 a0_0, .int .i64 a0_1, .int .i64 a0_2, .int .i64 a0_3, .int .i64 a0_4, .int .i64 a0_5, .int .i64 a0_6, .int .i64 a0_7, .int .i64 a0_8, .int .i64 a0_9, .slice A0_10 l0_10.length c0_10, .int .i64 a0_11, .int .i64 a0_12, .bool a0_13, .slice A0_14 l0_14.length c0_14, .string a0_15]] w fun e w' => e = .returned (.int .i64 1) ∧ Below w.heap.size w w' := by
  have HR10 := Aside0.mk hr0_10
  have HR14 := Aside0.mk hr0_14
  clear hr0_10 hr0_14
  go_enter Tryd.func11, Tryd.ntmps11
  go_wp2
  go_ret
  exact ⟨rfl, (by repeat (first | exact Below.refl _ _ | apply below_alloc | apply pw_below_drewN | apply below_drew1))⟩
set_option maxRecDepth 100000 in
set_option maxHeartbeats 4000000 in
theorem chk_2 (a0_0 a0_1 a0_2 a0_3 a0_4 a0_5 a0_6 a0_7 a0_8 a0_9 : Int) (A0_10 : Option Addr) (c0_10 : Nat) (l0_10 : List Int) (a0_11 a0_12 : Int) (a0_13 : Bool) (A0_14 : Option Addr) (c0_14 : Nat) (l0_14 : List (P.S52)) (a0_15 : ByteArray) (w : World) (hr0_10 : Kd.C (Kd.int .i64) w A0_10 l0_10.length l0_10) (hc0_10 : l0_10.length ≤ c0_10) (hr0_14 : Kd.C P.k52 w A0_14 l0_14.length l0_14) (hc0_14 : l0_14.length ≤ c0_14) (p1 : 1 ≤ a0_0) (p2 : a0_0 ≤ 19) (p3 : 0 ≤ a0_1) (p4 : a0_1 < 16) (hodd : (six a0_2 a0_3 a0_4 a0_5 a0_6 a0_7).any oddP = true) :
    Calls Tryd.prog 11 #[.agg #[.int .i64 a0_0, .int .i64 a0_1, .int .i64 a0_2, .int .i64 a0_3, .int .i64 a0_4, .int .i64 a0_5, .int .i64 a0_6, .int .i64 a0_7, .int .i64 a0_8, .int .i64 a0_9, .slice A0_10 l0_10.length c0_10, .int .i64 a0_11, .int .i64 a0_12, .bool a0_13, .slice A0_14 l0_14.length c0_14, .string a0_15]] w fun e w' => e = .returned (.int .i64 1) ∧ Below w.heap.size w w' := by
  have HR10 := Aside0.mk hr0_10
  have HR14 := Aside0.mk hr0_14
  clear hr0_10 hr0_14
  have HODD := Aside0.mk hodd
  clear hodd
  go_enter Tryd.func11, Tryd.ntmps11
  go_wp2_with (first | (go_at_call 27; refine (hasOdd_any _ (six a0_2 a0_3 a0_4 a0_5 a0_6 a0_7) 6 _ true (lit_C _ _ 3 _ _ (by simp) rfl (by simp [six])) HODD.out).mono ?_; rintro e w' ⟨rfl, rfl⟩) | fail)
  go_ret
  exact ⟨rfl, (by repeat (first | exact Below.refl _ _ | apply below_alloc | apply pw_below_drewN | apply below_drew1))⟩
set_option maxRecDepth 100000 in
set_option maxHeartbeats 4000000 in
theorem chk_3a (a0_0 a0_1 a0_2 a0_3 a0_4 a0_5 a0_6 a0_7 a0_8 a0_9 : Int) (A0_10 : Option Addr) (c0_10 : Nat) (l0_10 : List Int) (a0_11 a0_12 : Int) (a0_13 : Bool) (A0_14 : Option Addr) (c0_14 : Nat) (l0_14 : List (P.S52)) (a0_15 : ByteArray) (w : World) (hr0_10 : Kd.C (Kd.int .i64) w A0_10 l0_10.length l0_10) (hc0_10 : l0_10.length ≤ c0_10) (hr0_14 : Kd.C P.k52 w A0_14 l0_14.length l0_14) (hc0_14 : l0_14.length ≤ c0_14) (p1 : 1 ≤ a0_0) (p2 : a0_0 ≤ 19) (p3 : 0 ≤ a0_1) (p4 : a0_1 < 16) (hodd : (six a0_2 a0_3 a0_4 a0_5 a0_6 a0_7).any oddP = false) (q1 : a0_8 < 0) :
    Calls Tryd.prog 11 #[.agg #[.int .i64 a0_0, .int .i64 a0_1, .int .i64 a0_2, .int .i64 a0_3, .int .i64 a0_4, .int .i64 a0_5, .int .i64 a0_6, .int .i64 a0_7, .int .i64 a0_8, .int .i64 a0_9, .slice A0_10 l0_10.length c0_10, .int .i64 a0_11, .int .i64 a0_12, .bool a0_13, .slice A0_14 l0_14.length c0_14, .string a0_15]] w fun e w' => e = .returned (.int .i64 1) ∧ Below w.heap.size w w' := by
  have HR10 := Aside0.mk hr0_10
  have HR14 := Aside0.mk hr0_14
  clear hr0_10 hr0_14
  have HODD := Aside0.mk hodd
  clear hodd
  go_enter Tryd.func11, Tryd.ntmps11
  go_wp2_with (first | (go_at_call 27; refine (hasOdd_any _ (six a0_2 a0_3 a0_4 a0_5 a0_6 a0_7) 6 _ false (lit_C _ _ 3 _ _ (by simp) rfl (by simp [six])) HODD.out).mono ?_; rintro e w' ⟨rfl, rfl⟩) | fail)
  go_ret
  exact ⟨rfl, (by repeat (first | exact Below.refl _ _ | apply below_alloc | apply pw_below_drewN | apply below_drew1))⟩
set_option maxRecDepth 100000 in
set_option maxHeartbeats 4000000 in
theorem chk_3b (a0_0 a0_1 a0_2 a0_3 a0_4 a0_5 a0_6 a0_7 a0_8 a0_9 : Int) (A0_10 : Option Addr) (c0_10 : Nat) (l0_10 : List Int) (a0_11 a0_12 : Int) (a0_13 : Bool) (A0_14 : Option Addr) (c0_14 : Nat) (l0_14 : List (P.S52)) (a0_15 : ByteArray) (w : World) (hr0_10 : Kd.C (Kd.int .i64) w A0_10 l0_10.length l0_10) (hc0_10 : l0_10.length ≤ c0_10) (hr0_14 : Kd.C P.k52 w A0_14 l0_14.length l0_14) (hc0_14 : l0_14.length ≤ c0_14) (p1 : 1 ≤ a0_0) (p2 : a0_0 ≤ 19) (p3 : 0 ≤ a0_1) (p4 : a0_1 < 16) (hodd : (six a0_2 a0_3 a0_4 a0_5 a0_6 a0_7).any oddP = false) (q1 : 0 ≤ a0_8) (q2 : 3 < a0_8) :
    Calls Tryd.prog 11 #[.agg #[.int .i64 a0_0, .int .i64 a0_1, .int .i64 a0_2, .int .i64 a0_3, .int .i64 a0_4, .int .i64 a0_5, .int .i64 a0_6, .int .i64 a0_7, .int .i64 a0_8, .int .i64 a0_9, .slice A0_10 l0_10.length c0_10, .int .i64 a0_11, .int .i64 a0_12, .bool a0_13, .slice A0_14 l0_14.length c0_14, .string a0_15]] w fun e w' => e = .returned (.int .i64 1) ∧ Below w.heap.size w w' := by
  have HR10 := Aside0.mk hr0_10
  have HR14 := Aside0.mk hr0_14
  clear hr0_10 hr0_14
  have HODD := Aside0.mk hodd
  clear hodd
  go_enter Tryd.func11, Tryd.ntmps11
  go_wp2_with (first | (go_at_call 27; refine (hasOdd_any _ (six a0_2 a0_3 a0_4 a0_5 a0_6 a0_7) 6 _ false (lit_C _ _ 3 _ _ (by simp) rfl (by simp [six])) HODD.out).mono ?_; rintro e w' ⟨rfl, rfl⟩) | fail)
  go_ret
  exact ⟨rfl, (by repeat (first | exact Below.refl _ _ | apply below_alloc | apply pw_below_drewN | apply below_drew1))⟩
set_option maxRecDepth 100000 in
set_option maxHeartbeats 4000000 in
theorem chk_3c (a0_0 a0_1 a0_2 a0_3 a0_4 a0_5 a0_6 a0_7 a0_8 a0_9 : Int) (A0_10 : Option Addr) (c0_10 : Nat) (l0_10 : List Int) (a0_11 a0_12 : Int) (a0_13 : Bool) (A0_14 : Option Addr) (c0_14 : Nat) (l0_14 : List (P.S52)) (a0_15 : ByteArray) (w : World) (hr0_10 : Kd.C (Kd.int .i64) w A0_10 l0_10.length l0_10) (hc0_10 : l0_10.length ≤ c0_10) (hr0_14 : Kd.C P.k52 w A0_14 l0_14.length l0_14) (hc0_14 : l0_14.length ≤ c0_14) (p1 : 1 ≤ a0_0) (p2 : a0_0 ≤ 19) (p3 : 0 ≤ a0_1) (p4 : a0_1 < 16) (hodd : (six a0_2 a0_3 a0_4 a0_5 a0_6 a0_7).any oddP = false) (q1 : 0 ≤ a0_8) (q2 : a0_8 ≤ 3) (q3 : a0_11 < 0) :
    Calls Tryd.prog 11 #[.agg #[.int .i64 a0_0, .int .i64 a0_1, .int .i64 a0_2, .int .i64 a0_3, .int .i64 a0_4, .int .i64 a0_5, .int .i64 a0_6, .int .i64 a0_7, .int .i64 a0_8, .int .i64 a0_9, .slice A0_10 l0_10.length c0_10, .int .i64 a0_11, .int .i64 a0_12, .bool a0_13, .slice A0_14 l0_14.length c0_14, .string a0_15]] w fun e w' => e = .returned (.int .i64 1) ∧ Below w.heap.size w w' := by
  have HR10 := Aside0.mk hr0_10
  have HR14 := Aside0.mk hr0_14
  clear hr0_10 hr0_14
  have HODD := Aside0.mk hodd
  clear hodd
  go_enter Tryd.func11, Tryd.ntmps11
  go_wp2_with (first | (go_at_call 27; refine (hasOdd_any _ (six a0_2 a0_3 a0_4 a0_5 a0_6 a0_7) 6 _ false (lit_C _ _ 3 _ _ (by simp) rfl (by simp [six])) HODD.out).mono ?_; rintro e w' ⟨rfl, rfl⟩) | fail)
  go_ret
  exact ⟨rfl, (by repeat (first | exact Below.refl _ _ | apply below_alloc | apply pw_below_drewN | apply below_drew1))⟩
set_option maxRecDepth 100000 in
set_option maxHeartbeats 4000000 in
theorem chk_3d (a0_0 a0_1 a0_2 a0_3 a0_4 a0_5 a0_6 a0_7 a0_8 a0_9 : Int) (A0_10 : Option Addr) (c0_10 : Nat) (l0_10 : List Int) (a0_11 a0_12 : Int) (a0_13 : Bool) (A0_14 : Option Addr) (c0_14 : Nat) (l0_14 : List (P.S52)) (a0_15 : ByteArray) (w : World) (hr0_10 : Kd.C (Kd.int .i64) w A0_10 l0_10.length l0_10) (hc0_10 : l0_10.length ≤ c0_10) (hr0_14 : Kd.C P.k52 w A0_14 l0_14.length l0_14) (hc0_14 : l0_14.length ≤ c0_14) (p1 : 1 ≤ a0_0) (p2 : a0_0 ≤ 19) (p3 : 0 ≤ a0_1) (p4 : a0_1 < 16) (hodd : (six a0_2 a0_3 a0_4 a0_5 a0_6 a0_7).any oddP = false) (q1 : 0 ≤ a0_8) (q2 : a0_8 ≤ 3) (q3 : 0 ≤ a0_11) (q4 : 64 < a0_11) :
    Calls Tryd.prog 11 #[.agg #[.int .i64 a0_0, .int .i64 a0_1, .int .i64 a0_2, .int .i64 a0_3, .int .i64 a0_4, .int .i64 a0_5, .int .i64 a0_6, .int .i64 a0_7, .int .i64 a0_8, .int .i64 a0_9, .slice A0_10 l0_10.length c0_10, .int .i64 a0_11, .int .i64 a0_12, .bool a0_13, .slice A0_14 l0_14.length c0_14, .string a0_15]] w fun e w' => e = .returned (.int .i64 1) ∧ Below w.heap.size w w' := by
  have HR10 := Aside0.mk hr0_10
  have HR14 := Aside0.mk hr0_14
  clear hr0_10 hr0_14
  have HODD := Aside0.mk hodd
  clear hodd
  go_enter Tryd.func11, Tryd.ntmps11
  go_wp2_with (first | (go_at_call 27; refine (hasOdd_any _ (six a0_2 a0_3 a0_4 a0_5 a0_6 a0_7) 6 _ false (lit_C _ _ 3 _ _ (by simp) rfl (by simp [six])) HODD.out).mono ?_; rintro e w' ⟨rfl, rfl⟩) | fail)
  go_ret
  exact ⟨rfl, (by repeat (first | exact Below.refl _ _ | apply below_alloc | apply pw_below_drewN | apply below_drew1))⟩
set_option maxRecDepth 100000 in
set_option maxHeartbeats 4000000 in
theorem chk_4 (a0_0 a0_1 a0_2 a0_3 a0_4 a0_5 a0_6 a0_7 a0_8 a0_9 : Int) (A0_10 : Option Addr) (c0_10 : Nat) (l0_10 : List Int) (a0_11 a0_12 : Int) (a0_13 : Bool) (A0_14 : Option Addr) (c0_14 : Nat) (l0_14 : List (P.S52)) (a0_15 : ByteArray) (w : World) (hr0_10 : Kd.C (Kd.int .i64) w A0_10 l0_10.length l0_10) (hc0_10 : l0_10.length ≤ c0_10) (hr0_14 : Kd.C P.k52 w A0_14 l0_14.length l0_14) (hc0_14 : l0_14.length ≤ c0_14) (p1 : 1 ≤ a0_0) (p2 : a0_0 ≤ 19) (p3 : 0 ≤ a0_1) (p4 : a0_1 < 16) (hodd : (six a0_2 a0_3 a0_4 a0_5 a0_6 a0_7).any oddP = false) (q1 : 0 ≤ a0_8) (q2 : a0_8 ≤ 3) (q3 : 0 ≤ a0_11) (q4 : a0_11 ≤ 64) (v1 : 0 < (l0_10.length : Int)) (hv : vchk l0_10 = 50) :
    Calls Tryd.prog 11 #[.agg #[.int .i64 a0_0, .int .i64 a0_1, .int .i64 a0_2, .int .i64 a0_3, .int .i64 a0_4, .int .i64 a0_5, .int .i64 a0_6, .int .i64 a0_7, .int .i64 a0_8, .int .i64 a0_9, .slice A0_10 l0_10.length c0_10, .int .i64 a0_11, .int .i64 a0_12, .bool a0_13, .slice A0_14 l0_14.length c0_14, .string a0_15]] w fun e w' => e = .returned (.int .i64 1) ∧ Below w.heap.size w w' := by
  have HR10 := Aside0.mk hr0_10
  have HR14 := Aside0.mk hr0_14
  clear hr0_10 hr0_14
  have HODD := Aside0.mk hodd
  clear hodd
  have HV := Aside0.mk hv
  clear hv
  go_enter Tryd.func11, Tryd.ntmps11
  go_wp2_with (first | (go_at_call 27; refine (hasOdd_any _ (six a0_2 a0_3 a0_4 a0_5 a0_6 a0_7) 6 _ false (lit_C _ _ 3 _ _ (by simp) rfl (by simp [six])) HODD.out).mono ?_; rintro e w' ⟨rfl, rfl⟩) | (go_at_call 28; refine (check_any A0_10 l0_10 c0_10 (l0_10.length : Int) _ 50 (Kd.C_below HR10.out (by repeat (first | exact Below.refl _ _ | apply below_alloc | apply pw_below_drewN | apply below_drew1))) HV.out).mono ?_; rintro e w' ⟨rfl, rfl⟩) | fail)
  go_ret
  exact ⟨rfl, (by repeat (first | exact Below.refl _ _ | apply below_alloc | apply pw_below_drewN | apply below_drew1))⟩
end Go.Proofs.YtlggihnkhimfkaaDoor.Giv
namespace Go.Proofs.YtlggihnkhimfkaaDoor.Giv
open Go.RowKit Go.Lib Go.Proofs.YtlggihnkhimfkaaDoorW.PrintWords Go.Proofs.YtlggihnkhimfkaaDoorW.PrintLast Go.Proofs.YtlggihnkhimfkaaDoorW.PrintMore
set_option linter.unusedVariables false
set_option linter.unusedSimpArgs false
set_option maxRecDepth 100000 in
set_option maxHeartbeats 4000000 in
theorem chk_5av (a0_0 a0_1 a0_2 a0_3 a0_4 a0_5 a0_6 a0_7 a0_8 a0_9 : Int) (A0_10 : Option Addr) (c0_10 : Nat) (l0_10 : List Int) (a0_11 a0_12 : Int) (a0_13 : Bool) (A0_14 : Option Addr) (c0_14 : Nat) (l0_14 : List (P.S52)) (a0_15 : ByteArray) (w : World) (hr0_10 : Kd.C (Kd.int .i64) w A0_10 l0_10.length l0_10) (hc0_10 : l0_10.length ≤ c0_10) (hr0_14 : Kd.C P.k52 w A0_14 l0_14.length l0_14) (hc0_14 : l0_14.length ≤ c0_14) (p1 : 1 ≤ a0_0) (p2 : a0_0 ≤ 19) (p3 : 0 ≤ a0_1) (p4 : a0_1 < 16) (hodd : (six a0_2 a0_3 a0_4 a0_5 a0_6 a0_7).any oddP = false) (q1 : 0 ≤ a0_8) (q2 : a0_8 ≤ 3) (q3 : 0 ≤ a0_11) (q4 : a0_11 ≤ 64) (v1 : 0 < (l0_10.length : Int)) (hv : vchk l0_10 = 0) (s1 : a0_12 < 0) :
    Calls Tryd.prog 11 #[.agg #[.int .i64 a0_0, .int .i64 a0_1, .int .i64 a0_2, .int .i64 a0_3, .int .i64 a0_4, .int .i64 a0_5, .int .i64 a0_6, .int .i64 a0_7, .int .i64 a0_8, .int .i64 a0_9, .slice A0_10 l0_10.length c0_10, .int .i64 a0_11, .int .i64 a0_12, .bool a0_13, .slice A0_14 l0_14.length c0_14, .string a0_15]] w fun e w' => e = .returned (.int .i64 1) ∧ Below w.heap.size w w' := by
  have HR10 := Aside0.mk hr0_10
  have HR14 := Aside0.mk hr0_14
  clear hr0_10 hr0_14
  have HODD := Aside0.mk hodd
  clear hodd
  have HV := Aside0.mk hv
  clear hv
  go_enter Tryd.func11, Tryd.ntmps11
  go_wp2_with (first | (go_at_call 27; refine (hasOdd_any _ (six a0_2 a0_3 a0_4 a0_5 a0_6 a0_7) 6 _ false (lit_C _ _ 3 _ _ (by simp) rfl (by simp [six])) HODD.out).mono ?_; rintro e w' ⟨rfl, rfl⟩) | (go_at_call 28; refine (check_any A0_10 l0_10 c0_10 (l0_10.length : Int) _ 0 (Kd.C_below HR10.out (by repeat (first | exact Below.refl _ _ | apply below_alloc | apply pw_below_drewN | apply below_drew1))) HV.out).mono ?_; rintro e w' ⟨rfl, rfl⟩) | fail)
  go_ret
  exact ⟨rfl, (by repeat (first | exact Below.refl _ _ | apply below_alloc | apply pw_below_drewN | apply below_drew1))⟩
set_option maxRecDepth 100000 in
set_option maxHeartbeats 4000000 in
theorem chk_5bv (a0_0 a0_1 a0_2 a0_3 a0_4 a0_5 a0_6 a0_7 a0_8 a0_9 : Int) (A0_10 : Option Addr) (c0_10 : Nat) (l0_10 : List Int) (a0_11 a0_12 : Int) (a0_13 : Bool) (A0_14 : Option Addr) (c0_14 : Nat) (l0_14 : List (P.S52)) (a0_15 : ByteArray) (w : World) (hr0_10 : Kd.C (Kd.int .i64) w A0_10 l0_10.length l0_10) (hc0_10 : l0_10.length ≤ c0_10) (hr0_14 : Kd.C P.k52 w A0_14 l0_14.length l0_14) (hc0_14 : l0_14.length ≤ c0_14) (p1 : 1 ≤ a0_0) (p2 : a0_0 ≤ 19) (p3 : 0 ≤ a0_1) (p4 : a0_1 < 16) (hodd : (six a0_2 a0_3 a0_4 a0_5 a0_6 a0_7).any oddP = false) (q1 : 0 ≤ a0_8) (q2 : a0_8 ≤ 3) (q3 : 0 ≤ a0_11) (q4 : a0_11 ≤ 64) (v1 : 0 < (l0_10.length : Int)) (hv : vchk l0_10 = 0) (s1 : 0 ≤ a0_12) (s2 : 255 < a0_12) :
    Calls Tryd.prog 11 #[.agg #[.int .i64 a0_0, .int .i64 a0_1, .int .i64 a0_2, .int .i64 a0_3, .int .i64 a0_4, .int .i64 a0_5, .int .i64 a0_6, .int .i64 a0_7, .int .i64 a0_8, .int .i64 a0_9, .slice A0_10 l0_10.length c0_10, .int .i64 a0_11, .int .i64 a0_12, .bool a0_13, .slice A0_14 l0_14.length c0_14, .string a0_15]] w fun e w' => e = .returned (.int .i64 1) ∧ Below w.heap.size w w' := by
  have HR10 := Aside0.mk hr0_10
  have HR14 := Aside0.mk hr0_14
  clear hr0_10 hr0_14
  have HODD := Aside0.mk hodd
  clear hodd
  have HV := Aside0.mk hv
  clear hv
  go_enter Tryd.func11, Tryd.ntmps11
  go_wp2_with (first | (go_at_call 27; refine (hasOdd_any _ (six a0_2 a0_3 a0_4 a0_5 a0_6 a0_7) 6 _ false (lit_C _ _ 3 _ _ (by simp) rfl (by simp [six])) HODD.out).mono ?_; rintro e w' ⟨rfl, rfl⟩) | (go_at_call 28; refine (check_any A0_10 l0_10 c0_10 (l0_10.length : Int) _ 0 (Kd.C_below HR10.out (by repeat (first | exact Below.refl _ _ | apply below_alloc | apply pw_below_drewN | apply below_drew1))) HV.out).mono ?_; rintro e w' ⟨rfl, rfl⟩) | fail)
  go_ret
  exact ⟨rfl, (by repeat (first | exact Below.refl _ _ | apply below_alloc | apply pw_below_drewN | apply below_drew1))⟩
set_option maxRecDepth 100000 in
set_option maxHeartbeats 4000000 in
theorem chk_5cv (a0_0 a0_1 a0_2 a0_3 a0_4 a0_5 a0_6 a0_7 a0_8 a0_9 : Int) (A0_10 : Option Addr) (c0_10 : Nat) (l0_10 : List Int) (a0_11 a0_12 : Int) (a0_13 : Bool) (A0_14 : Option Addr) (c0_14 : Nat) (l0_14 : List (P.S52)) (a0_15 : ByteArray) (w : World) (hr0_10 : Kd.C (Kd.int .i64) w A0_10 l0_10.length l0_10) (hc0_10 : l0_10.length ≤ c0_10) (hr0_14 : Kd.C P.k52 w A0_14 l0_14.length l0_14) (hc0_14 : l0_14.length ≤ c0_14) (p1 : 1 ≤ a0_0) (p2 : a0_0 ≤ 19) (p3 : 0 ≤ a0_1) (p4 : a0_1 < 16) (hodd : (six a0_2 a0_3 a0_4 a0_5 a0_6 a0_7).any oddP = false) (q1 : 0 ≤ a0_8) (q2 : a0_8 ≤ 3) (q3 : 0 ≤ a0_11) (q4 : a0_11 ≤ 64) (v1 : 0 < (l0_10.length : Int)) (hv : vchk l0_10 = 0) (s1 : 0 ≤ a0_12) (s2 : a0_12 ≤ 255) (s3 : 64 < (l0_14.length : Int)) :
    Calls Tryd.prog 11 #[.agg #[.int .i64 a0_0, .int .i64 a0_1, .int .i64 a0_2, .int .i64 a0_3, .int .i64 a0_4, .int .i64 a0_5, .int .i64 a0_6, .int .i64 a0_7, .int .i64 a0_8, .int .i64 a0_9, .slice A0_10 l0_10.length c0_10, .int .i64 a0_11, .int .i64 a0_12, .bool a0_13, .slice A0_14 l0_14.length c0_14, .string a0_15]] w fun e w' => e = .returned (.int .i64 1) ∧ Below w.heap.size w w' := by
  have HR10 := Aside0.mk hr0_10
  have HR14 := Aside0.mk hr0_14
  clear hr0_10 hr0_14
  have HODD := Aside0.mk hodd
  clear hodd
  have HV := Aside0.mk hv
  clear hv
  go_enter Tryd.func11, Tryd.ntmps11
  go_wp2_with (first | (go_at_call 27; refine (hasOdd_any _ (six a0_2 a0_3 a0_4 a0_5 a0_6 a0_7) 6 _ false (lit_C _ _ 3 _ _ (by simp) rfl (by simp [six])) HODD.out).mono ?_; rintro e w' ⟨rfl, rfl⟩) | (go_at_call 28; refine (check_any A0_10 l0_10 c0_10 (l0_10.length : Int) _ 0 (Kd.C_below HR10.out (by repeat (first | exact Below.refl _ _ | apply below_alloc | apply pw_below_drewN | apply below_drew1))) HV.out).mono ?_; rintro e w' ⟨rfl, rfl⟩) | fail)
  go_ret
  exact ⟨rfl, (by repeat (first | exact Below.refl _ _ | apply below_alloc | apply pw_below_drewN | apply below_drew1))⟩
set_option maxRecDepth 100000 in
set_option maxHeartbeats 4000000 in
theorem chk_5dv (a0_0 a0_1 a0_2 a0_3 a0_4 a0_5 a0_6 a0_7 a0_8 a0_9 : Int) (A0_10 : Option Addr) (c0_10 : Nat) (l0_10 : List Int) (a0_11 a0_12 : Int) (a0_13 : Bool) (A0_14 : Option Addr) (c0_14 : Nat) (l0_14 : List (P.S52)) (a0_15 : ByteArray) (w : World) (hr0_10 : Kd.C (Kd.int .i64) w A0_10 l0_10.length l0_10) (hc0_10 : l0_10.length ≤ c0_10) (hr0_14 : Kd.C P.k52 w A0_14 l0_14.length l0_14) (hc0_14 : l0_14.length ≤ c0_14) (p1 : 1 ≤ a0_0) (p2 : a0_0 ≤ 19) (p3 : 0 ≤ a0_1) (p4 : a0_1 < 16) (hodd : (six a0_2 a0_3 a0_4 a0_5 a0_6 a0_7).any oddP = false) (q1 : 0 ≤ a0_8) (q2 : a0_8 ≤ 3) (q3 : 0 ≤ a0_11) (q4 : a0_11 ≤ 64) (v1 : 0 < (l0_10.length : Int)) (hv : vchk l0_10 = 0) (s1 : 0 ≤ a0_12) (s2 : a0_12 ≤ 255) (s3 : (l0_14.length : Int) ≤ 64) (hfar : (dists l0_14).any oddP = true) :
    Calls Tryd.prog 11 #[.agg #[.int .i64 a0_0, .int .i64 a0_1, .int .i64 a0_2, .int .i64 a0_3, .int .i64 a0_4, .int .i64 a0_5, .int .i64 a0_6, .int .i64 a0_7, .int .i64 a0_8, .int .i64 a0_9, .slice A0_10 l0_10.length c0_10, .int .i64 a0_11, .int .i64 a0_12, .bool a0_13, .slice A0_14 l0_14.length c0_14, .string a0_15]] w fun e w' => e = .returned (.int .i64 1) ∧ Below w.heap.size w w' := by
  have HR10 := Aside0.mk hr0_10
  have HR14 := Aside0.mk hr0_14
  clear hr0_10 hr0_14
  have HODD := Aside0.mk hodd
  clear hodd
  have HV := Aside0.mk hv
  clear hv
  have HFAR := Aside0.mk hfar
  clear hfar
  go_enter Tryd.func11, Tryd.ntmps11
  go_wp2_with (first | (go_at_call 27; refine (hasOdd_any _ (six a0_2 a0_3 a0_4 a0_5 a0_6 a0_7) 6 _ false (lit_C _ _ 3 _ _ (by simp) rfl (by simp [six])) HODD.out).mono ?_; rintro e w' ⟨rfl, rfl⟩) | (go_at_call 28; refine (check_any A0_10 l0_10 c0_10 (l0_10.length : Int) _ 0 (Kd.C_below HR10.out (by repeat (first | exact Below.refl _ _ | apply below_alloc | apply pw_below_drewN | apply below_drew1))) HV.out).mono ?_; rintro e w' ⟨rfl, rfl⟩) | (go_at_call 29; refine (hasFar_any A0_14 l0_14 c0_14 (w.heap.size + 1) _ true (Kd.C_below HR14.out (by repeat (first | exact Below.refl _ _ | apply below_alloc | apply pw_below_drewN | apply below_drew1))) (Lib.cell?_alloc_some _ ((cell_new2 _ _ _ _ (by simp) 0).trans rfl)) HFAR.out).mono ?_; rintro e w' ⟨rfl, hb⟩; have hk15 := blk_cell (blk_below (blk_alloc (blk_alloc (MapKept.heap_alloc w (.cells #[.int .i64 a0_0, .int .i64 a0_1, .int .i64 a0_2, .int .i64 a0_3, .int .i64 a0_4, .int .i64 a0_5, .int .i64 a0_6, .int .i64 a0_7, .int .i64 a0_8, .int .i64 a0_9, .slice A0_10 l0_10.length c0_10, .int .i64 a0_11, .int .i64 a0_12, .bool a0_13, .slice A0_14 l0_14.length c0_14, .string a0_15] 30 (0, 0))).1 _) _) hb) 15; have HBB := Aside0.mk hb; clear hb) | fail)
  go_ret
  exact ⟨rfl, Below.trans (b := _) (by repeat (first | exact Below.refl _ _ | apply below_alloc | apply pw_below_drewN | apply below_drew1)) (HBB.out.mono (below_size (by repeat (first | exact Below.refl _ _ | apply below_alloc | apply pw_below_drewN | apply below_drew1))))⟩
set_option maxRecDepth 100000 in
set_option maxHeartbeats 4000000 in
theorem chk_6v (a0_0 a0_1 a0_2 a0_3 a0_4 a0_5 a0_6 a0_7 a0_8 a0_9 : Int) (A0_10 : Option Addr) (c0_10 : Nat) (l0_10 : List Int) (a0_11 a0_12 : Int) (a0_13 : Bool) (A0_14 : Option Addr) (c0_14 : Nat) (l0_14 : List (P.S52)) (a0_15 : ByteArray) (w : World) (hr0_10 : Kd.C (Kd.int .i64) w A0_10 l0_10.length l0_10) (hc0_10 : l0_10.length ≤ c0_10) (hr0_14 : Kd.C P.k52 w A0_14 l0_14.length l0_14) (hc0_14 : l0_14.length ≤ c0_14) (p1 : 1 ≤ a0_0) (p2 : a0_0 ≤ 19) (p3 : 0 ≤ a0_1) (p4 : a0_1 < 16) (hodd : (six a0_2 a0_3 a0_4 a0_5 a0_6 a0_7).any oddP = false) (q1 : 0 ≤ a0_8) (q2 : a0_8 ≤ 3) (q3 : 0 ≤ a0_11) (q4 : a0_11 ≤ 64) (v1 : 0 < (l0_10.length : Int)) (hv : vchk l0_10 = 0) (s1 : 0 ≤ a0_12) (s2 : a0_12 ≤ 255) (s3 : (l0_14.length : Int) ≤ 64) (hfar : (dists l0_14).any oddP = false) (t1 : 262144 < (a0_15.size : Int)) :
    Calls Tryd.prog 11 #[.agg #[.int .i64 a0_0, .int .i64 a0_1, .int .i64 a0_2, .int .i64 a0_3, .int .i64 a0_4, .int .i64 a0_5, .int .i64 a0_6, .int .i64 a0_7, .int .i64 a0_8, .int .i64 a0_9, .slice A0_10 l0_10.length c0_10, .int .i64 a0_11, .int .i64 a0_12, .bool a0_13, .slice A0_14 l0_14.length c0_14, .string a0_15]] w fun e w' => e = .returned (.int .i64 1) ∧ Below w.heap.size w w' := by
  have HR10 := Aside0.mk hr0_10
  have HR14 := Aside0.mk hr0_14
  clear hr0_10 hr0_14
  have HODD := Aside0.mk hodd
  clear hodd
  have HV := Aside0.mk hv
  clear hv
  have HFAR := Aside0.mk hfar
  clear hfar
  go_enter Tryd.func11, Tryd.ntmps11
  go_wp2_with (first | (go_at_call 27; refine (hasOdd_any _ (six a0_2 a0_3 a0_4 a0_5 a0_6 a0_7) 6 _ false (lit_C _ _ 3 _ _ (by simp) rfl (by simp [six])) HODD.out).mono ?_; rintro e w' ⟨rfl, rfl⟩) | (go_at_call 28; refine (check_any A0_10 l0_10 c0_10 (l0_10.length : Int) _ 0 (Kd.C_below HR10.out (by repeat (first | exact Below.refl _ _ | apply below_alloc | apply pw_below_drewN | apply below_drew1))) HV.out).mono ?_; rintro e w' ⟨rfl, rfl⟩) | (go_at_call 29; refine (hasFar_any A0_14 l0_14 c0_14 (w.heap.size + 1) _ false (Kd.C_below HR14.out (by repeat (first | exact Below.refl _ _ | apply below_alloc | apply pw_below_drewN | apply below_drew1))) (Lib.cell?_alloc_some _ ((cell_new2 _ _ _ _ (by simp) 0).trans rfl)) HFAR.out).mono ?_; rintro e w' ⟨rfl, hb⟩; have hk15 := blk_cell (blk_below (blk_alloc (blk_alloc (MapKept.heap_alloc w (.cells #[.int .i64 a0_0, .int .i64 a0_1, .int .i64 a0_2, .int .i64 a0_3, .int .i64 a0_4, .int .i64 a0_5, .int .i64 a0_6, .int .i64 a0_7, .int .i64 a0_8, .int .i64 a0_9, .slice A0_10 l0_10.length c0_10, .int .i64 a0_11, .int .i64 a0_12, .bool a0_13, .slice A0_14 l0_14.length c0_14, .string a0_15] 30 (0, 0))).1 _) _) hb) 15; have HBB := Aside0.mk hb; clear hb) | fail)
  go_ret
  exact ⟨rfl, Below.trans (b := _) (by repeat (first | exact Below.refl _ _ | apply below_alloc | apply pw_below_drewN | apply below_drew1)) (HBB.out.mono (below_size (by repeat (first | exact Below.refl _ _ | apply below_alloc | apply pw_below_drewN | apply below_drew1))))⟩
set_option maxRecDepth 100000 in
set_option maxHeartbeats 4000000 in
theorem chk_7v (a0_0 a0_1 a0_2 a0_3 a0_4 a0_5 a0_6 a0_7 a0_8 a0_9 : Int) (A0_10 : Option Addr) (c0_10 : Nat) (l0_10 : List Int) (a0_11 a0_12 : Int) (a0_13 : Bool) (A0_14 : Option Addr) (c0_14 : Nat) (l0_14 : List (P.S52)) (a0_15 : ByteArray) (w : World) (hr0_10 : Kd.C (Kd.int .i64) w A0_10 l0_10.length l0_10) (hc0_10 : l0_10.length ≤ c0_10) (hr0_14 : Kd.C P.k52 w A0_14 l0_14.length l0_14) (hc0_14 : l0_14.length ≤ c0_14) (p1 : 1 ≤ a0_0) (p2 : a0_0 ≤ 19) (p3 : 0 ≤ a0_1) (p4 : a0_1 < 16) (hodd : (six a0_2 a0_3 a0_4 a0_5 a0_6 a0_7).any oddP = false) (q1 : 0 ≤ a0_8) (q2 : a0_8 ≤ 3) (q3 : 0 ≤ a0_11) (q4 : a0_11 ≤ 64) (v1 : 0 < (l0_10.length : Int)) (hv : vchk l0_10 = 0) (s1 : 0 ≤ a0_12) (s2 : a0_12 ≤ 255) (s3 : (l0_14.length : Int) ≤ 64) (hfar : (dists l0_14).any oddP = false) (t1 : (a0_15.size : Int) ≤ 262144) :
    Calls Tryd.prog 11 #[.agg #[.int .i64 a0_0, .int .i64 a0_1, .int .i64 a0_2, .int .i64 a0_3, .int .i64 a0_4, .int .i64 a0_5, .int .i64 a0_6, .int .i64 a0_7, .int .i64 a0_8, .int .i64 a0_9, .slice A0_10 l0_10.length c0_10, .int .i64 a0_11, .int .i64 a0_12, .bool a0_13, .slice A0_14 l0_14.length c0_14, .string a0_15]] w fun e w' => e = .returned (.int .i64 0) ∧ Below w.heap.size w w' := by
  have HR10 := Aside0.mk hr0_10
  have HR14 := Aside0.mk hr0_14
  clear hr0_10 hr0_14
  have HODD := Aside0.mk hodd
  clear hodd
  have HV := Aside0.mk hv
  clear hv
  have HFAR := Aside0.mk hfar
  clear hfar
  go_enter Tryd.func11, Tryd.ntmps11
  go_wp2_with (first | (go_at_call 27; refine (hasOdd_any _ (six a0_2 a0_3 a0_4 a0_5 a0_6 a0_7) 6 _ false (lit_C _ _ 3 _ _ (by simp) rfl (by simp [six])) HODD.out).mono ?_; rintro e w' ⟨rfl, rfl⟩) | (go_at_call 28; refine (check_any A0_10 l0_10 c0_10 (l0_10.length : Int) _ 0 (Kd.C_below HR10.out (by repeat (first | exact Below.refl _ _ | apply below_alloc | apply pw_below_drewN | apply below_drew1))) HV.out).mono ?_; rintro e w' ⟨rfl, rfl⟩) | (go_at_call 29; refine (hasFar_any A0_14 l0_14 c0_14 (w.heap.size + 1) _ false (Kd.C_below HR14.out (by repeat (first | exact Below.refl _ _ | apply below_alloc | apply pw_below_drewN | apply below_drew1))) (Lib.cell?_alloc_some _ ((cell_new2 _ _ _ _ (by simp) 0).trans rfl)) HFAR.out).mono ?_; rintro e w' ⟨rfl, hb⟩; have hk15 := blk_cell (blk_below (blk_alloc (blk_alloc (MapKept.heap_alloc w (.cells #[.int .i64 a0_0, .int .i64 a0_1, .int .i64 a0_2, .int .i64 a0_3, .int .i64 a0_4, .int .i64 a0_5, .int .i64 a0_6, .int .i64 a0_7, .int .i64 a0_8, .int .i64 a0_9, .slice A0_10 l0_10.length c0_10, .int .i64 a0_11, .int .i64 a0_12, .bool a0_13, .slice A0_14 l0_14.length c0_14, .string a0_15] 30 (0, 0))).1 _) _) hb) 15; have HBB := Aside0.mk hb; clear hb) | fail)
  go_ret
  exact ⟨rfl, Below.trans (b := _) (by repeat (first | exact Below.refl _ _ | apply below_alloc | apply pw_below_drewN | apply below_drew1)) (HBB.out.mono (below_size (by repeat (first | exact Below.refl _ _ | apply below_alloc | apply pw_below_drewN | apply below_drew1))))⟩
end Go.Proofs.YtlggihnkhimfkaaDoor.Giv
namespace Go.Proofs.YtlggihnkhimfkaaDoor.Giv
open Go.RowKit Go.Lib Go.Proofs.YtlggihnkhimfkaaDoorW.PrintWords Go.Proofs.YtlggihnkhimfkaaDoorW.PrintLast Go.Proofs.YtlggihnkhimfkaaDoorW.PrintMore
set_option linter.unusedVariables false
set_option linter.unusedSimpArgs false
set_option maxRecDepth 100000 in
set_option maxHeartbeats 4000000 in
theorem chk_5an (a0_0 a0_1 a0_2 a0_3 a0_4 a0_5 a0_6 a0_7 a0_8 a0_9 : Int) (A0_10 : Option Addr) (c0_10 : Nat) (l0_10 : List Int) (a0_11 a0_12 : Int) (a0_13 : Bool) (A0_14 : Option Addr) (c0_14 : Nat) (l0_14 : List (P.S52)) (a0_15 : ByteArray) (w : World) (hr0_10 : Kd.C (Kd.int .i64) w A0_10 l0_10.length l0_10) (hc0_10 : l0_10.length ≤ c0_10) (hr0_14 : Kd.C P.k52 w A0_14 l0_14.length l0_14) (hc0_14 : l0_14.length ≤ c0_14) (p1 : 1 ≤ a0_0) (p2 : a0_0 ≤ 19) (p3 : 0 ≤ a0_1) (p4 : a0_1 < 16) (hodd : (six a0_2 a0_3 a0_4 a0_5 a0_6 a0_7).any oddP = false) (q1 : 0 ≤ a0_8) (q2 : a0_8 ≤ 3) (q3 : 0 ≤ a0_11) (q4 : a0_11 ≤ 64) (v1 : (l0_10.length : Int) ≤ 0) (s1 : a0_12 < 0) :
    Calls Tryd.prog 11 #[.agg #[.int .i64 a0_0, .int .i64 a0_1, .int .i64 a0_2, .int .i64 a0_3, .int .i64 a0_4, .int .i64 a0_5, .int .i64 a0_6, .int .i64 a0_7, .int .i64 a0_8, .int .i64 a0_9, .slice A0_10 l0_10.length c0_10, .int .i64 a0_11, .int .i64 a0_12, .bool a0_13, .slice A0_14 l0_14.length c0_14, .string a0_15]] w fun e w' => e = .returned (.int .i64 1) ∧ Below w.heap.size w w' := by
  have HR10 := Aside0.mk hr0_10
  have HR14 := Aside0.mk hr0_14
  clear hr0_10 hr0_14
  have HODD := Aside0.mk hodd
  clear hodd
  go_enter Tryd.func11, Tryd.ntmps11
  go_wp2_with (first | (go_at_call 27; refine (hasOdd_any _ (six a0_2 a0_3 a0_4 a0_5 a0_6 a0_7) 6 _ false (lit_C _ _ 3 _ _ (by simp) rfl (by simp [six])) HODD.out).mono ?_; rintro e w' ⟨rfl, rfl⟩) | fail)
  go_ret
  exact ⟨rfl, (by repeat (first | exact Below.refl _ _ | apply below_alloc | apply pw_below_drewN | apply below_drew1))⟩
set_option maxRecDepth 100000 in
set_option maxHeartbeats 4000000 in
theorem chk_5bn (a0_0 a0_1 a0_2 a0_3 a0_4 a0_5 a0_6 a0_7 a0_8 a0_9 : Int) (A0_10 : Option Addr) (c0_10 : Nat) (l0_10 : List Int) (a0_11 a0_12 : Int) (a0_13 : Bool) (A0_14 : Option Addr) (c0_14 : Nat) (l0_14 : List (P.S52)) (a0_15 : ByteArray) (w : World) (hr0_10 : Kd.C (Kd.int .i64) w A0_10 l0_10.length l0_10) (hc0_10 : l0_10.length ≤ c0_10) (hr0_14 : Kd.C P.k52 w A0_14 l0_14.length l0_14) (hc0_14 : l0_14.length ≤ c0_14) (p1 : 1 ≤ a0_0) (p2 : a0_0 ≤ 19) (p3 : 0 ≤ a0_1) (p4 : a0_1 < 16) (hodd : (six a0_2 a0_3 a0_4 a0_5 a0_6 a0_7).any oddP = false) (q1 : 0 ≤ a0_8) (q2 : a0_8 ≤ 3) (q3 : 0 ≤ a0_11) (q4 : a0_11 ≤ 64) (v1 : (l0_10.length : Int) ≤ 0) (s1 : 0 ≤ a0_12) (s2 : 255 < a0_12) :
    Calls Tryd.prog 11 #[.agg #[.int .i64 a0_0, .int .i64 a0_1, .int .i64 a0_2, .int .i64 a0_3, .int .i64 a0_4, .int .i64 a0_5, .int .i64 a0_6, .int .i64 a0_7, .int .i64 a0_8, .int .i64 a0_9, .slice A0_10 l0_10.length c0_10, .int .i64 a0_11, .int .i64 a0_12, .bool a0_13, .slice A0_14 l0_14.length c0_14, .string a0_15]] w fun e w' => e = .returned (.int .i64 1) ∧ Below w.heap.size w w' := by
  have HR10 := Aside0.mk hr0_10
  have HR14 := Aside0.mk hr0_14
  clear hr0_10 hr0_14
  have HODD := Aside0.mk hodd
  clear hodd
  go_enter Tryd.func11, Tryd.ntmps11
  go_wp2_with (first | (go_at_call 27; refine (hasOdd_any _ (six a0_2 a0_3 a0_4 a0_5 a0_6 a0_7) 6 _ false (lit_C _ _ 3 _ _ (by simp) rfl (by simp [six])) HODD.out).mono ?_; rintro e w' ⟨rfl, rfl⟩) | fail)
  go_ret
  exact ⟨rfl, (by repeat (first | exact Below.refl _ _ | apply below_alloc | apply pw_below_drewN | apply below_drew1))⟩
set_option maxRecDepth 100000 in
set_option maxHeartbeats 4000000 in
theorem chk_5cn (a0_0 a0_1 a0_2 a0_3 a0_4 a0_5 a0_6 a0_7 a0_8 a0_9 : Int) (A0_10 : Option Addr) (c0_10 : Nat) (l0_10 : List Int) (a0_11 a0_12 : Int) (a0_13 : Bool) (A0_14 : Option Addr) (c0_14 : Nat) (l0_14 : List (P.S52)) (a0_15 : ByteArray) (w : World) (hr0_10 : Kd.C (Kd.int .i64) w A0_10 l0_10.length l0_10) (hc0_10 : l0_10.length ≤ c0_10) (hr0_14 : Kd.C P.k52 w A0_14 l0_14.length l0_14) (hc0_14 : l0_14.length ≤ c0_14) (p1 : 1 ≤ a0_0) (p2 : a0_0 ≤ 19) (p3 : 0 ≤ a0_1) (p4 : a0_1 < 16) (hodd : (six a0_2 a0_3 a0_4 a0_5 a0_6 a0_7).any oddP = false) (q1 : 0 ≤ a0_8) (q2 : a0_8 ≤ 3) (q3 : 0 ≤ a0_11) (q4 : a0_11 ≤ 64) (v1 : (l0_10.length : Int) ≤ 0) (s1 : 0 ≤ a0_12) (s2 : a0_12 ≤ 255) (s3 : 64 < (l0_14.length : Int)) :
    Calls Tryd.prog 11 #[.agg #[.int .i64 a0_0, .int .i64 a0_1, .int .i64 a0_2, .int .i64 a0_3, .int .i64 a0_4, .int .i64 a0_5, .int .i64 a0_6, .int .i64 a0_7, .int .i64 a0_8, .int .i64 a0_9, .slice A0_10 l0_10.length c0_10, .int .i64 a0_11, .int .i64 a0_12, .bool a0_13, .slice A0_14 l0_14.length c0_14, .string a0_15]] w fun e w' => e = .returned (.int .i64 1) ∧ Below w.heap.size w w' := by
  have HR10 := Aside0.mk hr0_10
  have HR14 := Aside0.mk hr0_14
  clear hr0_10 hr0_14
  have HODD := Aside0.mk hodd
  clear hodd
  go_enter Tryd.func11, Tryd.ntmps11
  go_wp2_with (first | (go_at_call 27; refine (hasOdd_any _ (six a0_2 a0_3 a0_4 a0_5 a0_6 a0_7) 6 _ false (lit_C _ _ 3 _ _ (by simp) rfl (by simp [six])) HODD.out).mono ?_; rintro e w' ⟨rfl, rfl⟩) | fail)
  go_ret
  exact ⟨rfl, (by repeat (first | exact Below.refl _ _ | apply below_alloc | apply pw_below_drewN | apply below_drew1))⟩
set_option maxRecDepth 100000 in
set_option maxHeartbeats 4000000 in
theorem chk_5dn (a0_0 a0_1 a0_2 a0_3 a0_4 a0_5 a0_6 a0_7 a0_8 a0_9 : Int) (A0_10 : Option Addr) (c0_10 : Nat) (l0_10 : List Int) (a0_11 a0_12 : Int) (a0_13 : Bool) (A0_14 : Option Addr) (c0_14 : Nat) (l0_14 : List (P.S52)) (a0_15 : ByteArray) (w : World) (hr0_10 : Kd.C (Kd.int .i64) w A0_10 l0_10.length l0_10) (hc0_10 : l0_10.length ≤ c0_10) (hr0_14 : Kd.C P.k52 w A0_14 l0_14.length l0_14) (hc0_14 : l0_14.length ≤ c0_14) (p1 : 1 ≤ a0_0) (p2 : a0_0 ≤ 19) (p3 : 0 ≤ a0_1) (p4 : a0_1 < 16) (hodd : (six a0_2 a0_3 a0_4 a0_5 a0_6 a0_7).any oddP = false) (q1 : 0 ≤ a0_8) (q2 : a0_8 ≤ 3) (q3 : 0 ≤ a0_11) (q4 : a0_11 ≤ 64) (v1 : (l0_10.length : Int) ≤ 0) (s1 : 0 ≤ a0_12) (s2 : a0_12 ≤ 255) (s3 : (l0_14.length : Int) ≤ 64) (hfar : (dists l0_14).any oddP = true) :
    Calls Tryd.prog 11 #[.agg #[.int .i64 a0_0, .int .i64 a0_1, .int .i64 a0_2, .int .i64 a0_3, .int .i64 a0_4, .int .i64 a0_5, .int .i64 a0_6, .int .i64 a0_7, .int .i64 a0_8, .int .i64 a0_9, .slice A0_10 l0_10.length c0_10, .int .i64 a0_11, .int .i64 a0_12, .bool a0_13, .slice A0_14 l0_14.length c0_14, .string a0_15]] w fun e w' => e = .returned (.int .i64 1) ∧ Below w.heap.size w w' := by
  have HR10 := Aside0.mk hr0_10
  have HR14 := Aside0.mk hr0_14
  clear hr0_10 hr0_14
  have HODD := Aside0.mk hodd
  clear hodd
  have HFAR := Aside0.mk hfar
  clear hfar
  go_enter Tryd.func11, Tryd.ntmps11
  go_wp2_with (first | (go_at_call 27; refine (hasOdd_any _ (six a0_2 a0_3 a0_4 a0_5 a0_6 a0_7) 6 _ false (lit_C _ _ 3 _ _ (by simp) rfl (by simp [six])) HODD.out).mono ?_; rintro e w' ⟨rfl, rfl⟩) | (go_at_call 29; refine (hasFar_any A0_14 l0_14 c0_14 (w.heap.size + 1) _ true (Kd.C_below HR14.out (by repeat (first | exact Below.refl _ _ | apply below_alloc | apply pw_below_drewN | apply below_drew1))) (Lib.cell?_alloc_some _ ((cell_new2 _ _ _ _ (by simp) 0).trans rfl)) HFAR.out).mono ?_; rintro e w' ⟨rfl, hb⟩; have hk15 := blk_cell (blk_below (blk_alloc (blk_alloc (MapKept.heap_alloc w (.cells #[.int .i64 a0_0, .int .i64 a0_1, .int .i64 a0_2, .int .i64 a0_3, .int .i64 a0_4, .int .i64 a0_5, .int .i64 a0_6, .int .i64 a0_7, .int .i64 a0_8, .int .i64 a0_9, .slice A0_10 l0_10.length c0_10, .int .i64 a0_11, .int .i64 a0_12, .bool a0_13, .slice A0_14 l0_14.length c0_14, .string a0_15] 30 (0, 0))).1 _) _) hb) 15; have HBB := Aside0.mk hb; clear hb) | fail)
  go_ret
  exact ⟨rfl, Below.trans (b := _) (by repeat (first | exact Below.refl _ _ | apply below_alloc | apply pw_below_drewN | apply below_drew1)) (HBB.out.mono (below_size (by repeat (first | exact Below.refl _ _ | apply below_alloc | apply pw_below_drewN | apply below_drew1))))⟩
set_option maxRecDepth 100000 in
set_option maxHeartbeats 4000000 in
theorem chk_6n (a0_0 a0_1 a0_2 a0_3 a0_4 a0_5 a0_6 a0_7 a0_8 a0_9 : Int) (A0_10 : Option Addr) (c0_10 : Nat) (l0_10 : List Int) (a0_11 a0_12 : Int) (a0_13 : Bool) (A0_14 : Option Addr) (c0_14 : Nat) (l0_14 : List (P.S52)) (a0_15 : ByteArray) (w : World) (hr0_10 : Kd.C (Kd.int .i64) w A0_10 l0_10.length l0_10) (hc0_10 : l0_10.length ≤ c0_10) (hr0_14 : Kd.C P.k52 w A0_14 l0_14.length l0_14) (hc0_14 : l0_14.length ≤ c0_14) (p1 : 1 ≤ a0_0) (p2 : a0_0 ≤ 19) (p3 : 0 ≤ a0_1) (p4 : a0_1 < 16) (hodd : (six a0_2 a0_3 a0_4 a0_5 a0_6 a0_7).any oddP = false) (q1 : 0 ≤ a0_8) (q2 : a0_8 ≤ 3) (q3 : 0 ≤ a0_11) (q4 : a0_11 ≤ 64) (v1 : (l0_10.length : Int) ≤ 0) (s1 : 0 ≤ a0_12) (s2 : a0_12 ≤ 255) (s3 : (l0_14.length : Int) ≤ 64) (hfar : (dists l0_14).any oddP = false) (t1 : 262144 < (a0_15.size : Int)) :
    Calls Tryd.prog 11 #[.agg #[.int .i64 a0_0, .int .i64 a0_1, .int .i64 a0_2, .int .i64 a0_3, .int .i64 a0_4, .int .i64 a0_5, .int .i64 a0_6, .int .i64 a0_7, .int .i64 a0_8, .int .i64 a0_9, .slice A0_10 l0_10.length c0_10, .int .i64 a0_11, .int .i64 a0_12, .bool a0_13, .slice A0_14 l0_14.length c0_14, .string a0_15]] w fun e w' => e = .returned (.int .i64 1) ∧ Below w.heap.size w w' := by
  have HR10 := Aside0.mk hr0_10
  have HR14 := Aside0.mk hr0_14
  clear hr0_10 hr0_14
  have HODD := Aside0.mk hodd
  clear hodd
  have HFAR := Aside0.mk hfar
  clear hfar
  go_enter Tryd.func11, Tryd.ntmps11
  go_wp2_with (first | (go_at_call 27; refine (hasOdd_any _ (six a0_2 a0_3 a0_4 a0_5 a0_6 a0_7) 6 _ false (lit_C _ _ 3 _ _ (by simp) rfl (by simp [six])) HODD.out).mono ?_; rintro e w' ⟨rfl, rfl⟩) | (go_at_call 29; refine (hasFar_any A0_14 l0_14 c0_14 (w.heap.size + 1) _ false (Kd.C_below HR14.out (by repeat (first | exact Below.refl _ _ | apply below_alloc | apply pw_below_drewN | apply below_drew1))) (Lib.cell?_alloc_some _ ((cell_new2 _ _ _ _ (by simp) 0).trans rfl)) HFAR.out).mono ?_; rintro e w' ⟨rfl, hb⟩; have hk15 := blk_cell (blk_below (blk_alloc (blk_alloc (MapKept.heap_alloc w (.cells #[.int .i64 a0_0, .int .i64 a0_1, .int .i64 a0_2, .int .i64 a0_3, .int .i64 a0_4, .int .i64 a0_5, .int .i64 a0_6, .int .i64 a0_7, .int .i64 a0_8, .int .i64 a0_9, .slice A0_10 l0_10.length c0_10, .int .i64 a0_11, .int .i64 a0_12, .bool a0_13, .slice A0_14 l0_14.length c0_14, .string a0_15] 30 (0, 0))).1 _) _) hb) 15; have HBB := Aside0.mk hb; clear hb) | fail)
  go_ret
  exact ⟨rfl, Below.trans (b := _) (by repeat (first | exact Below.refl _ _ | apply below_alloc | apply pw_below_drewN | apply below_drew1)) (HBB.out.mono (below_size (by repeat (first | exact Below.refl _ _ | apply below_alloc | apply pw_below_drewN | apply below_drew1))))⟩
set_option maxRecDepth 100000 in
set_option maxHeartbeats 4000000 in
theorem chk_7n (a0_0 a0_1 a0_2 a0_3 a0_4 a0_5 a0_6 a0_7 a0_8 a0_9 : Int) (A0_10 : Option Addr) (c0_10 : Nat) (l0_10 : List Int) (a0_11 a0_12 : Int) (a0_13 : Bool) (A0_14 : Option Addr) (c0_14 : Nat) (l0_14 : List (P.S52)) (a0_15 : ByteArray) (w : World) (hr0_10 : Kd.C (Kd.int .i64) w A0_10 l0_10.length l0_10) (hc0_10 : l0_10.length ≤ c0_10) (hr0_14 : Kd.C P.k52 w A0_14 l0_14.length l0_14) (hc0_14 : l0_14.length ≤ c0_14) (p1 : 1 ≤ a0_0) (p2 : a0_0 ≤ 19) (p3 : 0 ≤ a0_1) (p4 : a0_1 < 16) (hodd : (six a0_2 a0_3 a0_4 a0_5 a0_6 a0_7).any oddP = false) (q1 : 0 ≤ a0_8) (q2 : a0_8 ≤ 3) (q3 : 0 ≤ a0_11) (q4 : a0_11 ≤ 64) (v1 : (l0_10.length : Int) ≤ 0) (s1 : 0 ≤ a0_12) (s2 : a0_12 ≤ 255) (s3 : (l0_14.length : Int) ≤ 64) (hfar : (dists l0_14).any oddP = false) (t1 : (a0_15.size : Int) ≤ 262144) :
    Calls Tryd.prog 11 #[.agg #[.int .i64 a0_0, .int .i64 a0_1, .int .i64 a0_2, .int .i64 a0_3, .int .i64 a0_4, .int .i64 a0_5, .int .i64 a0_6, .int .i64 a0_7, .int .i64 a0_8, .int .i64 a0_9, .slice A0_10 l0_10.length c0_10, .int .i64 a0_11, .int .i64 a0_12, .bool a0_13, .slice A0_14 l0_14.length c0_14, .string a0_15]] w fun e w' => e = .returned (.int .i64 0) ∧ Below w.heap.size w w' := by
  have HR10 := Aside0.mk hr0_10
  have HR14 := Aside0.mk hr0_14
  clear hr0_10 hr0_14
  have HODD := Aside0.mk hodd
  clear hodd
  have HFAR := Aside0.mk hfar
  clear hfar
  go_enter Tryd.func11, Tryd.ntmps11
  go_wp2_with (first | (go_at_call 27; refine (hasOdd_any _ (six a0_2 a0_3 a0_4 a0_5 a0_6 a0_7) 6 _ false (lit_C _ _ 3 _ _ (by simp) rfl (by simp [six])) HODD.out).mono ?_; rintro e w' ⟨rfl, rfl⟩) | (go_at_call 29; refine (hasFar_any A0_14 l0_14 c0_14 (w.heap.size + 1) _ false (Kd.C_below HR14.out (by repeat (first | exact Below.refl _ _ | apply below_alloc | apply pw_below_drewN | apply below_drew1))) (Lib.cell?_alloc_some _ ((cell_new2 _ _ _ _ (by simp) 0).trans rfl)) HFAR.out).mono ?_; rintro e w' ⟨rfl, hb⟩; have hk15 := blk_cell (blk_below (blk_alloc (blk_alloc (MapKept.heap_alloc w (.cells #[.int .i64 a0_0, .int .i64 a0_1, .int .i64 a0_2, .int .i64 a0_3, .int .i64 a0_4, .int .i64 a0_5, .int .i64 a0_6, .int .i64 a0_7, .int .i64 a0_8, .int .i64 a0_9, .slice A0_10 l0_10.length c0_10, .int .i64 a0_11, .int .i64 a0_12, .bool a0_13, .slice A0_14 l0_14.length c0_14, .string a0_15] 30 (0, 0))).1 _) _) hb) 15; have HBB := Aside0.mk hb; clear hb) | fail)
  go_ret
  exact ⟨rfl, Below.trans (b := _) (by repeat (first | exact Below.refl _ _ | apply below_alloc | apply pw_below_drewN | apply below_drew1)) (HBB.out.mono (below_size (by repeat (first | exact Below.refl _ _ | apply below_alloc | apply pw_below_drewN | apply below_drew1))))⟩
theorem post_Check.calls (a0_0 a0_1 a0_2 a0_3 a0_4 a0_5 a0_6 a0_7 a0_8 a0_9 : Int) (A0_10 : Option Addr) (c0_10 : Nat) (l0_10 : List Int) (a0_11 a0_12 : Int) (a0_13 : Bool) (A0_14 : Option Addr) (c0_14 : Nat) (l0_14 : List (P.S52)) (a0_15 : ByteArray) (w : World) (hr0_10 : Kd.C (Kd.int .i64) w A0_10 l0_10.length l0_10) (hc0_10 : l0_10.length ≤ c0_10) (hr0_14 : Kd.C P.k52 w A0_14 l0_14.length l0_14) (hc0_14 : l0_14.length ≤ c0_14) (r : Int) (h : post_Check.f a0_0 a0_1 a0_2 a0_3 a0_4 a0_5 a0_6 a0_7 a0_8 a0_9 l0_10 a0_11 a0_12 a0_13 l0_14 a0_15 = some r) :
    Calls Tryd.prog 11 #[.agg #[.int .i64 a0_0, .int .i64 a0_1, .int .i64 a0_2, .int .i64 a0_3, .int .i64 a0_4, .int .i64 a0_5, .int .i64 a0_6, .int .i64 a0_7, .int .i64 a0_8, .int .i64 a0_9, .slice A0_10 l0_10.length c0_10, .int .i64 a0_11, .int .i64 a0_12, .bool a0_13, .slice A0_14 l0_14.length c0_14, .string a0_15]] w fun e w' => e = .returned (.int .i64 r) ∧ Below w.heap.size w w' := by
  unfold post_Check.f at h
  obtain rfl := Option.some.inj h
  clear h
  unfold mayM
  by_cases p1 : a0_0 < 1
  · rw [if_neg (by simp [p1])]; exact chk_1a a0_0 a0_1 a0_2 a0_3 a0_4 a0_5 a0_6 a0_7 a0_8 a0_9 A0_10 c0_10 l0_10 a0_11 a0_12 a0_13 A0_14 c0_14 l0_14 a0_15 w hr0_10 hc0_10 hr0_14 hc0_14 p1
  by_cases p2 : 19 < a0_0
  · rw [if_neg (by simp [p2])]; exact chk_1b a0_0 a0_1 a0_2 a0_3 a0_4 a0_5 a0_6 a0_7 a0_8 a0_9 A0_10 c0_10 l0_10 a0_11 a0_12 a0_13 A0_14 c0_14 l0_14 a0_15 w hr0_10 hc0_10 hr0_14 hc0_14 (by omega) p2
  by_cases p3 : a0_1 < 0
  · rw [if_neg (by simp [p3])]; exact chk_1c a0_0 a0_1 a0_2 a0_3 a0_4 a0_5 a0_6 a0_7 a0_8 a0_9 A0_10 c0_10 l0_10 a0_11 a0_12 a0_13 A0_14 c0_14 l0_14 a0_15 w hr0_10 hc0_10 hr0_14 hc0_14 (by omega) (by omega) p3
  by_cases p4 : 16 ≤ a0_1
  · rw [if_neg (by simp [p4])]; exact chk_1d a0_0 a0_1 a0_2 a0_3 a0_4 a0_5 a0_6 a0_7 a0_8 a0_9 A0_10 c0_10 l0_10 a0_11 a0_12 a0_13 A0_14 c0_14 l0_14 a0_15 w hr0_10 hc0_10 hr0_14 hc0_14 (by omega) (by omega) (by omega) p4
  cases hodd : (six a0_2 a0_3 a0_4 a0_5 a0_6 a0_7).any oddP with
  | true => rw [if_neg (by simp)]; exact chk_2 a0_0 a0_1 a0_2 a0_3 a0_4 a0_5 a0_6 a0_7 a0_8 a0_9 A0_10 c0_10 l0_10 a0_11 a0_12 a0_13 A0_14 c0_14 l0_14 a0_15 w hr0_10 hc0_10 hr0_14 hc0_14 (by omega) (by omega) (by omega) (by omega) hodd
  | false =>
  by_cases q1 : a0_8 < 0
  · rw [if_neg (by simp [q1])]; exact chk_3a a0_0 a0_1 a0_2 a0_3 a0_4 a0_5 a0_6 a0_7 a0_8 a0_9 A0_10 c0_10 l0_10 a0_11 a0_12 a0_13 A0_14 c0_14 l0_14 a0_15 w hr0_10 hc0_10 hr0_14 hc0_14 (by omega) (by omega) (by omega) (by omega) hodd q1
  by_cases q2 : 3 < a0_8
  · rw [if_neg (by simp [q2])]; exact chk_3b a0_0 a0_1 a0_2 a0_3 a0_4 a0_5 a0_6 a0_7 a0_8 a0_9 A0_10 c0_10 l0_10 a0_11 a0_12 a0_13 A0_14 c0_14 l0_14 a0_15 w hr0_10 hc0_10 hr0_14 hc0_14 (by omega) (by omega) (by omega) (by omega) hodd (by omega) q2
  by_cases q3 : a0_11 < 0
  · rw [if_neg (by simp [q3])]; exact chk_3c a0_0 a0_1 a0_2 a0_3 a0_4 a0_5 a0_6 a0_7 a0_8 a0_9 A0_10 c0_10 l0_10 a0_11 a0_12 a0_13 A0_14 c0_14 l0_14 a0_15 w hr0_10 hc0_10 hr0_14 hc0_14 (by omega) (by omega) (by omega) (by omega) hodd (by omega) (by omega) q3
  by_cases q4 : 64 < a0_11
  · rw [if_neg (by simp [q4])]; exact chk_3d a0_0 a0_1 a0_2 a0_3 a0_4 a0_5 a0_6 a0_7 a0_8 a0_9 A0_10 c0_10 l0_10 a0_11 a0_12 a0_13 A0_14 c0_14 l0_14 a0_15 w hr0_10 hc0_10 hr0_14 hc0_14 (by omega) (by omega) (by omega) (by omega) hodd (by omega) (by omega) (by omega) q4
  by_cases v1 : 0 < l0_10.length
  · cases hv : isV l0_10 with
    | false => rw [if_neg (by simp [v1])]; exact chk_4 a0_0 a0_1 a0_2 a0_3 a0_4 a0_5 a0_6 a0_7 a0_8 a0_9 A0_10 c0_10 l0_10 a0_11 a0_12 a0_13 A0_14 c0_14 l0_14 a0_15 w hr0_10 hc0_10 hr0_14 hc0_14 (by omega) (by omega) (by omega) (by omega) hodd (by omega) (by omega) (by omega) (by omega) (by omega) (by rw [check_eq, hv]; rfl)
    | true =>
      have hv0 : vchk l0_10 = 0 := by rw [check_eq, hv]; rfl
      by_cases s1 : a0_12 < 0
      · rw [if_neg (by simp [s1])]; exact chk_5av a0_0 a0_1 a0_2 a0_3 a0_4 a0_5 a0_6 a0_7 a0_8 a0_9 A0_10 c0_10 l0_10 a0_11 a0_12 a0_13 A0_14 c0_14 l0_14 a0_15 w hr0_10 hc0_10 hr0_14 hc0_14 (by omega) (by omega) (by omega) (by omega) hodd (by omega) (by omega) (by omega) (by omega) (by omega) hv0 s1
      by_cases s2 : 255 < a0_12
      · rw [if_neg (by simp [s2])]; exact chk_5bv a0_0 a0_1 a0_2 a0_3 a0_4 a0_5 a0_6 a0_7 a0_8 a0_9 A0_10 c0_10 l0_10 a0_11 a0_12 a0_13 A0_14 c0_14 l0_14 a0_15 w hr0_10 hc0_10 hr0_14 hc0_14 (by omega) (by omega) (by omega) (by omega) hodd (by omega) (by omega) (by omega) (by omega) (by omega) hv0 (by omega) s2
      by_cases s3 : 64 < l0_14.length
      · rw [if_neg (by simp [s3])]; exact chk_5cv a0_0 a0_1 a0_2 a0_3 a0_4 a0_5 a0_6 a0_7 a0_8 a0_9 A0_10 c0_10 l0_10 a0_11 a0_12 a0_13 A0_14 c0_14 l0_14 a0_15 w hr0_10 hc0_10 hr0_14 hc0_14 (by omega) (by omega) (by omega) (by omega) hodd (by omega) (by omega) (by omega) (by omega) (by omega) hv0 (by omega) (by omega) (by omega)
      cases hfar : (dists l0_14).any oddP with
      | true => rw [if_neg (by simp)]; exact chk_5dv a0_0 a0_1 a0_2 a0_3 a0_4 a0_5 a0_6 a0_7 a0_8 a0_9 A0_10 c0_10 l0_10 a0_11 a0_12 a0_13 A0_14 c0_14 l0_14 a0_15 w hr0_10 hc0_10 hr0_14 hc0_14 (by omega) (by omega) (by omega) (by omega) hodd (by omega) (by omega) (by omega) (by omega) (by omega) hv0 (by omega) (by omega) (by omega) hfar
      | false =>
      by_cases t1 : 262144 < a0_15.size
      · rw [if_neg (by simp [t1])]; exact chk_6v a0_0 a0_1 a0_2 a0_3 a0_4 a0_5 a0_6 a0_7 a0_8 a0_9 A0_10 c0_10 l0_10 a0_11 a0_12 a0_13 A0_14 c0_14 l0_14 a0_15 w hr0_10 hc0_10 hr0_14 hc0_14 (by omega) (by omega) (by omega) (by omega) hodd (by omega) (by omega) (by omega) (by omega) (by omega) hv0 (by omega) (by omega) (by omega) hfar (by omega)
      · rw [if_pos (by simp [p1, p2, p3, p4, q1, q2, q3, q4, s1, s2, s3, t1, v1]; try omega)]; exact chk_7v a0_0 a0_1 a0_2 a0_3 a0_4 a0_5 a0_6 a0_7 a0_8 a0_9 A0_10 c0_10 l0_10 a0_11 a0_12 a0_13 A0_14 c0_14 l0_14 a0_15 w hr0_10 hc0_10 hr0_14 hc0_14 (by omega) (by omega) (by omega) (by omega) hodd (by omega) (by omega) (by omega) (by omega) (by omega) hv0 (by omega) (by omega) (by omega) hfar (by omega)
  · by_cases s1 : a0_12 < 0
    · rw [if_neg (by simp [s1])]; exact chk_5an a0_0 a0_1 a0_2 a0_3 a0_4 a0_5 a0_6 a0_7 a0_8 a0_9 A0_10 c0_10 l0_10 a0_11 a0_12 a0_13 A0_14 c0_14 l0_14 a0_15 w hr0_10 hc0_10 hr0_14 hc0_14 (by omega) (by omega) (by omega) (by omega) hodd (by omega) (by omega) (by omega) (by omega) (by omega) s1
    by_cases s2 : 255 < a0_12
    · rw [if_neg (by simp [s2])]; exact chk_5bn a0_0 a0_1 a0_2 a0_3 a0_4 a0_5 a0_6 a0_7 a0_8 a0_9 A0_10 c0_10 l0_10 a0_11 a0_12 a0_13 A0_14 c0_14 l0_14 a0_15 w hr0_10 hc0_10 hr0_14 hc0_14 (by omega) (by omega) (by omega) (by omega) hodd (by omega) (by omega) (by omega) (by omega) (by omega) (by omega) s2
    by_cases s3 : 64 < l0_14.length
    · rw [if_neg (by simp [s3])]; exact chk_5cn a0_0 a0_1 a0_2 a0_3 a0_4 a0_5 a0_6 a0_7 a0_8 a0_9 A0_10 c0_10 l0_10 a0_11 a0_12 a0_13 A0_14 c0_14 l0_14 a0_15 w hr0_10 hc0_10 hr0_14 hc0_14 (by omega) (by omega) (by omega) (by omega) hodd (by omega) (by omega) (by omega) (by omega) (by omega) (by omega) (by omega) (by omega)
    cases hfar : (dists l0_14).any oddP with
    | true => rw [if_neg (by simp)]; exact chk_5dn a0_0 a0_1 a0_2 a0_3 a0_4 a0_5 a0_6 a0_7 a0_8 a0_9 A0_10 c0_10 l0_10 a0_11 a0_12 a0_13 A0_14 c0_14 l0_14 a0_15 w hr0_10 hc0_10 hr0_14 hc0_14 (by omega) (by omega) (by omega) (by omega) hodd (by omega) (by omega) (by omega) (by omega) (by omega) (by omega) (by omega) (by omega) hfar
    | false =>
    by_cases t1 : 262144 < a0_15.size
    · rw [if_neg (by simp [t1])]; exact chk_6n a0_0 a0_1 a0_2 a0_3 a0_4 a0_5 a0_6 a0_7 a0_8 a0_9 A0_10 c0_10 l0_10 a0_11 a0_12 a0_13 A0_14 c0_14 l0_14 a0_15 w hr0_10 hc0_10 hr0_14 hc0_14 (by omega) (by omega) (by omega) (by omega) hodd (by omega) (by omega) (by omega) (by omega) (by omega) (by omega) (by omega) (by omega) hfar (by omega)
    · rw [if_pos (by simp [p1, p2, p3, p4, q1, q2, q3, q4, s1, s2, s3, t1, v1]; try omega)]; exact chk_7n a0_0 a0_1 a0_2 a0_3 a0_4 a0_5 a0_6 a0_7 a0_8 a0_9 A0_10 c0_10 l0_10 a0_11 a0_12 a0_13 A0_14 c0_14 l0_14 a0_15 w hr0_10 hc0_10 hr0_14 hc0_14 (by omega) (by omega) (by omega) (by omega) hodd (by omega) (by omega) (by omega) (by omega) (by omega) (by omega) (by omega) (by omega) hfar (by omega)
end Go.Proofs.YtlggihnkhimfkaaDoor.Giv
namespace Go.Proofs.YtlggihnkhimfkaaDoor.Giv
open Go.RowKit Go.Lib Go.Proofs.YtlggihnkhimfkaaDoorW.PrintWords Go.Proofs.YtlggihnkhimfkaaDoorW.PrintLast Go.Proofs.YtlggihnkhimfkaaDoorW.PrintMore
set_option linter.unusedVariables false
set_option linter.unusedSimpArgs false
def intW (n : Int) : P.S49 := ⟨1, n, ⟨#[]⟩, []⟩
def lisW (l : List Int) : P.S49 := ⟨3, 0, ⟨#[]⟩, l.map intW⟩
theorem list_calls (A : Option Addr) (n c : Nat) (w : World) :
    Calls Tryd.prog 19 #[.slice A n c] w fun e w' => e = .returned (.agg #[.int .i64 3, .int .i64 0, .string ⟨#[]⟩, .slice A n c]) ∧ Below w.heap.size w w' := by
  go_enter Tryd.func19, Tryd.ntmps19
  go_wp2
  refine bodyPost_ret (results_cell_row rfl _ _ w.heap.size 49 #[.int .i64 3, .int .i64 0, .string ⟨#[]⟩, .slice A n c] (0, 0) _ rfl (MapKept.heap_alloc w _).1 Tryd.underlying49 rfl (by kernel_rfl)) rfl ?_
  exact ⟨rfl, (Below.refl _ _).alloc (Nat.le_refl _) _⟩
def offN (k : Nat) : Nat := if k = 10 then 11 else k
def ptrs (b : Nat) : Array Value := #[.pointer (some ⟨b, 0, none⟩), .pointer (some ⟨b, 1, none⟩), .pointer (some ⟨b, 2, none⟩), .pointer (some ⟨b, 3, none⟩), .pointer (some ⟨b, 4, none⟩), .pointer (some ⟨b, 5, none⟩), .pointer (some ⟨b, 6, none⟩), .pointer (some ⟨b, 7, none⟩), .pointer (some ⟨b, 8, none⟩), .pointer (some ⟨b, 9, none⟩), .pointer (some ⟨b, 11, none⟩)]
theorem ptrs_at (b k : Nat) (h : k < 11) : (ptrs b)[k]? = some (.pointer (some ⟨b, offN k, none⟩)) := by
  have : k = 0 ∨ k = 1 ∨ k = 2 ∨ k = 3 ∨ k = 4 ∨ k = 5 ∨ k = 6 ∨ k = 7 ∨ k = 8 ∨ k = 9 ∨ k = 10 := by omega
  rcases this with rfl | rfl | rfl | rfl | rfl | rfl | rfl | rfl | rfl | rfl | rfl <;> rfl
set_option maxRecDepth 100000 in
set_option maxHeartbeats 4000000 in
theorem numbers_calls (b : Nat) (w : World) :
    Calls Tryd.prog 15 #[.pointer (some ⟨b, 0, none⟩)] w fun e w' => ∃ g, e = .returned (.slice (some ⟨g, 0, none⟩) 11 11) ∧ w.heap.size ≤ g ∧ w'.heap[g]? = some (.cells (ptrs b) 47 (0, 0)) ∧ Below w.heap.size w w' := by
  go_enter Tryd.func15, Tryd.ntmps15
  go_wp2_with fail
  go_region_held3 (fun _ => True) (exact trivial) (fail)
  go_wp2
  go_ret
  refine ⟨w.heap.size, rfl, Nat.le_refl _, ?_, ?_⟩
  · exact (MapKept.heap_alloc w _).1
  · exact (below_drew1 ((Below.refl _ _).alloc (Nat.le_refl _) _))
theorem len_take_map {α β : Type} (l : List α) (f : α → β) (k : Nat) (h : k < l.length) : (l.take (k + 1)).map f = (l.take k).map f ++ [f l[k]] := by
  rw [List.take_succ_eq_append_getElem h, List.map_append]; rfl
theorem info_val : (Tryd.prog.info? 49).map (fun i => (i.zero, i.size, i.bytes)) = some (some (.agg #[.int .i64 0, .int .i64 0, .string ⟨#[]⟩, .slice none 0 0]), 4, 56) := by kernel_rfl
set_option maxRecDepth 100000 in
set_option maxHeartbeats 4000000 in
theorem ints_calls (A : Option Addr) (c : Nat) (l : List Int) (w : World) (hC : (Kd.int .i64).C w A l.length l) (hl : l.length ≤ 1000) :
    Calls Tryd.prog 17 #[.slice A l.length c] w fun e w' => ∃ v, e = .returned (.agg #[.int .i64 3, .int .i64 0, .string ⟨#[]⟩, v]) ∧ Kd.R P.k49 49 w' w.heap.size (fun _ => True) v (l.map intW) ∧ Below w.heap.size w w' := by
  have HC := Aside0.mk hC
  clear hC
  have hB0 := Aside0.mk ((Below.refl w.heap.size w).alloc (Nat.le_refl _) (.cells #[.int .i64 0, .int .i64 0, .string ⟨#[]⟩, .slice none 0 0] 49))
  have hK0 := Aside0.mk (MapKept.heap_alloc w (.cells #[.int .i64 0, .int .i64 0, .string ⟨#[]⟩, .slice none 0 0] 49 (0, 0))).1
  go_enter Tryd.func17, Tryd.ntmps17
  go_wp2_with fail
  go_loopw [3, 8] (fun v3 i wr => ∃ k : Nat, k ≤ l.length ∧ i = .int .i64 k ∧ Aside0 (Kd.R P.k49 49 wr w.heap.size (fun k_ => k_ ≠ w.heap.size) v3 ((l.take k).map intW)) ∧ Aside0 (Below w.heap.size w wr) ∧ Aside0 (wr.heap[w.heap.size]? = some (.cells #[.int .i64 0, .int .i64 0, .string ⟨#[]⟩, .slice none 0 0] 49 (0, 0)))) (fun _ i _ => l.length - (Go.RowKit.intOf i).toNat)
  case atStart => exact ⟨0, Nat.zero_le _, rfl, ⟨by simpa using Kd.R_nil P.k49 49 _ _ _⟩, hB0, hK0⟩
  case round =>
    obtain ⟨k, hk, rfl, HO, HB, HK⟩ := hrel
    have hgl : w.heap.size < wr.heap.size := (Array.getElem?_eq_some_iff.1 HK.out).1
    by_cases hlt : k < l.length
    · obtain ⟨ad, rfl, c0⟩ := Kd.at_int (Kd.C_below HC.out HB.out) (k : Int) (by omega) (by omega)
      have exk : rd l (k : Int) = l[k] := by unfold rd; simp [hlt]
      rw [exk, Int.toNat_natCast] at c0
      have HT := Aside0.mk (len_take_map l intW k hlt)
      have hlk : ((l.take k).map intW).length = k := by rw [List.length_map, List.length_take]; omega
      obtain ⟨xs, hxs⟩ : ∃ xs, xs = (l.take k).map intW := ⟨_, rfl⟩
      rw [← hxs] at HO HT hlk
      have HXS := Aside0.mk hxs
      have HLK := Aside0.mk hlk
      clear exk hxs hlk
      generalize l[k] = x at *
      obtain ⟨Ao, co, rfl⟩ := Kd.R_slice HO.out
      go_wp2_with (first | (go_at_call 16; refine (P.benc_Int.calls x 1 x ⟨#[]⟩ [] wr rfl).mono ?_; rintro e w2 ⟨v3_, rfl, hr, hb⟩; have HR2 := Aside0.mk hr; have HB2 := Aside0.mk (HB.out.trans (hb.mono HB.out.size)); have HO2 := Aside0.mk (Kd.R_below HO.out hb); have HK2 := Aside0.mk ((hb.block _ hgl).trans HK.out); have hsz2 := hb.size; have hsz20 := HB2.out.size; clear hr hb) | (at_builtin; refine Kd.R_append P.k49 (w0 := w) w.heap.size rfl (.tmp 12) (.tmp 15) 43 49 (.agg #[.int .i64 0, .int .i64 0, .string ⟨#[]⟩, .slice none 0 0]) 56 rfl Tryd.underlying43 info_val rfl (by decide) (by omega) (.slice Ao xs.length co) xs (intW x) [.int .i64 1, .int .i64 x, .string ⟨#[]⟩, v3_] (fun k_ => k_ ≠ w.heap.size) (fun k_ => wr.heap.size ≤ k_) rfl rfl ?aP ?aK ?aF ?aO ?aB ?aS ?aL ?_; (case aP => exact P.k49_mkM _ _ _ (intW x) (Kd.R_mono (Kd.R_lower (Kd.R_bound HR2.out) HB.out.size) (fun k hk => hk.2.1))); (case aK => exact (fun k hk => ⟨by omega, fun e => by have := Kd.R_lt HO.out k e.symm; omega⟩)); (case aF => exact (fun k hk => by omega)); (case aO => exact HO2.out); (case aB => exact HB2.out); (case aS => exact hsz20); (case aL => have := HLK.out; omega); intro v9 w9 ho hb hg hat; have HO9 := Aside0.mk ho; have HB9 := Aside0.mk hb; have HK9 := Aside0.mk ((hg.block _ (by omega) (fun e => HO2.out.1 _ e.symm rfl)).trans HK2.out); clear ho hb hg hat))
      go_roundw
      case rel => exact ⟨k + 1, by omega, by go_num, ⟨by rw [HT.out]; exact HO9.out⟩, HB9, HK9⟩
      case measure => simp [Go.RowKit.intOf]; omega
    · obtain rfl : k = l.length := by omega
      have hte : (l.take l.length).map intW = l.map intW := by rw [List.take_length]
      rw [hte] at HO
      have hlm : (l.map intW).length = l.length := List.length_map _
      obtain ⟨xs, hxs⟩ : ∃ xs, xs = l.map intW := ⟨_, rfl⟩
      rw [← hxs] at HO
      have HXS := Aside0.mk hxs
      clear hte hxs hlm
      obtain ⟨Ao, co, rfl⟩ := Kd.R_slice HO.out
      go_wp2_with (go_at_call 19; refine (list_calls _ _ _ _).mono ?_; rintro e w2 ⟨rfl, hb⟩; have HB2 := Aside0.mk (HB.out.trans (hb.mono HB.out.size)); have HO2 := Aside0.mk (Kd.R_below HO.out hb); have hk2 : w2.heap[w.heap.size]? = some (.cells #[.int .i64 0, .int .i64 0, .string ⟨#[]⟩, .slice none 0 0] 49 (0, 0)) := (hb.block _ hgl).trans HK.out; have HK2 := Aside0.mk hk2; have z0 := blk_cell hk2 0; have z1 := blk_cell hk2 1; have z2 := blk_cell hk2 2; have z3 := blk_cell hk2 3; have f0 := blk_frozen hk2 0; have f1 := blk_frozen hk2 1; have f2 := blk_frozen hk2 2; have f3 := blk_frozen hk2 3; clear hb hk2)
      refine bodyPost_ret (results_cell_row rfl _ _ w.heap.size 49 #[.int .i64 3, .int .i64 0, .string ⟨#[]⟩, .slice Ao xs.length co] (0, 0) _ rfl (by
        refine blk_put (cs := #[.int .i64 3, .int .i64 0, .string ⟨#[]⟩, .slice none 0 0]) ?_ 3 _ rfl
        refine blk_put (cs := #[.int .i64 3, .int .i64 0, .string ⟨#[]⟩, .slice none 0 0]) ?_ 2 _ rfl
        refine blk_put (cs := #[.int .i64 3, .int .i64 0, .string ⟨#[]⟩, .slice none 0 0]) ?_ 1 _ rfl
        refine blk_put (cs := #[.int .i64 0, .int .i64 0, .string ⟨#[]⟩, .slice none 0 0]) ?_ 0 _ rfl
        exact HK2.out) Tryd.underlying49 rfl (by kernel_rfl)) rfl ?_
      refine ⟨_, rfl, ?_, by repeat (first | exact HB2.out | refine below_set ?_ (Nat.le_refl _))⟩
      rw [← HXS.out]
      exact Kd.R_mono (Kd.R_far (p := ⟨w.heap.size, 3, none⟩) (Kd.R_far (p := ⟨w.heap.size, 2, none⟩) (Kd.R_far (p := ⟨w.heap.size, 1, none⟩) (Kd.R_far (p := ⟨w.heap.size, 0, none⟩) HO2.out (fun _ hk => hk) _) (fun _ hk => hk) _) (fun _ hk => hk) _) (fun _ hk => hk) _) (fun _ _ => trivial)
end Go.Proofs.YtlggihnkhimfkaaDoor.Giv
