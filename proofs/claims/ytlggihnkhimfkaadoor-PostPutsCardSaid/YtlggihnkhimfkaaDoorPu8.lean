/- Texts put together by prune.py: Px12, BncFrp, BncHrp, BncJrp, BncXrp, Px6, FrmP, FrmRp, FrmQp, PstC, PstD. -/
import Derived.Lib.SmallJoins
import Derived.Laws.EntriesVeiled
import Derived.Test.YtlggihnkhimfkaaDoorPu7
namespace Go.Proofs.YtlggihnkhimfkaaDoor.P
open Go.RowKit Go.Proofs.YtlggihnkhimfkaaDoorW.PrintWords Go.Proofs.YtlggihnkhimfkaaDoorW.PrintLast Go.Proofs.YtlggihnkhimfkaaDoorW.PrintMore
attribute [local go_sem] max2_int min2_int max_two min_two max_three min_three max_four min_four   -- for this text's walks alone
set_option linter.unusedVariables false
set_option linter.unusedSimpArgs false
open Go.Proofs.YtlggihnkhimfkaaDoor.Giv
def frame_Put.f (a0 : ByteArray) : Option (ByteArray × Int) := if (a0.size : Int) > 262144 then (some ((⟨#[]⟩ : ByteArray), 23)) else ((crc_Hex.f (a0.size : Int)).bind fun bt370 => ((crc_Sum.f a0).bind fun t372 => ((crc_Hex.f t372).bind fun bt373 => (if bt370.1.size + bt373.1.size ≤ 9223372036854775807 then (if (bt370.1 ++ bt373.1).size + 1 ≤ 9223372036854775807 then (if ((bt370.1 ++ bt373.1) ++ (⟨#[124]⟩ : ByteArray)).size + a0.size ≤ 9223372036854775807 then (if (((bt370.1 ++ bt373.1) ++ (⟨#[124]⟩ : ByteArray)) ++ a0).size + 1 ≤ 9223372036854775807 then (some ((((bt370.1 ++ bt373.1) ++ (⟨#[124]⟩ : ByteArray)) ++ a0) ++ (⟨#[10]⟩ : ByteArray), 0)) else (none)) else (none)) else (none)) else (none)))))
set_option maxHeartbeats 8000000 in
set_option maxRecDepth 100000 in
theorem frame_Put.calls (a0 : ByteArray) (r1 : ByteArray) (r2 : Int) (w : World) (hL : LaidW w) (h : frame_Put.f a0 = some (r1, r2)) :
  Calls Tryd.prog 20 #[.string a0] w fun e w' => e = .returned (.tuple #[.string r1, .int .i64 r2]) ∧ Below w.heap.size w w' := by
 have HB := Aside0.mk (Below.refl w.heap.size w)
 have H : (if (a0.size : Int) > 262144 then (some ((⟨#[]⟩ : ByteArray), 23)) else ((crc_Hex.f (a0.size : Int)).bind fun bt370 => ((crc_Sum.f a0).bind fun t372 => ((crc_Hex.f t372).bind fun bt373 => (if bt370.1.size + bt373.1.size ≤ 9223372036854775807 then (if (bt370.1 ++ bt373.1).size + 1 ≤ 9223372036854775807 then (if ((bt370.1 ++ bt373.1) ++ (⟨#[124]⟩ : ByteArray)).size + a0.size ≤ 9223372036854775807 then (if (((bt370.1 ++ bt373.1) ++ (⟨#[124]⟩ : ByteArray)) ++ a0).size + 1 ≤ 9223372036854775807 then (some ((((bt370.1 ++ bt373.1) ++ (⟨#[124]⟩ : ByteArray)) ++ a0) ++ (⟨#[10]⟩ : ByteArray), 0)) else (none)) else (none)) else (none)) else (none)))))) = some (r1, r2) := h
 clear h
 by_cases c2 : (a0.size : Int) > 262144
 ·
  rw [if_pos c2] at H
  have c2b0 : decide (262144 < (a0.size : Int)) = true := decide_eq_true c2
  have c2b1 : decide (262144 < a0.size) = true := decide_eq_true (by omega)
  clear c2
  simp only [Option.some.injEq, Prod.mk.injEq] at H
  obtain ⟨rfl, rfl⟩ := H
  go_enter Tryd.func20, Tryd.ntmps20
  go_wp2
  go_ret2
  exact ⟨by first | rfl | (simp [errW_none, errW_some] <;> rfl) | (simp [*, errW_none, errW_some] <;> rfl), by repeat (first | (with_reducible first | exact HB.out | apply below_alloc | apply pw_below_drewN | apply below_drew1) | exact HB.out)⟩
 ·
  rw [if_neg c2] at H
  have c2b0 : decide (262144 < (a0.size : Int)) = false := decide_eq_false c2
  have c2b1 : decide (262144 < a0.size) = false := decide_eq_false (by omega)
  clear c2
  replace H := Option.bind_eq_some_iff.mp H
  obtain ⟨⟨t370, t371⟩, A30, H⟩ := H
  replace H : ((crc_Sum.f a0).bind fun t372 => ((crc_Hex.f t372).bind fun bt373 => (if t370.size + bt373.1.size ≤ 9223372036854775807 then (if (t370 ++ bt373.1).size + 1 ≤ 9223372036854775807 then (if ((t370 ++ bt373.1) ++ (⟨#[124]⟩ : ByteArray)).size + a0.size ≤ 9223372036854775807 then (if (((t370 ++ bt373.1) ++ (⟨#[124]⟩ : ByteArray)) ++ a0).size + 1 ≤ 9223372036854775807 then (some ((((t370 ++ bt373.1) ++ (⟨#[124]⟩ : ByteArray)) ++ a0) ++ (⟨#[10]⟩ : ByteArray), 0)) else (none)) else (none)) else (none)) else (none)))) = some (r1, r2) := H
  have A3 := Aside0.mk A30
  clear A30
  replace H := Option.bind_eq_some_iff.mp H
  obtain ⟨t372, A40, H⟩ := H
  replace H : ((crc_Hex.f t372).bind fun bt373 => (if t370.size + bt373.1.size ≤ 9223372036854775807 then (if (t370 ++ bt373.1).size + 1 ≤ 9223372036854775807 then (if ((t370 ++ bt373.1) ++ (⟨#[124]⟩ : ByteArray)).size + a0.size ≤ 9223372036854775807 then (if (((t370 ++ bt373.1) ++ (⟨#[124]⟩ : ByteArray)) ++ a0).size + 1 ≤ 9223372036854775807 then (some ((((t370 ++ bt373.1) ++ (⟨#[124]⟩ : ByteArray)) ++ a0) ++ (⟨#[10]⟩ : ByteArray), 0)) else (none)) else (none)) else (none)) else (none))) = some (r1, r2) := H
  have A4 := Aside0.mk A40
  clear A40
  replace H := Option.bind_eq_some_iff.mp H
  obtain ⟨⟨t373, t374⟩, A50, H⟩ := H
  replace H : (if t370.size + t373.size ≤ 9223372036854775807 then (if (t370 ++ t373).size + 1 ≤ 9223372036854775807 then (if ((t370 ++ t373) ++ (⟨#[124]⟩ : ByteArray)).size + a0.size ≤ 9223372036854775807 then (if (((t370 ++ t373) ++ (⟨#[124]⟩ : ByteArray)) ++ a0).size + 1 ≤ 9223372036854775807 then (some ((((t370 ++ t373) ++ (⟨#[124]⟩ : ByteArray)) ++ a0) ++ (⟨#[10]⟩ : ByteArray), 0)) else (none)) else (none)) else (none)) else (none)) = some (r1, r2) := H
  have A5 := Aside0.mk A50
  clear A50
  by_cases c6 : t370.size + t373.size ≤ 9223372036854775807
  ·
   rw [if_pos c6] at H
   have c6b0 := eq_true c6
   have c6b1 : decide (t370.size + t373.size ≤ 9223372036854775807) = true := decide_eq_true c6
   try have c6b2 : (9223372036854775807 < t370.size + t373.size) = False := eq_false (Nat.not_lt.2 c6)
   by_cases c7 : (t370 ++ t373).size + 1 ≤ 9223372036854775807
   ·
    rw [if_pos c7] at H
    have c7b0 := eq_true c7
    have c7b1 : decide ((t370 ++ t373).size + 1 ≤ 9223372036854775807) = true := decide_eq_true c7
    try have c7b2 : (9223372036854775807 < (t370 ++ t373).size + 1) = False := eq_false (Nat.not_lt.2 c7)
    have c7b3 : t370.size + t373.size + 1 ≤ 9223372036854775807 := by have h := c7; simp only [ByteArray.size_append] at h; exact h
    try have c7b4 : (9223372036854775807 < t370.size + t373.size + 1) = False := eq_false (Nat.not_lt.2 c7b3)
    by_cases c8 : ((t370 ++ t373) ++ (⟨#[124]⟩ : ByteArray)).size + a0.size ≤ 9223372036854775807
    ·
     rw [if_pos c8] at H
     have c8b0 := eq_true c8
     have c8b1 : decide (((t370 ++ t373) ++ (⟨#[124]⟩ : ByteArray)).size + a0.size ≤ 9223372036854775807) = true := decide_eq_true c8
     try have c8b2 : (9223372036854775807 < ((t370 ++ t373) ++ (⟨#[124]⟩ : ByteArray)).size + a0.size) = False := eq_false (Nat.not_lt.2 c8)
     have c8b3 : t370.size + t373.size + 1 + a0.size ≤ 9223372036854775807 := by have h := c8; simp only [ByteArray.size_append] at h; exact h
     try have c8b4 : (9223372036854775807 < t370.size + t373.size + 1 + a0.size) = False := eq_false (Nat.not_lt.2 c8b3)
     by_cases c9 : (((t370 ++ t373) ++ (⟨#[124]⟩ : ByteArray)) ++ a0).size + 1 ≤ 9223372036854775807
     ·
      rw [if_pos c9] at H
      have c9b0 := eq_true c9
      have c9b1 : decide ((((t370 ++ t373) ++ (⟨#[124]⟩ : ByteArray)) ++ a0).size + 1 ≤ 9223372036854775807) = true := decide_eq_true c9
      try have c9b2 : (9223372036854775807 < (((t370 ++ t373) ++ (⟨#[124]⟩ : ByteArray)) ++ a0).size + 1) = False := eq_false (Nat.not_lt.2 c9)
      have c9b3 : t370.size + t373.size + 1 + a0.size + 1 ≤ 9223372036854775807 := by have h := c9; simp only [ByteArray.size_append] at h; exact h
      try have c9b4 : (9223372036854775807 < t370.size + t373.size + 1 + a0.size + 1) = False := eq_false (Nat.not_lt.2 c9b3)
      simp only [Option.some.injEq, Prod.mk.injEq] at H
      obtain ⟨rfl, rfl⟩ := H
      go_enter Tryd.func20, Tryd.ntmps20
      go_wp2_with (first | ((with_reducible refine gate_callee (f := 38) rfl ?_); refine goesL_ (some 14) rfl rfl Tryd.func38 (by kernel_rfl) rfl #[.int .i64 (a0.size : Int)] rfl (by (try simp only [List.map_toArray, List.map_cons, List.map_nil]); first | done | rfl | (simp only [List.length_drop, List.length_take]; rfl)) ?_; (with_reducible refine (crc_Hex.calls (a0.size : Int) t370 t371 _ (LaidW.below hL (by repeat (first | (with_reducible first | exact HB.out | apply below_alloc | apply pw_below_drewN | apply below_drew1) | exact HB.out))) A3.out).mono ?_); rintro e w10 ⟨rfl, hb⟩; refine ⟨_, rfl, ?_⟩; have n0_ := Aside0.mk (below_step (by repeat (first | (with_reducible first | exact HB.out | apply below_alloc | apply pw_below_drewN | apply below_drew1) | exact HB.out)) hb); clear HB; have HB := n0_; clear n0_; (try clear hb); (try clear hb2); (try clear hk); (try clear hi)) | ((with_reducible refine gate_callee (f := 39) rfl ?_); refine goesL_ (some 19) rfl rfl Tryd.func39 (by kernel_rfl) rfl #[.string a0] rfl (by (try simp only [List.map_toArray, List.map_cons, List.map_nil]); first | done | rfl | (simp only [List.length_drop, List.length_take]; rfl)) ?_; (with_reducible refine (crc_Sum.calls a0 t372 _ A4.out).mono ?_); rintro e w11 ⟨rfl, hb⟩; refine ⟨_, rfl, ?_⟩; have n0_ := Aside0.mk (below_step (by repeat (first | (with_reducible first | exact HB.out | apply below_alloc | apply pw_below_drewN | apply below_drew1) | exact HB.out)) hb); clear HB; have HB := n0_; clear n0_; (try clear hb); (try clear hb2); (try clear hk); (try clear hi)) | ((with_reducible refine gate_callee (f := 38) rfl ?_); refine goesL_ (some 20) rfl rfl Tryd.func38 (by kernel_rfl) rfl #[.int .i64 t372] rfl (by (try simp only [List.map_toArray, List.map_cons, List.map_nil]); first | done | rfl | (simp only [List.length_drop, List.length_take]; rfl)) ?_; (with_reducible refine (crc_Hex.calls t372 t373 t374 _ (LaidW.below hL (by repeat (first | (with_reducible first | exact HB.out | apply below_alloc | apply pw_below_drewN | apply below_drew1) | exact HB.out))) A5.out).mono ?_); rintro e w12 ⟨rfl, hb⟩; refine ⟨_, rfl, ?_⟩; have n0_ := Aside0.mk (below_step (by repeat (first | (with_reducible first | exact HB.out | apply below_alloc | apply pw_below_drewN | apply below_drew1) | exact HB.out)) hb); clear HB; have HB := n0_; clear n0_; (try clear hb); (try clear hb2); (try clear hk); (try clear hi)))
      go_ret2
      exact ⟨by first | rfl | (simp [errW_none, errW_some] <;> rfl) | (simp [*, errW_none, errW_some] <;> rfl), by repeat (first | (with_reducible first | exact HB.out | apply below_alloc | apply pw_below_drewN | apply below_drew1) | exact HB.out)⟩
     ·
      rw [if_neg c9] at H
      exact absurd H (by simp)
    ·
     rw [if_neg c8] at H
     exact absurd H (by simp)
   ·
    rw [if_neg c7] at H
    exact absurd H (by simp)
  ·
   rw [if_neg c6] at H
   exact absurd H (by simp)
def benc_Only.f (a0 : ByteArray) : Option (Int × Int × ByteArray × (List (S49)) × Int) := (benc_Take.f a0).bind fun bt376 => (if bt376.2.2.2.2.2 = 0 then (if bt376.2.2.2.2.1 < (a0.size : Int) then (some (0, 0, (⟨#[]⟩ : ByteArray), ([] : List (S49)), 20)) else (some (bt376.1, bt376.2.1, bt376.2.2.1, bt376.2.2.2.1, 0))) else (some (0, 0, (⟨#[]⟩ : ByteArray), ([] : List (S49)), bt376.2.2.2.2.2)))
set_option maxHeartbeats 8000000 in
set_option maxRecDepth 100000 in
theorem benc_Only.calls (a0 : ByteArray) (r1 : Int) (r2 : Int) (r3 : ByteArray) (r4 : List (S49)) (r5 : Int) (w : World) (hL : LaidW w) (h : benc_Only.f a0 = some (r1, r2, r3, r4, r5)) :
  Calls Tryd.prog 31 #[.string a0] w fun e w' => ∃ v3_ : Value, e = .returned (.tuple #[.agg #[.int .i64 r1, .int .i64 r2, .string r3, v3_], .int .i64 r5]) ∧ Kd.R k49 49 w' w.heap.size (fun _ => True) v3_ r4 ∧ Below w.heap.size w w' := by
 have hu49 := Tryd.underlying49
 have HB := Aside0.mk (Below.refl w.heap.size w)
 have H : ((benc_Take.f a0).bind fun bt376 => (if bt376.2.2.2.2.2 = 0 then (if bt376.2.2.2.2.1 < (a0.size : Int) then (some (0, 0, (⟨#[]⟩ : ByteArray), ([] : List (S49)), 20)) else (some (bt376.1, bt376.2.1, bt376.2.2.1, bt376.2.2.2.1, 0))) else (some (0, 0, (⟨#[]⟩ : ByteArray), ([] : List (S49)), bt376.2.2.2.2.2)))) = some (r1, r2, r3, r4, r5) := h
 clear h
 replace H := Option.bind_eq_some_iff.mp H
 obtain ⟨⟨t376, t377, t378, t379, t382, t383⟩, A20, H⟩ := H
 replace H : (if t383 = 0 then (if t382 < (a0.size : Int) then (some (0, 0, (⟨#[]⟩ : ByteArray), ([] : List (S49)), 20)) else (some (t376, t377, t378, t379, 0))) else (some (0, 0, (⟨#[]⟩ : ByteArray), ([] : List (S49)), t383))) = some (r1, r2, r3, r4, r5) := H
 have A2 := Aside0.mk A20
 clear A20
 by_cases c3 : t383 = 0
 ·
  rw [if_pos c3] at H
  have c3b0 : (t383 == 0) = true := beq_iff_eq.mpr c3
  have c3b1 : (t383 != 0) = false := bne_eq_false_iff_eq.mpr c3
  clear c3
  by_cases c4 : t382 < (a0.size : Int)
  ·
   rw [if_pos c4] at H
   have c4b0 : decide (t382 < (a0.size : Int)) = true := decide_eq_true c4
   clear c4
   simp only [Option.some.injEq, Prod.mk.injEq] at H
   obtain ⟨rfl, rfl, rfl, rfl, rfl⟩ := H
   go_enter Tryd.func31, Tryd.ntmps31
   go_wp2_with (first | ((with_reducible refine gate_dst (N := 2) rfl ?_); refine box_event ?hg (N := 2) ?hd (cs := #[.int .i64 0, .int .i64 0, .string (⟨#[]⟩ : ByteArray), .slice none 0 0]) (t := 49) ?hr ?_; (case hd => rfl); (case hg => rfl); (case hr => first | (go_simp; done) | (go_simp; rfl)); intro gb375 hg w5 hbox hb; have n0_ := Aside0.mk (below_step (by repeat (first | (with_reducible first | exact HB.out | apply below_alloc | apply pw_below_drewN | apply below_drew1) | exact HB.out)) hb); have n1_ := Aside0.mk (hbox); have n2_ := Aside0.mk ((by rw [hg]; exact (below_size (by repeat (first | (with_reducible first | exact HB.out | apply below_alloc | apply pw_below_drewN | apply below_drew1) | exact HB.out))) : w.heap.size ≤ gb375)); have n3_ := Aside0.mk ((by rw [hg]; exact (below_size (by repeat (first | (with_reducible first | exact HB.out | apply below_alloc | apply pw_below_drewN | apply below_drew1) | exact HB.out))) : w.heap.size ≤ gb375)); clear HB; have HB := n0_; have BK375 := n1_; have GW375 := n2_; have GE375 := n3_; clear n0_ n1_ n2_ n3_; clear hb hbox hg) | ((with_reducible refine gate_callee (f := 51) rfl ?_); refine goesL_ (some 9) rfl rfl Tryd.func51 (by kernel_rfl) rfl #[.string a0] rfl (by (try simp only [List.map_toArray, List.map_cons, List.map_nil]); first | done | rfl | (simp only [List.length_drop, List.length_take]; rfl)) ?_; (with_reducible refine (benc_Take.calls a0 t376 t377 t378 t379 t382 t383 _ (LaidW.below hL (by repeat (first | (with_reducible first | exact HB.out | apply below_alloc | apply pw_below_drewN | apply below_drew1 | refine below_set ?_ GE375.out) | exact HB.out))) A2.out).mono ?_); rintro e w6 ⟨v380, rfl, ho0, hb⟩; refine ⟨_, rfl, ?_⟩; have n0_ := Aside0.mk (Kd.R_lower (Kd.R_newB ho0 (g := gb375) (o := .cells #[.int .i64 0, .int .i64 0, .string (⟨#[]⟩ : ByteArray), .slice none 0 0] 49 (0, 0)) (by (with_reducible repeat (first | refine blk_drewN ?_ _ | refine blk_drew ?_ | refine blk_alloc ?_ _)); exact BK375.out)) (below_size (by repeat (first | (with_reducible first | exact HB.out | apply below_alloc | apply pw_below_drewN | apply below_drew1 | refine below_set ?_ GE375.out) | exact HB.out)))); have n1_ := Aside0.mk (blk_below (g := gb375) (o := .cells #[.int .i64 0, .int .i64 0, .string (⟨#[]⟩ : ByteArray), .slice none 0 0] 49 (0, 0)) (by (with_reducible repeat (first | refine blk_drewN ?_ _ | refine blk_drew ?_ | refine blk_alloc ?_ _)); exact BK375.out) hb); have n2_ := Aside0.mk (below_step (by repeat (first | (with_reducible first | exact HB.out | apply below_alloc | apply pw_below_drewN | apply below_drew1 | refine below_set ?_ GE375.out) | exact HB.out)) hb); clear BK375; clear HB; have HO381 := n0_; have BK375 := n1_; have HB := n2_; clear n0_ n1_ n2_; (try clear hb); (try clear hb2); (try clear hk); (try clear hi); (try clear ho0)) | ((with_reducible refine gate_dst (N := 4) rfl ?_); refine box_event ?hg (N := 4) ?hd (cs := #[.int .i64 0, .int .i64 0, .string (⟨#[]⟩ : ByteArray), .slice none 0 0]) (t := 49) ?hr ?_; (case hd => rfl); (case hg => rfl); (case hr => first | (go_simp; done) | (go_simp; rfl)); intro gb384 hg w7 hbox hb; have n0_ := Aside0.mk (Kd.R_below (Kd.R_elderB (by (with_reducible repeat (first | apply Kd.R_alloc | apply Kd.R_drewN | apply Kd.R_drew)); exact HO381.out) gb384 (Nat.le_of_eq hg.symm)) hb); have n1_ := Aside0.mk (blk_below (g := gb375) (o := .cells #[.int .i64 0, .int .i64 0, .string (⟨#[]⟩ : ByteArray), .slice none 0 0] 49 (0, 0)) (by (with_reducible repeat (first | refine blk_drewN ?_ _ | refine blk_drew ?_ | refine blk_alloc ?_ _)); exact BK375.out) hb); have n2_ := Aside0.mk (below_step (by repeat (first | (with_reducible first | exact HB.out | apply below_alloc | apply pw_below_drewN | apply below_drew1 | refine below_set ?_ GE375.out) | exact HB.out)) hb); have n3_ := Aside0.mk (hbox); have n4_ := Aside0.mk ((by rw [hg]; exact (below_size (by repeat (first | (with_reducible first | exact HB.out | apply below_alloc | apply pw_below_drewN | apply below_drew1 | refine below_set ?_ GE375.out) | exact HB.out))) : w.heap.size ≤ gb384)); have n5_ := Aside0.mk ((by rw [hg]; exact (below_size (by repeat (first | (with_reducible first | exact HB.out | apply below_alloc | apply pw_below_drewN | apply below_drew1 | refine below_set ?_ GE375.out) | exact HB.out))) : w.heap.size ≤ gb384)); have n6_ := Aside0.mk ((by rw [hg]; exact Nat.ne_of_lt (blk_lt (g := gb375) (o := .cells #[.int .i64 0, .int .i64 0, .string (⟨#[]⟩ : ByteArray), .slice none 0 0] 49 (0, 0)) (by (with_reducible repeat (first | refine blk_drewN ?_ _ | refine blk_drew ?_ | refine blk_alloc ?_ _)); exact BK375.out)) : gb375 ≠ gb384)); have n7_ := Aside0.mk ((by rw [hg]; exact Nat.ne_of_gt (blk_lt (g := gb375) (o := .cells #[.int .i64 0, .int .i64 0, .string (⟨#[]⟩ : ByteArray), .slice none 0 0] 49 (0, 0)) (by (with_reducible repeat (first | refine blk_drewN ?_ _ | refine blk_drew ?_ | refine blk_alloc ?_ _)); exact BK375.out)) : gb384 ≠ gb375)); clear HO381; clear BK375; clear HB; have HO381 := n0_; have BK375 := n1_; have HB := n2_; have BK384 := n3_; have GW384 := n4_; have GE384 := n5_; have NB375_384 := n6_; have NB384_375 := n7_; clear n0_ n1_ n2_ n3_ n4_ n5_ n6_ n7_; clear hb hbox hg; have hnb8 := NB384_375.out; have hnc8 := NB375_384.out; have hcz9_0 : w7.cell? ⟨gb384, 0, none⟩ = some (.int .i64 0) := (blk_cell BK384.out 0).trans rfl; have hcz9_1 : w7.cell? ⟨gb384, 1, none⟩ = some (.int .i64 0) := (blk_cell BK384.out 1).trans rfl; have hcz9_2 : w7.cell? ⟨gb384, 2, none⟩ = some (.string (⟨#[]⟩ : ByteArray)) := (blk_cell BK384.out 2).trans rfl; have hcz9_3 : w7.cell? ⟨gb384, 3, none⟩ = some (.slice none 0 0) := (blk_cell BK384.out 3).trans rfl; have hfz9_0 := blk_frozen BK384.out 0; have hfz9_1 := blk_frozen BK384.out 1; have hfz9_2 := blk_frozen BK384.out 2; have hfz9_3 := blk_frozen BK384.out 3; obtain ⟨Ao10, co10, eo10⟩ := Kd.R_slice HO381.out; subst eo10; have hcz11_0 : w7.cell? ⟨gb375, 0, none⟩ = some (.int .i64 0) := (blk_cell BK375.out 0).trans rfl; have hcz11_1 : w7.cell? ⟨gb375, 1, none⟩ = some (.int .i64 0) := (blk_cell BK375.out 1).trans rfl; have hcz11_2 : w7.cell? ⟨gb375, 2, none⟩ = some (.string (⟨#[]⟩ : ByteArray)) := (blk_cell BK375.out 2).trans rfl; have hcz11_3 : w7.cell? ⟨gb375, 3, none⟩ = some (.slice none 0 0) := (blk_cell BK375.out 3).trans rfl; have hfz11_0 := blk_frozen BK375.out 0; have hfz11_1 := blk_frozen BK375.out 1; have hfz11_2 := blk_frozen BK375.out 2; have hfz11_3 := blk_frozen BK375.out 3))
   refine bodyPost_ret (results_ct rfl _ _ gb375 49 #[.int .i64 0, .int .i64 0, .string (⟨#[]⟩ : ByteArray), .slice none 0 0] (0, 0) _ rfl (by (with_reducible repeat (first | refine blk_drewN ?_ _ | refine blk_drew ?_ | refine blk_alloc ?_ _)); refine blk_put (cs := #[.int .i64 0, .int .i64 0, .string (⟨#[]⟩ : ByteArray), .slice none 0 0]) ?_ 3 _ rfl; (with_reducible repeat (first | refine blk_drewN ?_ _ | refine blk_drew ?_ | refine blk_alloc ?_ _)); refine blk_put (cs := #[.int .i64 0, .int .i64 0, .string (⟨#[]⟩ : ByteArray), .slice none 0 0]) ?_ 2 _ rfl; (with_reducible repeat (first | refine blk_drewN ?_ _ | refine blk_drew ?_ | refine blk_alloc ?_ _)); refine blk_put (cs := #[.int .i64 0, .int .i64 0, .string (⟨#[]⟩ : ByteArray), .slice none 0 0]) ?_ 1 _ rfl; (with_reducible repeat (first | refine blk_drewN ?_ _ | refine blk_drew ?_ | refine blk_alloc ?_ _)); refine blk_put (cs := #[.int .i64 0, .int .i64 0, .string (⟨#[]⟩ : ByteArray), .slice none 0 0]) ?_ 0 _ rfl; (with_reducible repeat (first | refine blk_drewN ?_ _ | refine blk_drew ?_ | refine blk_alloc ?_ _)); refine blk_far ?_ NB375_384.out _; (with_reducible repeat (first | refine blk_drewN ?_ _ | refine blk_drew ?_ | refine blk_alloc ?_ _)); refine blk_far ?_ NB375_384.out _; (with_reducible repeat (first | refine blk_drewN ?_ _ | refine blk_drew ?_ | refine blk_alloc ?_ _)); refine blk_far ?_ NB375_384.out _; (with_reducible repeat (first | refine blk_drewN ?_ _ | refine blk_drew ?_ | refine blk_alloc ?_ _)); refine blk_far ?_ NB375_384.out _; (with_reducible repeat (first | refine blk_drewN ?_ _ | refine blk_drew ?_ | refine blk_alloc ?_ _)); exact BK375.out) Tryd.underlying49 rfl (by kernel_rfl)) rfl ?_
   exact ⟨_, by first | rfl | (simp [errW_none, errW_some] <;> rfl) | (simp [*, errW_none, errW_some] <;> rfl), by first | exact Kd.R_nil _ _ _ _ _ | exact Kd.N_nil _ _ _ _ _ | exact Kd.V_nil _ _ _ _ _ | exact Kd.Q_nil _ _ _ _ _ | exact Kd.S_nil _ _ _ _ _, by repeat (first | (with_reducible first | exact HB.out | apply below_alloc | apply pw_below_drewN | apply below_drew1 | refine below_set ?_ GE375.out | refine below_set ?_ GE384.out) | exact HB.out)⟩
  ·
   rw [if_neg c4] at H
   have c4b0 : decide (t382 < (a0.size : Int)) = false := decide_eq_false c4
   clear c4
   simp only [Option.some.injEq, Prod.mk.injEq] at H
   obtain ⟨rfl, rfl, rfl, rfl, rfl⟩ := H
   go_enter Tryd.func31, Tryd.ntmps31
   go_wp2_with (first | ((with_reducible refine gate_dst (N := 2) rfl ?_); refine box_event ?hg (N := 2) ?hd (cs := #[.int .i64 0, .int .i64 0, .string (⟨#[]⟩ : ByteArray), .slice none 0 0]) (t := 49) ?hr ?_; (case hd => rfl); (case hg => rfl); (case hr => first | (go_simp; done) | (go_simp; rfl)); intro gb375 hg w12 hbox hb; have n0_ := Aside0.mk (below_step (by repeat (first | (with_reducible first | exact HB.out | apply below_alloc | apply pw_below_drewN | apply below_drew1) | exact HB.out)) hb); have n1_ := Aside0.mk (hbox); have n2_ := Aside0.mk ((by rw [hg]; exact (below_size (by repeat (first | (with_reducible first | exact HB.out | apply below_alloc | apply pw_below_drewN | apply below_drew1) | exact HB.out))) : w.heap.size ≤ gb375)); have n3_ := Aside0.mk ((by rw [hg]; exact (below_size (by repeat (first | (with_reducible first | exact HB.out | apply below_alloc | apply pw_below_drewN | apply below_drew1) | exact HB.out))) : w.heap.size ≤ gb375)); clear HB; have HB := n0_; have BK375 := n1_; have GW375 := n2_; have GE375 := n3_; clear n0_ n1_ n2_ n3_; clear hb hbox hg) | ((with_reducible refine gate_callee (f := 51) rfl ?_); refine goesL_ (some 9) rfl rfl Tryd.func51 (by kernel_rfl) rfl #[.string a0] rfl (by (try simp only [List.map_toArray, List.map_cons, List.map_nil]); first | done | rfl | (simp only [List.length_drop, List.length_take]; rfl)) ?_; (with_reducible refine (benc_Take.calls a0 t376 t377 t378 t379 t382 t383 _ (LaidW.below hL (by repeat (first | (with_reducible first | exact HB.out | apply below_alloc | apply pw_below_drewN | apply below_drew1 | refine below_set ?_ GE375.out) | exact HB.out))) A2.out).mono ?_); rintro e w13 ⟨v380, rfl, ho0, hb⟩; refine ⟨_, rfl, ?_⟩; have n0_ := Aside0.mk (Kd.R_lower (Kd.R_newB ho0 (g := gb375) (o := .cells #[.int .i64 0, .int .i64 0, .string (⟨#[]⟩ : ByteArray), .slice none 0 0] 49 (0, 0)) (by (with_reducible repeat (first | refine blk_drewN ?_ _ | refine blk_drew ?_ | refine blk_alloc ?_ _)); exact BK375.out)) (below_size (by repeat (first | (with_reducible first | exact HB.out | apply below_alloc | apply pw_below_drewN | apply below_drew1 | refine below_set ?_ GE375.out) | exact HB.out)))); have n1_ := Aside0.mk (blk_below (g := gb375) (o := .cells #[.int .i64 0, .int .i64 0, .string (⟨#[]⟩ : ByteArray), .slice none 0 0] 49 (0, 0)) (by (with_reducible repeat (first | refine blk_drewN ?_ _ | refine blk_drew ?_ | refine blk_alloc ?_ _)); exact BK375.out) hb); have n2_ := Aside0.mk (below_step (by repeat (first | (with_reducible first | exact HB.out | apply below_alloc | apply pw_below_drewN | apply below_drew1 | refine below_set ?_ GE375.out) | exact HB.out)) hb); clear BK375; clear HB; have HO381 := n0_; have BK375 := n1_; have HB := n2_; clear n0_ n1_ n2_; (try clear hb); (try clear hb2); (try clear hk); (try clear hi); (try clear ho0)) | ((with_reducible refine gate_dst (N := 4) rfl ?_); refine box_event ?hg (N := 4) ?hd (cs := #[.int .i64 0, .int .i64 0, .string (⟨#[]⟩ : ByteArray), .slice none 0 0]) (t := 49) ?hr ?_; (case hd => rfl); (case hg => rfl); (case hr => first | (go_simp; done) | (go_simp; rfl)); intro gb384 hg w14 hbox hb; have n0_ := Aside0.mk (Kd.R_below (Kd.R_elderB (by (with_reducible repeat (first | apply Kd.R_alloc | apply Kd.R_drewN | apply Kd.R_drew)); exact HO381.out) gb384 (Nat.le_of_eq hg.symm)) hb); have n1_ := Aside0.mk (blk_below (g := gb375) (o := .cells #[.int .i64 0, .int .i64 0, .string (⟨#[]⟩ : ByteArray), .slice none 0 0] 49 (0, 0)) (by (with_reducible repeat (first | refine blk_drewN ?_ _ | refine blk_drew ?_ | refine blk_alloc ?_ _)); exact BK375.out) hb); have n2_ := Aside0.mk (below_step (by repeat (first | (with_reducible first | exact HB.out | apply below_alloc | apply pw_below_drewN | apply below_drew1 | refine below_set ?_ GE375.out) | exact HB.out)) hb); have n3_ := Aside0.mk (hbox); have n4_ := Aside0.mk ((by rw [hg]; exact (below_size (by repeat (first | (with_reducible first | exact HB.out | apply below_alloc | apply pw_below_drewN | apply below_drew1 | refine below_set ?_ GE375.out) | exact HB.out))) : w.heap.size ≤ gb384)); have n5_ := Aside0.mk ((by rw [hg]; exact (below_size (by repeat (first | (with_reducible first | exact HB.out | apply below_alloc | apply pw_below_drewN | apply below_drew1 | refine below_set ?_ GE375.out) | exact HB.out))) : w.heap.size ≤ gb384)); have n6_ := Aside0.mk ((by rw [hg]; exact Nat.ne_of_lt (blk_lt (g := gb375) (o := .cells #[.int .i64 0, .int .i64 0, .string (⟨#[]⟩ : ByteArray), .slice none 0 0] 49 (0, 0)) (by (with_reducible repeat (first | refine blk_drewN ?_ _ | refine blk_drew ?_ | refine blk_alloc ?_ _)); exact BK375.out)) : gb375 ≠ gb384)); have n7_ := Aside0.mk ((by rw [hg]; exact Nat.ne_of_gt (blk_lt (g := gb375) (o := .cells #[.int .i64 0, .int .i64 0, .string (⟨#[]⟩ : ByteArray), .slice none 0 0] 49 (0, 0)) (by (with_reducible repeat (first | refine blk_drewN ?_ _ | refine blk_drew ?_ | refine blk_alloc ?_ _)); exact BK375.out)) : gb384 ≠ gb375)); clear HO381; clear BK375; clear HB; have HO381 := n0_; have BK375 := n1_; have HB := n2_; have BK384 := n3_; have GW384 := n4_; have GE384 := n5_; have NB375_384 := n6_; have NB384_375 := n7_; clear n0_ n1_ n2_ n3_ n4_ n5_ n6_ n7_; clear hb hbox hg; have hnb15 := NB384_375.out; have hnc15 := NB375_384.out; have hcz16_0 : w14.cell? ⟨gb384, 0, none⟩ = some (.int .i64 0) := (blk_cell BK384.out 0).trans rfl; have hcz16_1 : w14.cell? ⟨gb384, 1, none⟩ = some (.int .i64 0) := (blk_cell BK384.out 1).trans rfl; have hcz16_2 : w14.cell? ⟨gb384, 2, none⟩ = some (.string (⟨#[]⟩ : ByteArray)) := (blk_cell BK384.out 2).trans rfl; have hcz16_3 : w14.cell? ⟨gb384, 3, none⟩ = some (.slice none 0 0) := (blk_cell BK384.out 3).trans rfl; have hfz16_0 := blk_frozen BK384.out 0; have hfz16_1 := blk_frozen BK384.out 1; have hfz16_2 := blk_frozen BK384.out 2; have hfz16_3 := blk_frozen BK384.out 3; obtain ⟨Ao17, co17, eo17⟩ := Kd.R_slice HO381.out; subst eo17; have hcz18_0 : w14.cell? ⟨gb375, 0, none⟩ = some (.int .i64 0) := (blk_cell BK375.out 0).trans rfl; have hcz18_1 : w14.cell? ⟨gb375, 1, none⟩ = some (.int .i64 0) := (blk_cell BK375.out 1).trans rfl; have hcz18_2 : w14.cell? ⟨gb375, 2, none⟩ = some (.string (⟨#[]⟩ : ByteArray)) := (blk_cell BK375.out 2).trans rfl; have hcz18_3 : w14.cell? ⟨gb375, 3, none⟩ = some (.slice none 0 0) := (blk_cell BK375.out 3).trans rfl; have hfz18_0 := blk_frozen BK375.out 0; have hfz18_1 := blk_frozen BK375.out 1; have hfz18_2 := blk_frozen BK375.out 2; have hfz18_3 := blk_frozen BK375.out 3))
   refine bodyPost_ret (results_ct rfl _ _ gb375 49 #[.int .i64 t376, .int .i64 t377, .string t378, .slice Ao17 t379.length co17] (0, 0) _ rfl (by (with_reducible repeat (first | refine blk_drewN ?_ _ | refine blk_drew ?_ | refine blk_alloc ?_ _)); refine blk_put (cs := #[.int .i64 t376, .int .i64 t377, .string t378, .slice none 0 0]) ?_ 3 _ rfl; (with_reducible repeat (first | refine blk_drewN ?_ _ | refine blk_drew ?_ | refine blk_alloc ?_ _)); refine blk_put (cs := #[.int .i64 t376, .int .i64 t377, .string (⟨#[]⟩ : ByteArray), .slice none 0 0]) ?_ 2 _ rfl; (with_reducible repeat (first | refine blk_drewN ?_ _ | refine blk_drew ?_ | refine blk_alloc ?_ _)); refine blk_put (cs := #[.int .i64 t376, .int .i64 0, .string (⟨#[]⟩ : ByteArray), .slice none 0 0]) ?_ 1 _ rfl; (with_reducible repeat (first | refine blk_drewN ?_ _ | refine blk_drew ?_ | refine blk_alloc ?_ _)); refine blk_put (cs := #[.int .i64 0, .int .i64 0, .string (⟨#[]⟩ : ByteArray), .slice none 0 0]) ?_ 0 _ rfl; (with_reducible repeat (first | refine blk_drewN ?_ _ | refine blk_drew ?_ | refine blk_alloc ?_ _)); refine blk_far ?_ NB375_384.out _; (with_reducible repeat (first | refine blk_drewN ?_ _ | refine blk_drew ?_ | refine blk_alloc ?_ _)); refine blk_far ?_ NB375_384.out _; (with_reducible repeat (first | refine blk_drewN ?_ _ | refine blk_drew ?_ | refine blk_alloc ?_ _)); refine blk_far ?_ NB375_384.out _; (with_reducible repeat (first | refine blk_drewN ?_ _ | refine blk_drew ?_ | refine blk_alloc ?_ _)); refine blk_far ?_ NB375_384.out _; (with_reducible repeat (first | refine blk_drewN ?_ _ | refine blk_drew ?_ | refine blk_alloc ?_ _)); exact BK375.out) Tryd.underlying49 rfl (by kernel_rfl)) rfl ?_
   exact ⟨_, by first | rfl | (simp [errW_none, errW_some] <;> rfl) | (simp [*, errW_none, errW_some] <;> rfl), by (with_reducible repeat (first | apply Kd.R_alloc | apply Kd.R_drewN | apply Kd.R_drew)); exact Kd.R_mono (Kd.R_far (p := ⟨gb375, 3, none⟩) (Kd.R_far (p := ⟨gb375, 2, none⟩) (Kd.R_far (p := ⟨gb375, 1, none⟩) (Kd.R_far (p := ⟨gb375, 0, none⟩) (Kd.R_far (p := ⟨gb384, 3, none⟩) (Kd.R_far (p := ⟨gb384, 2, none⟩) (Kd.R_far (p := ⟨gb384, 1, none⟩) (Kd.R_far (p := ⟨gb384, 0, none⟩) (Kd.R_mono (Kd.R_mono HO381.out (fun k_ hk => (⟨hk, hk.2⟩ : _ ∧ k_ ≠ gb384))) (fun k_ hk => (⟨hk, hk.1.1.2⟩ : _ ∧ k_ ≠ gb375))) (fun _ hk => hk.1.2) (.int .i64 t376)) (fun _ hk => hk.1.2) (.int .i64 t377)) (fun _ hk => hk.1.2) (.string t378)) (fun _ hk => hk.1.2) (.slice Ao17 t379.length co17)) (fun _ hk => hk.2) (.int .i64 t376)) (fun _ hk => hk.2) (.int .i64 t377)) (fun _ hk => hk.2) (.string t378)) (fun _ hk => hk.2) (.slice Ao17 t379.length co17)) (fun _ hk => trivial), by repeat (first | (with_reducible first | exact HB.out | apply below_alloc | apply pw_below_drewN | apply below_drew1 | refine below_set ?_ GE375.out | refine below_set ?_ GE384.out) | exact HB.out)⟩
 ·
  rw [if_neg c3] at H
  have c3b0 : (t383 == 0) = false := beq_eq_false_iff_ne.mpr c3
  have c3b1 : (t383 != 0) = true := bne_iff_ne.mpr c3
  simp only [Option.some.injEq, Prod.mk.injEq] at H
  obtain ⟨rfl, rfl, rfl, rfl, rfl⟩ := H
  go_enter Tryd.func31, Tryd.ntmps31
  go_wp2_with (first | ((with_reducible refine gate_dst (N := 2) rfl ?_); refine box_event ?hg (N := 2) ?hd (cs := #[.int .i64 0, .int .i64 0, .string (⟨#[]⟩ : ByteArray), .slice none 0 0]) (t := 49) ?hr ?_; (case hd => rfl); (case hg => rfl); (case hr => first | (go_simp; done) | (go_simp; rfl)); intro gb375 hg w19 hbox hb; have n0_ := Aside0.mk (below_step (by repeat (first | (with_reducible first | exact HB.out | apply below_alloc | apply pw_below_drewN | apply below_drew1) | exact HB.out)) hb); have n1_ := Aside0.mk (hbox); have n2_ := Aside0.mk ((by rw [hg]; exact (below_size (by repeat (first | (with_reducible first | exact HB.out | apply below_alloc | apply pw_below_drewN | apply below_drew1) | exact HB.out))) : w.heap.size ≤ gb375)); have n3_ := Aside0.mk ((by rw [hg]; exact (below_size (by repeat (first | (with_reducible first | exact HB.out | apply below_alloc | apply pw_below_drewN | apply below_drew1) | exact HB.out))) : w.heap.size ≤ gb375)); clear HB; have HB := n0_; have BK375 := n1_; have GW375 := n2_; have GE375 := n3_; clear n0_ n1_ n2_ n3_; clear hb hbox hg) | ((with_reducible refine gate_callee (f := 51) rfl ?_); refine goesL_ (some 9) rfl rfl Tryd.func51 (by kernel_rfl) rfl #[.string a0] rfl (by (try simp only [List.map_toArray, List.map_cons, List.map_nil]); first | done | rfl | (simp only [List.length_drop, List.length_take]; rfl)) ?_; (with_reducible refine (benc_Take.calls a0 t376 t377 t378 t379 t382 t383 _ (LaidW.below hL (by repeat (first | (with_reducible first | exact HB.out | apply below_alloc | apply pw_below_drewN | apply below_drew1 | refine below_set ?_ GE375.out) | exact HB.out))) A2.out).mono ?_); rintro e w20 ⟨v380, rfl, ho0, hb⟩; refine ⟨_, rfl, ?_⟩; have n0_ := Aside0.mk (Kd.R_lower (Kd.R_newB ho0 (g := gb375) (o := .cells #[.int .i64 0, .int .i64 0, .string (⟨#[]⟩ : ByteArray), .slice none 0 0] 49 (0, 0)) (by (with_reducible repeat (first | refine blk_drewN ?_ _ | refine blk_drew ?_ | refine blk_alloc ?_ _)); exact BK375.out)) (below_size (by repeat (first | (with_reducible first | exact HB.out | apply below_alloc | apply pw_below_drewN | apply below_drew1 | refine below_set ?_ GE375.out) | exact HB.out)))); have n1_ := Aside0.mk (blk_below (g := gb375) (o := .cells #[.int .i64 0, .int .i64 0, .string (⟨#[]⟩ : ByteArray), .slice none 0 0] 49 (0, 0)) (by (with_reducible repeat (first | refine blk_drewN ?_ _ | refine blk_drew ?_ | refine blk_alloc ?_ _)); exact BK375.out) hb); have n2_ := Aside0.mk (below_step (by repeat (first | (with_reducible first | exact HB.out | apply below_alloc | apply pw_below_drewN | apply below_drew1 | refine below_set ?_ GE375.out) | exact HB.out)) hb); clear BK375; clear HB; have HO381 := n0_; have BK375 := n1_; have HB := n2_; clear n0_ n1_ n2_; (try clear hb); (try clear hb2); (try clear hk); (try clear hi); (try clear ho0)) | ((with_reducible refine gate_dst (N := 4) rfl ?_); refine box_event ?hg (N := 4) ?hd (cs := #[.int .i64 0, .int .i64 0, .string (⟨#[]⟩ : ByteArray), .slice none 0 0]) (t := 49) ?hr ?_; (case hd => rfl); (case hg => rfl); (case hr => first | (go_simp; done) | (go_simp; rfl)); intro gb384 hg w21 hbox hb; have n0_ := Aside0.mk (Kd.R_below (Kd.R_elderB (by (with_reducible repeat (first | apply Kd.R_alloc | apply Kd.R_drewN | apply Kd.R_drew)); exact HO381.out) gb384 (Nat.le_of_eq hg.symm)) hb); have n1_ := Aside0.mk (blk_below (g := gb375) (o := .cells #[.int .i64 0, .int .i64 0, .string (⟨#[]⟩ : ByteArray), .slice none 0 0] 49 (0, 0)) (by (with_reducible repeat (first | refine blk_drewN ?_ _ | refine blk_drew ?_ | refine blk_alloc ?_ _)); exact BK375.out) hb); have n2_ := Aside0.mk (below_step (by repeat (first | (with_reducible first | exact HB.out | apply below_alloc | apply pw_below_drewN | apply below_drew1 | refine below_set ?_ GE375.out) | exact HB.out)) hb); have n3_ := Aside0.mk (hbox); have n4_ := Aside0.mk ((by rw [hg]; exact (below_size (by repeat (first | (with_reducible first | exact HB.out | apply below_alloc | apply pw_below_drewN | apply below_drew1 | refine below_set ?_ GE375.out) | exact HB.out))) : w.heap.size ≤ gb384)); have n5_ := Aside0.mk ((by rw [hg]; exact (below_size (by repeat (first | (with_reducible first | exact HB.out | apply below_alloc | apply pw_below_drewN | apply below_drew1 | refine below_set ?_ GE375.out) | exact HB.out))) : w.heap.size ≤ gb384)); have n6_ := Aside0.mk ((by rw [hg]; exact Nat.ne_of_lt (blk_lt (g := gb375) (o := .cells #[.int .i64 0, .int .i64 0, .string (⟨#[]⟩ : ByteArray), .slice none 0 0] 49 (0, 0)) (by (with_reducible repeat (first | refine blk_drewN ?_ _ | refine blk_drew ?_ | refine blk_alloc ?_ _)); exact BK375.out)) : gb375 ≠ gb384)); have n7_ := Aside0.mk ((by rw [hg]; exact Nat.ne_of_gt (blk_lt (g := gb375) (o := .cells #[.int .i64 0, .int .i64 0, .string (⟨#[]⟩ : ByteArray), .slice none 0 0] 49 (0, 0)) (by (with_reducible repeat (first | refine blk_drewN ?_ _ | refine blk_drew ?_ | refine blk_alloc ?_ _)); exact BK375.out)) : gb384 ≠ gb375)); clear HO381; clear BK375; clear HB; have HO381 := n0_; have BK375 := n1_; have HB := n2_; have BK384 := n3_; have GW384 := n4_; have GE384 := n5_; have NB375_384 := n6_; have NB384_375 := n7_; clear n0_ n1_ n2_ n3_ n4_ n5_ n6_ n7_; clear hb hbox hg; have hnb22 := NB384_375.out; have hnc22 := NB375_384.out; have hcz23_0 : w21.cell? ⟨gb384, 0, none⟩ = some (.int .i64 0) := (blk_cell BK384.out 0).trans rfl; have hcz23_1 : w21.cell? ⟨gb384, 1, none⟩ = some (.int .i64 0) := (blk_cell BK384.out 1).trans rfl; have hcz23_2 : w21.cell? ⟨gb384, 2, none⟩ = some (.string (⟨#[]⟩ : ByteArray)) := (blk_cell BK384.out 2).trans rfl; have hcz23_3 : w21.cell? ⟨gb384, 3, none⟩ = some (.slice none 0 0) := (blk_cell BK384.out 3).trans rfl; have hfz23_0 := blk_frozen BK384.out 0; have hfz23_1 := blk_frozen BK384.out 1; have hfz23_2 := blk_frozen BK384.out 2; have hfz23_3 := blk_frozen BK384.out 3; obtain ⟨Ao24, co24, eo24⟩ := Kd.R_slice HO381.out; subst eo24; have hcz25_0 : w21.cell? ⟨gb375, 0, none⟩ = some (.int .i64 0) := (blk_cell BK375.out 0).trans rfl; have hcz25_1 : w21.cell? ⟨gb375, 1, none⟩ = some (.int .i64 0) := (blk_cell BK375.out 1).trans rfl; have hcz25_2 : w21.cell? ⟨gb375, 2, none⟩ = some (.string (⟨#[]⟩ : ByteArray)) := (blk_cell BK375.out 2).trans rfl; have hcz25_3 : w21.cell? ⟨gb375, 3, none⟩ = some (.slice none 0 0) := (blk_cell BK375.out 3).trans rfl; have hfz25_0 := blk_frozen BK375.out 0; have hfz25_1 := blk_frozen BK375.out 1; have hfz25_2 := blk_frozen BK375.out 2; have hfz25_3 := blk_frozen BK375.out 3))
  refine bodyPost_ret (results_ct rfl _ _ gb375 49 #[.int .i64 0, .int .i64 0, .string (⟨#[]⟩ : ByteArray), .slice none 0 0] (0, 0) _ rfl (by (with_reducible repeat (first | refine blk_drewN ?_ _ | refine blk_drew ?_ | refine blk_alloc ?_ _)); refine blk_put (cs := #[.int .i64 0, .int .i64 0, .string (⟨#[]⟩ : ByteArray), .slice none 0 0]) ?_ 3 _ rfl; (with_reducible repeat (first | refine blk_drewN ?_ _ | refine blk_drew ?_ | refine blk_alloc ?_ _)); refine blk_put (cs := #[.int .i64 0, .int .i64 0, .string (⟨#[]⟩ : ByteArray), .slice none 0 0]) ?_ 2 _ rfl; (with_reducible repeat (first | refine blk_drewN ?_ _ | refine blk_drew ?_ | refine blk_alloc ?_ _)); refine blk_put (cs := #[.int .i64 0, .int .i64 0, .string (⟨#[]⟩ : ByteArray), .slice none 0 0]) ?_ 1 _ rfl; (with_reducible repeat (first | refine blk_drewN ?_ _ | refine blk_drew ?_ | refine blk_alloc ?_ _)); refine blk_put (cs := #[.int .i64 0, .int .i64 0, .string (⟨#[]⟩ : ByteArray), .slice none 0 0]) ?_ 0 _ rfl; (with_reducible repeat (first | refine blk_drewN ?_ _ | refine blk_drew ?_ | refine blk_alloc ?_ _)); refine blk_far ?_ NB375_384.out _; (with_reducible repeat (first | refine blk_drewN ?_ _ | refine blk_drew ?_ | refine blk_alloc ?_ _)); refine blk_far ?_ NB375_384.out _; (with_reducible repeat (first | refine blk_drewN ?_ _ | refine blk_drew ?_ | refine blk_alloc ?_ _)); refine blk_far ?_ NB375_384.out _; (with_reducible repeat (first | refine blk_drewN ?_ _ | refine blk_drew ?_ | refine blk_alloc ?_ _)); refine blk_far ?_ NB375_384.out _; (with_reducible repeat (first | refine blk_drewN ?_ _ | refine blk_drew ?_ | refine blk_alloc ?_ _)); exact BK375.out) Tryd.underlying49 rfl (by kernel_rfl)) rfl ?_
  exact ⟨_, by first | rfl | (simp [errW_none, errW_some] <;> rfl) | (simp [*, errW_none, errW_some] <;> rfl), by first | exact Kd.R_nil _ _ _ _ _ | exact Kd.N_nil _ _ _ _ _ | exact Kd.V_nil _ _ _ _ _ | exact Kd.Q_nil _ _ _ _ _ | exact Kd.S_nil _ _ _ _ _, by repeat (first | (with_reducible first | exact HB.out | apply below_alloc | apply pw_below_drewN | apply below_drew1 | refine below_set ?_ GE375.out | refine below_set ?_ GE384.out) | exact HB.out)⟩
end Go.Proofs.YtlggihnkhimfkaaDoor.P
namespace Go.Proofs.YtlggihnkhimfkaaDoor.Pure
open Go.RowKit Go.Lib Go.Proofs.YtlggihnkhimfkaaDoor.Giv Go.Proofs.YtlggihnkhimfkaaDoor.P Go.Proofs.YtlggihnkhimfkaaDoorW.PrintWords Go.Proofs.YtlggihnkhimfkaaDoorW.PrintLast Go.Proofs.YtlggihnkhimfkaaDoorW.PrintMore
set_option linter.unusedVariables false
set_option linter.unusedSimpArgs false
theorem kinds_ev (n : Nat) : ∀ (v : V), wt v ≤ n → n ≤ 4611686018427387904 → Ev (fun k => ploverref02_kinds.f k v.f0 v.f1 v.f2 v.f3) (kin v) := by
 induction n with
 | zero => intro v h; have := wt_eq v; omega
 | succ n ih =>
  intro v hw hb
  have hz := wt_eq v
  have hll := wts_len v.f3
  have stop : v.f0 ≠ 3 → Ev (fun k => ploverref02_kinds.l0 k ((0 : Nat) : Int) v.f0 v.f1 v.f2 v.f3) true := by
   intro h3
   refine Ev.step (f := fun k => ploverref02_kinds.j2 k ((0 : Nat) : Int) false v.f0 v.f1 v.f2 v.f3) (fun k => ?_) (Ev.step (f := fun _ => some true) (fun k => ?_) (Ev.now _))
   ·
    simp only [ploverref02_kinds.l0]; rw [if_neg h3]
   ·
    simp only [ploverref02_kinds.j2]; rfl
  have loop : v.f0 = 3 → ∀ (d i : Nat), v.f3.length - i ≤ d → i ≤ v.f3.length → Ev (fun k => ploverref02_kinds.l0 k (i : Int) v.f0 v.f1 v.f2 v.f3) (kins (v.f3.drop i)) := by
   intro h3 d
   induction d with
   | zero =>
    intro i h1 h2
    rw [List.drop_of_length_le (by omega), kins_nil]
    refine Ev.step (f := fun k => ploverref02_kinds.j2 k (i : Int) false v.f0 v.f1 v.f2 v.f3) (fun k => ?_) (Ev.step (f := fun _ => some true) (fun k => ?_) (Ev.now _))
    ·
     simp only [ploverref02_kinds.l0]; rw [if_pos h3, decide_eq_false (by omega)]
    ·
     simp only [ploverref02_kinds.j2]; rfl
   | succ d ihd =>
    intro i h1 h2
    by_cases hlt : i < v.f3.length
    ·
     have hmem : v.f3[i] ∈ v.f3 := List.getElem_mem hlt
     have hx := ih v.f3[i] (by have := wt_mem hmem; omega) (by omega)
     have hn := ihd (i + 1) (by omega) (by omega)
     rw [List.drop_eq_getElem_cons hlt, kins_cons]
     refine Ev.step (f := fun k => ploverref02_kinds.j2 k (i : Int) true v.f0 v.f1 v.f2 v.f3) (fun k => ?_) (Ev.step (f := fun k => (ploverref02_kinds.f k v.f3[i].f0 v.f3[i].f1 v.f3[i].f2 v.f3[i].f3).bind fun q => if q = true then ploverref02_kinds.l0 k ((i + 1 : Nat) : Int) v.f0 v.f1 v.f2 v.f3 else some false) (fun k => ?_) (Ev.bind hx ?_))
     ·
      simp only [ploverref02_kinds.l0]; rw [if_pos h3, decide_eq_true (by omega)]
     ·
      simp only [ploverref02_kinds.j2]
      rw [if_pos trivial, if_pos (by omega), if_pos (by omega), rd_at _ _ hlt, w64 (n := (i : Int) + 1) (by omega) (by omega)]
      rfl
     ·
      cases kin v.f3[i] with
      | true => rw [Bool.true_and]; exact Ev.congr (fun k => if_pos rfl) hn
      | false => rw [Bool.false_and]; exact Ev.congr (fun k => if_neg (by decide)) (Ev.now _)
    ·
     rw [List.drop_of_length_le (by omega), kins_nil]
     refine Ev.step (f := fun k => ploverref02_kinds.j2 k (i : Int) false v.f0 v.f1 v.f2 v.f3) (fun k => ?_) (Ev.step (f := fun _ => some true) (fun k => ?_) (Ev.now _))
     ·
      simp only [ploverref02_kinds.l0]; rw [if_pos h3, decide_eq_false (by omega)]
     ·
      simp only [ploverref02_kinds.j2]; rfl
  rw [kin_eq]
  have go : ∀ x r, Ev (fun k => ploverref02_kinds.j0 k x v.f0 v.f1 v.f2 v.f3) r → (v.f0 < 1 ∧ x = true ∨ ¬ v.f0 < 1 ∧ x = decide (v.f0 > 3)) → Ev (fun k => ploverref02_kinds.f k v.f0 v.f1 v.f2 v.f3) r := by
   intro x r h hx
   refine Ev.step (fun k => ?_) h
   simp only [ploverref02_kinds.f]
   rcases hx with ⟨h1, rfl⟩ | ⟨h1, rfl⟩
   ·
    rw [if_pos h1]
   ·
    rw [if_neg h1]
  have yes : ∀ r, Ev (fun k => ploverref02_kinds.l0 k ((0 : Nat) : Int) v.f0 v.f1 v.f2 v.f3) r → Ev (fun k => ploverref02_kinds.j0 k false v.f0 v.f1 v.f2 v.f3) r := fun r h => by
   refine Ev.step (fun k => ?_) h
   simp only [ploverref02_kinds.j0]
   rfl
  by_cases c1 : v.f0 = 1
  ·
   rw [if_pos c1]
   exact go false true (yes _ (stop (by omega))) (.inr ⟨by omega, (decide_eq_false (by omega)).symm⟩)
  ·
   rw [if_neg c1]
   by_cases c2 : v.f0 = 2
   ·
    rw [if_pos c2]
    exact go false true (yes _ (stop (by omega))) (.inr ⟨by omega, (decide_eq_false (by omega)).symm⟩)
   ·
    rw [if_neg c2]
    by_cases c3 : v.f0 = 3
    ·
     rw [if_pos c3]
     have := loop c3 v.f3.length 0 (by omega) (by omega)
     rw [List.drop_zero] at this
     exact go false _ (yes _ this) (.inr ⟨by omega, (decide_eq_false (by omega)).symm⟩)
    ·
     rw [if_neg c3]
     refine go true false (Ev.step (f := fun _ => some false) (fun k => ?_) (Ev.now _)) ?_
     ·
      simp only [ploverref02_kinds.j0]; rfl
     ·
      by_cases h : v.f0 < 1
      ·
       exact .inl ⟨h, rfl⟩
      ·
       exact .inr ⟨h, (decide_eq_true (by omega)).symm⟩
theorem deep_ev (n : Nat) : ∀ (v : V), wt v ≤ n → n ≤ 4611686018427387904 → Ev (fun k => ploverref02_deep.f k v.f0 v.f1 v.f2 v.f3) (dep v : Int) := by
 induction n with
 | zero => intro v h; have := wt_eq v; omega
 | succ n ih =>
  intro v hw hb
  have hz := wt_eq v
  have hll := wts_len v.f3
  have hdw := deps_wts v.f3
  rw [dep_eq]
  by_cases c3 : v.f0 = 3
  ·
   rw [if_pos c3]
   have loop : ∀ (d i m : Nat), v.f3.length - i ≤ d → i ≤ v.f3.length → m ≤ deps v.f3 → max m (deps (v.f3.drop i)) = deps v.f3 → Ev (fun k => ploverref02_deep.l0 k (m : Int) (i : Int) v.f0 v.f1 v.f2 v.f3) ((deps v.f3 + 1 : Nat) : Int) := by
    intro d
    induction d with
    | zero =>
     intro i m h1 h2 h3 h4
     rw [List.drop_of_length_le (by omega), deps_nil] at h4
     refine Ev.step (f := fun _ => some ((deps v.f3 + 1 : Nat) : Int)) (fun k => ?_) (Ev.now _)
     simp only [ploverref02_deep.l0]
     rw [if_neg (by omega), w64 (by omega) (by omega)]
     congr 1
     omega
    | succ d ihd =>
     intro i m h1 h2 h3 h4
     by_cases hlt : i < v.f3.length
     ·
      have hmem : v.f3[i] ∈ v.f3 := List.getElem_mem hlt
      have hx := ih v.f3[i] (by have := wt_mem hmem; omega) (by omega)
      rw [List.drop_eq_getElem_cons hlt, deps_cons] at h4
      have hn := ihd (i + 1) (max m (dep v.f3[i])) (by omega) (by omega) (by omega) (by omega)
      refine Ev.step (f := fun k => (ploverref02_deep.f k v.f3[i].f0 v.f3[i].f1 v.f3[i].f2 v.f3[i].f3).bind fun q => ploverref02_deep.l0 k (mx (m : Int) q) ((i + 1 : Nat) : Int) v.f0 v.f1 v.f2 v.f3) (fun k => ?_) (Ev.bind hx ?_)
      ·
       simp only [ploverref02_deep.l0]
       rw [if_pos (by omega), if_pos (by omega), rd_at _ _ hlt, w64 (n := (i : Int) + 1) (by omega) (by omega)]
       rfl
      ·
       have e : mx (m : Int) (dep v.f3[i] : Int) = ((max m (dep v.f3[i]) : Nat) : Int) := by unfold mx; split <;> omega
       rw [e]
       exact hn
     ·
      rw [List.drop_of_length_le (by omega), deps_nil] at h4
      refine Ev.step (f := fun _ => some ((deps v.f3 + 1 : Nat) : Int)) (fun k => ?_) (Ev.now _)
      simp only [ploverref02_deep.l0]
      rw [if_neg (by omega), w64 (by omega) (by omega)]
      congr 1
      omega
   refine Ev.step (f := fun k => ploverref02_deep.l0 k ((0 : Nat) : Int) ((0 : Nat) : Int) v.f0 v.f1 v.f2 v.f3) (fun k => ?_) (loop v.f3.length 0 0 (by omega) (by omega) (by omega) (by rw [List.drop_zero]; omega))
   simp only [ploverref02_deep.f]
   rw [if_pos c3]
   rfl
  ·
   rw [if_neg c3]
   refine Ev.step (f := fun _ => some 0) (fun k => ?_) (Ev.now _)
   simp only [ploverref02_deep.f]
   rw [if_neg c3]
def nm (l : List UInt8) : List Int := l.map fun c => (c.toNat : Int)
theorem nm_app (a b : List UInt8) : nm (a ++ b) = nm a ++ nm b := by simp [nm]
theorem nm_len (a : List UInt8) : (nm a).length = a.length := by simp [nm]
theorem str_nm (l : List UInt8) : strOfNums (nm l) = ⟨l.toArray⟩ := by
  unfold strOfNums nm
  rw [List.map_map]
  congr 1
  congr 1
  have : (fun n : Int => UInt8.ofNat n.toNat) ∘ (fun c : UInt8 => (c.toNat : Int)) = id := by
    funext c
    simp
  rw [this, List.map_id]
theorem bytesOf_nm (s : ByteArray) : bytesOf s = nm s.data.toList := rfl
theorem digit_byte {d : Nat} (h : d < 10) : ((UInt8.ofNat (48 + d)).toNat : Int) = 48 + (d : Int) := by rw [digit_of h]; omega
theorem rev_ev (low : List UInt8) (hl : low.length ≤ 1000) : ∀ (d i : Nat), i ≤ d → i ≤ low.length → ∀ out : List UInt8, out.length + i ≤ 1000 → Ev (fun k => ploverref02_digits.l1 k (nm low) (nm out) ((i : Int) - 1)) (⟨(out ++ (low.take i).reverse).toArray⟩ : ByteArray) := by
 intro d
 induction d with
 | zero =>
  intro i h1 h2 out h3
  obtain rfl : i = 0 := by omega
  refine Ev.step (f := fun _ => some (strOfNums (nm out))) (fun k => ?_) ?_
  ·
   simp only [ploverref02_digits.l1]; rw [if_neg (by omega)]
  ·
   rw [str_nm]; simp; exact Ev.now _
 | succ d ih =>
  intro i h1 h2 out h3
  cases i with
  | zero =>
   refine Ev.step (f := fun _ => some (strOfNums (nm out))) (fun k => ?_) ?_
   ·
    simp only [ploverref02_digits.l1]; rw [if_neg (by omega)]
   ·
    rw [str_nm]; simp; exact Ev.now _
  | succ i =>
   have hlt : i < low.length := by omega
   have hr : rd (nm low) (((i + 1 : Nat) : Int) - 1) = (low[i].toNat : Int) := by
    unfold rd nm
    rw [show (((i + 1 : Nat) : Int) - 1).toNat = i by omega, List.getD_eq_getElem?_getD, List.getElem?_map, List.getElem?_eq_getElem hlt]
    rfl
   have e : nm out ++ [(low[i].toNat : Int)] = nm (out ++ [low[i]]) := by rw [nm_app]; rfl
   refine Ev.step (f := fun k => ploverref02_digits.l1 k (nm low) (nm (out ++ [low[i]])) ((i : Int) - 1)) (fun k => ?_) ?_
   ·
    simp only [ploverref02_digits.l1]
    rw [if_pos (by omega), if_pos (by omega), if_pos (by rw [nm_len]; omega), if_pos (by rw [nm_len]; omega), hr, e, w64 (by omega) (by omega), show ((i + 1 : Nat) : Int) - 1 - 1 = (i : Int) - 1 by omega]
   ·
    have := ih i (by omega) (by omega) (out ++ [low[i]]) (by simp; omega)
    refine Ev.to this ?_
    have e2 : low.take (i + 1) = low.take i ++ [low[i]] := List.take_succ_eq_append_getElem hlt
    rw [e2, List.reverse_append, List.append_assoc]
    rfl
theorem fin_ev (low : List UInt8) (hl : low.length ≤ 1000) : Ev (fun k => ploverref02_digits.j1 k (nm low)) (⟨low.reverse.toArray⟩ : ByteArray) := by
  refine Ev.step (f := fun k => ploverref02_digits.l1 k (nm low) (nm []) ((low.length : Int) - 1)) (fun k => ?_) ?_
  · simp only [ploverref02_digits.j1]
    rw [nm_len, w64 (by omega) (by omega)]
    rfl
  · have := rev_ev low hl low.length low.length (Nat.le_refl _) (Nat.le_refl _) [] (by simpa using hl)
    rw [List.take_length, List.nil_append] at this
    exact this
theorem low_ev (x : Int) : ∀ (f : Nat) (u : Nat) (neg : Bool) (low : List UInt8), u ≤ 9223372036854775808 → (neg = false → u ≤ 9223372036854775807) → (x < 0 ↔ neg = true) → u < 10 ^ f → low.length + f ≤ 500 →
  Ev (fun k => ploverref02_digits.l0 k x (nm low) (sgn neg u)) (⟨((low ++ (if u = 0 then [] else (decDigits u).reverse) ++ (if neg = true then [45] else []) : List UInt8).reverse).toArray⟩ : ByteArray) := by
 intro f
 induction f with
 | zero =>
  intro u neg low h1 h1' h2 h3 h4
  have hu : u = 0 := by simpa using h3
  subst hu
  have hs : sgn neg 0 = 0 := by unfold sgn; split <;> rfl
  rw [hs, if_pos rfl, List.append_nil]
  by_cases hn : neg = true
  ·
   rw [if_pos hn]
   refine Ev.step (f := fun k => ploverref02_digits.j1 k (nm (low ++ [45]))) (fun k => ?_) (fin_ev _ (by simp; omega))
   simp only [ploverref02_digits.l0]
   rw [if_pos trivial, if_pos (h2.2 hn), if_pos (by rw [nm_len]; omega), nm_app]
   rfl
  ·
   rw [if_neg hn, List.append_nil]
   refine Ev.step (f := fun k => ploverref02_digits.j1 k (nm low)) (fun k => ?_) (fin_ev _ (by omega))
   simp only [ploverref02_digits.l0]
   rw [if_pos trivial, if_neg (fun h => hn (h2.1 h))]
 | succ f ih =>
  intro u neg low h1 h1' h2 h3 h4
  by_cases hu : u = 0
  ·
   subst hu
   have hs : sgn neg 0 = 0 := by unfold sgn; split <;> rfl
   rw [hs, if_pos rfl, List.append_nil]
   by_cases hn : neg = true
   ·
    rw [if_pos hn]
    refine Ev.step (f := fun k => ploverref02_digits.j1 k (nm (low ++ [45]))) (fun k => ?_) (fin_ev _ (by simp; omega))
    simp only [ploverref02_digits.l0]
    rw [if_pos trivial, if_pos (h2.2 hn), if_pos (by rw [nm_len]; omega), nm_app]
    rfl
   ·
    rw [if_neg hn, List.append_nil]
    refine Ev.step (f := fun k => ploverref02_digits.j1 k (nm low)) (fun k => ?_) (fin_ev _ (by omega))
    simp only [ploverref02_digits.l0]
    rw [if_pos trivial, if_neg (fun h => hn (h2.1 h))]
  ·
   have hd := ih (u / 10) neg (low ++ [UInt8.ofNat (48 + u % 10)]) (by omega) (fun h => by have := h1' h; omega) h2 (by rw [Nat.pow_succ] at h3; omega) (by simp; omega)
   have hb : nm (low ++ [UInt8.ofNat (48 + u % 10)]) = nm low ++ [48 + ((u % 10 : Nat) : Int)] := by
    rw [nm_app]
    congr 1
    show [((UInt8.ofNat (48 + u % 10)).toNat : Int)] = _
    rw [digit_byte (by omega)]
   have hdd : (if u = 0 then [] else (decDigits u).reverse) = [UInt8.ofNat (48 + u % 10)] ++ (if u / 10 = 0 then [] else (decDigits (u / 10)).reverse) := by
    rw [if_neg hu]
    by_cases hs : u < 10
    ·
     rw [dd_small hs, if_pos (by omega), show u % 10 = u by omega]; rfl
    ·
     rw [dd_big hs, if_neg (by omega), List.reverse_append]; rfl
   rw [hdd]
   refine Ev.step (f := fun k => ploverref02_digits.l0 k x (nm (low ++ [UInt8.ofNat (48 + u % 10)])) (sgn neg (u / 10))) (fun k => ?_) (Ev.to hd (by simp))
   rw [hb]
   simp only [ploverref02_digits.l0]
   have hne : ¬ sgn neg u = 0 := by unfold sgn; split <;> omega
   rw [if_neg hne]
   cases neg with
   | true =>
    have em : Int.tmod (sgn true u) 10 = -((u % 10 : Nat) : Int) := by unfold sgn; rw [if_pos rfl, Int.neg_tmod, Int.tmod_eq_emod_of_nonneg (by omega)]; omega
    have ed : Int.tdiv (sgn true u) 10 = sgn true (u / 10) := by unfold sgn; rw [if_pos rfl, if_pos rfl, Int.neg_tdiv, Int.tdiv_eq_ediv_of_nonneg (by omega)]; omega
    have eb : -9223372036854775808 ≤ sgn true (u / 10) ∧ sgn true (u / 10) ≤ 9223372036854775807 := by unfold sgn; rw [if_pos rfl]; omega
    rw [em, ed, w64 eb.1 eb.2]
    by_cases hz : u % 10 = 0
    ·
     have e0 : (wrap64 (48 + -((0 : Nat) : Int))) % 256 = 48 + ((0 : Nat) : Int) := by unfold wrap64; omega
     rw [if_neg (by omega), if_pos (by rw [nm_len]; omega), hz, e0]
    ·
     rw [if_pos (by omega), if_pos (by rw [nm_len]; omega), w64 (n := - -((u % 10 : Nat) : Int)) (by omega) (by omega), w64 (n := 48 + - -((u % 10 : Nat) : Int)) (by omega) (by omega), show (48 + - -((u % 10 : Nat) : Int)) % 256 = 48 + ((u % 10 : Nat) : Int) by omega]
   | false =>
    have em : Int.tmod (sgn false u) 10 = ((u % 10 : Nat) : Int) := by unfold sgn; rw [if_neg (by decide), Int.tmod_eq_emod_of_nonneg (by omega)]; omega
    have ed : Int.tdiv (sgn false u) 10 = sgn false (u / 10) := by unfold sgn; rw [if_neg (by decide), if_neg (by decide), Int.tdiv_eq_ediv_of_nonneg (by omega)]; omega
    have h1f := h1' rfl
    have eb : -9223372036854775808 ≤ sgn false (u / 10) ∧ sgn false (u / 10) ≤ 9223372036854775807 := by unfold sgn; rw [if_neg (by decide)]; omega
    rw [em, ed, w64 eb.1 eb.2, if_neg (by omega), if_pos (by rw [nm_len]; omega), w64 (n := 48 + ((u % 10 : Nat) : Int)) (by omega) (by omega), show (48 + ((u % 10 : Nat) : Int)) % 256 = 48 + ((u % 10 : Nat) : Int) by omega]
theorem digits_ev (n : Int) (h0 : -9223372036854775808 ≤ n) (h1 : n ≤ 9223372036854775807) : Ev (fun k => ploverref02_digits.f k n) (⟨(itoa n).toArray⟩ : ByteArray) := by
  unfold ploverref02_digits.f
  by_cases hz : n = 0
  · subst hz
    refine Ev.congr (fun k => if_pos rfl) ?_
    rw [itoa_pos (by decide)]
    rw [show (0 : Int).toNat = 0 from rfl, dd_small (by decide)]
    exact Ev.now _
  · refine Ev.congr (fun k => if_neg hz) ?_
    by_cases hn : n < 0
    · have := low_ev n 20 n.natAbs true [] (by omega) (fun h => by cases h) (by simp [hn]) (Nat.lt_of_le_of_lt (show n.natAbs ≤ 9223372036854775808 by omega) (by decide)) (by simp)
      have e : sgn true n.natAbs = n := by unfold sgn; rw [if_pos rfl]; omega
      rw [e] at this
      refine Ev.to this ?_
      rw [itoa_neg hn, if_neg (by omega), if_pos rfl]
      simp
    · have := low_ev n 20 n.toNat false [] (by omega) (fun _ => by omega) (by simp [hn]) (Nat.lt_of_le_of_lt (show n.toNat ≤ 9223372036854775807 by omega) (by decide)) (by simp)
      have e : sgn false n.toNat = n := by unfold sgn; rw [if_neg (by decide)]; omega
      rw [e] at this
      refine Ev.to this ?_
      rw [itoa_pos hn, if_neg (by omega), if_neg (by decide)]
      simp
theorem data_ext {a b : ByteArray} (h : a.data.toList = b.data.toList) : a = b := by
  cases a; cases b
  simp at h
  rw [h]
theorem ba_app (a b : List UInt8) : (⟨a.toArray⟩ : ByteArray) ++ ⟨b.toArray⟩ = ⟨(a ++ b).toArray⟩ := data_ext (by rw [Giv.data_app])
theorem bytes_ev (n : Nat) : ∀ (v : V), wt v ≤ n → n ≤ 1099511627776 → okV v = true → ∃ b : List UInt8, Ev (fun k => ploverref02_bytes.f k v.f0 v.f1 v.f2 v.f3) (⟨b.toArray⟩ : ByteArray) ∧ ((enc v).length ≤ 65536 → b = enc v) ∧ (65536 < (enc v).length → 65536 < b.length) ∧ b.length ≤ wt v := by
 induction n with
 | zero => intro v h; have := wt_eq v; omega
 | succ n ih =>
  intro v hw hb ho
  have hz := wt_eq v
  have hll := wts_len v.f3
  obtain ⟨o1, o2, o3⟩ := (okV_iff v).1 ho
  have hds := data_size v.f2
  rw [enc_eq]
  by_cases c1 : v.f0 = 1
  ·
   rw [if_pos c1]
   have hl := itoa_len o1 o2
   refine ⟨105 :: (itoa v.f1 ++ [101]), Ev.step (f := fun k => (ploverref02_digits.f k v.f1).bind fun t => if 1 + t.size ≤ 9223372036854775807 then (if ((⟨#[105]⟩ : ByteArray) ++ t).size + 1 ≤ 9223372036854775807 then some (((⟨#[105]⟩ : ByteArray) ++ t) ++ (⟨#[101]⟩ : ByteArray)) else none) else none) (fun k => ?_) (Ev.bind (digits_ev _ o1 o2) ?_), fun _ => rfl, fun h => h, by simp; omega⟩
   ·
    simp only [ploverref02_bytes.f]; rw [if_pos c1]
   ·
    have hsz : (⟨(itoa v.f1).toArray⟩ : ByteArray).size = (itoa v.f1).length := by show ((itoa v.f1).toArray).size = _; simp
    refine Ev.congr (fun k => ?_) (Ev.now _)
    rw [if_pos (by rw [hsz]; omega), if_pos (by rw [ByteArray.size_append, hsz]; show 1 + _ + 1 ≤ _; omega)]
    rw [show (⟨#[105]⟩ : ByteArray) = ⟨[105].toArray⟩ from rfl, show (⟨#[101]⟩ : ByteArray) = ⟨[101].toArray⟩ from rfl, ba_app, ba_app]
    rfl
  ·
   rw [if_neg c1]
   by_cases c2 : v.f0 = 2
   ·
    rw [if_pos c2]
    have hd := dd_any v.f2.size
    have hit : itoa (v.f2.size : Int) = decDigits v.f2.size := by rw [itoa_pos (by omega), Int.toNat_natCast]
    refine ⟨itoa (v.f2.size : Int) ++ (58 :: v.f2.data.toList), Ev.step (f := fun k => (ploverref02_digits.f k (v.f2.size : Int)).bind fun t => if t.size + 1 ≤ 9223372036854775807 then (if (t ++ (⟨#[58]⟩ : ByteArray)).size + v.f2.size ≤ 9223372036854775807 then some ((t ++ (⟨#[58]⟩ : ByteArray)) ++ v.f2) else none) else none) (fun k => ?_) (Ev.bind (digits_ev _ (by omega) (by omega)) ?_), fun _ => rfl, fun h => h, by rw [hit]; simp only [List.length_append, List.length_cons, hds]; omega⟩
    ·
     simp only [ploverref02_bytes.f]; rw [if_neg c1, if_pos c2]
    ·
     have hsz : (⟨(itoa (v.f2.size : Int)).toArray⟩ : ByteArray).size = (decDigits v.f2.size).length := by rw [hit]; show ((decDigits v.f2.size).toArray).size = _; simp
     refine Ev.congr (fun k => ?_) (Ev.now _)
     rw [if_pos (by rw [hsz]; omega), if_pos (by rw [ByteArray.size_append, hsz]; show _ + 1 + _ ≤ _; omega)]
     refine congrArg some (data_ext ?_)
     rw [Giv.data_app, Giv.data_app]
     simp
   ·
    rw [if_neg c2]
    have loop : ∀ (d i : Nat) (out : List UInt8), v.f3.length - i ≤ d → i ≤ v.f3.length → out.length + wts (v.f3.drop i) ≤ wt v - 1 → 1 ≤ out.length →
      ∃ b : List UInt8, Ev (fun k => ploverref02_bytes.l0 k (nm out) (i : Int) v.f0 v.f1 v.f2 v.f3) (⟨b.toArray⟩ : ByteArray) ∧ ((out ++ encs (v.f3.drop i) ++ [101]).length ≤ 65536 → b = out ++ encs (v.f3.drop i) ++ [101]) ∧ (65536 < (out ++ encs (v.f3.drop i) ++ [101]).length → 65536 < b.length) ∧ b.length ≤ wt v := by
     intro d
     have fin : ∀ (i : Nat) (out : List UInt8), out.length + wts (v.f3.drop i) ≤ wt v - 1 → (∀ k, ploverref02_bytes.l0 (k + 1) (nm out) (i : Int) v.f0 v.f1 v.f2 v.f3 = if (nm out).length < 140737488355328 then some (strOfNums (nm out ++ [101])) else none) → Ev (fun k => ploverref02_bytes.l0 k (nm out) (i : Int) v.f0 v.f1 v.f2 v.f3) (⟨(out ++ [101]).toArray⟩ : ByteArray) := by
      intro i out h1 h2
      refine Ev.step (f := fun _ => some (⟨(out ++ [101]).toArray⟩ : ByteArray)) (fun k => ?_) (Ev.now _)
      rw [h2 k, if_pos (by rw [nm_len]; omega), ← str_nm, nm_app]
      rfl
     induction d with
     | zero =>
      intro i out h1 h2 h3 h4
      refine ⟨out ++ [101], fin i out h3 (fun k => ?_), ?_, ?_, by simp; omega⟩
      ·
       simp only [ploverref02_bytes.l0]; rw [if_neg (by omega)]
      all_goals rw [List.drop_of_length_le (by omega), encs_nil, List.append_nil]
      ·
       exact fun _ => rfl
      ·
       exact fun h => h
     | succ d ihd =>
      intro i out h1 h2 h3 h4
      by_cases hlt : i < v.f3.length
      ·
       by_cases hm : out.length ≤ 65536
       ·
        have hmem : v.f3[i] ∈ v.f3 := List.getElem_mem hlt
        have hwm := wt_mem hmem
        rw [List.drop_eq_getElem_cons hlt, wts_cons] at h3
        obtain ⟨x, hx, x1, x2, x3⟩ := ih v.f3[i] (by omega) (by omega) (okV_mem hmem o3)
        obtain ⟨b, hb', b1, b2, b3⟩ := ihd (i + 1) (out ++ x) (by omega) (by omega) (by simp; omega) (by simp; omega)
        refine ⟨b, Ev.step (f := fun k => (ploverref02_bytes.f k v.f3[i].f0 v.f3[i].f1 v.f3[i].f2 v.f3[i].f3).bind fun t => if (nm out).length + t.size < 140737488355328 then ploverref02_bytes.l0 k (nm out ++ bytesOf t) ((i + 1 : Nat) : Int) v.f0 v.f1 v.f2 v.f3 else none) (fun k => ?_) (Ev.bind hx ?_), ?_, ?_, b3⟩
        ·
         simp only [ploverref02_bytes.l0]
         rw [if_pos (by omega), if_pos (by rw [nm_len]; omega), if_pos (by omega), rd_at _ _ hlt, w64 (n := (i : Int) + 1) (by omega) (by omega)]
         rfl
        ·
         have hsz : (⟨x.toArray⟩ : ByteArray).size = x.length := by show (x.toArray).size = _; simp
         refine Ev.congr (fun k => if_pos (by rw [nm_len, hsz]; omega)) ?_
         rw [bytesOf_nm, ← nm_app]
         simpa using hb'
        ·
         rw [List.drop_eq_getElem_cons hlt, encs_cons]
         intro h
         simp only [List.length_append, List.length_singleton] at h b1
         have e := x1 (by omega)
         subst e
         rw [b1 (by omega)]
         simp
        ·
         rw [List.drop_eq_getElem_cons hlt, encs_cons]
         intro h
         simp only [List.length_append, List.length_singleton] at h b1 b2
         by_cases hl : (enc v.f3[i]).length ≤ 65536
         ·
          have e := x1 hl
          subst e
          exact b2 (by omega)
         ·
          have := x2 (by omega)
          exact b2 (by omega)
       ·
        refine ⟨out ++ [101], fin i out h3 (fun k => ?_), ?_, ?_, by simp; omega⟩
        ·
         simp only [ploverref02_bytes.l0]; rw [if_pos (by omega), if_neg (by rw [nm_len]; omega)]
        ·
         intro h; simp only [List.length_append] at h; omega
        ·
         intro _; simp; omega
      ·
       refine ⟨out ++ [101], fin i out h3 (fun k => ?_), ?_, ?_, by simp; omega⟩
       ·
        simp only [ploverref02_bytes.l0]; rw [if_neg (by omega)]
       all_goals rw [List.drop_of_length_le (by omega), encs_nil, List.append_nil]
       ·
        exact fun _ => rfl
       ·
        exact fun h => h
    obtain ⟨b, b0, b1, b2, b3⟩ := loop v.f3.length 0 [108] (by omega) (by omega) (by rw [List.drop_zero]; simp; omega) (by simp)
    rw [List.drop_zero] at b1 b2
    refine ⟨b, Ev.step (f := fun k => ploverref02_bytes.l0 k (nm [108]) ((0 : Nat) : Int) v.f0 v.f1 v.f2 v.f3) (fun k => ?_) b0, b1, b2, b3⟩
    simp only [ploverref02_bytes.f]
    rw [if_neg c1, if_neg c2]
    rfl
theorem refPut_ev (v : V) (hw : wt v ≤ 1000000000) (ho : okV v = true) : Ev (fun k => ploverref02_Put.f k v.f0 v.f1 v.f2 v.f3) (putM v) := by
  unfold ploverref02_Put.f
  refine Ev.bind (kinds_ev _ v (Nat.le_refl _) (by omega)) ?_
  unfold putM
  rw [chk_top]
  by_cases hk : kin v = true
  · rw [if_pos hk]
    refine Ev.congr (fun k => if_pos hk) ?_
    refine Ev.bind (deep_ev _ v (Nat.le_refl _) (by omega)) ?_
    by_cases hd : 8 < dep v
    · rw [if_pos hd, if_neg (by decide)]
      exact Ev.congr (fun k => if_pos (by omega)) (Ev.now _)
    · rw [if_neg hd, if_pos rfl]
      refine Ev.congr (fun k => if_neg (by omega)) ?_
      obtain ⟨b, b0, b1, b2, b3⟩ := bytes_ev _ v (Nat.le_refl _) (by omega) ho
      refine Ev.bind b0 ?_
      have hsz : (⟨b.toArray⟩ : ByteArray).size = b.length := by show (b.toArray).size = _; simp
      by_cases hl : (enc v).length ≤ 65536
      · rw [if_pos hl]
        have e := b1 hl
        refine Ev.congr (fun k => if_neg (by rw [hsz, e]; omega)) ?_
        rw [e]
        exact Ev.now _
      · rw [if_neg hl]
        have := b2 (by omega)
        exact Ev.congr (fun k => if_pos (by rw [hsz]; omega)) (Ev.now _)
  · rw [if_neg hk, if_neg (by decide)]
    exact Ev.congr (fun k => if_neg hk) (Ev.now _)
theorem V_eta (x : V) : (⟨x.f0, x.f1, x.f2, x.f3⟩ : V) = x := by cases x; rfl
abbrev Q6 := Int × Int × ByteArray × List V × Int × Int
def RdR (g : Nat → Option Q6) (R : Int × V × Nat) : Prop := ∃ q : Q6, Ev g q ∧ (R.1 = 0 → q = (R.2.1.f0, R.2.1.f1, R.2.1.f2, R.2.1.f3, (R.2.2 : Int), 0)) ∧ (R.1 ≠ 0 → q.2.2.2.2.2 = R.1)
theorem RdR.step {g f : Nat → Option Q6} {R : Int × V × Nat} (h : ∀ k, g (k + 1) = f k) (hf : RdR f R) : RdR g R := by
  obtain ⟨q, hq, h1, h2⟩ := hf
  exact ⟨q, Ev.step h hq, h1, h2⟩
theorem RdR.bad (e : Int) (h : e ≠ 0) (R : Int × V × Nat) (hR : R.1 = e) (a b : Int) (c : ByteArray) (l : List V) (u : Int) : RdR (fun _ => some (a, b, c, l, u, e)) R :=
  ⟨_, Ev.now _, fun h2 => absurd (hR ▸ h2) h, fun _ => hR.symm⟩
theorem take_yes {s : ByteArray} (h : s.size ≤ 1099511627776) : benc_Take.f s = some (flat (takeM s)) := by unfold benc_Take.f; rw [if_pos h]
theorem put_yes {v : V} (h : fitV v = true) : benc_Put.f v.f0 v.f1 v.f2 v.f3 = some (putM v) := by unfold benc_Put.f; rw [V_eta]; exact if_pos h
def onlyM (s : ByteArray) : V × Int := if (takeM s).2.2 = 0 then (if (takeM s).2.1 < (s.size : Int) then (zV, 20) else ((takeM s).1, 0)) else (zV, (takeM s).2.2)
def flat5 (T : V × Int) : Int × Int × ByteArray × List V × Int := (T.1.f0, T.1.f1, T.1.f2, T.1.f3, T.2)
theorem only_yes {s : ByteArray} (h : s.size ≤ 1099511627776) : benc_Only.f s = some (flat5 (onlyM s)) := by
  unfold benc_Only.f onlyM
  rw [take_yes h]
  generalize takeM s = T
  obtain ⟨v, n, e⟩ := T
  simp only [flat, Option.bind_some]
  by_cases c : e = 0
  · rw [if_pos c, if_pos c]
    by_cases c2 : n < (s.size : Int)
    · rw [if_pos c2, if_pos c2]; rfl
    · rw [if_neg c2, if_neg c2]; rfl
  · rw [if_neg c, if_neg c]; rfl
theorem fit_of {v : V} (ho : okV v = true) (hw : wt v ≤ 70368744177664) : fitV v = true := by unfold fitV; rw [ho, decide_eq_true hw]; rfl
theorem bytes_lit (l : List UInt8) : (⟨l.toArray⟩ : ByteArray).data.toList = l := by simp
theorem putM_of {v : V} (hk : kin v = true) (hd : dep v ≤ 8) (hl : (enc v).length ≤ 65536) : putM v = (⟨(enc v).toArray⟩, 0) := by
  have e : chk v 0 = 0 := by rw [chk_top, if_pos hk, if_neg (show ¬ 8 < dep v by omega)]
  unfold putM
  rw [if_pos e, if_pos hl]
theorem takeM_back {v : V} (hk : kin v = true) (ho : okV v = true) (hd : dep v ≤ 8) (hl : (enc v).length ≤ 65536) (rest : List UInt8) : takeM ⟨(enc v ++ rest).toArray⟩ = (nrm v, ((enc v).length : Int), 0) := by
  have hb := back (wt v) v (Nat.le_refl _) hk ho (tok_of_len v (by omega)) 8 hd rest
  unfold takeM
  rw [bytes_lit, hb]
  simp only [if_true]
  rw [if_pos hl]
theorem enc_len2 (v : V) : 2 ≤ (enc v).length := by
  rw [enc_eq]
  split
  · simp
  · split
    · have := dd_pos ((v.f2.size : Int)).toNat
      rw [itoa_pos (by omega)]
      simp only [List.length_append, List.length_cons]
      omega
    · simp
def v0 : V := lisV [intV 12, strV ⟨#[97, 98]⟩]
end Go.Proofs.YtlggihnkhimfkaaDoor.Pure
namespace Go.Proofs.YtlggihnkhimfkaaDoor.P
open Go.RowKit Go.Proofs.YtlggihnkhimfkaaDoorW.PrintWords Go.Proofs.YtlggihnkhimfkaaDoorW.PrintLast Go.Proofs.YtlggihnkhimfkaaDoorW.PrintMore
attribute [local go_sem] max2_int min2_int max_two min_two max_three min_three max_four min_four   -- for this text's walks alone
set_option linter.unusedVariables false
set_option linter.unusedSimpArgs false
mutual
def ploverref03_Hex.j0 : Nat → Int → Bool → Option (ByteArray × Int)
  | 0, _, _ => none
  | k + 1, x0, x11 => if x11 = true then (some ((⟨#[]⟩ : ByteArray), 1)) else (ploverref03_Hex.l0 k x0 ([] : List Int) 5)
def ploverref03_Hex.l0 : Nat → Int → List Int → Int → Option (ByteArray × Int)
  | 0, _, _, _ => none
  | k + 1, x0, x4, x5 => if x5 ≥ 0 then (if 0 ≤ (wrap64 (4 * x5)) then (if 0 ≤ (Go.bits .and .i64 (shr .i64 x0 (wrap64 (4 * x5))) 15) then (if (Go.bits .and .i64 (shr .i64 x0 (wrap64 (4 * x5))) 15) < 16 then (if x4.length < 140737488355328 then (ploverref03_Hex.l0 k x0 (x4 ++ [bt (⟨#[48, 49, 50, 51, 52, 53, 54, 55, 56, 57, 97, 98, 99, 100, 101, 102]⟩ : ByteArray) (Go.bits .and .i64 (shr .i64 x0 (wrap64 (4 * x5))) 15)]) (wrap64 (x5 - 1))) else (none)) else (none)) else (none)) else (none)) else (some (strOfNums x4, 0))
end
def ploverref03_Hex.f (k : Nat) (a0 : Int) : Option (ByteArray × Int) := if a0 < 0 then (ploverref03_Hex.j0 k a0 true) else (ploverref03_Hex.j0 k a0 (decide (a0 ≥ 16777216)))
set_option maxHeartbeats 8000000 in
set_option maxRecDepth 100000 in
theorem ploverref03_Hex.calls (k : Nat) (a0 : Int) (r1 : ByteArray) (r2 : Int) (w : World) (h : ploverref03_Hex.f k a0 = some (r1, r2)) :
  Calls Tryd.prog 44 #[.int .i64 a0] w fun e w' => e = .returned (.tuple #[.string r1, .int .i64 r2]) ∧ Below w.heap.size w w' := by
 have HB := Aside0.mk (Below.refl w.heap.size w)
 have H : (if a0 < 0 then (ploverref03_Hex.j0 k a0 true) else (ploverref03_Hex.j0 k a0 (decide (a0 ≥ 16777216)))) = some (r1, r2) := h
 clear h
 have HC2 := Aside0.mk H
 clear H
 go_enter Tryd.func44, Tryd.ntmps44
 go_upto_region 1 with (fail)
 go_cut [11] (fun v11 wc => ∃ (kq : Nat) (x11_1 : Bool), v11 = .bool x11_1 ∧ Aside0 (ploverref03_Hex.j0 kq a0 x11_1 = some (r1, r2)) ∧ Aside0 (kq ≤ k) ∧ Aside0 (Below w.heap.size w wc))
 case first =>
  have H := HC2.out
  clear HC2
  by_cases c3 : a0 < 0
  ·
   rw [if_pos c3] at H
   have c3b0 : decide (a0 < 0) = true := decide_eq_true c3
   clear c3
   (first | rw [c3b0] | (simp only [i64_w, i32_w]; rw [c3b0]) | skip)
   have H' := Aside0.mk H
   clear H
   go_wp2
   go_meet
   case rel => exact ⟨_, (true), (by first | rfl | (simp; done) | (simp [*]; done)), H', ⟨by first | omega | exact Nat.le_refl _⟩, ⟨by repeat (first | (with_reducible first | exact HB.out | apply below_alloc | apply pw_below_drewN | apply below_drew1) | exact HB.out)⟩⟩
  ·
   rw [if_neg c3] at H
   have c3b0 : decide (a0 < 0) = false := decide_eq_false c3
   clear c3
   (first | rw [c3b0] | (simp only [i64_w, i32_w]; rw [c3b0]) | skip)
   have H' := Aside0.mk H
   clear H
   go_wp2
   go_meet
   case rel => exact ⟨_, (decide (a0 ≥ 16777216)), (by first | rfl | (simp; done) | (simp [*]; done)), H', ⟨by first | omega | exact Nat.le_refl _⟩, ⟨by repeat (first | (with_reducible first | exact HB.out | apply below_alloc | apply pw_below_drewN | apply below_drew1) | exact HB.out)⟩⟩
 case rest =>
  clear HC2
  try clear p2
  try clear c3
  try clear c3b0
  obtain ⟨kq, x11_1, rfl, HA, HJ1, HB⟩ := hcut
  cases kq with
  | zero => exact absurd HA.out (by simp [ploverref03_Hex.j0])
  | succ kj1 =>
   have H := HA.out
   clear HA
   simp only [ploverref03_Hex.j0] at H
   by_cases c4 : x11_1 = true
   ·
    subst c4
    have H1 : (some ((⟨#[]⟩ : ByteArray), 1)) = some (r1, r2) := by rw [if_pos rfl] at H; exact H
    clear H
    have H := H1
    clear H1
    simp only [Option.some.injEq, Prod.mk.injEq] at H
    obtain ⟨rfl, rfl⟩ := H
    go_wp2
    go_ret2
    exact ⟨by first | rfl | (simp [errW_none, errW_some] <;> rfl) | (simp [*, errW_none, errW_some] <;> rfl), by repeat (first | (with_reducible first | exact HB.out | apply below_alloc | apply pw_below_drewN | apply below_drew1) | exact HB.out)⟩
   ·
    replace c4 := Bool.eq_false_iff.mpr c4
    subst c4
    have H1 : (ploverref03_Hex.l0 kj1 a0 ([] : List Int) 5) = some (r1, r2) := by rw [if_neg (show ¬ (false = true) by decide)] at H; exact H
    clear H
    have H := H1
    clear H1
    have H' := Aside0.mk H
    clear H
    go_wp2
    go_loopg [4, 5] kj1 (fun kq v4 v5 w' => ∃ (x4_2 : List Int) (x5_2 : Int), v5 = .int .i64 x5_2 ∧ Aside0 (ploverref03_Hex.l0 kq a0 x4_2 x5_2 = some (r1, r2)) ∧ Aside0 (kq ≤ kj1) ∧ Aside0 (Kd.R (Kd.int .u8) 5 w' w.heap.size (fun _ => True) v4 x4_2) ∧ Aside0 (Below w.heap.size w w'))
    case atStart => exact ⟨(([] : List Int)), (5), (by first | rfl | (simp; done) | (simp [*]; done)), H', ⟨Nat.le_refl _⟩, ⟨by first | exact Kd.R_nil _ _ _ _ _ | exact Kd.N_nil _ _ _ _ _ | exact Kd.V_nil _ _ _ _ _ | exact Kd.Q_nil _ _ _ _ _ | exact Kd.S_nil _ _ _ _ _⟩, ⟨by repeat (first | (with_reducible first | exact HB.out | apply below_alloc | apply pw_below_drewN | apply below_drew1) | exact HB.out)⟩⟩
    case round =>
     clear H'
     try clear p2
     try clear c3
     try clear c3b0
     try clear c4
     try clear p2
     obtain ⟨x4_2, x5_2, rfl, HA, HK2, HO_4, HB⟩ := hrel
     cases gk with
     | zero => exact absurd HA.out (by simp [ploverref03_Hex.l0])
     | succ k2 =>
      have H := HA.out
      clear HA
      simp only [ploverref03_Hex.l0] at H
      by_cases c5 : x5_2 ≥ 0
      ·
       rw [if_pos c5] at H
       have c5b0 : decide (0 ≤ x5_2) = true := decide_eq_true c5
       clear c5
       obtain ⟨ji6, hji6⟩ : ∃ j_ : Int, (wrap64 (4 * x5_2)) = j_ := ⟨_, rfl⟩
       replace H : (if 0 ≤ (ji6) then (if 0 ≤ (Go.bits .and .i64 (shr .i64 a0 (ji6)) 15) then (if (Go.bits .and .i64 (shr .i64 a0 (ji6)) 15) < 16 then (if x4_2.length < 140737488355328 then (ploverref03_Hex.l0 k2 a0 (x4_2 ++ [bt (⟨#[48, 49, 50, 51, 52, 53, 54, 55, 56, 57, 97, 98, 99, 100, 101, 102]⟩ : ByteArray) (Go.bits .and .i64 (shr .i64 a0 (ji6)) 15)]) (wrap64 (x5_2 - 1))) else (none)) else (none)) else (none)) else (none)) = some (r1, r2) := by first | (rw [hji6] at H; exact H) | (simp only [hji6] at H ⊢; exact H)
       have hji6w : (IntKind.i64.wrap (4 * x5_2)) = ji6 := (i64_w _).trans hji6
       by_cases c7 : 0 ≤ (ji6)
       ·
        rw [if_pos c7] at H
        have c7b0 := eq_true c7
        have c7b1 : decide (0 ≤ (ji6)) = true := decide_eq_true c7
        clear c7
        obtain ⟨ji8, hji8⟩ : ∃ j_ : Int, (shr .i64 a0 (ji6)) = j_ := ⟨_, rfl⟩
        replace H : (if 0 ≤ (Go.bits .and .i64 (ji8) 15) then (if (Go.bits .and .i64 (ji8) 15) < 16 then (if x4_2.length < 140737488355328 then (ploverref03_Hex.l0 k2 a0 (x4_2 ++ [bt (⟨#[48, 49, 50, 51, 52, 53, 54, 55, 56, 57, 97, 98, 99, 100, 101, 102]⟩ : ByteArray) (Go.bits .and .i64 (ji8) 15)]) (wrap64 (x5_2 - 1))) else (none)) else (none)) else (none)) = some (r1, r2) := by first | (rw [hji8] at H; exact H) | (simp only [hji8] at H ⊢; exact H)
        have hji8_ : (a0 / 2 ^ min (ji6).toNat 64) = ji8 := hji8
        have hji8z : (ji6) ≤ 64 → (a0 / 2 ^ (ji6).toNat) = ji8 := shr_small hji8
        by_cases c9 : 0 ≤ (Go.bits .and .i64 (ji8) 15)
        ·
         rw [if_pos c9] at H
         have c9b0 : decide (0 ≤ (Go.bits .and .i64 (ji8) 15)) = true := decide_eq_true c9
         clear c9
         by_cases c10 : (Go.bits .and .i64 (ji8) 15) < 16
         ·
          rw [if_pos c10] at H
          have c10b0 : decide ((Go.bits .and .i64 (ji8) 15) < 16) = true := decide_eq_true c10
          clear c10
          by_cases c12 : x4_2.length < 140737488355328
          ·
           rw [if_pos c12] at H
           have LMc12 := Aside0.mk c12
           clear c12
           obtain ⟨y158, hy158⟩ : ∃ y_ : List Int, y_ = (x4_2 ++ [bt (⟨#[48, 49, 50, 51, 52, 53, 54, 55, 56, 57, 97, 98, 99, 100, 101, 102]⟩ : ByteArray) (Go.bits .and .i64 (ji8) 15)]) := ⟨_, rfl⟩
           replace H : (ploverref03_Hex.l0 k2 a0 y158 (wrap64 (x5_2 - 1))) = some (r1, r2) := by first | (rw [hy158]; with_reducible exact H) | (have H2_ := (Option.bind_some _ _).symm.trans H; rw [hy158]; with_reducible exact H2_) | (have H2_ := (Option.bind_some _ _).symm.trans H; with_reducible exact H2_) | with_reducible exact H | (rw [hy158]; exact H) | exact H
           have Ny158 := Aside0.mk hy158
           clear hy158
           have H' := Aside0.mk H
           clear H
           have p11 : 0 ≤ ((Go.bits .and .i64 (ji8) 15) : Int) := of_decide_eq_true (by first | (with_reducible assumption) | assumption)
           have q11 : (Go.bits .and .i64 (ji8) 15) < (16 : Int) := of_decide_eq_true (by first | (with_reducible assumption) | assumption)
           have hx11 := bt_at (⟨#[48, 49, 50, 51, 52, 53, 54, 55, 56, 57, 97, 98, 99, 100, 101, 102]⟩ : ByteArray) (Go.bits .and .i64 (ji8) 15)
           replace p11 := eq_true p11
           replace q11 := eq_true q11
           go_wp2_with (first | ((with_reducible refine gate_builtin (b := .append) (xs := #[.tmp 16, .tmp 23]) rfl ?_); at_builtin; refine Kd.R_append (Kd.int .u8) (w0 := w) w.heap.size rfl (.tmp 16) (.tmp 23) 39 5 (.int .u8 0) 1 rfl Tryd.underlying39 info5 rfl (by decide) (by omega) u4 x4_2 (bt (⟨#[48, 49, 50, 51, 52, 53, 54, 55, 56, 57, 97, 98, 99, 100, 101, 102]⟩ : ByteArray) (Go.bits .and .i64 (ji8) 15)) [.int .u8 (bt (⟨#[48, 49, 50, 51, 52, 53, 54, 55, 56, 57, 97, 98, 99, 100, 101, 102]⟩ : ByteArray) (Go.bits .and .i64 (ji8) 15))] (fun _ => True) (fun _ => False) rfl rfl ?aP (fun _ hk => hk.elim) ?aF ?aO ?aB ?aS ?aL ?_; (case aP => exact rfl); (case aB => exact (by repeat (first | (with_reducible first | exact HB.out | apply below_alloc | apply pw_below_drewN | apply below_drew1) | exact HB.out))); (case aF => exact (fun _ _ => trivial)); (case aO => exact (by (with_reducible repeat (first | apply Kd.R_alloc | apply Kd.R_drewN | apply Kd.R_drew)); exact HO_4.out)); (case aS => exact (below_size (by repeat (first | (with_reducible first | exact HB.out | apply below_alloc | apply pw_below_drewN | apply below_drew1) | exact HB.out)))); (case aL => have := LMc12.out; omega); intro v159 w13 ho hb hg hat; rw [← Ny158.out] at ho; have n0_ := Aside0.mk (hb); have n1_ := Aside0.mk (ho); clear HB; clear HO_4; have HB := n0_; have HO160 := n1_; clear n0_ n1_; clear ho hb hg hat))
           go_roundg k2
           case measure => have := HJ1.out; have := HK2.out; omega
           case rel => exact ⟨(y158), (wrap64 (x5_2 - 1)), (by first | rfl | (simp; done) | (simp [*]; done)), H', ⟨by have := HJ1.out; have := HK2.out; omega⟩, ⟨by (with_reducible repeat (first | apply Kd.R_alloc | apply Kd.R_drewN | apply Kd.R_drew)); exact HO160.out⟩, ⟨by repeat (first | (with_reducible first | exact HB.out | apply below_alloc | apply pw_below_drewN | apply below_drew1) | exact HB.out)⟩⟩
          ·
           rw [if_neg c12] at H
           exact absurd H (by simp)
         ·
          rw [if_neg c10] at H
          exact absurd H (by simp)
        ·
         rw [if_neg c9] at H
         exact absurd H (by simp)
       ·
        rw [if_neg c7] at H
        exact absurd H (by simp)
      ·
       rw [if_neg c5] at H
       have c5b0 : decide (0 ≤ x5_2) = false := decide_eq_false c5
       clear c5
       simp only [Option.some.injEq, Prod.mk.injEq] at H
       obtain ⟨rfl, rfl⟩ := H
       have hcv14 := own_string (P := Tryd.prog) Tryd.underlying39 Tryd.underlying5 Tryd.underlying9 (Kd.own_of_R HO_4.out)
       go_wp2
       go_ret2
       exact ⟨by first | rfl | (simp [errW_none, errW_some] <;> rfl) | (simp [*, errW_none, errW_some] <;> rfl), by repeat (first | (with_reducible first | exact HB.out | apply below_alloc | apply pw_below_drewN | apply below_drew1) | exact HB.out)⟩
mutual
def ploverref03_Sum.l0 : Nat → ByteArray → Int → Int → Option (Int)
  | 0, _, _, _ => none
  | k + 1, x0, x3, x4 => if x4 < (x0.size : Int) then (if 0 ≤ x4 then (ploverref03_Sum.l1 k x0 (Go.bits .xor .i64 x3 (wrap64 ((wrap64 (bt x0 x4)) * 65536))) x4 0) else (none)) else (some x3)
def ploverref03_Sum.l1 : Nat → ByteArray → Int → Int → Int → Option (Int)
  | 0, _, _, _, _ => none
  | k + 1, x0, x3, x4, x5 => if x5 < 8 then (if (wrap64 (2 * x3)) ≥ 16777216 then (ploverref03_Sum.l1 k x0 (Go.bits .xor .i64 (wrap64 (2 * x3)) 25578747) x4 (wrap64 (x5 + 1))) else (ploverref03_Sum.l1 k x0 (wrap64 (2 * x3)) x4 (wrap64 (x5 + 1)))) else (ploverref03_Sum.l0 k x0 x3 (wrap64 (x4 + 1)))
end
def ploverref03_Sum.f (k : Nat) (a0 : ByteArray) : Option (Int) := ploverref03_Sum.l0 k a0 11994318 0
set_option maxHeartbeats 8000000 in
set_option maxRecDepth 100000 in
theorem ploverref03_Sum.calls (k : Nat) (a0 : ByteArray) (r : Int) (w : World) (h : ploverref03_Sum.f k a0 = some r) :
  Calls Tryd.prog 45 #[.string a0] w fun e w' => e = .returned (.int .i64 r) ∧ Drawn0 w w' := by
 have H : (ploverref03_Sum.l0 k a0 11994318 0) = some r := h
 clear h
 have H' := Aside0.mk H
 clear H
 go_enter Tryd.func45, Tryd.ntmps45
 go_wp2
 go_loopg [3, 4] k (fun kq v3 v4 w' => ∃ (x3_1 : Int) (x4_1 : Int), v3 = .int .i64 x3_1 ∧ v4 = .int .i64 x4_1 ∧ Aside0 (ploverref03_Sum.l0 kq a0 x3_1 x4_1 = some r) ∧ Aside0 (kq ≤ k) ∧ Drawn0 w w')
 case atStart => exact ⟨(11994318), (0), (by first | rfl | (simp; done) | (simp [*]; done)), (by first | rfl | (simp; done) | (simp [*]; done)), H', ⟨Nat.le_refl _⟩, by repeat (first | exact Drawn0.refl _ | apply Drawn0.step)⟩
 case round =>
  clear H'
  obtain ⟨x3_1, x4_1, rfl, rfl, HA, HK1, ⟨m1, rfl⟩⟩ := hrel
  cases gk with
  | zero => exact absurd HA.out (by simp [ploverref03_Sum.l0])
  | succ k1 =>
   have H := HA.out
   clear HA
   simp only [ploverref03_Sum.l0] at H
   by_cases c2 : x4_1 < (a0.size : Int)
   ·
    rw [if_pos c2] at H
    have c2b0 : decide (x4_1 < (a0.size : Int)) = true := decide_eq_true c2
    clear c2
    by_cases c3 : 0 ≤ x4_1
    ·
     rw [if_pos c3] at H
     have c3b0 : decide (0 ≤ x4_1) = true := decide_eq_true c3
     clear c3
     have H' := Aside0.mk H
     clear H
     have p4 : 0 ≤ (x4_1 : Int) := of_decide_eq_true (by first | (with_reducible assumption) | assumption)
     have q4 : x4_1 < (a0.size : Int) := of_decide_eq_true (by first | (with_reducible assumption) | assumption)
     have hx4 := bt_at a0 x4_1
     replace p4 := eq_true p4
     replace q4 := eq_true q4
     go_wp2
     go_loopg [3, 5] k1 (fun kq v3 v5 w' => ∃ (x3_2 : Int) (x5_2 : Int), v3 = .int .i64 x3_2 ∧ v5 = .int .i64 x5_2 ∧ Aside0 (ploverref03_Sum.l1 kq a0 x3_2 x4_1 x5_2 = some r) ∧ Aside0 (kq ≤ k1) ∧ Drawn0 w w')
     case atStart => exact ⟨(Go.bits .xor .i64 x3_1 (wrap64 ((wrap64 (bt a0 x4_1)) * 65536))), (0), (by first | rfl | (simp; done) | (simp [*]; done)), (by first | rfl | (simp; done) | (simp [*]; done)), H', ⟨Nat.le_refl _⟩, by repeat (first | exact Drawn0.refl _ | apply Drawn0.step)⟩
     case round =>
      clear H'
      try clear c2
      try clear c2b0
      try clear p2
      try clear c3
      try clear c3b0
      try clear c4
      try clear p4
      try clear q4
      try clear hx4
      try clear p4
      try clear q4
      obtain ⟨x3_2, x5_2, rfl, rfl, HA, HK2, ⟨m2, rfl⟩⟩ := hrel
      cases gk with
      | zero => exact absurd HA.out (by simp [ploverref03_Sum.l1])
      | succ k2 =>
       have H := HA.out
       clear HA
       simp only [ploverref03_Sum.l1] at H
       by_cases c5 : x5_2 < 8
       ·
        rw [if_pos c5] at H
        have c5b0 : decide (x5_2 < 8) = true := decide_eq_true c5
        clear c5
        by_cases c6 : (wrap64 (2 * x3_2)) ≥ 16777216
        ·
         rw [if_pos c6] at H
         have c6b0 : decide (16777216 ≤ (wrap64 (2 * x3_2))) = true := decide_eq_true c6
         clear c6
         have H' := Aside0.mk H
         clear H
         go_wp2
         go_roundg k2
         case measure => have := HK1.out; have := HK2.out; omega
         case rel => exact ⟨(Go.bits .xor .i64 (wrap64 (2 * x3_2)) 25578747), (wrap64 (x5_2 + 1)), (by first | rfl | (simp; done) | (simp [*]; done)), (by first | rfl | (simp; done) | (simp [*]; done)), H', ⟨by have := HK1.out; have := HK2.out; omega⟩, by repeat (first | exact Drawn0.refl _ | apply Drawn0.step)⟩
        ·
         rw [if_neg c6] at H
         have c6b0 : decide (16777216 ≤ (wrap64 (2 * x3_2))) = false := decide_eq_false c6
         clear c6
         have H' := Aside0.mk H
         clear H
         go_wp2
         go_roundg k2
         case measure => have := HK1.out; have := HK2.out; omega
         case rel => exact ⟨(wrap64 (2 * x3_2)), (wrap64 (x5_2 + 1)), (by first | rfl | (simp; done) | (simp [*]; done)), (by first | rfl | (simp; done) | (simp [*]; done)), H', ⟨by have := HK1.out; have := HK2.out; omega⟩, by repeat (first | exact Drawn0.refl _ | apply Drawn0.step)⟩
       ·
        rw [if_neg c5] at H
        have c5b0 : decide (x5_2 < 8) = false := decide_eq_false c5
        clear c5
        have H' := Aside0.mk H
        clear H
        go_wp2
        go_roundg k2
        case measure => have := HK1.out; have := HK2.out; omega
        case rel => exact ⟨(x3_2), (wrap64 (x4_1 + 1)), (by first | rfl | (simp; done) | (simp [*]; done)), (by first | rfl | (simp; done) | (simp [*]; done)), H', ⟨by have := HK1.out; have := HK2.out; omega⟩, by repeat (first | exact Drawn0.refl _ | apply Drawn0.step)⟩
    ·
     rw [if_neg c3] at H
     exact absurd H (by simp)
   ·
    rw [if_neg c2] at H
    have c2b0 : decide (x4_1 < (a0.size : Int)) = false := decide_eq_false c2
    clear c2
    obtain rfl := Option.some.inj H
    go_wp2
    go_ret
    exact ⟨by first | rfl | (simp; done) | (simp [*]; done), by repeat (first | exact Drawn0.refl _ | apply Drawn0.step)⟩
def ploverref04_Put.f (k : Nat) (a0 : ByteArray) : Option (ByteArray × Int) := if (a0.size : Int) > 262144 then (some ((⟨#[]⟩ : ByteArray), 23)) else ((ploverref03_Hex.f k (a0.size : Int)).bind fun bt161 => ((ploverref03_Sum.f k a0).bind fun t163 => ((ploverref03_Hex.f k t163).bind fun bt164 => (if bt161.1.size + bt164.1.size ≤ 9223372036854775807 then (if (bt161.1 ++ bt164.1).size + 1 ≤ 9223372036854775807 then (if ((bt161.1 ++ bt164.1) ++ (⟨#[124]⟩ : ByteArray)).size + a0.size ≤ 9223372036854775807 then (if (((bt161.1 ++ bt164.1) ++ (⟨#[124]⟩ : ByteArray)) ++ a0).size + 1 ≤ 9223372036854775807 then (some ((((bt161.1 ++ bt164.1) ++ (⟨#[124]⟩ : ByteArray)) ++ a0) ++ (⟨#[10]⟩ : ByteArray), 0)) else (none)) else (none)) else (none)) else (none)))))
set_option maxHeartbeats 8000000 in
set_option maxRecDepth 100000 in
theorem ploverref04_Put.calls (k : Nat) (a0 : ByteArray) (r1 : ByteArray) (r2 : Int) (w : World) (h : ploverref04_Put.f k a0 = some (r1, r2)) :
  Calls Tryd.prog 24 #[.string a0] w fun e w' => e = .returned (.tuple #[.string r1, .int .i64 r2]) ∧ Below w.heap.size w w' := by
 have HB := Aside0.mk (Below.refl w.heap.size w)
 have H : (if (a0.size : Int) > 262144 then (some ((⟨#[]⟩ : ByteArray), 23)) else ((ploverref03_Hex.f k (a0.size : Int)).bind fun bt161 => ((ploverref03_Sum.f k a0).bind fun t163 => ((ploverref03_Hex.f k t163).bind fun bt164 => (if bt161.1.size + bt164.1.size ≤ 9223372036854775807 then (if (bt161.1 ++ bt164.1).size + 1 ≤ 9223372036854775807 then (if ((bt161.1 ++ bt164.1) ++ (⟨#[124]⟩ : ByteArray)).size + a0.size ≤ 9223372036854775807 then (if (((bt161.1 ++ bt164.1) ++ (⟨#[124]⟩ : ByteArray)) ++ a0).size + 1 ≤ 9223372036854775807 then (some ((((bt161.1 ++ bt164.1) ++ (⟨#[124]⟩ : ByteArray)) ++ a0) ++ (⟨#[10]⟩ : ByteArray), 0)) else (none)) else (none)) else (none)) else (none)))))) = some (r1, r2) := h
 clear h
 by_cases c2 : (a0.size : Int) > 262144
 ·
  rw [if_pos c2] at H
  have c2b0 : decide (262144 < (a0.size : Int)) = true := decide_eq_true c2
  have c2b1 : decide (262144 < a0.size) = true := decide_eq_true (by omega)
  clear c2
  simp only [Option.some.injEq, Prod.mk.injEq] at H
  obtain ⟨rfl, rfl⟩ := H
  go_enter Tryd.func24, Tryd.ntmps24
  go_wp2
  go_ret2
  exact ⟨by first | rfl | (simp [errW_none, errW_some] <;> rfl) | (simp [*, errW_none, errW_some] <;> rfl), by repeat (first | (with_reducible first | exact HB.out | apply below_alloc | apply pw_below_drewN | apply below_drew1) | exact HB.out)⟩
 ·
  rw [if_neg c2] at H
  have c2b0 : decide (262144 < (a0.size : Int)) = false := decide_eq_false c2
  have c2b1 : decide (262144 < a0.size) = false := decide_eq_false (by omega)
  clear c2
  replace H := Option.bind_eq_some_iff.mp H
  obtain ⟨⟨t161, t162⟩, A30, H⟩ := H
  replace H : ((ploverref03_Sum.f k a0).bind fun t163 => ((ploverref03_Hex.f k t163).bind fun bt164 => (if t161.size + bt164.1.size ≤ 9223372036854775807 then (if (t161 ++ bt164.1).size + 1 ≤ 9223372036854775807 then (if ((t161 ++ bt164.1) ++ (⟨#[124]⟩ : ByteArray)).size + a0.size ≤ 9223372036854775807 then (if (((t161 ++ bt164.1) ++ (⟨#[124]⟩ : ByteArray)) ++ a0).size + 1 ≤ 9223372036854775807 then (some ((((t161 ++ bt164.1) ++ (⟨#[124]⟩ : ByteArray)) ++ a0) ++ (⟨#[10]⟩ : ByteArray), 0)) else (none)) else (none)) else (none)) else (none)))) = some (r1, r2) := H
  have A3 := Aside0.mk A30
  clear A30
  replace H := Option.bind_eq_some_iff.mp H
  obtain ⟨t163, A40, H⟩ := H
  replace H : ((ploverref03_Hex.f k t163).bind fun bt164 => (if t161.size + bt164.1.size ≤ 9223372036854775807 then (if (t161 ++ bt164.1).size + 1 ≤ 9223372036854775807 then (if ((t161 ++ bt164.1) ++ (⟨#[124]⟩ : ByteArray)).size + a0.size ≤ 9223372036854775807 then (if (((t161 ++ bt164.1) ++ (⟨#[124]⟩ : ByteArray)) ++ a0).size + 1 ≤ 9223372036854775807 then (some ((((t161 ++ bt164.1) ++ (⟨#[124]⟩ : ByteArray)) ++ a0) ++ (⟨#[10]⟩ : ByteArray), 0)) else (none)) else (none)) else (none)) else (none))) = some (r1, r2) := H
  have A4 := Aside0.mk A40
  clear A40
  replace H := Option.bind_eq_some_iff.mp H
  obtain ⟨⟨t164, t165⟩, A50, H⟩ := H
  replace H : (if t161.size + t164.size ≤ 9223372036854775807 then (if (t161 ++ t164).size + 1 ≤ 9223372036854775807 then (if ((t161 ++ t164) ++ (⟨#[124]⟩ : ByteArray)).size + a0.size ≤ 9223372036854775807 then (if (((t161 ++ t164) ++ (⟨#[124]⟩ : ByteArray)) ++ a0).size + 1 ≤ 9223372036854775807 then (some ((((t161 ++ t164) ++ (⟨#[124]⟩ : ByteArray)) ++ a0) ++ (⟨#[10]⟩ : ByteArray), 0)) else (none)) else (none)) else (none)) else (none)) = some (r1, r2) := H
  have A5 := Aside0.mk A50
  clear A50
  by_cases c6 : t161.size + t164.size ≤ 9223372036854775807
  ·
   rw [if_pos c6] at H
   have c6b0 := eq_true c6
   have c6b1 : decide (t161.size + t164.size ≤ 9223372036854775807) = true := decide_eq_true c6
   try have c6b2 : (9223372036854775807 < t161.size + t164.size) = False := eq_false (Nat.not_lt.2 c6)
   by_cases c7 : (t161 ++ t164).size + 1 ≤ 9223372036854775807
   ·
    rw [if_pos c7] at H
    have c7b0 := eq_true c7
    have c7b1 : decide ((t161 ++ t164).size + 1 ≤ 9223372036854775807) = true := decide_eq_true c7
    try have c7b2 : (9223372036854775807 < (t161 ++ t164).size + 1) = False := eq_false (Nat.not_lt.2 c7)
    have c7b3 : t161.size + t164.size + 1 ≤ 9223372036854775807 := by have h := c7; simp only [ByteArray.size_append] at h; exact h
    try have c7b4 : (9223372036854775807 < t161.size + t164.size + 1) = False := eq_false (Nat.not_lt.2 c7b3)
    by_cases c8 : ((t161 ++ t164) ++ (⟨#[124]⟩ : ByteArray)).size + a0.size ≤ 9223372036854775807
    ·
     rw [if_pos c8] at H
     have c8b0 := eq_true c8
     have c8b1 : decide (((t161 ++ t164) ++ (⟨#[124]⟩ : ByteArray)).size + a0.size ≤ 9223372036854775807) = true := decide_eq_true c8
     try have c8b2 : (9223372036854775807 < ((t161 ++ t164) ++ (⟨#[124]⟩ : ByteArray)).size + a0.size) = False := eq_false (Nat.not_lt.2 c8)
     have c8b3 : t161.size + t164.size + 1 + a0.size ≤ 9223372036854775807 := by have h := c8; simp only [ByteArray.size_append] at h; exact h
     try have c8b4 : (9223372036854775807 < t161.size + t164.size + 1 + a0.size) = False := eq_false (Nat.not_lt.2 c8b3)
     by_cases c9 : (((t161 ++ t164) ++ (⟨#[124]⟩ : ByteArray)) ++ a0).size + 1 ≤ 9223372036854775807
     ·
      rw [if_pos c9] at H
      have c9b0 := eq_true c9
      have c9b1 : decide ((((t161 ++ t164) ++ (⟨#[124]⟩ : ByteArray)) ++ a0).size + 1 ≤ 9223372036854775807) = true := decide_eq_true c9
      try have c9b2 : (9223372036854775807 < (((t161 ++ t164) ++ (⟨#[124]⟩ : ByteArray)) ++ a0).size + 1) = False := eq_false (Nat.not_lt.2 c9)
      have c9b3 : t161.size + t164.size + 1 + a0.size + 1 ≤ 9223372036854775807 := by have h := c9; simp only [ByteArray.size_append] at h; exact h
      try have c9b4 : (9223372036854775807 < t161.size + t164.size + 1 + a0.size + 1) = False := eq_false (Nat.not_lt.2 c9b3)
      simp only [Option.some.injEq, Prod.mk.injEq] at H
      obtain ⟨rfl, rfl⟩ := H
      go_enter Tryd.func24, Tryd.ntmps24
      go_wp2_with (first | ((with_reducible refine gate_callee (f := 44) rfl ?_); refine goesL_ (some 14) rfl rfl Tryd.func44 (by kernel_rfl) rfl #[.int .i64 (a0.size : Int)] rfl (by (try simp only [List.map_toArray, List.map_cons, List.map_nil]); first | done | rfl | (simp only [List.length_drop, List.length_take]; rfl)) ?_; (with_reducible refine (ploverref03_Hex.calls k (a0.size : Int) t161 t162 _ A3.out).mono ?_); rintro e w10 ⟨rfl, hb⟩; refine ⟨_, rfl, ?_⟩; have n0_ := Aside0.mk (below_step (by repeat (first | (with_reducible first | exact HB.out | apply below_alloc | apply pw_below_drewN | apply below_drew1) | exact HB.out)) hb); clear HB; have HB := n0_; clear n0_; (try clear hb); (try clear hb2); (try clear hk); (try clear hi)) | ((with_reducible refine gate_callee (f := 45) rfl ?_); refine goesL_ (some 19) rfl rfl Tryd.func45 (by kernel_rfl) rfl #[.string a0] rfl (by (try simp only [List.map_toArray, List.map_cons, List.map_nil]); first | done | rfl | (simp only [List.length_drop, List.length_take]; rfl)) ?_; (with_reducible refine (ploverref03_Sum.calls k a0 t163 _ A4.out).mono ?_); rintro e w' ⟨rfl, ⟨nd, rfl⟩⟩; refine ⟨_, rfl, ?_⟩) | ((with_reducible refine gate_callee (f := 44) rfl ?_); refine goesL_ (some 20) rfl rfl Tryd.func44 (by kernel_rfl) rfl #[.int .i64 t163] rfl (by (try simp only [List.map_toArray, List.map_cons, List.map_nil]); first | done | rfl | (simp only [List.length_drop, List.length_take]; rfl)) ?_; (with_reducible refine (ploverref03_Hex.calls k t163 t164 t165 _ A5.out).mono ?_); rintro e w11 ⟨rfl, hb⟩; refine ⟨_, rfl, ?_⟩; have n0_ := Aside0.mk (below_step (by repeat (first | (with_reducible first | exact HB.out | apply below_alloc | apply pw_below_drewN | apply below_drew1) | exact HB.out)) hb); clear HB; have HB := n0_; clear n0_; (try clear hb); (try clear hb2); (try clear hk); (try clear hi)))
      go_ret2
      exact ⟨by first | rfl | (simp [errW_none, errW_some] <;> rfl) | (simp [*, errW_none, errW_some] <;> rfl), by repeat (first | (with_reducible first | exact HB.out | apply below_alloc | apply pw_below_drewN | apply below_drew1) | exact HB.out)⟩
     ·
      rw [if_neg c9] at H
      exact absurd H (by simp)
    ·
     rw [if_neg c8] at H
     exact absurd H (by simp)
   ·
    rw [if_neg c7] at H
    exact absurd H (by simp)
  ·
   rw [if_neg c6] at H
   exact absurd H (by simp)
end Go.Proofs.YtlggihnkhimfkaaDoor.P
namespace Go.Proofs.YtlggihnkhimfkaaDoor.Giv
open Go.RowKit Go.Lib Go.Proofs.YtlggihnkhimfkaaDoor.Hx Go.Proofs.YtlggihnkhimfkaaDoorW.PrintWords
set_option linter.unusedVariables false
set_option linter.unusedSimpArgs false
def hx (n : Nat) : ByteArray := ⟨(hexL n 6).toArray⟩
def putF (s : ByteArray) : ByteArray := (((hx s.size ++ hx (crcSum s.data.toList)) ++ (⟨#[124]⟩ : ByteArray)) ++ s) ++ (⟨#[10]⟩ : ByteArray)
theorem frm_app (a b : ByteArray) : (a ++ b).data.toList = a.data.toList ++ b.data.toList := by
  rw [ByteArray.data_append, Array.toList_append]
theorem data_ext {a b : ByteArray} (h : a.data.toList = b.data.toList) : a = b := by
  cases a; cases b
  simp at h
  rw [h]
theorem data_extract (a : ByteArray) (i j : Nat) : (a.extract i j).data.toList = (a.data.toList.take j).drop i := by
  rw [ByteArray.data_extract, Array.toList_extract, List.extract_eq_take_drop, List.drop_take]
theorem hx_data (n : Nat) : (hx n).data.toList = hexL n 6 := rfl
theorem hx_size (n : Nat) : (hx n).size = 6 := by simp [hx, hexL, ByteArray.size]
theorem hexL_len (n : Nat) : (hexL n 6).length = 6 := by simp [hexL]
theorem putF_data (s : ByteArray) : (putF s).data.toList = hexL s.size 6 ++ (hexL (crcSum s.data.toList) 6 ++ (124 :: (s.data.toList ++ [10]))) := by
  unfold putF
  rw [frm_app, frm_app, frm_app, frm_app, hx_data, hx_data]
  simp
theorem putF_size (s : ByteArray) : (putF s).size = s.size + 14 := by
  rw [← list_size, putF_data]
  simp [hexL_len, list_size]
  omega
theorem bt_data (s : ByteArray) (i : Nat) : bt s (i : Int) = ((s.data.toList.getD i 0).toNat : Int) := by
  unfold bt
  rw [Int.toNat_natCast]
  split
  · rename_i h
    have h' : i < s.data.toList.length := by rw [list_size]; exact h
    rw [List.getD_eq_getElem?_getD, List.getElem?_eq_getElem h', Option.getD_some]
    rfl
  · rename_i h
    have h' : s.data.toList.length ≤ i := by rw [list_size]; exact Nat.le_of_not_lt h
    rw [List.getD_eq_getElem?_getD, List.getElem?_eq_none h']
    rfl
theorem unhex_hx {n : Nat} (h : n < 16777216) : unhexF (hx n) = ((n : Int), 0) := by
  unfold unhexF
  rw [if_pos (hx_size n), hx_data, hexL_fold n h]
theorem take_put (s tail : ByteArray) (hs : s.size ≤ 262144) : takeF (putF s ++ tail) = (s, ((putF s).size : Int), 0) := by
  have hc := crcSum_lt s.data.toList
  generalize hcs : crcSum s.data.toList = c at hc
  have hd : (putF s ++ tail).data.toList = hexL s.size 6 ++ (hexL c 6 ++ (124 :: (s.data.toList ++ (10 :: tail.data.toList)))) := by
    rw [frm_app, putF_data, hcs]; simp
  have hsz : (putF s ++ tail).size = s.size + 14 + tail.size := by rw [ByteArray.size_append, putF_size]
  have e1 : (putF s ++ tail).extract 0 6 = hx s.size := data_ext (by rw [data_extract, hd, List.take_left' (hexL_len _)]; rfl)
  have e2 : (putF s ++ tail).extract 6 12 = hx c := data_ext (by
    rw [data_extract, hd, ← List.append_assoc, List.take_left' (by simp [hexL_len]), List.drop_left' (hexL_len _)]; rfl)
  have e3 : bt (putF s ++ tail) 12 = 124 := by
    have := bt_data (putF s ++ tail) 12
    rw [hd, ← List.append_assoc, List.getD_eq_getElem?_getD, List.getElem?_append_right (by simp [hexL_len])] at this
    simpa [hexL_len] using this
  have e4 : ((putF s ++ tail).extract 13 (putF s ++ tail).size).data.toList = s.data.toList ++ (10 :: tail.data.toList) := by
    rw [data_extract, hd, List.take_of_length_le (by rw [hsz]; simp [hexL_len, list_size]; omega)]
    rw [show hexL s.size 6 ++ (hexL c 6 ++ 124 :: (s.data.toList ++ 10 :: tail.data.toList)) = (hexL s.size 6 ++ hexL c 6 ++ [124]) ++ (s.data.toList ++ 10 :: tail.data.toList) by simp]
    rw [List.drop_left' (by simp [hexL_len])]
  unfold takeF
  rw [if_neg (by omega), e1, e2, e3, unhex_hx (by omega), unhex_hx hc, if_pos ⟨rfl, rfl, by simpa using (by omega : (s.size : Int) ≤ 262144), rfl⟩]
  generalize (putF s ++ tail).extract 13 (putF s ++ tail).size = rest at e4
  have hr : rest.size = s.size + 1 + tail.size := by rw [← list_size, e4]; simp [list_size]; omega
  have hb : bt rest (s.size : Int) = 10 := by
    rw [bt_data, e4, List.getD_eq_getElem?_getD, List.getElem?_append_right (by rw [list_size]; omega)]
    simp [list_size]
  have hx0 : rest.extract 0 s.size = s := data_ext (by rw [data_extract, e4, List.take_left' (list_size s)]; rfl)
  show restT rest (s.size : Int) (c : Int) = _
  unfold restT
  rw [if_neg (by omega), hb, if_neg (by simp), Int.toNat_natCast, hx0, hcs, if_neg (by simp), putF_size]
  congr 2
  omega
end Go.Proofs.YtlggihnkhimfkaaDoor.Giv
namespace Go.Proofs.YtlggihnkhimfkaaDoor.PurF
open Go.RowKit Go.Lib Go.Proofs.YtlggihnkhimfkaaDoor.Giv Go.Proofs.YtlggihnkhimfkaaDoor.Hx Go.Proofs.YtlggihnkhimfkaaDoor.P Go.Proofs.YtlggihnkhimfkaaDoorW.PrintWords Go.Proofs.YtlggihnkhimfkaaDoorW.PrintLast Go.Proofs.YtlggihnkhimfkaaDoorW.PrintMore
set_option linter.unusedVariables false
set_option linter.unusedSimpArgs false
theorem w64 {n : Int} (h0 : -9223372036854775808 ≤ n) (h1 : n ≤ 9223372036854775807) : wrap64 n = n := by unfold wrap64; omega
theorem hex_yes {n : Int} (h0 : -9223372036854775808 ≤ n) (h1 : n ≤ 9223372036854775807) : crc_Hex.f n = some (hexF n) := by unfold crc_Hex.f; rw [if_pos ⟨h0, h1⟩]
theorem sum_yes {s : ByteArray} (h : s.size ≤ 140737488351232) : crc_Sum.f s = some ((crcSum s.data.toList : Nat) : Int) := by unfold crc_Sum.f; rw [if_pos h]
theorem Ev.to {α : Type} {g : Nat → Option α} {r r' : α} (h : Ev g r) (e : r = r') : Ev g r' := e ▸ h
theorem hexF_nat {m : Nat} (h : m < 16777216) : hexF (m : Int) = (⟨(hexL m 6).toArray⟩, 0) := by unfold hexF; rw [if_pos (by omega)]; rfl
theorem shr4 (x : Int) (k : Nat) (hk : k ≤ 5) : Go.bits .and .i64 (shr .i64 x (wrap64 (4 * (k : Int)))) 15 = x / 16 ^ k % 16 := by
  have h64 : IntKind.i64.bits = 64 := rfl
  rw [w64 (by omega) (by omega)]
  unfold shr
  rw [h64, show min (4 * (k : Int)).toNat 64 = 4 * k by omega, show (2 : Int) ^ (4 * k) = 16 ^ k by rw [Int.pow_mul]; rfl]
  have hm := and_mask_i64 (x / 16 ^ k) 4 (by decide)
  have e2 : (((2 ^ 4 - 1 : Nat)) : Int) = 15 := by decide +kernel
  have e3 : (((2 ^ 4 : Nat)) : Int) = 16 := by decide +kernel
  rw [e2, e3] at hm
  exact hm
theorem hexStep (x : Int) (L : List Int) (i : Nat) (hi : i ≤ 5) (hL : L.length ≤ 100) (d : Nat) (hd : x / 16 ^ i % 16 = (d : Int)) (k : Nat) : ploverref03_Hex.l0 (k + 1) x L (i : Int) = ploverref03_Hex.l0 k x (L ++ [(hexDig d : Int)]) ((i : Int) - 1) := by
  have hd16 : d < 16 := by
    have := Int.emod_lt_of_pos (x / 16 ^ i) (show (0 : Int) < 16 by decide)
    omega
  simp only [ploverref03_Hex.l0]
  rw [shr4 x i hi, hd, w64 (n := 4 * (i : Int)) (by omega) (by omega), if_pos (by omega), if_pos (by omega), if_pos (by omega), if_pos (by omega), if_pos (by omega), w64 (n := (i : Int) - 1) (by omega) (by omega)]
  have hb : bt (⟨#[48, 49, 50, 51, 52, 53, 54, 55, 56, 57, 97, 98, 99, 100, 101, 102]⟩ : ByteArray) (d : Int) = (hexDig d : Int) := by
    rcases (by omega : d = 0 ∨ d = 1 ∨ d = 2 ∨ d = 3 ∨ d = 4 ∨ d = 5 ∨ d = 6 ∨ d = 7 ∨ d = 8 ∨ d = 9 ∨ d = 10 ∨ d = 11 ∨ d = 12 ∨ d = 13 ∨ d = 14 ∨ d = 15) with rfl | rfl | rfl | rfl | rfl | rfl | rfl | rfl | rfl | rfl | rfl | rfl | rfl | rfl | rfl | rfl <;> rfl
  rw [hb]
theorem refHex_ev (n : Int) : Ev (fun k => ploverref03_Hex.f k n) (hexF n) := by
  unfold ploverref03_Hex.f
  have bad : Ev (fun k => ploverref03_Hex.j0 k n true) (⟨#[]⟩, 1) := Ev.step (f := fun _ => some (⟨#[]⟩, 1)) (fun k => by simp only [ploverref03_Hex.j0]; rw [if_pos trivial]) (Ev.now _)
  by_cases c : n < 0
  · refine Ev.congr (fun k => if_pos c) ?_
    rw [show hexF n = (⟨#[]⟩, 1) by unfold hexF; rw [if_neg (by omega)]]
    exact bad
  · refine Ev.congr (fun k => if_neg c) ?_
    by_cases c2 : n ≥ 16777216
    · rw [decide_eq_true c2, show hexF n = (⟨#[]⟩, 1) by unfold hexF; rw [if_neg (by omega)]]
      exact bad
    · rw [decide_eq_false c2]
      obtain ⟨m, rfl⟩ : ∃ m : Nat, n = m := ⟨n.toNat, by omega⟩
      rw [hexF_nat (by omega)]
      have st : ∀ (L : List Int) (i : Nat), i ≤ 5 → L.length ≤ 100 → ∀ k, ploverref03_Hex.l0 (k + 1) (m : Int) L (i : Int) = ploverref03_Hex.l0 k (m : Int) (L ++ [(hexDig (m / 16 ^ i % 16) : Int)]) ((i : Int) - 1) := fun L i hi hL k => hexStep (m : Int) L i hi hL (m / 16 ^ i % 16) (by rw [Int.natCast_emod, Int.natCast_ediv, Int.natCast_pow]; rfl) k
      refine Ev.step (f := fun k => ploverref03_Hex.l0 k (m : Int) ([] : List Int) ((5 : Nat) : Int)) (fun k => by simp only [ploverref03_Hex.j0]; rw [if_neg (by decide)]; rfl) ?_
      refine Ev.step (fun k => st _ 5 (by omega) (by simp) k) ?_
      refine Ev.step (fun k => st _ 4 (by omega) (by simp) k) ?_
      refine Ev.step (fun k => st _ 3 (by omega) (by simp) k) ?_
      refine Ev.step (fun k => st _ 2 (by omega) (by simp) k) ?_
      refine Ev.step (fun k => st _ 1 (by omega) (by simp) k) ?_
      refine Ev.step (fun k => st _ 0 (by omega) (by simp) k) ?_
      refine Ev.step (f := fun _ => some (⟨(hexL m 6).toArray⟩, 0)) (fun k => ?_) (Ev.now _)
      simp only [ploverref03_Hex.l0]
      rw [if_neg (by omega)]
      rfl
theorem sum_l1 (s : ByteArray) (i m : Nat) (r : Int) (hm : m < 16777216) (h : Ev (fun k => ploverref03_Sum.l0 k s ((crcBits 8 m : Nat) : Int) (wrap64 ((i : Int) + 1))) r) :
    ∀ (d j : Nat), 8 - j ≤ d → j ≤ 8 → Ev (fun k => ploverref03_Sum.l1 k s ((crcBits j m : Nat) : Int) (i : Int) (j : Int)) r := by
  intro d
  induction d with
  | zero =>
    intro j h1 h2
    obtain rfl : j = 8 := by omega
    exact Ev.step (fun k => by simp only [ploverref03_Sum.l1]; rw [if_neg (by omega)]) h
  | succ d ih =>
    intro j h1 h2
    by_cases hj : j < 8
    · have hb := crcBits_lt j hm
      have hn := ih (j + 1) (by omega) (by omega)
      refine Ev.step (f := fun k => ploverref03_Sum.l1 k s ((crcBits (j + 1) m : Nat) : Int) (i : Int) ((j + 1 : Nat) : Int)) (fun k => ?_) hn
      simp only [ploverref03_Sum.l1]
      rw [if_pos (by omega), w64 (n := 2 * _) (by omega) (by omega), w64 (n := (j : Int) + 1) (by omega) (by omega)]
      by_cases c : 2 * ((crcBits j m : Nat) : Int) ≥ 16777216
      · rw [if_pos c, crcBits_yes rfl (by omega) c]; rfl
      · rw [if_neg c, crcBits_no (x := ((crcBits j m : Nat) : Int)) rfl (by omega)]; rfl
    · obtain rfl : j = 8 := by omega
      exact Ev.step (fun k => by simp only [ploverref03_Sum.l1]; rw [if_neg (by omega)]) h
theorem sum_l0 (s : ByteArray) (hs : s.size ≤ 140737488351232) : ∀ (d i : Nat), s.size - i ≤ d → i ≤ s.size → Ev (fun k => ploverref03_Sum.l0 k s ((crcSum (s.data.toList.take i) : Nat) : Int) (i : Int)) ((crcSum s.data.toList : Nat) : Int) := by
  have fin : Ev (fun k => ploverref03_Sum.l0 k s ((crcSum (s.data.toList.take s.size) : Nat) : Int) (s.size : Int)) ((crcSum s.data.toList : Nat) : Int) := by
    refine Ev.step (f := fun _ => some ((crcSum s.data.toList : Nat) : Int)) (fun k => ?_) (Ev.now _)
    simp only [ploverref03_Sum.l0]
    rw [if_neg (by omega), List.take_of_length_le (by simp)]
  intro d
  induction d with
  | zero =>
    intro i h1 h2
    obtain rfl : i = s.size := by omega
    exact fin
  | succ d ih =>
    intro i h1 h2
    by_cases hi : i < s.size
    · have hn := ih (i + 1) (by omega) (by omega)
      rw [take_snoc s i hi, crcSum_snoc] at hn
      have hb : bt s (i : Int) = ((s[i]).toNat : Int) := by rw [← bt_at s (i : Int) (by simpa using hi)]; rfl
      have hlt := crcXor_lt (crcSum_lt (s.data.toList.take i)) s[i]
      refine Ev.step (f := fun k => ploverref03_Sum.l1 k s ((crcBits 0 (crcSum (s.data.toList.take i) ^^^ (s[i].toNat * 65536)) : Nat) : Int) (i : Int) ((0 : Nat) : Int)) (fun k => ?_) (sum_l1 s i _ _ hlt ?_ 8 0 (by omega) (by omega))
      · simp only [ploverref03_Sum.l0]
        rw [if_pos (by omega), if_pos (by omega), hb, crc_in _ _ (crcSum_lt _)]
        rfl
      · rw [w64 (by omega) (by omega)]
        exact hn
    · obtain rfl : i = s.size := by omega
      exact fin
theorem refSum_ev (s : ByteArray) (hs : s.size ≤ 140737488351232) : Ev (fun k => ploverref03_Sum.f k s) ((crcSum s.data.toList : Nat) : Int) := by
  have := sum_l0 s hs s.size 0 (by omega) (by omega)
  rw [← crcSum_take0] at this
  exact this
theorem take_yes {s : ByteArray} (h : s.size ≤ 140737488351232) : frame_Take.f s = some (takeF s) := by unfold frame_Take.f; rw [if_pos h]
theorem all_yes {s : ByteArray} (h : s.size ≤ 1000000) : frame_All.f s = some ((allS s 0).1, ((allS s 0).2 : Int)) := by unfold frame_All.f; rw [if_pos h]
theorem put_yes {s : ByteArray} (h : s.size ≤ 262144) : frame_Put.f s = some (putF s, 0) := by
  have hc := crcSum_lt s.data.toList
  have e1 : (⟨#[124]⟩ : ByteArray).size = 1 := rfl
  unfold frame_Put.f
  rw [if_neg (by omega), hex_yes (by omega) (by omega), hexF_nat (by omega), sum_yes (by omega)]
  simp only [Option.bind_some]
  rw [hex_yes (by omega) (by omega), hexF_nat hc]
  simp only [Option.bind_some]
  have h1 := hx_size s.size
  have h2 := hx_size (crcSum s.data.toList)
  change (if (hx s.size).size + (hx (crcSum s.data.toList)).size ≤ 9223372036854775807 then (if (hx s.size ++ hx (crcSum s.data.toList)).size + 1 ≤ 9223372036854775807 then (if ((hx s.size ++ hx (crcSum s.data.toList)) ++ (⟨#[124]⟩ : ByteArray)).size + s.size ≤ 9223372036854775807 then (if (((hx s.size ++ hx (crcSum s.data.toList)) ++ (⟨#[124]⟩ : ByteArray)) ++ s).size + 1 ≤ 9223372036854775807 then (some ((((hx s.size ++ hx (crcSum s.data.toList)) ++ (⟨#[124]⟩ : ByteArray)) ++ s) ++ (⟨#[10]⟩ : ByteArray), 0)) else (none)) else (none)) else (none)) else (none)) = some (putF s, 0)
  rw [if_pos (by omega), if_pos (by simp only [ByteArray.size_append]; omega), if_pos (by simp only [ByteArray.size_append, e1]; omega), if_pos (by simp only [ByteArray.size_append, e1]; omega)]
  rfl
theorem refPut_ev {s : ByteArray} (h : s.size ≤ 262144) : Ev (fun k => ploverref04_Put.f k s) (putF s, 0) := by
  have hc := crcSum_lt s.data.toList
  have e1 : (⟨#[124]⟩ : ByteArray).size = 1 := rfl
  have h1 := hx_size s.size
  have h2 := hx_size (crcSum s.data.toList)
  unfold ploverref04_Put.f
  refine Ev.congr (fun k => if_neg (by omega)) (Ev.bind (refHex_ev _) (Ev.bind (refSum_ev s (by omega)) (Ev.bind (refHex_ev _) ?_)))
  rw [hexF_nat (show s.size < 16777216 by omega), hexF_nat hc]
  change Ev (fun _ => (if (hx s.size).size + (hx (crcSum s.data.toList)).size ≤ 9223372036854775807 then (if (hx s.size ++ hx (crcSum s.data.toList)).size + 1 ≤ 9223372036854775807 then (if ((hx s.size ++ hx (crcSum s.data.toList)) ++ (⟨#[124]⟩ : ByteArray)).size + s.size ≤ 9223372036854775807 then (if (((hx s.size ++ hx (crcSum s.data.toList)) ++ (⟨#[124]⟩ : ByteArray)) ++ s).size + 1 ≤ 9223372036854775807 then (some ((((hx s.size ++ hx (crcSum s.data.toList)) ++ (⟨#[124]⟩ : ByteArray)) ++ s) ++ (⟨#[10]⟩ : ByteArray), 0)) else (none)) else (none)) else (none)) else (none) : Option (ByteArray × Int))) (putF s, 0)
  rw [if_pos (by omega), if_pos (by simp only [ByteArray.size_append]; omega), if_pos (by simp only [ByteArray.size_append, e1]; omega), if_pos (by simp only [ByteArray.size_append, e1]; omega)]
  exact Ev.now _
end Go.Proofs.YtlggihnkhimfkaaDoor.PurF
namespace Go.Proofs.YtlggihnkhimfkaaDoor.Giv
open Go.RowKit Go.Lib Go.Proofs.YtlggihnkhimfkaaDoorW.PrintWords Go.Proofs.YtlggihnkhimfkaaDoorW.PrintLast Go.Proofs.YtlggihnkhimfkaaDoorW.PrintMore
set_option linter.unusedVariables false
set_option linter.unusedSimpArgs false
def oddP (n : Int) : Bool := decide (n < 0) || decide (1099511627776 < n)
theorem oddP_calls (x : Int) (w : World) (b : Bool) (hb : oddP x = b) :
    Calls Tryd.prog 25 #[.int .i64 x] w fun e w' => e = .returned (.bool b) ∧ w = w' := by
  unfold oddP at hb
  by_cases h1 : x < 0
  · obtain rfl : b = true := by rw [← hb]; simp [h1]
    clear hb
    go_enter Tryd.func25, Tryd.ntmps25
    go_wp2
    go_ret
    exact ⟨rfl, rfl⟩
  · by_cases h2 : 1099511627776 < x
    · obtain rfl : b = true := by rw [← hb]; simp [h2]
      clear hb
      go_enter Tryd.func25, Tryd.ntmps25
      go_wp2
      go_ret
      exact ⟨rfl, rfl⟩
    · obtain rfl : b = false := by rw [← hb]; simp [h1, h2]
      clear hb
      go_enter Tryd.func25, Tryd.ntmps25
      go_wp2
      go_ret
      exact ⟨rfl, rfl⟩
theorem far_calls (x0 x1 : Int) (b : Nat) (w : World) (r : Bool) (hr : oddP x1 = r) (hc : w.cell? ⟨b, 0, none⟩ = some (.func (.func 25) #[] #[])) :
    Calls Tryd.prog 26 #[.agg #[.int .i64 x0, .int .i64 x1], .pointer (some ⟨b, 0, none⟩)] w fun e w' => e = .returned (.bool r) ∧ Below w.heap.size w w' := by
  have hlt := block_lt_of_cell hc
  have hc2 : (w.alloc (.cells #[.int .i64 x0, .int .i64 x1] 52)).cell? ⟨b, 0, none⟩ = some (.func (.func 25) #[] #[]) := Lib.cell?_alloc_some _ hc
  clear hc
  go_enter Tryd.func26, Tryd.ntmps26
  go_wp2_with fail
  refine (oddP_calls x1 _ r hr).mono ?_
  rintro e w' ⟨rfl, rfl⟩
  go_wp2
  go_ret
  exact ⟨rfl, (Below.refl _ _).alloc (Nat.le_refl _) _⟩
def firstP (p : Int → Bool) : List Int → Int
  | [] => -1
  | x :: l => if p x then 0 else if firstP p l < 0 then -1 else firstP p l + 1
theorem firstP_hit {p : Int → Bool} : ∀ (xs : List Int) (k : Nat), (∀ i, i < k → p (xs.getD i 0) = false) → k < xs.length → p (xs.getD k 0) = true → firstP p xs = k
  | x :: l, 0, _, _, h => by simp [firstP] at h ⊢; simp [h]
  | x :: l, k + 1, h0, h1, h => by
    have hx : p x = false := h0 0 (by omega)
    have ih := firstP_hit l k (fun i hi => h0 (i + 1) (by omega)) (by simpa using h1) h
    simp [firstP, hx, ih]
    omega
  | [], _, _, h, _ => by simp at h
theorem firstP_none {p : Int → Bool} : ∀ (xs : List Int), (∀ i, i < xs.length → p (xs.getD i 0) = false) → firstP p xs = -1
  | [], _ => rfl
  | x :: l, h => by
    have hx : p x = false := h 0 (by simp)
    have ih := firstP_none l (fun i hi => h (i + 1) (by simpa using hi))
    simp [firstP, hx, ih]
theorem firstP_any {p : Int → Bool} : ∀ (xs : List Int), decide (0 ≤ firstP p xs) = xs.any p
  | [] => rfl
  | x :: l => by
    have ih := firstP_any (p := p) l
    unfold firstP
    by_cases hx : p x = true
    · simp [hx]
    · simp only [Bool.not_eq_true] at hx
      rw [List.any_cons, hx, Bool.false_or, ← ih, if_neg (by decide)]
      by_cases h : firstP p l < 0
      · rw [if_pos h]; simp [h]
      · rw [if_neg h]; simp; omega
set_option maxHeartbeats 400000 in
theorem idxOdd_any (ao : Option Addr) (xs : List Int) (cap : Nat) (w : World) (hx : (Kd.int .i64).C w ao xs.length xs) :
  Calls Tryd.prog 46 #[.slice ao xs.length cap, .func (.func 25) #[] #[]] w fun e w' => e = .returned (.int .i64 (firstP oddP xs)) ∧ w = w' := by
 have h8 : xs.length ≤ 9223372036854775807 := Kd.C_max hx
 go_enter Tryd.func46, Tryd.ntmps46
 go_wp2
 go_loop [5, 8] (fun _ i => ∃ k : Nat, k ≤ xs.length ∧ i = .int .i64 k ∧ Veil (∀ i, i < k → oddP (xs.getD i 0) = false)) (fun _ i => xs.length - (Go.RowKit.intOf i).toNat)
 case atStart => exact ⟨0, Nat.zero_le _, rfl, veil (fun i hi => by omega)⟩
 case round =>
  obtain ⟨k, hk, rfl, Hk⟩ := hrel
  by_cases hlt : k < xs.length
  ·
   obtain ⟨ad, rfl, hcell⟩ := Kd.at_int hx (k : Int) (by omega) (by omega)
   have exk : rd xs (k : Int) = xs.getD k 0 := by unfold rd; rw [Int.toNat_natCast]
   rw [exk, Int.toNat_natCast] at hcell
   clear exk hx
   generalize hxk : xs.getD k 0 = x at *
   have Hx := veil hxk
   clear hxk
   by_cases ho : oddP x = true
   ·
    have Ho := veil ho
    clear ho
    go_wp2_with fail
    refine (oddP_calls _ _ true Ho.out).mono ?_
    rintro e w' ⟨rfl, rfl⟩
    go_wp2
    go_ret
    exact ⟨ret_int (firstP_hit xs k Hk.out hlt (by rw [Hx.out]; exact Ho.out)).symm, rfl⟩
   ·
    have Ho : Veil (oddP x = false) := veil (by simpa using ho)
    clear ho
    go_wp2_with fail
    refine (oddP_calls _ _ false Ho.out).mono ?_
    rintro e w' ⟨rfl, rfl⟩
    go_wp2
    go_round
    case rel =>
     refine ⟨k + 1, by omega, by go_num, veil fun i hi => ?_⟩
     by_cases e : i = k
     ·
      subst e; rw [Hx.out]; exact Ho.out
     ·
      exact Hk.out i (by omega)
    case measure => simp [Go.RowKit.intOf]; omega
  ·
   obtain rfl : k = xs.length := by omega
   clear hx
   go_wp2
   go_ret
   exact ⟨ret_int (firstP_none xs Hk.out).symm, rfl⟩
set_option maxHeartbeats 400000 in
theorem hasOdd_any (ao : Option Addr) (xs : List Int) (cap : Nat) (w : World) (b : Bool) (hx : (Kd.int .i64).C w ao xs.length xs) (hb : xs.any oddP = b) :
    Calls Tryd.prog 27 #[.slice ao xs.length cap, .func (.func 25) #[] #[]] w fun e w' => e = .returned (.bool b) ∧ w = w' := by
  have Hx := veil hx
  have Hb := veil ((firstP_any xs).trans hb)
  clear hx hb
  go_enter Tryd.func27, Tryd.ntmps27
  go_wp2_with fail
  refine (idxOdd_any _ _ _ _ Hx.out).mono ?_
  rintro e w' ⟨rfl, rfl⟩
  go_wp2
  go_ret
  exact ⟨ret_bool Hb.out, rfl⟩
def dists (l : List P.S52) : List Int := l.map (·.f1)
set_option maxHeartbeats 400000 in
theorem idxFar_any (ao : Option Addr) (xs : List P.S52) (cap b : Nat) (w : World) (hx : P.k52.C w ao xs.length xs) (hc : w.cell? ⟨b, 0, none⟩ = some (.func (.func 25) #[] #[])) :
  Calls Tryd.prog 48 #[.slice ao xs.length cap, .func (.func 26) #[] #[.pointer (some ⟨b, 0, none⟩)]] w fun e w' => e = .returned (.int .i64 (firstP oddP (dists xs))) ∧ Below w.heap.size w w' := by
 have h8 : xs.length ≤ 9223372036854775807 := Kd.C_max hx
 have hbl := block_lt_of_cell hc
 have HX := Aside0.mk hx
 have HC := Aside0.mk hc
 have hdl : (dists xs).length = xs.length := List.length_map _
 clear hx hc
 go_enter Tryd.func48, Tryd.ntmps48
 go_wp2
 go_loopw [5, 8] (fun _ i wr => ∃ k : Nat, k ≤ xs.length ∧ i = .int .i64 k ∧ Veil (∀ i, i < k → oddP ((dists xs).getD i 0) = false) ∧ Aside0 (Below w.heap.size w wr)) (fun _ i _ => xs.length - (Go.RowKit.intOf i).toNat)
 case atStart => exact ⟨0, Nat.zero_le _, rfl, veil (fun i hi => by omega), ⟨Below.refl _ _⟩⟩
 case round =>
  obtain ⟨k, hk, rfl, Hk, HB⟩ := hrel
  by_cases hlt : k < xs.length
  ·
   obtain ⟨ad, rfl, c0, c1⟩ := P.at_T52 (Kd.C_below HX.out HB.out) (k : Int) (by omega) (by omega)
   have exk : P.rd_T52 xs (k : Int) = xs[k] := by unfold P.rd_T52; simp [hlt]
   have exd : (dists xs).getD k 0 = xs[k].f1 := by unfold dists; simp [hlt]
   rw [exk, Int.toNat_natCast] at c0 c1
   generalize xs[k] = p at *
   obtain ⟨x0, x1⟩ := p
   simp only at c0 c1 exd
   have Hx := veil exd
   have hcb := Aside0.mk (show wr.cell? ⟨b, 0, none⟩ = some (.func (.func 25) #[] #[]) from by rw [HB.out.cell (by exact hbl)]; exact HC.out)
   clear exk exd
   by_cases ho : oddP x1 = true
   ·
    have Ho := veil ho
    clear ho
    go_wp2_with fail
    refine (far_calls x0 x1 b _ true Ho.out hcb.out).mono ?_
    rintro e w' ⟨rfl, hb1⟩
    have HB1 := Aside0.mk (HB.out.trans (hb1.mono HB.out.size))
    clear hb1
    go_wp2
    go_ret
    exact ⟨ret_int (firstP_hit (dists xs) k Hk.out (by omega) (by rw [Hx.out]; exact Ho.out)).symm, HB1.out⟩
   ·
    have Ho : Veil (oddP x1 = false) := veil (by simpa using ho)
    clear ho
    go_wp2_with fail
    refine (far_calls x0 x1 b _ false Ho.out hcb.out).mono ?_
    rintro e w' ⟨rfl, hb1⟩
    have HB1 := Aside0.mk (HB.out.trans (hb1.mono HB.out.size))
    clear hb1
    go_wp2
    go_roundw
    case rel =>
     refine ⟨k + 1, by omega, by go_num, veil fun i hi => ?_, HB1⟩
     by_cases e : i = k
     ·
      subst e; rw [Hx.out]; exact Ho.out
     ·
      exact Hk.out i (by omega)
    case measure => simp [Go.RowKit.intOf]; omega
  ·
   obtain rfl : k = xs.length := by omega
   go_wp2
   go_ret
   exact ⟨ret_int (firstP_none (dists xs) (by rw [hdl]; exact Hk.out)).symm, HB.out⟩
set_option maxHeartbeats 400000 in
theorem hasFar_any (ao : Option Addr) (xs : List P.S52) (cap b : Nat) (w : World) (r : Bool) (hx : P.k52.C w ao xs.length xs) (hc : w.cell? ⟨b, 0, none⟩ = some (.func (.func 25) #[] #[])) (hr : (dists xs).any oddP = r) :
    Calls Tryd.prog 29 #[.slice ao xs.length cap, .func (.func 26) #[] #[.pointer (some ⟨b, 0, none⟩)]] w fun e w' => e = .returned (.bool r) ∧ Below w.heap.size w w' := by
  have HC := Aside0.mk (idxFar_any ao xs cap b w hx hc)
  have Hb := veil ((firstP_any (dists xs)).trans hr)
  clear hx hc hr
  go_enter Tryd.func29, Tryd.ntmps29
  go_wp2_with fail
  refine HC.out.mono ?_
  rintro e w' ⟨rfl, hb1⟩
  have HB1 := Aside0.mk hb1
  clear hb1
  go_wp2
  go_ret
  exact ⟨ret_bool Hb.out, HB1.out⟩
theorem cell_new2 (W1 : World) (c : Array Value) (t : TypeId) (n : Nat) (hn : W1.heap.size = n) (i : Nat) : (W1.alloc (.cells c t)).cell? ⟨n, i, none⟩ = c[i]? := by
  subst hn
  exact (Blk.new W1 c t).cell i
theorem lit_C (W : World) (xs : List Int) (t : TypeId) (cs : Array Value) (n : Nat) (hn : W.heap.size = n) (hcs : cs = (xs.map (Value.int .i64)).toArray) (hl : xs.length ≤ 1000) : (Kd.int .i64).C (W.alloc (.cells cs t)) (some ⟨n, 0, none⟩) xs.length xs := by
  subst hcs
  subst hn
  refine ⟨rfl, by omega, fun _ => ⟨_, rfl, fun j p hj => ⟨[.int .i64 p], rfl, rfl, fun i u hi => ?_⟩⟩⟩
  have h1 : (Kd.int .i64).sz = 1 := rfl
  have hi0 : i = 0 := by
    cases i with
    | zero => rfl
    | succ i => simp at hi
  subst hi0
  obtain rfl : Value.int .i64 p = u := by simpa using hi
  rw [h1, Nat.mul_one, Nat.add_zero, Addr.add_lit, Nat.zero_add, (Blk.new W _ t).cell]
  simp [hj]
def six (a0_2 a0_3 a0_4 a0_5 a0_6 a0_7 : Int) : List Int := [a0_2, a0_3, a0_4, a0_5, a0_6, a0_7]
def mayM (a0_0 a0_1 a0_2 a0_3 a0_4 a0_5 a0_6 a0_7 a0_8 a0_9 : Int) (l0_10 : List Int) (a0_11 a0_12 : Int) (a0_13 : Bool) (l0_14 : List P.S52) (a0_15 : ByteArray) : Bool :=
  !(decide (a0_0 < 1) || decide (19 < a0_0) || decide (a0_1 < 0) || decide (16 ≤ a0_1)) && !((six a0_2 a0_3 a0_4 a0_5 a0_6 a0_7).any oddP) &&
  !(decide (a0_8 < 0) || decide (3 < a0_8) || decide (a0_11 < 0) || decide (64 < a0_11)) && !(decide (0 < l0_10.length) && !isV l0_10) &&
  !(decide (a0_12 < 0) || decide (255 < a0_12) || decide (64 < l0_14.length) || (dists l0_14).any oddP) && !decide (262144 < a0_15.size)
def post_Check.f (a0_0 a0_1 a0_2 a0_3 a0_4 a0_5 a0_6 a0_7 a0_8 a0_9 : Int) (l0_10 : List Int) (a0_11 a0_12 : Int) (a0_13 : Bool) (l0_14 : List P.S52) (a0_15 : ByteArray) : Option Int := some (if mayM a0_0 a0_1 a0_2 a0_3 a0_4 a0_5 a0_6 a0_7 a0_8 a0_9 l0_10 a0_11 a0_12 a0_13 l0_14 a0_15 = true then 0 else 1)
def vchk (l : List Int) : Int := if isV l = true ∧ (l.length : Int) = (l.length : Int) then 0 else 50
theorem check_eq {l : List Int} : vchk l = if isV l = true then 0 else 50 := by
  unfold vchk
  simp
set_option maxRecDepth 100000 in
set_option maxHeartbeats 4000000 in
theorem chk_1a (a0_0 a0_1 a0_2 a0_3 a0_4 a0_5 a0_6 a0_7 a0_8 a0_9 : Int) (A0_10 : Option Addr) (c0_10 : Nat) (l0_10 : List Int) (a0_11 a0_12 : Int) (a0_13 : Bool) (A0_14 : Option Addr) (c0_14 : Nat) (l0_14 : List (P.S52)) (a0_15 : ByteArray) (w : World) (hr0_10 : Kd.C (Kd.int .i64) w A0_10 l0_10.length l0_10) (hc0_10 : l0_10.length ≤ c0_10) (hr0_14 : Kd.C P.k52 w A0_14 l0_14.length l0_14) (hc0_14 : l0_14.length ≤ c0_14) (p1 : a0_0 < 1) :
    Calls Tryd.prog 11 #[.agg #[.int .i64 a0_0, .int .i64 a0_1, .int .i64 a0_2, .int .i64 a0_3, .int .i64 a0_4, .int .i64 a0_5, .int .i64 a0_6, .int .i64 a0_7, .int .i64 a0_8, .int .i64 a0_9, .slice A0_10 l0_10.length c0_10, .int .i64 a0_11, .int .i64 a0_12, .bool a0_13, .slice A0_14 l0_14.length c0_14, .string a0_15]] w fun e w' => e = .returned (.int .i64 1) ∧ Below w.heap.size w w' := by
  have HR10 := Aside0.mk hr0_10
  have HR14 := Aside0.mk hr0_14
  clear hr0_10 hr0_14
  go_enter Tryd.func11, Tryd.ntmps11
  go_wp2
  go_ret
  exact ⟨rfl, (by repeat (first | exact Below.refl _ _ | apply below_alloc | apply pw_below_drewN | apply below_drew1))⟩
set_option maxRecDepth 100000 in
set_option maxHeartbeats 4000000 in
theorem chk_1b (a0_0 a0_1 a0_2 a0_3 a0_4 a0_5 a0_6 a0_7 a0_8 a0_9 : Int) (A0_10 : Option Addr) (c0_10 : Nat) (l0_10 : List Int) (a0_11 a0_12 : Int) (a0_13 : Bool) (A0_14 : Option Addr) (c0_14 : Nat) (l0_14 : List (P.S52)) (a0_15 : ByteArray) (w : World) (hr0_10 : Kd.C (Kd.int .i64) w A0_10 l0_10.length l0_10) (hc0_10 : l0_10.length ≤ c0_10) (hr0_14 : Kd.C P.k52 w A0_14 l0_14.length l0_14) (hc0_14 : l0_14.length ≤ c0_14) (p1 : 1 ≤ a0_0) (p2 : 19 < a0_0) :
    Calls Tryd.prog 11 #[.agg #[.int .i64 a0_0, .int .i64 a0_1, .int .i64 a0_2, .int .i64 a0_3, .int .i64 a0_4, .int .i64 a0_5, .int .i64 a0_6, .int .i64 a0_7, .int .i64 a0_8, .int .i64 a0_9, .slice A0_10 l0_10.length c0_10, .int .i64 a0_11, .int .i64 a0_12, .bool a0_13, .slice A0_14 l0_14.length c0_14, .string a0_15]] w fun e w' => e = .returned (.int .i64 1) ∧ Below w.heap.size w w' := by
  have HR10 := Aside0.mk hr0_10
  have HR14 := Aside0.mk hr0_14
  clear hr0_10 hr0_14
  go_enter Tryd.func11, Tryd.ntmps11
  go_wp2
  go_ret
  exact ⟨rfl, (by repeat (first | exact Below.refl _ _ | apply below_alloc | apply pw_below_drewN | apply below_drew1))⟩
set_option maxRecDepth 100000 in
set_option maxHeartbeats 4000000 in
theorem chk_1c (a0_0 a0_1 a0_2 a0_3 a0_4 a0_5 a0_6 a0_7 a0_8 a0_9 : Int) (A0_10 : Option Addr) (c0_10 : Nat) (l0_10 : List Int) (a0_11 a0_12 : Int) (a0_13 : Bool) (A0_14 : Option Addr) (c0_14 : Nat) (l0_14 : List (P.S52)) (a0_15 : ByteArray) (w : World) (hr0_10 : Kd.C (Kd.int .i64) w A0_10 l0_10.length l0_10) (hc0_10 : l0_10.length ≤ c0_10) (hr0_14 : Kd.C P.k52 w A0_14 l0_14.length l0_14) (hc0_14 : l0_14.length ≤ c0_14) (p1 : 1 ≤ a0_0) (p2 : a0_0 ≤ 19) (p3 : a0_1 < 0) :
    Calls Tryd.prog 11 #[.agg #[.int .i64 a0_0, .int .i64 a0_1, .int .i64 a0_2, .int .i64 a0_3, .int .i64 a0_4, .int .i64 a0_5, .int .i64 a0_6, .int .i64 a0_7, .int .i64 a0_8, .int .i64 a0_9, .slice A0_10 l0_10.length c0_10, .int .i64 a0_11, .int .i64 a0_12, .bool a0_13, .slice A0_14 l0_14.length c0_14, .string a0_15]] w fun e w' => e = .returned (.int .i64 1) ∧ Below w.heap.size w w' := by
  have HR10 := Aside0.mk hr0_10
  have HR14 := Aside0.mk hr0_14
  clear hr0_10 hr0_14
  go_enter Tryd.func11, Tryd.ntmps11
  go_wp2
  go_ret
  exact ⟨rfl, (by repeat (first | exact Below.refl _ _ | apply below_alloc | apply pw_below_drewN | apply below_drew1))⟩
set_option maxRecDepth 100000 in
set_option maxHeartbeats 4000000 in
theorem chk_1d (a0_0 a0_1 a0_2 a0_3 a0_4 a0_5 a0_6 a0_7 a0_8 a0_9 : Int) (A0_10 : Option Addr) (c0_10 : Nat) (l0_10 : List Int) (a0_11 a0_12 : Int) (a0_13 : Bool) (A0_14 : Option Addr) (c0_14 : Nat) (l0_14 : List (P.S52)) (a0_15 : ByteArray) (w : World) (hr0_10 : Kd.C (Kd.int .i64) w A0_10 l0_10.length l0_10) (hc0_10 : l0_10.length ≤ c0_10) (hr0_14 : Kd.C P.k52 w A0_14 l0_14.length l0_14) (hc0_14 : l0_14.length ≤ c0_14) (p1 : 1 ≤ a0_0) (p2 : a0_0 ≤ 19) (p3 : 0 ≤ a0_1) (p4 : 16 ≤ a0_1) :
    Calls Tryd.prog 11 #[.agg #[.int .i64 a0_0, .int .i64 a0_1, .int .i64 a0_2, .int .i64 a0_3, .int .i64 a0_4, .int .i64 a0_5, .int .i64 a0_6, .int .i64 a0_7, .int .i64 a0_8, .int .i64 a0_9, .slice A0_10 l0_10.length c0_10, .int .i64 a0_11, .int .i64 a0_12, .bool a0_13, .slice A0_14 l0_14.length c0_14, .string a0_15]] w fun e w' => e = .returned (.int .i64 1) ∧ Below w.heap.size w w' := by
  have HR10 := Aside0.mk hr0_10
  have HR14 := Aside0.mk hr0_14
  clear hr0_10 hr0_14
  go_enter Tryd.func11, Tryd.ntmps11
  go_wp2
  go_ret
  exact ⟨rfl, (by repeat (first | exact Below.refl _ _ | apply below_alloc | apply pw_below_drewN | apply below_drew1))⟩
set_option maxRecDepth 100000 in
set_option maxHeartbeats 4000000 in
theorem chk_2 (a0_0 a0_1 a0_2 a0_3 a0_4 a0_5 a0_6 a0_7 a0_8 a0_9 : Int) (A0_10 : Option Addr) (c0_10 : Nat) (l0_10 : List Int) (a0_11 a0_12 : Int) (a0_13 : Bool) (A0_14 : Option Addr) (c0_14 : Nat) (l0_14 : List (P.S52)) (a0_15 : ByteArray) (w : World) (hr0_10 : Kd.C (Kd.int .i64) w A0_10 l0_10.length l0_10) (hc0_10 : l0_10.length ≤ c0_10) (hr0_14 : Kd.C P.k52 w A0_14 l0_14.length l0_14) (hc0_14 : l0_14.length ≤ c0_14) (p1 : 1 ≤ a0_0) (p2 : a0_0 ≤ 19) (p3 : 0 ≤ a0_1) (p4 : a0_1 < 16) (hodd : (six a0_2 a0_3 a0_4 a0_5 a0_6 a0_7).any oddP = true) :
    Calls Tryd.prog 11 #[.agg #[.int .i64 a0_0, .int .i64 a0_1, .int .i64 a0_2, .int .i64 a0_3, .int .i64 a0_4, .int .i64 a0_5, .int .i64 a0_6, .int .i64 a0_7, .int .i64 a0_8, .int .i64 a0_9, .slice A0_10 l0_10.length c0_10, .int .i64 a0_11, .int .i64 a0_12, .bool a0_13, .slice A0_14 l0_14.length c0_14, .string a0_15]] w fun e w' => e = .returned (.int .i64 1) ∧ Below w.heap.size w w' := by
  have HR10 := Aside0.mk hr0_10
  have HR14 := Aside0.mk hr0_14
  clear hr0_10 hr0_14
  have HODD := Aside0.mk hodd
  clear hodd
  go_enter Tryd.func11, Tryd.ntmps11
  go_wp2_with (first | (go_at_call 27; refine (hasOdd_any _ (six a0_2 a0_3 a0_4 a0_5 a0_6 a0_7) 6 _ true (lit_C _ _ 3 _ _ (by simp) rfl (by simp [six])) HODD.out).mono ?_; rintro e w' ⟨rfl, rfl⟩) | fail)
  go_ret
  exact ⟨rfl, (by repeat (first | exact Below.refl _ _ | apply below_alloc | apply pw_below_drewN | apply below_drew1))⟩
set_option maxRecDepth 100000 in
set_option maxHeartbeats 4000000 in
theorem chk_3a (a0_0 a0_1 a0_2 a0_3 a0_4 a0_5 a0_6 a0_7 a0_8 a0_9 : Int) (A0_10 : Option Addr) (c0_10 : Nat) (l0_10 : List Int) (a0_11 a0_12 : Int) (a0_13 : Bool) (A0_14 : Option Addr) (c0_14 : Nat) (l0_14 : List (P.S52)) (a0_15 : ByteArray) (w : World) (hr0_10 : Kd.C (Kd.int .i64) w A0_10 l0_10.length l0_10) (hc0_10 : l0_10.length ≤ c0_10) (hr0_14 : Kd.C P.k52 w A0_14 l0_14.length l0_14) (hc0_14 : l0_14.length ≤ c0_14) (p1 : 1 ≤ a0_0) (p2 : a0_0 ≤ 19) (p3 : 0 ≤ a0_1) (p4 : a0_1 < 16) (hodd : (six a0_2 a0_3 a0_4 a0_5 a0_6 a0_7).any oddP = false) (q1 : a0_8 < 0) :
    Calls Tryd.prog 11 #[.agg #[.int .i64 a0_0, .int .i64 a0_1, .int .i64 a0_2, .int .i64 a0_3, .int .i64 a0_4, .int .i64 a0_5, .int .i64 a0_6, .int .i64 a0_7, .int .i64 a0_8, .int .i64 a0_9, .slice A0_10 l0_10.length c0_10, .int .i64 a0_11, .int .i64 a0_12, .bool a0_13, .slice A0_14 l0_14.length c0_14, .string a0_15]] w fun e w' => e = .returned (.int .i64 1) ∧ Below w.heap.size w w' := by
  have HR10 := Aside0.mk hr0_10
  have HR14 := Aside0.mk hr0_14
  clear hr0_10 hr0_14
  have HODD := Aside0.mk hodd
  clear hodd
  go_enter Tryd.func11, Tryd.ntmps11
  go_wp2_with (first | (go_at_call 27; refine (hasOdd_any _ (six a0_2 a0_3 a0_4 a0_5 a0_6 a0_7) 6 _ false (lit_C _ _ 3 _ _ (by simp) rfl (by simp [six])) HODD.out).mono ?_; rintro e w' ⟨rfl, rfl⟩) | fail)
  go_ret
  exact ⟨rfl, (by repeat (first | exact Below.refl _ _ | apply below_alloc | apply pw_below_drewN | apply below_drew1))⟩
set_option maxRecDepth 100000 in
set_option maxHeartbeats 4000000 in
theorem chk_3b (a0_0 a0_1 a0_2 a0_3 a0_4 a0_5 a0_6 a0_7 a0_8 a0_9 : Int) (A0_10 : Option Addr) (c0_10 : Nat) (l0_10 : List Int) (a0_11 a0_12 : Int) (a0_13 : Bool) (A0_14 : Option Addr) (c0_14 : Nat) (l0_14 : List (P.S52)) (a0_15 : ByteArray) (w : World) (hr0_10 : Kd.C (Kd.int .i64) w A0_10 l0_10.length l0_10) (hc0_10 : l0_10.length ≤ c0_10) (hr0_14 : Kd.C P.k52 w A0_14 l0_14.length l0_14) (hc0_14 : l0_14.length ≤ c0_14) (p1 : 1 ≤ a0_0) (p2 : a0_0 ≤ 19) (p3 : 0 ≤ a0_1) (p4 : a0_1 < 16) (hodd : (six a0_2 a0_3 a0_4 a0_5 a0_6 a0_7).any oddP = false) (q1 : 0 ≤ a0_8) (q2 : 3 < a0_8) :
    Calls Tryd.prog 11 #[.agg #[.int .i64 a0_0, .int .i64 a0_1, .int .i64 a0_2, .int .i64 a0_3, .int .i64 a0_4, .int .i64 a0_5, .int .i64 a0_6, .int .i64 a0_7, .int .i64 a0_8, .int .i64 a0_9, .slice A0_10 l0_10.length c0_10, .int .i64 a0_11, .int .i64 a0_12, .bool a0_13, .slice A0_14 l0_14.length c0_14, .string a0_15]] w fun e w' => e = .returned (.int .i64 1) ∧ Below w.heap.size w w' := by
  have HR10 := Aside0.mk hr0_10
  have HR14 := Aside0.mk hr0_14
  clear hr0_10 hr0_14
  have HODD := Aside0.mk hodd
  clear hodd
  go_enter Tryd.func11, Tryd.ntmps11
  go_wp2_with (first | (go_at_call 27; refine (hasOdd_any _ (six a0_2 a0_3 a0_4 a0_5 a0_6 a0_7) 6 _ false (lit_C _ _ 3 _ _ (by simp) rfl (by simp [six])) HODD.out).mono ?_; rintro e w' ⟨rfl, rfl⟩) | fail)
  go_ret
  exact ⟨rfl, (by repeat (first | exact Below.refl _ _ | apply below_alloc | apply pw_below_drewN | apply below_drew1))⟩
set_option maxRecDepth 100000 in
set_option maxHeartbeats 4000000 in
theorem chk_3c (a0_0 a0_1 a0_2 a0_3 a0_4 a0_5 a0_6 a0_7 a0_8 a0_9 : Int) (A0_10 : Option Addr) (c0_10 : Nat) (l0_10 : List Int) (a0_11 a0_12 : Int) (a0_13 : Bool) (A0_14 : Option Addr) (c0_14 : Nat) (l0_14 : List (P.S52)) (a0_15 : ByteArray) (w : World) (hr0_10 : Kd.C (Kd.int .i64) w A0_10 l0_10.length l0_10) (hc0_10 : l0_10.length ≤ c0_10) (hr0_14 : Kd.C P.k52 w A0_14 l0_14.length l0_14) (hc0_14 : l0_14.length ≤ c0_14) (p1 : 1 ≤ a0_0) (p2 : a0_0 ≤ 19) (p3 : 0 ≤ a0_1) (p4 : a0_1 < 16) (hodd : (six a0_2 a0_3 a0_4 a0_5 a0_6 a0_7).any oddP = false) (q1 : 0 ≤ a0_8) (q2 : a0_8 ≤ 3) (q3 : a0_11 < 0) :
    Calls Tryd.prog 11 #[.agg #[.int .i64 a0_0, .int .i64 a0_1, .int .i64 a0_2, .int .i64 a0_3, .int .i64 a0_4, .int .i64 a0_5, .int .i64 a0_6, .int .i64 a0_7, .int .i64 a0_8, .int .i64 a0_9, .slice A0_10 l0_10.length c0_10, .int .i64 a0_11, .int .i64 a0_12, .bool a0_13, .slice A0_14 l0_14.length c0_14, .string a0_15]] w fun e w' => e = .returned (.int .i64 1) ∧ Below w.heap.size w w' := by
  have HR10 := Aside0.mk hr0_10
  have HR14 := Aside0.mk hr0_14
  clear hr0_10 hr0_14
  have HODD := Aside0.mk hodd
  clear hodd
  go_enter Tryd.func11, Tryd.ntmps11
  go_wp2_with (first | (go_at_call 27; refine (hasOdd_any _ (six a0_2 a0_3 a0_4 a0_5 a0_6 a0_7) 6 _ false (lit_C _ _ 3 _ _ (by simp) rfl (by simp [six])) HODD.out).mono ?_; rintro e w' ⟨rfl, rfl⟩) | fail)
  go_ret
  exact ⟨rfl, (by repeat (first | exact Below.refl _ _ | apply below_alloc | apply pw_below_drewN | apply below_drew1))⟩
set_option maxRecDepth 100000 in
set_option maxHeartbeats 4000000 in
theorem chk_3d (a0_0 a0_1 a0_2 a0_3 a0_4 a0_5 a0_6 a0_7 a0_8 a0_9 : Int) (A0_10 : Option Addr) (c0_10 : Nat) (l0_10 : List Int) (a0_11 a0_12 : Int) (a0_13 : Bool) (A0_14 : Option Addr) (c0_14 : Nat) (l0_14 : List (P.S52)) (a0_15 : ByteArray) (w : World) (hr0_10 : Kd.C (Kd.int .i64) w A0_10 l0_10.length l0_10) (hc0_10 : l0_10.length ≤ c0_10) (hr0_14 : Kd.C P.k52 w A0_14 l0_14.length l0_14) (hc0_14 : l0_14.length ≤ c0_14) (p1 : 1 ≤ a0_0) (p2 : a0_0 ≤ 19) (p3 : 0 ≤ a0_1) (p4 : a0_1 < 16) (hodd : (six a0_2 a0_3 a0_4 a0_5 a0_6 a0_7).any oddP = false) (q1 : 0 ≤ a0_8) (q2 : a0_8 ≤ 3) (q3 : 0 ≤ a0_11) (q4 : 64 < a0_11) :
    Calls Tryd.prog 11 #[.agg #[.int .i64 a0_0, .int .i64 a0_1, .int .i64 a0_2, .int .i64 a0_3, .int .i64 a0_4, .int .i64 a0_5, .int .i64 a0_6, .int .i64 a0_7, .int .i64 a0_8, .int .i64 a0_9, .slice A0_10 l0_10.length c0_10, .int .i64 a0_11, .int .i64 a0_12, .bool a0_13, .slice A0_14 l0_14.length c0_14, .string a0_15]] w fun e w' => e = .returned (.int .i64 1) ∧ Below w.heap.size w w' := by
  have HR10 := Aside0.mk hr0_10
  have HR14 := Aside0.mk hr0_14
  clear hr0_10 hr0_14
  have HODD := Aside0.mk hodd
  clear hodd
  go_enter Tryd.func11, Tryd.ntmps11
  go_wp2_with (first | (go_at_call 27; refine (hasOdd_any _ (six a0_2 a0_3 a0_4 a0_5 a0_6 a0_7) 6 _ false (lit_C _ _ 3 _ _ (by simp) rfl (by simp [six])) HODD.out).mono ?_; rintro e w' ⟨rfl, rfl⟩) | fail)
  go_ret
  exact ⟨rfl, (by repeat (first | exact Below.refl _ _ | apply below_alloc | apply pw_below_drewN | apply below_drew1))⟩
set_option maxRecDepth 100000 in
set_option maxHeartbeats 4000000 in
theorem chk_4 (a0_0 a0_1 a0_2 a0_3 a0_4 a0_5 a0_6 a0_7 a0_8 a0_9 : Int) (A0_10 : Option Addr) (c0_10 : Nat) (l0_10 : List Int) (a0_11 a0_12 : Int) (a0_13 : Bool) (A0_14 : Option Addr) (c0_14 : Nat) (l0_14 : List (P.S52)) (a0_15 : ByteArray) (w : World) (hr0_10 : Kd.C (Kd.int .i64) w A0_10 l0_10.length l0_10) (hc0_10 : l0_10.length ≤ c0_10) (hr0_14 : Kd.C P.k52 w A0_14 l0_14.length l0_14) (hc0_14 : l0_14.length ≤ c0_14) (p1 : 1 ≤ a0_0) (p2 : a0_0 ≤ 19) (p3 : 0 ≤ a0_1) (p4 : a0_1 < 16) (hodd : (six a0_2 a0_3 a0_4 a0_5 a0_6 a0_7).any oddP = false) (q1 : 0 ≤ a0_8) (q2 : a0_8 ≤ 3) (q3 : 0 ≤ a0_11) (q4 : a0_11 ≤ 64) (v1 : 0 < (l0_10.length : Int)) (hv : vchk l0_10 = 50) :
    Calls Tryd.prog 11 #[.agg #[.int .i64 a0_0, .int .i64 a0_1, .int .i64 a0_2, .int .i64 a0_3, .int .i64 a0_4, .int .i64 a0_5, .int .i64 a0_6, .int .i64 a0_7, .int .i64 a0_8, .int .i64 a0_9, .slice A0_10 l0_10.length c0_10, .int .i64 a0_11, .int .i64 a0_12, .bool a0_13, .slice A0_14 l0_14.length c0_14, .string a0_15]] w fun e w' => e = .returned (.int .i64 1) ∧ Below w.heap.size w w' := by
  have HR10 := Aside0.mk hr0_10
  have HR14 := Aside0.mk hr0_14
  clear hr0_10 hr0_14
  have HODD := Aside0.mk hodd
  clear hodd
  have HV := Aside0.mk hv
  clear hv
  go_enter Tryd.func11, Tryd.ntmps11
  go_wp2_with (first | (go_at_call 27; refine (hasOdd_any _ (six a0_2 a0_3 a0_4 a0_5 a0_6 a0_7) 6 _ false (lit_C _ _ 3 _ _ (by simp) rfl (by simp [six])) HODD.out).mono ?_; rintro e w' ⟨rfl, rfl⟩) | (go_at_call 28; refine (check_any A0_10 l0_10 c0_10 (l0_10.length : Int) _ 50 (Kd.C_below HR10.out (by repeat (first | exact Below.refl _ _ | apply below_alloc | apply pw_below_drewN | apply below_drew1))) HV.out).mono ?_; rintro e w' ⟨rfl, rfl⟩) | fail)
  go_ret
  exact ⟨rfl, (by repeat (first | exact Below.refl _ _ | apply below_alloc | apply pw_below_drewN | apply below_drew1))⟩
end Go.Proofs.YtlggihnkhimfkaaDoor.Giv
