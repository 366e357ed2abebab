/- Texts put together by prune.py: Px13, Px14, BncD, BncG. -/
import Derived.Test.YtcdfedbecgfanaaDoorQc6
namespace Go.Proofs.YtcdfedbecgfanaaDoor.P
open Go.RowKit Go.Proofs.YtcdfedbecgfanaaDoorW.PrintWords Go.Proofs.YtcdfedbecgfanaaDoorW.PrintLast Go.Proofs.YtcdfedbecgfanaaDoorW.PrintMore
attribute [local go_sem] max2_int min2_int max_two min_two max_three min_three max_four min_four   -- for this text's walks alone
set_option linter.unusedVariables false
set_option linter.unusedSimpArgs false
open Go.Proofs.YtcdfedbecgfanaaDoor.Giv
def benc_Only.f (a0 : ByteArray) : Option (Int × Int × ByteArray × (List (S24)) × Int) := (benc_Take.f a0).bind fun bt289 => (if bt289.2.2.2.2.2 = 0 then (if bt289.2.2.2.2.1 < (a0.size : Int) then (some (0, 0, (⟨#[]⟩ : ByteArray), ([] : List (S24)), 20)) else (some (bt289.1, bt289.2.1, bt289.2.2.1, bt289.2.2.2.1, 0))) else (some (0, 0, (⟨#[]⟩ : ByteArray), ([] : List (S24)), bt289.2.2.2.2.2)))
set_option maxHeartbeats 8000000 in
set_option maxRecDepth 100000 in
theorem benc_Only.calls (a0 : ByteArray) (r1 : Int) (r2 : Int) (r3 : ByteArray) (r4 : List (S24)) (r5 : Int) (w : World) (hL : LaidW w) (h : benc_Only.f a0 = some (r1, r2, r3, r4, r5)) :
    Calls Tryd.prog 17 #[.string a0] w fun e w' => ∃ v3_ : Value, e = .returned (.tuple #[.agg #[.int .i64 r1, .int .i64 r2, .string r3, v3_], .int .i64 r5]) ∧ Kd.R k24 24 w' w.heap.size (fun _ => True) v3_ r4 ∧ Below w.heap.size w w' := by
  have hu24 := Tryd.underlying24
  have HB := Aside0.mk (Below.refl w.heap.size w)
  have H : ((benc_Take.f a0).bind fun bt289 => (if bt289.2.2.2.2.2 = 0 then (if bt289.2.2.2.2.1 < (a0.size : Int) then (some (0, 0, (⟨#[]⟩ : ByteArray), ([] : List (S24)), 20)) else (some (bt289.1, bt289.2.1, bt289.2.2.1, bt289.2.2.2.1, 0))) else (some (0, 0, (⟨#[]⟩ : ByteArray), ([] : List (S24)), bt289.2.2.2.2.2)))) = some (r1, r2, r3, r4, r5) := h
  clear h
  replace H := Option.bind_eq_some_iff.mp H
  obtain ⟨⟨t289, t290, t291, t292, t295, t296⟩, A20, H⟩ := H
  replace H : (if t296 = 0 then (if t295 < (a0.size : Int) then (some (0, 0, (⟨#[]⟩ : ByteArray), ([] : List (S24)), 20)) else (some (t289, t290, t291, t292, 0))) else (some (0, 0, (⟨#[]⟩ : ByteArray), ([] : List (S24)), t296))) = some (r1, r2, r3, r4, r5) := H
  have A2 := Aside0.mk A20
  clear A20
  by_cases c3 : t296 = 0
  · rw [if_pos c3] at H
    have c3b0 : (t296 == 0) = true := beq_iff_eq.mpr c3
    have c3b1 : (t296 != 0) = false := bne_eq_false_iff_eq.mpr c3
    clear c3
    by_cases c4 : t295 < (a0.size : Int)
    · rw [if_pos c4] at H
      have c4b0 : decide (t295 < (a0.size : Int)) = true := decide_eq_true c4
      clear c4
      simp only [Option.some.injEq, Prod.mk.injEq] at H
      obtain ⟨rfl, rfl, rfl, rfl, rfl⟩ := H
      go_enter Tryd.func17, Tryd.ntmps17
      go_wp2_with (first | ((with_reducible refine gate_dst (N := 2) rfl ?_); refine box_event ?hg (N := 2) ?hd (cs := #[.int .i64 0, .int .i64 0, .string (⟨#[]⟩ : ByteArray), .slice none 0 0]) (t := 24) ?hr ?_; (case hd => rfl); (case hg => rfl); (case hr => first | (go_simp; done) | (go_simp; rfl)); intro gb288 hg w5 hbox hb; have n0_ := Aside0.mk (below_step (by repeat (first | (with_reducible first | exact HB.out | apply below_alloc | apply pw_below_drewN | apply below_drew1) | exact HB.out)) hb); have n1_ := Aside0.mk (hbox); have n2_ := Aside0.mk ((by rw [hg]; exact (below_size (by repeat (first | (with_reducible first | exact HB.out | apply below_alloc | apply pw_below_drewN | apply below_drew1) | exact HB.out))) : w.heap.size ≤ gb288)); have n3_ := Aside0.mk ((by rw [hg]; exact (below_size (by repeat (first | (with_reducible first | exact HB.out | apply below_alloc | apply pw_below_drewN | apply below_drew1) | exact HB.out))) : w.heap.size ≤ gb288)); clear HB; have HB := n0_; have BK288 := n1_; have GW288 := n2_; have GE288 := n3_; clear n0_ n1_ n2_ n3_; clear hb hbox hg) | ((with_reducible refine gate_callee (f := 14) rfl ?_); refine goesL_ (some 9) rfl rfl Tryd.func14 (by kernel_rfl) rfl #[.string a0] rfl (by (try simp only [List.map_toArray, List.map_cons, List.map_nil]); first | done | rfl | (simp only [List.length_drop, List.length_take]; rfl)) ?_; (with_reducible refine (benc_Take.calls a0 t289 t290 t291 t292 t295 t296 _ (LaidW.below hL (by repeat (first | (with_reducible first | exact HB.out | apply below_alloc | apply pw_below_drewN | apply below_drew1 | refine below_set ?_ GE288.out) | exact HB.out))) A2.out).mono ?_); rintro e w6 ⟨v293, rfl, ho0, hb⟩; refine ⟨_, rfl, ?_⟩; have n0_ := Aside0.mk (Kd.R_lower (Kd.R_newB ho0 (g := gb288) (o := .cells #[.int .i64 0, .int .i64 0, .string (⟨#[]⟩ : ByteArray), .slice none 0 0] 24 (0, 0)) (by (with_reducible repeat (first | refine blk_drewN ?_ _ | refine blk_drew ?_ | refine blk_alloc ?_ _)); exact BK288.out)) (below_size (by repeat (first | (with_reducible first | exact HB.out | apply below_alloc | apply pw_below_drewN | apply below_drew1 | refine below_set ?_ GE288.out) | exact HB.out)))); have n1_ := Aside0.mk (blk_below (g := gb288) (o := .cells #[.int .i64 0, .int .i64 0, .string (⟨#[]⟩ : ByteArray), .slice none 0 0] 24 (0, 0)) (by (with_reducible repeat (first | refine blk_drewN ?_ _ | refine blk_drew ?_ | refine blk_alloc ?_ _)); exact BK288.out) hb); have n2_ := Aside0.mk (below_step (by repeat (first | (with_reducible first | exact HB.out | apply below_alloc | apply pw_below_drewN | apply below_drew1 | refine below_set ?_ GE288.out) | exact HB.out)) hb); clear BK288; clear HB; have HO294 := n0_; have BK288 := n1_; have HB := n2_; clear n0_ n1_ n2_; (try clear hb); (try clear hb2); (try clear hk); (try clear hi); (try clear ho0)) | ((with_reducible refine gate_dst (N := 4) rfl ?_); refine box_event ?hg (N := 4) ?hd (cs := #[.int .i64 0, .int .i64 0, .string (⟨#[]⟩ : ByteArray), .slice none 0 0]) (t := 24) ?hr ?_; (case hd => rfl); (case hg => rfl); (case hr => first | (go_simp; done) | (go_simp; rfl)); intro gb297 hg w7 hbox hb; have n0_ := Aside0.mk (Kd.R_below (Kd.R_elderB (by (with_reducible repeat (first | apply Kd.R_alloc | apply Kd.R_drewN | apply Kd.R_drew)); exact HO294.out) gb297 (Nat.le_of_eq hg.symm)) hb); have n1_ := Aside0.mk (blk_below (g := gb288) (o := .cells #[.int .i64 0, .int .i64 0, .string (⟨#[]⟩ : ByteArray), .slice none 0 0] 24 (0, 0)) (by (with_reducible repeat (first | refine blk_drewN ?_ _ | refine blk_drew ?_ | refine blk_alloc ?_ _)); exact BK288.out) hb); have n2_ := Aside0.mk (below_step (by repeat (first | (with_reducible first | exact HB.out | apply below_alloc | apply pw_below_drewN | apply below_drew1 | refine below_set ?_ GE288.out) | exact HB.out)) hb); have n3_ := Aside0.mk (hbox); have n4_ := Aside0.mk ((by rw [hg]; exact (below_size (by repeat (first | (with_reducible first | exact HB.out | apply below_alloc | apply pw_below_drewN | apply below_drew1 | refine below_set ?_ GE288.out) | exact HB.out))) : w.heap.size ≤ gb297)); have n5_ := Aside0.mk ((by rw [hg]; exact (below_size (by repeat (first | (with_reducible first | exact HB.out | apply below_alloc | apply pw_below_drewN | apply below_drew1 | refine below_set ?_ GE288.out) | exact HB.out))) : w.heap.size ≤ gb297)); have n6_ := Aside0.mk ((by rw [hg]; exact Nat.ne_of_lt (blk_lt (g := gb288) (o := .cells #[.int .i64 0, .int .i64 0, .string (⟨#[]⟩ : ByteArray), .slice none 0 0] 24 (0, 0)) (by (with_reducible repeat (first | refine blk_drewN ?_ _ | refine blk_drew ?_ | refine blk_alloc ?_ _)); exact BK288.out)) : gb288 ≠ gb297)); have n7_ := Aside0.mk ((by rw [hg]; exact Nat.ne_of_gt (blk_lt (g := gb288) (o := .cells #[.int .i64 0, .int .i64 0, .string (⟨#[]⟩ : ByteArray), .slice none 0 0] 24 (0, 0)) (by (with_reducible repeat (first | refine blk_drewN ?_ _ | refine blk_drew ?_ | refine blk_alloc ?_ _)); exact BK288.out)) : gb297 ≠ gb288)); clear HO294; clear BK288; clear HB; have HO294 := n0_; have BK288 := n1_; have HB := n2_; have BK297 := n3_; have GW297 := n4_; have GE297 := n5_; have NB288_297 := n6_; have NB297_288 := n7_; clear n0_ n1_ n2_ n3_ n4_ n5_ n6_ n7_; clear hb hbox hg; have hnb8 := NB297_288.out; have hnc8 := NB288_297.out; have hcz9_0 : w7.cell? ⟨gb297, 0, none⟩ = some (.int .i64 0) := (blk_cell BK297.out 0).trans rfl; have hcz9_1 : w7.cell? ⟨gb297, 1, none⟩ = some (.int .i64 0) := (blk_cell BK297.out 1).trans rfl; have hcz9_2 : w7.cell? ⟨gb297, 2, none⟩ = some (.string (⟨#[]⟩ : ByteArray)) := (blk_cell BK297.out 2).trans rfl; have hcz9_3 : w7.cell? ⟨gb297, 3, none⟩ = some (.slice none 0 0) := (blk_cell BK297.out 3).trans rfl; have hfz9_0 := blk_frozen BK297.out 0; have hfz9_1 := blk_frozen BK297.out 1; have hfz9_2 := blk_frozen BK297.out 2; have hfz9_3 := blk_frozen BK297.out 3; obtain ⟨Ao10, co10, eo10⟩ := Kd.R_slice HO294.out; subst eo10; have hcz11_0 : w7.cell? ⟨gb288, 0, none⟩ = some (.int .i64 0) := (blk_cell BK288.out 0).trans rfl; have hcz11_1 : w7.cell? ⟨gb288, 1, none⟩ = some (.int .i64 0) := (blk_cell BK288.out 1).trans rfl; have hcz11_2 : w7.cell? ⟨gb288, 2, none⟩ = some (.string (⟨#[]⟩ : ByteArray)) := (blk_cell BK288.out 2).trans rfl; have hcz11_3 : w7.cell? ⟨gb288, 3, none⟩ = some (.slice none 0 0) := (blk_cell BK288.out 3).trans rfl; have hfz11_0 := blk_frozen BK288.out 0; have hfz11_1 := blk_frozen BK288.out 1; have hfz11_2 := blk_frozen BK288.out 2; have hfz11_3 := blk_frozen BK288.out 3))
      refine bodyPost_ret (results_ct rfl _ _ gb288 24 #[.int .i64 0, .int .i64 0, .string (⟨#[]⟩ : ByteArray), .slice none 0 0] (0, 0) _ rfl (by (with_reducible repeat (first | refine blk_drewN ?_ _ | refine blk_drew ?_ | refine blk_alloc ?_ _)); refine blk_put (cs := #[.int .i64 0, .int .i64 0, .string (⟨#[]⟩ : ByteArray), .slice none 0 0]) ?_ 3 _ rfl; (with_reducible repeat (first | refine blk_drewN ?_ _ | refine blk_drew ?_ | refine blk_alloc ?_ _)); refine blk_put (cs := #[.int .i64 0, .int .i64 0, .string (⟨#[]⟩ : ByteArray), .slice none 0 0]) ?_ 2 _ rfl; (with_reducible repeat (first | refine blk_drewN ?_ _ | refine blk_drew ?_ | refine blk_alloc ?_ _)); refine blk_put (cs := #[.int .i64 0, .int .i64 0, .string (⟨#[]⟩ : ByteArray), .slice none 0 0]) ?_ 1 _ rfl; (with_reducible repeat (first | refine blk_drewN ?_ _ | refine blk_drew ?_ | refine blk_alloc ?_ _)); refine blk_put (cs := #[.int .i64 0, .int .i64 0, .string (⟨#[]⟩ : ByteArray), .slice none 0 0]) ?_ 0 _ rfl; (with_reducible repeat (first | refine blk_drewN ?_ _ | refine blk_drew ?_ | refine blk_alloc ?_ _)); refine blk_far ?_ NB288_297.out _; (with_reducible repeat (first | refine blk_drewN ?_ _ | refine blk_drew ?_ | refine blk_alloc ?_ _)); refine blk_far ?_ NB288_297.out _; (with_reducible repeat (first | refine blk_drewN ?_ _ | refine blk_drew ?_ | refine blk_alloc ?_ _)); refine blk_far ?_ NB288_297.out _; (with_reducible repeat (first | refine blk_drewN ?_ _ | refine blk_drew ?_ | refine blk_alloc ?_ _)); refine blk_far ?_ NB288_297.out _; (with_reducible repeat (first | refine blk_drewN ?_ _ | refine blk_drew ?_ | refine blk_alloc ?_ _)); exact BK288.out) Tryd.underlying24 rfl (by kernel_rfl)) rfl ?_
      exact ⟨_, by first | rfl | (simp [errW_none, errW_some] <;> rfl) | (simp [*, errW_none, errW_some] <;> rfl), by first | exact Kd.R_nil _ _ _ _ _ | exact Kd.N_nil _ _ _ _ _ | exact Kd.V_nil _ _ _ _ _ | exact Kd.Q_nil _ _ _ _ _ | exact Kd.S_nil _ _ _ _ _, by repeat (first | (with_reducible first | exact HB.out | apply below_alloc | apply pw_below_drewN | apply below_drew1 | refine below_set ?_ GE288.out | refine below_set ?_ GE297.out) | exact HB.out)⟩
    · rw [if_neg c4] at H
      have c4b0 : decide (t295 < (a0.size : Int)) = false := decide_eq_false c4
      clear c4
      simp only [Option.some.injEq, Prod.mk.injEq] at H
      obtain ⟨rfl, rfl, rfl, rfl, rfl⟩ := H
      go_enter Tryd.func17, Tryd.ntmps17
      go_wp2_with (first | ((with_reducible refine gate_dst (N := 2) rfl ?_); refine box_event ?hg (N := 2) ?hd (cs := #[.int .i64 0, .int .i64 0, .string (⟨#[]⟩ : ByteArray), .slice none 0 0]) (t := 24) ?hr ?_; (case hd => rfl); (case hg => rfl); (case hr => first | (go_simp; done) | (go_simp; rfl)); intro gb288 hg w12 hbox hb; have n0_ := Aside0.mk (below_step (by repeat (first | (with_reducible first | exact HB.out | apply below_alloc | apply pw_below_drewN | apply below_drew1) | exact HB.out)) hb); have n1_ := Aside0.mk (hbox); have n2_ := Aside0.mk ((by rw [hg]; exact (below_size (by repeat (first | (with_reducible first | exact HB.out | apply below_alloc | apply pw_below_drewN | apply below_drew1) | exact HB.out))) : w.heap.size ≤ gb288)); have n3_ := Aside0.mk ((by rw [hg]; exact (below_size (by repeat (first | (with_reducible first | exact HB.out | apply below_alloc | apply pw_below_drewN | apply below_drew1) | exact HB.out))) : w.heap.size ≤ gb288)); clear HB; have HB := n0_; have BK288 := n1_; have GW288 := n2_; have GE288 := n3_; clear n0_ n1_ n2_ n3_; clear hb hbox hg) | ((with_reducible refine gate_callee (f := 14) rfl ?_); refine goesL_ (some 9) rfl rfl Tryd.func14 (by kernel_rfl) rfl #[.string a0] rfl (by (try simp only [List.map_toArray, List.map_cons, List.map_nil]); first | done | rfl | (simp only [List.length_drop, List.length_take]; rfl)) ?_; (with_reducible refine (benc_Take.calls a0 t289 t290 t291 t292 t295 t296 _ (LaidW.below hL (by repeat (first | (with_reducible first | exact HB.out | apply below_alloc | apply pw_below_drewN | apply below_drew1 | refine below_set ?_ GE288.out) | exact HB.out))) A2.out).mono ?_); rintro e w13 ⟨v293, rfl, ho0, hb⟩; refine ⟨_, rfl, ?_⟩; have n0_ := Aside0.mk (Kd.R_lower (Kd.R_newB ho0 (g := gb288) (o := .cells #[.int .i64 0, .int .i64 0, .string (⟨#[]⟩ : ByteArray), .slice none 0 0] 24 (0, 0)) (by (with_reducible repeat (first | refine blk_drewN ?_ _ | refine blk_drew ?_ | refine blk_alloc ?_ _)); exact BK288.out)) (below_size (by repeat (first | (with_reducible first | exact HB.out | apply below_alloc | apply pw_below_drewN | apply below_drew1 | refine below_set ?_ GE288.out) | exact HB.out)))); have n1_ := Aside0.mk (blk_below (g := gb288) (o := .cells #[.int .i64 0, .int .i64 0, .string (⟨#[]⟩ : ByteArray), .slice none 0 0] 24 (0, 0)) (by (with_reducible repeat (first | refine blk_drewN ?_ _ | refine blk_drew ?_ | refine blk_alloc ?_ _)); exact BK288.out) hb); have n2_ := Aside0.mk (below_step (by repeat (first | (with_reducible first | exact HB.out | apply below_alloc | apply pw_below_drewN | apply below_drew1 | refine below_set ?_ GE288.out) | exact HB.out)) hb); clear BK288; clear HB; have HO294 := n0_; have BK288 := n1_; have HB := n2_; clear n0_ n1_ n2_; (try clear hb); (try clear hb2); (try clear hk); (try clear hi); (try clear ho0)) | ((with_reducible refine gate_dst (N := 4) rfl ?_); refine box_event ?hg (N := 4) ?hd (cs := #[.int .i64 0, .int .i64 0, .string (⟨#[]⟩ : ByteArray), .slice none 0 0]) (t := 24) ?hr ?_; (case hd => rfl); (case hg => rfl); (case hr => first | (go_simp; done) | (go_simp; rfl)); intro gb297 hg w14 hbox hb; have n0_ := Aside0.mk (Kd.R_below (Kd.R_elderB (by (with_reducible repeat (first | apply Kd.R_alloc | apply Kd.R_drewN | apply Kd.R_drew)); exact HO294.out) gb297 (Nat.le_of_eq hg.symm)) hb); have n1_ := Aside0.mk (blk_below (g := gb288) (o := .cells #[.int .i64 0, .int .i64 0, .string (⟨#[]⟩ : ByteArray), .slice none 0 0] 24 (0, 0)) (by (with_reducible repeat (first | refine blk_drewN ?_ _ | refine blk_drew ?_ | refine blk_alloc ?_ _)); exact BK288.out) hb); have n2_ := Aside0.mk (below_step (by repeat (first | (with_reducible first | exact HB.out | apply below_alloc | apply pw_below_drewN | apply below_drew1 | refine below_set ?_ GE288.out) | exact HB.out)) hb); have n3_ := Aside0.mk (hbox); have n4_ := Aside0.mk ((by rw [hg]; exact (below_size (by repeat (first | (with_reducible first | exact HB.out | apply below_alloc | apply pw_below_drewN | apply below_drew1 | refine below_set ?_ GE288.out) | exact HB.out))) : w.heap.size ≤ gb297)); have n5_ := Aside0.mk ((by rw [hg]; exact (below_size (by repeat (first | (with_reducible first | exact HB.out | apply below_alloc | apply pw_below_drewN | apply below_drew1 | refine below_set ?_ GE288.out) | exact HB.out))) : w.heap.size ≤ gb297)); have n6_ := Aside0.mk ((by rw [hg]; exact Nat.ne_of_lt (blk_lt (g := gb288) (o := .cells #[.int .i64 0, .int .i64 0, .string (⟨#[]⟩ : ByteArray), .slice none 0 0] 24 (0, 0)) (by (with_reducible repeat (first | refine blk_drewN ?_ _ | refine blk_drew ?_ | refine blk_alloc ?_ _)); exact BK288.out)) : gb288 ≠ gb297)); have n7_ := Aside0.mk ((by rw [hg]; exact Nat.ne_of_gt (blk_lt (g := gb288) (o := .cells #[.int .i64 0, .int .i64 0, .string (⟨#[]⟩ : ByteArray), .slice none 0 0] 24 (0, 0)) (by (with_reducible repeat (first | refine blk_drewN ?_ _ | refine blk_drew ?_ | refine blk_alloc ?_ _)); exact BK288.out)) : gb297 ≠ gb288)); clear HO294; clear BK288; clear HB; have HO294 := n0_; have BK288 := n1_; have HB := n2_; have BK297 := n3_; have GW297 := n4_; have GE297 := n5_; have NB288_297 := n6_; have NB297_288 := n7_; clear n0_ n1_ n2_ n3_ n4_ n5_ n6_ n7_; clear hb hbox hg; have hnb15 := NB297_288.out; have hnc15 := NB288_297.out; have hcz16_0 : w14.cell? ⟨gb297, 0, none⟩ = some (.int .i64 0) := (blk_cell BK297.out 0).trans rfl; have hcz16_1 : w14.cell? ⟨gb297, 1, none⟩ = some (.int .i64 0) := (blk_cell BK297.out 1).trans rfl; have hcz16_2 : w14.cell? ⟨gb297, 2, none⟩ = some (.string (⟨#[]⟩ : ByteArray)) := (blk_cell BK297.out 2).trans rfl; have hcz16_3 : w14.cell? ⟨gb297, 3, none⟩ = some (.slice none 0 0) := (blk_cell BK297.out 3).trans rfl; have hfz16_0 := blk_frozen BK297.out 0; have hfz16_1 := blk_frozen BK297.out 1; have hfz16_2 := blk_frozen BK297.out 2; have hfz16_3 := blk_frozen BK297.out 3; obtain ⟨Ao17, co17, eo17⟩ := Kd.R_slice HO294.out; subst eo17; have hcz18_0 : w14.cell? ⟨gb288, 0, none⟩ = some (.int .i64 0) := (blk_cell BK288.out 0).trans rfl; have hcz18_1 : w14.cell? ⟨gb288, 1, none⟩ = some (.int .i64 0) := (blk_cell BK288.out 1).trans rfl; have hcz18_2 : w14.cell? ⟨gb288, 2, none⟩ = some (.string (⟨#[]⟩ : ByteArray)) := (blk_cell BK288.out 2).trans rfl; have hcz18_3 : w14.cell? ⟨gb288, 3, none⟩ = some (.slice none 0 0) := (blk_cell BK288.out 3).trans rfl; have hfz18_0 := blk_frozen BK288.out 0; have hfz18_1 := blk_frozen BK288.out 1; have hfz18_2 := blk_frozen BK288.out 2; have hfz18_3 := blk_frozen BK288.out 3))
      refine bodyPost_ret (results_ct rfl _ _ gb288 24 #[.int .i64 t289, .int .i64 t290, .string t291, .slice Ao17 t292.length co17] (0, 0) _ rfl (by (with_reducible repeat (first | refine blk_drewN ?_ _ | refine blk_drew ?_ | refine blk_alloc ?_ _)); refine blk_put (cs := #[.int .i64 t289, .int .i64 t290, .string t291, .slice none 0 0]) ?_ 3 _ rfl; (with_reducible repeat (first | refine blk_drewN ?_ _ | refine blk_drew ?_ | refine blk_alloc ?_ _)); refine blk_put (cs := #[.int .i64 t289, .int .i64 t290, .string (⟨#[]⟩ : ByteArray), .slice none 0 0]) ?_ 2 _ rfl; (with_reducible repeat (first | refine blk_drewN ?_ _ | refine blk_drew ?_ | refine blk_alloc ?_ _)); refine blk_put (cs := #[.int .i64 t289, .int .i64 0, .string (⟨#[]⟩ : ByteArray), .slice none 0 0]) ?_ 1 _ rfl; (with_reducible repeat (first | refine blk_drewN ?_ _ | refine blk_drew ?_ | refine blk_alloc ?_ _)); refine blk_put (cs := #[.int .i64 0, .int .i64 0, .string (⟨#[]⟩ : ByteArray), .slice none 0 0]) ?_ 0 _ rfl; (with_reducible repeat (first | refine blk_drewN ?_ _ | refine blk_drew ?_ | refine blk_alloc ?_ _)); refine blk_far ?_ NB288_297.out _; (with_reducible repeat (first | refine blk_drewN ?_ _ | refine blk_drew ?_ | refine blk_alloc ?_ _)); refine blk_far ?_ NB288_297.out _; (with_reducible repeat (first | refine blk_drewN ?_ _ | refine blk_drew ?_ | refine blk_alloc ?_ _)); refine blk_far ?_ NB288_297.out _; (with_reducible repeat (first | refine blk_drewN ?_ _ | refine blk_drew ?_ | refine blk_alloc ?_ _)); refine blk_far ?_ NB288_297.out _; (with_reducible repeat (first | refine blk_drewN ?_ _ | refine blk_drew ?_ | refine blk_alloc ?_ _)); exact BK288.out) Tryd.underlying24 rfl (by kernel_rfl)) rfl ?_
      exact ⟨_, by first | rfl | (simp [errW_none, errW_some] <;> rfl) | (simp [*, errW_none, errW_some] <;> rfl), by (with_reducible repeat (first | apply Kd.R_alloc | apply Kd.R_drewN | apply Kd.R_drew)); exact Kd.R_mono (Kd.R_far (p := ⟨gb288, 3, none⟩) (Kd.R_far (p := ⟨gb288, 2, none⟩) (Kd.R_far (p := ⟨gb288, 1, none⟩) (Kd.R_far (p := ⟨gb288, 0, none⟩) (Kd.R_far (p := ⟨gb297, 3, none⟩) (Kd.R_far (p := ⟨gb297, 2, none⟩) (Kd.R_far (p := ⟨gb297, 1, none⟩) (Kd.R_far (p := ⟨gb297, 0, none⟩) (Kd.R_mono (Kd.R_mono HO294.out (fun k_ hk => (⟨hk, hk.2⟩ : _ ∧ k_ ≠ gb297))) (fun k_ hk => (⟨hk, hk.1.1.2⟩ : _ ∧ k_ ≠ gb288))) (fun _ hk => hk.1.2) (.int .i64 t289)) (fun _ hk => hk.1.2) (.int .i64 t290)) (fun _ hk => hk.1.2) (.string t291)) (fun _ hk => hk.1.2) (.slice Ao17 t292.length co17)) (fun _ hk => hk.2) (.int .i64 t289)) (fun _ hk => hk.2) (.int .i64 t290)) (fun _ hk => hk.2) (.string t291)) (fun _ hk => hk.2) (.slice Ao17 t292.length co17)) (fun _ hk => trivial), by repeat (first | (with_reducible first | exact HB.out | apply below_alloc | apply pw_below_drewN | apply below_drew1 | refine below_set ?_ GE288.out | refine below_set ?_ GE297.out) | exact HB.out)⟩
  · rw [if_neg c3] at H
    have c3b0 : (t296 == 0) = false := beq_eq_false_iff_ne.mpr c3
    have c3b1 : (t296 != 0) = true := bne_iff_ne.mpr c3
    simp only [Option.some.injEq, Prod.mk.injEq] at H
    obtain ⟨rfl, rfl, rfl, rfl, rfl⟩ := H
    go_enter Tryd.func17, Tryd.ntmps17
    go_wp2_with (first | ((with_reducible refine gate_dst (N := 2) rfl ?_); refine box_event ?hg (N := 2) ?hd (cs := #[.int .i64 0, .int .i64 0, .string (⟨#[]⟩ : ByteArray), .slice none 0 0]) (t := 24) ?hr ?_; (case hd => rfl); (case hg => rfl); (case hr => first | (go_simp; done) | (go_simp; rfl)); intro gb288 hg w19 hbox hb; have n0_ := Aside0.mk (below_step (by repeat (first | (with_reducible first | exact HB.out | apply below_alloc | apply pw_below_drewN | apply below_drew1) | exact HB.out)) hb); have n1_ := Aside0.mk (hbox); have n2_ := Aside0.mk ((by rw [hg]; exact (below_size (by repeat (first | (with_reducible first | exact HB.out | apply below_alloc | apply pw_below_drewN | apply below_drew1) | exact HB.out))) : w.heap.size ≤ gb288)); have n3_ := Aside0.mk ((by rw [hg]; exact (below_size (by repeat (first | (with_reducible first | exact HB.out | apply below_alloc | apply pw_below_drewN | apply below_drew1) | exact HB.out))) : w.heap.size ≤ gb288)); clear HB; have HB := n0_; have BK288 := n1_; have GW288 := n2_; have GE288 := n3_; clear n0_ n1_ n2_ n3_; clear hb hbox hg) | ((with_reducible refine gate_callee (f := 14) rfl ?_); refine goesL_ (some 9) rfl rfl Tryd.func14 (by kernel_rfl) rfl #[.string a0] rfl (by (try simp only [List.map_toArray, List.map_cons, List.map_nil]); first | done | rfl | (simp only [List.length_drop, List.length_take]; rfl)) ?_; (with_reducible refine (benc_Take.calls a0 t289 t290 t291 t292 t295 t296 _ (LaidW.below hL (by repeat (first | (with_reducible first | exact HB.out | apply below_alloc | apply pw_below_drewN | apply below_drew1 | refine below_set ?_ GE288.out) | exact HB.out))) A2.out).mono ?_); rintro e w20 ⟨v293, rfl, ho0, hb⟩; refine ⟨_, rfl, ?_⟩; have n0_ := Aside0.mk (Kd.R_lower (Kd.R_newB ho0 (g := gb288) (o := .cells #[.int .i64 0, .int .i64 0, .string (⟨#[]⟩ : ByteArray), .slice none 0 0] 24 (0, 0)) (by (with_reducible repeat (first | refine blk_drewN ?_ _ | refine blk_drew ?_ | refine blk_alloc ?_ _)); exact BK288.out)) (below_size (by repeat (first | (with_reducible first | exact HB.out | apply below_alloc | apply pw_below_drewN | apply below_drew1 | refine below_set ?_ GE288.out) | exact HB.out)))); have n1_ := Aside0.mk (blk_below (g := gb288) (o := .cells #[.int .i64 0, .int .i64 0, .string (⟨#[]⟩ : ByteArray), .slice none 0 0] 24 (0, 0)) (by (with_reducible repeat (first | refine blk_drewN ?_ _ | refine blk_drew ?_ | refine blk_alloc ?_ _)); exact BK288.out) hb); have n2_ := Aside0.mk (below_step (by repeat (first | (with_reducible first | exact HB.out | apply below_alloc | apply pw_below_drewN | apply below_drew1 | refine below_set ?_ GE288.out) | exact HB.out)) hb); clear BK288; clear HB; have HO294 := n0_; have BK288 := n1_; have HB := n2_; clear n0_ n1_ n2_; (try clear hb); (try clear hb2); (try clear hk); (try clear hi); (try clear ho0)) | ((with_reducible refine gate_dst (N := 4) rfl ?_); refine box_event ?hg (N := 4) ?hd (cs := #[.int .i64 0, .int .i64 0, .string (⟨#[]⟩ : ByteArray), .slice none 0 0]) (t := 24) ?hr ?_; (case hd => rfl); (case hg => rfl); (case hr => first | (go_simp; done) | (go_simp; rfl)); intro gb297 hg w21 hbox hb; have n0_ := Aside0.mk (Kd.R_below (Kd.R_elderB (by (with_reducible repeat (first | apply Kd.R_alloc | apply Kd.R_drewN | apply Kd.R_drew)); exact HO294.out) gb297 (Nat.le_of_eq hg.symm)) hb); have n1_ := Aside0.mk (blk_below (g := gb288) (o := .cells #[.int .i64 0, .int .i64 0, .string (⟨#[]⟩ : ByteArray), .slice none 0 0] 24 (0, 0)) (by (with_reducible repeat (first | refine blk_drewN ?_ _ | refine blk_drew ?_ | refine blk_alloc ?_ _)); exact BK288.out) hb); have n2_ := Aside0.mk (below_step (by repeat (first | (with_reducible first | exact HB.out | apply below_alloc | apply pw_below_drewN | apply below_drew1 | refine below_set ?_ GE288.out) | exact HB.out)) hb); have n3_ := Aside0.mk (hbox); have n4_ := Aside0.mk ((by rw [hg]; exact (below_size (by repeat (first | (with_reducible first | exact HB.out | apply below_alloc | apply pw_below_drewN | apply below_drew1 | refine below_set ?_ GE288.out) | exact HB.out))) : w.heap.size ≤ gb297)); have n5_ := Aside0.mk ((by rw [hg]; exact (below_size (by repeat (first | (with_reducible first | exact HB.out | apply below_alloc | apply pw_below_drewN | apply below_drew1 | refine below_set ?_ GE288.out) | exact HB.out))) : w.heap.size ≤ gb297)); have n6_ := Aside0.mk ((by rw [hg]; exact Nat.ne_of_lt (blk_lt (g := gb288) (o := .cells #[.int .i64 0, .int .i64 0, .string (⟨#[]⟩ : ByteArray), .slice none 0 0] 24 (0, 0)) (by (with_reducible repeat (first | refine blk_drewN ?_ _ | refine blk_drew ?_ | refine blk_alloc ?_ _)); exact BK288.out)) : gb288 ≠ gb297)); have n7_ := Aside0.mk ((by rw [hg]; exact Nat.ne_of_gt (blk_lt (g := gb288) (o := .cells #[.int .i64 0, .int .i64 0, .string (⟨#[]⟩ : ByteArray), .slice none 0 0] 24 (0, 0)) (by (with_reducible repeat (first | refine blk_drewN ?_ _ | refine blk_drew ?_ | refine blk_alloc ?_ _)); exact BK288.out)) : gb297 ≠ gb288)); clear HO294; clear BK288; clear HB; have HO294 := n0_; have BK288 := n1_; have HB := n2_; have BK297 := n3_; have GW297 := n4_; have GE297 := n5_; have NB288_297 := n6_; have NB297_288 := n7_; clear n0_ n1_ n2_ n3_ n4_ n5_ n6_ n7_; clear hb hbox hg; have hnb22 := NB297_288.out; have hnc22 := NB288_297.out; have hcz23_0 : w21.cell? ⟨gb297, 0, none⟩ = some (.int .i64 0) := (blk_cell BK297.out 0).trans rfl; have hcz23_1 : w21.cell? ⟨gb297, 1, none⟩ = some (.int .i64 0) := (blk_cell BK297.out 1).trans rfl; have hcz23_2 : w21.cell? ⟨gb297, 2, none⟩ = some (.string (⟨#[]⟩ : ByteArray)) := (blk_cell BK297.out 2).trans rfl; have hcz23_3 : w21.cell? ⟨gb297, 3, none⟩ = some (.slice none 0 0) := (blk_cell BK297.out 3).trans rfl; have hfz23_0 := blk_frozen BK297.out 0; have hfz23_1 := blk_frozen BK297.out 1; have hfz23_2 := blk_frozen BK297.out 2; have hfz23_3 := blk_frozen BK297.out 3; obtain ⟨Ao24, co24, eo24⟩ := Kd.R_slice HO294.out; subst eo24; have hcz25_0 : w21.cell? ⟨gb288, 0, none⟩ = some (.int .i64 0) := (blk_cell BK288.out 0).trans rfl; have hcz25_1 : w21.cell? ⟨gb288, 1, none⟩ = some (.int .i64 0) := (blk_cell BK288.out 1).trans rfl; have hcz25_2 : w21.cell? ⟨gb288, 2, none⟩ = some (.string (⟨#[]⟩ : ByteArray)) := (blk_cell BK288.out 2).trans rfl; have hcz25_3 : w21.cell? ⟨gb288, 3, none⟩ = some (.slice none 0 0) := (blk_cell BK288.out 3).trans rfl; have hfz25_0 := blk_frozen BK288.out 0; have hfz25_1 := blk_frozen BK288.out 1; have hfz25_2 := blk_frozen BK288.out 2; have hfz25_3 := blk_frozen BK288.out 3))
    refine bodyPost_ret (results_ct rfl _ _ gb288 24 #[.int .i64 0, .int .i64 0, .string (⟨#[]⟩ : ByteArray), .slice none 0 0] (0, 0) _ rfl (by (with_reducible repeat (first | refine blk_drewN ?_ _ | refine blk_drew ?_ | refine blk_alloc ?_ _)); refine blk_put (cs := #[.int .i64 0, .int .i64 0, .string (⟨#[]⟩ : ByteArray), .slice none 0 0]) ?_ 3 _ rfl; (with_reducible repeat (first | refine blk_drewN ?_ _ | refine blk_drew ?_ | refine blk_alloc ?_ _)); refine blk_put (cs := #[.int .i64 0, .int .i64 0, .string (⟨#[]⟩ : ByteArray), .slice none 0 0]) ?_ 2 _ rfl; (with_reducible repeat (first | refine blk_drewN ?_ _ | refine blk_drew ?_ | refine blk_alloc ?_ _)); refine blk_put (cs := #[.int .i64 0, .int .i64 0, .string (⟨#[]⟩ : ByteArray), .slice none 0 0]) ?_ 1 _ rfl; (with_reducible repeat (first | refine blk_drewN ?_ _ | refine blk_drew ?_ | refine blk_alloc ?_ _)); refine blk_put (cs := #[.int .i64 0, .int .i64 0, .string (⟨#[]⟩ : ByteArray), .slice none 0 0]) ?_ 0 _ rfl; (with_reducible repeat (first | refine blk_drewN ?_ _ | refine blk_drew ?_ | refine blk_alloc ?_ _)); refine blk_far ?_ NB288_297.out _; (with_reducible repeat (first | refine blk_drewN ?_ _ | refine blk_drew ?_ | refine blk_alloc ?_ _)); refine blk_far ?_ NB288_297.out _; (with_reducible repeat (first | refine blk_drewN ?_ _ | refine blk_drew ?_ | refine blk_alloc ?_ _)); refine blk_far ?_ NB288_297.out _; (with_reducible repeat (first | refine blk_drewN ?_ _ | refine blk_drew ?_ | refine blk_alloc ?_ _)); refine blk_far ?_ NB288_297.out _; (with_reducible repeat (first | refine blk_drewN ?_ _ | refine blk_drew ?_ | refine blk_alloc ?_ _)); exact BK288.out) Tryd.underlying24 rfl (by kernel_rfl)) rfl ?_
    exact ⟨_, by first | rfl | (simp [errW_none, errW_some] <;> rfl) | (simp [*, errW_none, errW_some] <;> rfl), by first | exact Kd.R_nil _ _ _ _ _ | exact Kd.N_nil _ _ _ _ _ | exact Kd.V_nil _ _ _ _ _ | exact Kd.Q_nil _ _ _ _ _ | exact Kd.S_nil _ _ _ _ _, by repeat (first | (with_reducible first | exact HB.out | apply below_alloc | apply pw_below_drewN | apply below_drew1 | refine below_set ?_ GE288.out | refine below_set ?_ GE297.out) | exact HB.out)⟩
end Go.Proofs.YtcdfedbecgfanaaDoor.P
namespace Go.Proofs.YtcdfedbecgfanaaDoor.P
open Go.RowKit Go.Proofs.YtcdfedbecgfanaaDoorW.PrintWords Go.Proofs.YtcdfedbecgfanaaDoorW.PrintLast Go.Proofs.YtcdfedbecgfanaaDoorW.PrintMore
attribute [local go_sem] max2_int min2_int max_two min_two max_three min_three max_four min_four   -- for this text's walks alone
set_option linter.unusedVariables false
set_option linter.unusedSimpArgs false
open Go.Proofs.YtcdfedbecgfanaaDoor.Giv
def ploverlaw02_BencTakes.f (k : Nat) (a0 : ByteArray) : Option (Bool) := if (a0.size : Int) > 8192 then ((ploverlaw02_awake.f k).bind fun t175 => (some t175)) else ((benc_Take.f a0).bind fun bt176 => ((ploverref02_Take.f k a0).bind fun bt185 => ((benc_Only.f a0).bind fun bt194 => ((ploverref02_Only.f k a0).bind fun bt202 => ((ploverref02_Same.f k bt176.1 bt176.2.1 bt176.2.2.1 bt176.2.2.2.1 bt185.1 bt185.2.1 bt185.2.2.1 bt185.2.2.2.1).bind fun t210 => (if t210 = true then ((ploverref02_Clean.f k bt176.1 bt176.2.1 bt176.2.2.1 bt176.2.2.2.1).bind fun t211 => (if t211 = true then (if bt176.2.2.2.2.1 = bt185.2.2.2.2.1 then (if bt176.2.2.2.2.2 = bt185.2.2.2.2.2 then ((ploverref02_Same.f k bt194.1 bt194.2.1 bt194.2.2.1 bt194.2.2.2.1 bt202.1 bt202.2.1 bt202.2.2.1 bt202.2.2.2.1).bind fun t212 => (if t212 = true then ((ploverref02_Clean.f k bt194.1 bt194.2.1 bt194.2.2.1 bt194.2.2.2.1).bind fun t213 => (if t213 = true then (if bt194.2.2.2.2 = bt202.2.2.2.2 then ((ploverlaw02_awake.f k).bind fun t214 => (some t214)) else (some false)) else (some false))) else (some false))) else (some false)) else (some false)) else (some false))) else (some false)))))))
set_option maxHeartbeats 8000000 in
set_option maxRecDepth 100000 in
theorem ploverlaw02_BencTakes.calls (k : Nat) (a0 : ByteArray) (r : Bool) (hr : r = true) (w : World) (hL : LaidW w) (h : ploverlaw02_BencTakes.f k a0 = some r) :
    Calls Tryd.prog 8 #[.string a0] w fun e w' => e = .returned (.bool r) ∧ Below w.heap.size w w' := by
  have hu24 := Tryd.underlying24
  have HB := Aside0.mk (Below.refl w.heap.size w)
  have H : (if (a0.size : Int) > 8192 then ((ploverlaw02_awake.f k).bind fun t175 => (some t175)) else ((benc_Take.f a0).bind fun bt176 => ((ploverref02_Take.f k a0).bind fun bt185 => ((benc_Only.f a0).bind fun bt194 => ((ploverref02_Only.f k a0).bind fun bt202 => ((ploverref02_Same.f k bt176.1 bt176.2.1 bt176.2.2.1 bt176.2.2.2.1 bt185.1 bt185.2.1 bt185.2.2.1 bt185.2.2.2.1).bind fun t210 => (if t210 = true then ((ploverref02_Clean.f k bt176.1 bt176.2.1 bt176.2.2.1 bt176.2.2.2.1).bind fun t211 => (if t211 = true then (if bt176.2.2.2.2.1 = bt185.2.2.2.2.1 then (if bt176.2.2.2.2.2 = bt185.2.2.2.2.2 then ((ploverref02_Same.f k bt194.1 bt194.2.1 bt194.2.2.1 bt194.2.2.2.1 bt202.1 bt202.2.1 bt202.2.2.1 bt202.2.2.2.1).bind fun t212 => (if t212 = true then ((ploverref02_Clean.f k bt194.1 bt194.2.1 bt194.2.2.1 bt194.2.2.2.1).bind fun t213 => (if t213 = true then (if bt194.2.2.2.2 = bt202.2.2.2.2 then ((ploverlaw02_awake.f k).bind fun t214 => (some t214)) else (some false)) else (some false))) else (some false))) else (some false)) else (some false)) else (some false))) else (some false)))))))) = some r := h
  clear h
  by_cases c2 : (a0.size : Int) > 8192
  · rw [if_pos c2] at H
    have c2b0 : decide (8192 < (a0.size : Int)) = true := decide_eq_true c2
    have c2b1 : decide (8192 < a0.size) = true := decide_eq_true (by omega)
    clear c2
    replace H := Option.bind_eq_some_iff.mp H
    obtain ⟨t175, A30, H⟩ := H
    replace H : (some t175) = some r := H
    have A3 := Aside0.mk A30
    clear A30
    obtain rfl := Option.some.inj H
    go_enter Tryd.func8, Tryd.ntmps8
    go_wp2_with (first | ((with_reducible refine gate_callee (f := 11) rfl ?_); refine goesL_ (some 16) rfl rfl Tryd.func11 (by kernel_rfl) rfl #[] rfl (by (try simp only [List.map_toArray, List.map_cons, List.map_nil]); first | done | rfl | (simp only [List.length_drop, List.length_take]; rfl)) ?_; (with_reducible refine (ploverlaw02_awake.calls k  t175 _ (LaidW.below hL (by repeat (first | (with_reducible first | exact HB.out | apply below_alloc | apply pw_below_drewN | apply below_drew1) | exact HB.out))) A3.out).mono ?_); rintro e w4 ⟨rfl, hb⟩; refine ⟨_, rfl, ?_⟩; have n0_ := Aside0.mk (below_step (by repeat (first | (with_reducible first | exact HB.out | apply below_alloc | apply pw_below_drewN | apply below_drew1) | exact HB.out)) hb); clear HB; have HB := n0_; clear n0_; (try clear hb); (try clear hb2); (try clear hk); (try clear hi)))
    go_ret
    exact ⟨by first | rfl | (simp [errW_none, errW_some] <;> rfl) | (simp [*, errW_none, errW_some] <;> rfl), by repeat (first | (with_reducible first | exact HB.out | apply below_alloc | apply pw_below_drewN | apply below_drew1) | exact HB.out)⟩
  · rw [if_neg c2] at H
    have c2b0 : decide (8192 < (a0.size : Int)) = false := decide_eq_false c2
    have c2b1 : decide (8192 < a0.size) = false := decide_eq_false (by omega)
    clear c2
    replace H := Option.bind_eq_some_iff.mp H
    obtain ⟨⟨t176, t177, t178, t179, t182, t183⟩, A50, H⟩ := H
    replace H : ((ploverref02_Take.f k a0).bind fun bt185 => ((benc_Only.f a0).bind fun bt194 => ((ploverref02_Only.f k a0).bind fun bt202 => ((ploverref02_Same.f k t176 t177 t178 t179 bt185.1 bt185.2.1 bt185.2.2.1 bt185.2.2.2.1).bind fun t210 => (if t210 = true then ((ploverref02_Clean.f k t176 t177 t178 t179).bind fun t211 => (if t211 = true then (if t182 = bt185.2.2.2.2.1 then (if t183 = bt185.2.2.2.2.2 then ((ploverref02_Same.f k bt194.1 bt194.2.1 bt194.2.2.1 bt194.2.2.2.1 bt202.1 bt202.2.1 bt202.2.2.1 bt202.2.2.2.1).bind fun t212 => (if t212 = true then ((ploverref02_Clean.f k bt194.1 bt194.2.1 bt194.2.2.1 bt194.2.2.2.1).bind fun t213 => (if t213 = true then (if bt194.2.2.2.2 = bt202.2.2.2.2 then ((ploverlaw02_awake.f k).bind fun t214 => (some t214)) else (some false)) else (some false))) else (some false))) else (some false)) else (some false)) else (some false))) else (some false)))))) = some r := H
    have A5 := Aside0.mk A50
    clear A50
    replace H := Option.bind_eq_some_iff.mp H
    obtain ⟨⟨t185, t186, t187, t188, t191, t192⟩, A60, H⟩ := H
    replace H : ((benc_Only.f a0).bind fun bt194 => ((ploverref02_Only.f k a0).bind fun bt202 => ((ploverref02_Same.f k t176 t177 t178 t179 t185 t186 t187 t188).bind fun t210 => (if t210 = true then ((ploverref02_Clean.f k t176 t177 t178 t179).bind fun t211 => (if t211 = true then (if t182 = t191 then (if t183 = t192 then ((ploverref02_Same.f k bt194.1 bt194.2.1 bt194.2.2.1 bt194.2.2.2.1 bt202.1 bt202.2.1 bt202.2.2.1 bt202.2.2.2.1).bind fun t212 => (if t212 = true then ((ploverref02_Clean.f k bt194.1 bt194.2.1 bt194.2.2.1 bt194.2.2.2.1).bind fun t213 => (if t213 = true then (if bt194.2.2.2.2 = bt202.2.2.2.2 then ((ploverlaw02_awake.f k).bind fun t214 => (some t214)) else (some false)) else (some false))) else (some false))) else (some false)) else (some false)) else (some false))) else (some false))))) = some r := H
    have A6 := Aside0.mk A60
    clear A60
    replace H := Option.bind_eq_some_iff.mp H
    obtain ⟨⟨t194, t195, t196, t197, t200⟩, A70, H⟩ := H
    replace H : ((ploverref02_Only.f k a0).bind fun bt202 => ((ploverref02_Same.f k t176 t177 t178 t179 t185 t186 t187 t188).bind fun t210 => (if t210 = true then ((ploverref02_Clean.f k t176 t177 t178 t179).bind fun t211 => (if t211 = true then (if t182 = t191 then (if t183 = t192 then ((ploverref02_Same.f k t194 t195 t196 t197 bt202.1 bt202.2.1 bt202.2.2.1 bt202.2.2.2.1).bind fun t212 => (if t212 = true then ((ploverref02_Clean.f k t194 t195 t196 t197).bind fun t213 => (if t213 = true then (if t200 = bt202.2.2.2.2 then ((ploverlaw02_awake.f k).bind fun t214 => (some t214)) else (some false)) else (some false))) else (some false))) else (some false)) else (some false)) else (some false))) else (some false)))) = some r := H
    have A7 := Aside0.mk A70
    clear A70
    replace H := Option.bind_eq_some_iff.mp H
    obtain ⟨⟨t202, t203, t204, t205, t208⟩, A80, H⟩ := H
    replace H : ((ploverref02_Same.f k t176 t177 t178 t179 t185 t186 t187 t188).bind fun t210 => (if t210 = true then ((ploverref02_Clean.f k t176 t177 t178 t179).bind fun t211 => (if t211 = true then (if t182 = t191 then (if t183 = t192 then ((ploverref02_Same.f k t194 t195 t196 t197 t202 t203 t204 t205).bind fun t212 => (if t212 = true then ((ploverref02_Clean.f k t194 t195 t196 t197).bind fun t213 => (if t213 = true then (if t200 = t208 then ((ploverlaw02_awake.f k).bind fun t214 => (some t214)) else (some false)) else (some false))) else (some false))) else (some false)) else (some false)) else (some false))) else (some false))) = some r := H
    have A8 := Aside0.mk A80
    clear A80
    replace H := Option.bind_eq_some_iff.mp H
    obtain ⟨t210, A90, H⟩ := H
    replace H : (if t210 = true then ((ploverref02_Clean.f k t176 t177 t178 t179).bind fun t211 => (if t211 = true then (if t182 = t191 then (if t183 = t192 then ((ploverref02_Same.f k t194 t195 t196 t197 t202 t203 t204 t205).bind fun t212 => (if t212 = true then ((ploverref02_Clean.f k t194 t195 t196 t197).bind fun t213 => (if t213 = true then (if t200 = t208 then ((ploverlaw02_awake.f k).bind fun t214 => (some t214)) else (some false)) else (some false))) else (some false))) else (some false)) else (some false)) else (some false))) else (some false)) = some r := H
    have A9 := Aside0.mk A90
    clear A90
    by_cases c10 : t210 = true
    · subst c10
      have H1 : ((ploverref02_Clean.f k t176 t177 t178 t179).bind fun t211 => (if t211 = true then (if t182 = t191 then (if t183 = t192 then ((ploverref02_Same.f k t194 t195 t196 t197 t202 t203 t204 t205).bind fun t212 => (if t212 = true then ((ploverref02_Clean.f k t194 t195 t196 t197).bind fun t213 => (if t213 = true then (if t200 = t208 then ((ploverlaw02_awake.f k).bind fun t214 => (some t214)) else (some false)) else (some false))) else (some false))) else (some false)) else (some false)) else (some false))) = some r := by rw [if_pos rfl] at H; exact H
      clear H
      have H := H1
      clear H1
      replace H := Option.bind_eq_some_iff.mp H
      obtain ⟨t211, A110, H⟩ := H
      replace H : (if t211 = true then (if t182 = t191 then (if t183 = t192 then ((ploverref02_Same.f k t194 t195 t196 t197 t202 t203 t204 t205).bind fun t212 => (if t212 = true then ((ploverref02_Clean.f k t194 t195 t196 t197).bind fun t213 => (if t213 = true then (if t200 = t208 then ((ploverlaw02_awake.f k).bind fun t214 => (some t214)) else (some false)) else (some false))) else (some false))) else (some false)) else (some false)) else (some false)) = some r := H
      have A11 := Aside0.mk A110
      clear A110
      by_cases c12 : t211 = true
      · subst c12
        have H1 : (if t182 = t191 then (if t183 = t192 then ((ploverref02_Same.f k t194 t195 t196 t197 t202 t203 t204 t205).bind fun t212 => (if t212 = true then ((ploverref02_Clean.f k t194 t195 t196 t197).bind fun t213 => (if t213 = true then (if t200 = t208 then ((ploverlaw02_awake.f k).bind fun t214 => (some t214)) else (some false)) else (some false))) else (some false))) else (some false)) else (some false)) = some r := by rw [if_pos rfl] at H; exact H
        clear H
        have H := H1
        clear H1
        by_cases c13 : t182 = t191
        · rw [if_pos c13] at H
          have c13b0 : (t182 == t191) = true := beq_iff_eq.mpr c13
          have c13b1 : (t182 != t191) = false := bne_eq_false_iff_eq.mpr c13
          clear c13
          by_cases c14 : t183 = t192
          · rw [if_pos c14] at H
            have c14b0 : (t183 == t192) = true := beq_iff_eq.mpr c14
            have c14b1 : (t183 != t192) = false := bne_eq_false_iff_eq.mpr c14
            clear c14
            replace H := Option.bind_eq_some_iff.mp H
            obtain ⟨t212, A150, H⟩ := H
            replace H : (if t212 = true then ((ploverref02_Clean.f k t194 t195 t196 t197).bind fun t213 => (if t213 = true then (if t200 = t208 then ((ploverlaw02_awake.f k).bind fun t214 => (some t214)) else (some false)) else (some false))) else (some false)) = some r := H
            have A15 := Aside0.mk A150
            clear A150
            by_cases c16 : t212 = true
            · subst c16
              have H1 : ((ploverref02_Clean.f k t194 t195 t196 t197).bind fun t213 => (if t213 = true then (if t200 = t208 then ((ploverlaw02_awake.f k).bind fun t214 => (some t214)) else (some false)) else (some false))) = some r := by rw [if_pos rfl] at H; exact H
              clear H
              have H := H1
              clear H1
              replace H := Option.bind_eq_some_iff.mp H
              obtain ⟨t213, A170, H⟩ := H
              replace H : (if t213 = true then (if t200 = t208 then ((ploverlaw02_awake.f k).bind fun t214 => (some t214)) else (some false)) else (some false)) = some r := H
              have A17 := Aside0.mk A170
              clear A170
              by_cases c18 : t213 = true
              · subst c18
                have H1 : (if t200 = t208 then ((ploverlaw02_awake.f k).bind fun t214 => (some t214)) else (some false)) = some r := by rw [if_pos rfl] at H; exact H
                clear H
                have H := H1
                clear H1
                by_cases c19 : t200 = t208
                · rw [if_pos c19] at H
                  have c19b0 : (t200 == t208) = true := beq_iff_eq.mpr c19
                  have c19b1 : (t200 != t208) = false := bne_eq_false_iff_eq.mpr c19
                  clear c19
                  replace H := Option.bind_eq_some_iff.mp H
                  obtain ⟨t214, A200, H⟩ := H
                  replace H : (some t214) = some r := H
                  have A20 := Aside0.mk A200
                  clear A200
                  obtain rfl := Option.some.inj H
                  go_enter Tryd.func8, Tryd.ntmps8
                  go_wp2_with (first | ((with_reducible refine gate_callee (f := 14) rfl ?_); refine goesL_ (some 19) rfl rfl Tryd.func14 (by kernel_rfl) rfl #[.string a0] rfl (by (try simp only [List.map_toArray, List.map_cons, List.map_nil]); first | done | rfl | (simp only [List.length_drop, List.length_take]; rfl)) ?_; (with_reducible refine (benc_Take.calls a0 t176 t177 t178 t179 t182 t183 _ (LaidW.below hL (by repeat (first | (with_reducible first | exact HB.out | apply below_alloc | apply pw_below_drewN | apply below_drew1) | exact HB.out))) A5.out).mono ?_); rintro e w21 ⟨v180, rfl, ho0, hb⟩; refine ⟨_, rfl, ?_⟩; have n0_ := Aside0.mk (Kd.R_lower ho0 (below_size (by repeat (first | (with_reducible first | exact HB.out | apply below_alloc | apply pw_below_drewN | apply below_drew1) | exact HB.out)))); have n1_ := Aside0.mk (below_step (by repeat (first | (with_reducible first | exact HB.out | apply below_alloc | apply pw_below_drewN | apply below_drew1) | exact HB.out)) hb); clear HB; have HO181 := n0_; have HB := n1_; clear n0_ n1_; (try clear hb); (try clear hb2); (try clear hk); (try clear hi); (try clear ho0)) | ((with_reducible refine gate_dst (N := 3) rfl ?_); refine box_event ?hg (N := 3) ?hd (cs := #[.int .i64 0, .int .i64 0, .string (⟨#[]⟩ : ByteArray), .slice none 0 0]) (t := 24) ?hr ?_; (case hd => rfl); (case hg => rfl); (case hr => first | (go_simp; done) | (go_simp; rfl)); intro gb184 hg w22 hbox hb; have n0_ := Aside0.mk (Kd.R_below (Kd.R_elderB (by (with_reducible repeat (first | apply Kd.R_alloc | apply Kd.R_drewN | apply Kd.R_drew)); exact HO181.out) gb184 (Nat.le_of_eq hg.symm)) hb); have n1_ := Aside0.mk (below_step (by repeat (first | (with_reducible first | exact HB.out | apply below_alloc | apply pw_below_drewN | apply below_drew1) | exact HB.out)) hb); have n2_ := Aside0.mk (hbox); have n3_ := Aside0.mk ((by rw [hg]; exact (below_size (by repeat (first | (with_reducible first | exact HB.out | apply below_alloc | apply pw_below_drewN | apply below_drew1) | exact HB.out))) : w.heap.size ≤ gb184)); have n4_ := Aside0.mk ((by rw [hg]; exact (below_size (by repeat (first | (with_reducible first | exact HB.out | apply below_alloc | apply pw_below_drewN | apply below_drew1) | exact HB.out))) : w.heap.size ≤ gb184)); clear HO181; clear HB; have HO181 := n0_; have HB := n1_; have BK184 := n2_; have GW184 := n3_; have GE184 := n4_; clear n0_ n1_ n2_ n3_ n4_; clear hb hbox hg; have hcz23_0 : w22.cell? ⟨gb184, 0, none⟩ = some (.int .i64 0) := (blk_cell BK184.out 0).trans rfl; have hcz23_1 : w22.cell? ⟨gb184, 1, none⟩ = some (.int .i64 0) := (blk_cell BK184.out 1).trans rfl; have hcz23_2 : w22.cell? ⟨gb184, 2, none⟩ = some (.string (⟨#[]⟩ : ByteArray)) := (blk_cell BK184.out 2).trans rfl; have hcz23_3 : w22.cell? ⟨gb184, 3, none⟩ = some (.slice none 0 0) := (blk_cell BK184.out 3).trans rfl; have hfz23_0 := blk_frozen BK184.out 0; have hfz23_1 := blk_frozen BK184.out 1; have hfz23_2 := blk_frozen BK184.out 2; have hfz23_3 := blk_frozen BK184.out 3; obtain ⟨Ao24, co24, eo24⟩ := Kd.R_slice HO181.out; subst eo24) | ((with_reducible refine gate_callee (f := 16) rfl ?_); refine goesL_ (some 25) rfl rfl Tryd.func16 (by kernel_rfl) rfl #[.string a0] rfl (by (try simp only [List.map_toArray, List.map_cons, List.map_nil]); first | done | rfl | (simp only [List.length_drop, List.length_take]; rfl)) ?_; (with_reducible refine (ploverref02_Take.calls k a0 t185 t186 t187 t188 t191 t192 _ A6.out).mono ?_); rintro e w25 ⟨v189, rfl, ho0, hb⟩; refine ⟨_, rfl, ?_⟩; have n0_ := Aside0.mk (Kd.R_elder' (by (with_reducible repeat (first | apply Kd.R_alloc | apply Kd.R_drewN | apply Kd.R_drew)); exact (Kd.R_mono (Kd.R_far (p := ⟨gb184, 3, none⟩) (Kd.R_far (p := ⟨gb184, 2, none⟩) (Kd.R_far (p := ⟨gb184, 1, none⟩) (Kd.R_far (p := ⟨gb184, 0, none⟩) (Kd.R_mono HO181.out (fun k_ hk => (⟨hk, hk.2⟩ : _ ∧ k_ ≠ gb184))) (fun _ hk => hk.2) (.int .i64 t176)) (fun _ hk => hk.2) (.int .i64 t177)) (fun _ hk => hk.2) (.string t178)) (fun _ hk => hk.2) (.slice Ao24 t179.length co24)) (fun _ h_ => h_.1))) (Kd.R_base ho0) hb); have n1_ := Aside0.mk (Kd.R_lower (Kd.R_newB (Kd.R_new' ho0 (Kd.R_lt (by (with_reducible repeat (first | apply Kd.R_alloc | apply Kd.R_drewN | apply Kd.R_drew)); exact (Kd.R_mono (Kd.R_far (p := ⟨gb184, 3, none⟩) (Kd.R_far (p := ⟨gb184, 2, none⟩) (Kd.R_far (p := ⟨gb184, 1, none⟩) (Kd.R_far (p := ⟨gb184, 0, none⟩) (Kd.R_mono HO181.out (fun k_ hk => (⟨hk, hk.2⟩ : _ ∧ k_ ≠ gb184))) (fun _ hk => hk.2) (.int .i64 t176)) (fun _ hk => hk.2) (.int .i64 t177)) (fun _ hk => hk.2) (.string t178)) (fun _ hk => hk.2) (.slice Ao24 t179.length co24)) (fun _ h_ => h_.1))))) (g := gb184) (o := .cells #[.int .i64 t176, .int .i64 t177, .string t178, .slice Ao24 t179.length co24] 24 (0, 0)) (by (with_reducible repeat (first | refine blk_drewN ?_ _ | refine blk_drew ?_ | refine blk_alloc ?_ _)); refine blk_put (cs := #[.int .i64 t176, .int .i64 t177, .string t178, .slice none 0 0]) ?_ 3 _ rfl; (with_reducible repeat (first | refine blk_drewN ?_ _ | refine blk_drew ?_ | refine blk_alloc ?_ _)); refine blk_put (cs := #[.int .i64 t176, .int .i64 t177, .string (⟨#[]⟩ : ByteArray), .slice none 0 0]) ?_ 2 _ rfl; (with_reducible repeat (first | refine blk_drewN ?_ _ | refine blk_drew ?_ | refine blk_alloc ?_ _)); refine blk_put (cs := #[.int .i64 t176, .int .i64 0, .string (⟨#[]⟩ : ByteArray), .slice none 0 0]) ?_ 1 _ rfl; (with_reducible repeat (first | refine blk_drewN ?_ _ | refine blk_drew ?_ | refine blk_alloc ?_ _)); refine blk_put (cs := #[.int .i64 0, .int .i64 0, .string (⟨#[]⟩ : ByteArray), .slice none 0 0]) ?_ 0 _ rfl; (with_reducible repeat (first | refine blk_drewN ?_ _ | refine blk_drew ?_ | refine blk_alloc ?_ _)); exact BK184.out)) (below_size (by repeat (first | (with_reducible first | exact HB.out | apply below_alloc | apply pw_below_drewN | apply below_drew1 | refine below_set ?_ GE184.out) | exact HB.out)))); have n2_ := Aside0.mk (blk_below (g := gb184) (o := .cells #[.int .i64 t176, .int .i64 t177, .string t178, .slice Ao24 t179.length co24] 24 (0, 0)) (by (with_reducible repeat (first | refine blk_drewN ?_ _ | refine blk_drew ?_ | refine blk_alloc ?_ _)); refine blk_put (cs := #[.int .i64 t176, .int .i64 t177, .string t178, .slice none 0 0]) ?_ 3 _ rfl; (with_reducible repeat (first | refine blk_drewN ?_ _ | refine blk_drew ?_ | refine blk_alloc ?_ _)); refine blk_put (cs := #[.int .i64 t176, .int .i64 t177, .string (⟨#[]⟩ : ByteArray), .slice none 0 0]) ?_ 2 _ rfl; (with_reducible repeat (first | refine blk_drewN ?_ _ | refine blk_drew ?_ | refine blk_alloc ?_ _)); refine blk_put (cs := #[.int .i64 t176, .int .i64 0, .string (⟨#[]⟩ : ByteArray), .slice none 0 0]) ?_ 1 _ rfl; (with_reducible repeat (first | refine blk_drewN ?_ _ | refine blk_drew ?_ | refine blk_alloc ?_ _)); refine blk_put (cs := #[.int .i64 0, .int .i64 0, .string (⟨#[]⟩ : ByteArray), .slice none 0 0]) ?_ 0 _ rfl; (with_reducible repeat (first | refine blk_drewN ?_ _ | refine blk_drew ?_ | refine blk_alloc ?_ _)); exact BK184.out) hb); have n3_ := Aside0.mk (below_step (by repeat (first | (with_reducible first | exact HB.out | apply below_alloc | apply pw_below_drewN | apply below_drew1 | refine below_set ?_ GE184.out) | exact HB.out)) hb); clear HO181; clear BK184; clear HB; have HO181 := n0_; have HO190 := n1_; have BK184 := n2_; have HB := n3_; clear n0_ n1_ n2_ n3_; (try clear hb); (try clear hb2); (try clear hk); (try clear hi); (try clear ho0)) | ((with_reducible refine gate_dst (N := 6) rfl ?_); refine box_event ?hg (N := 6) ?hd (cs := #[.int .i64 0, .int .i64 0, .string (⟨#[]⟩ : ByteArray), .slice none 0 0]) (t := 24) ?hr ?_; (case hd => rfl); (case hg => rfl); (case hr => first | (go_simp; done) | (go_simp; rfl)); intro gb193 hg w26 hbox hb; have n0_ := Aside0.mk (Kd.R_below (Kd.R_elderB (by (with_reducible repeat (first | apply Kd.R_alloc | apply Kd.R_drewN | apply Kd.R_drew)); exact HO181.out) gb193 (Nat.le_of_eq hg.symm)) hb); have n1_ := Aside0.mk (Kd.R_below (Kd.R_elderB (by (with_reducible repeat (first | apply Kd.R_alloc | apply Kd.R_drewN | apply Kd.R_drew)); exact HO190.out) gb193 (Nat.le_of_eq hg.symm)) hb); have n2_ := Aside0.mk (blk_below (g := gb184) (o := .cells #[.int .i64 t176, .int .i64 t177, .string t178, .slice Ao24 t179.length co24] 24 (0, 0)) (by (with_reducible repeat (first | refine blk_drewN ?_ _ | refine blk_drew ?_ | refine blk_alloc ?_ _)); exact BK184.out) hb); have n3_ := Aside0.mk (below_step (by repeat (first | (with_reducible first | exact HB.out | apply below_alloc | apply pw_below_drewN | apply below_drew1 | refine below_set ?_ GE184.out) | exact HB.out)) hb); have n4_ := Aside0.mk (hbox); have n5_ := Aside0.mk ((by rw [hg]; exact (below_size (by repeat (first | (with_reducible first | exact HB.out | apply below_alloc | apply pw_below_drewN | apply below_drew1 | refine below_set ?_ GE184.out) | exact HB.out))) : w.heap.size ≤ gb193)); have n6_ := Aside0.mk ((by rw [hg]; exact (below_size (by repeat (first | (with_reducible first | exact HB.out | apply below_alloc | apply pw_below_drewN | apply below_drew1 | refine below_set ?_ GE184.out) | exact HB.out))) : w.heap.size ≤ gb193)); have n7_ := Aside0.mk ((by rw [hg]; exact Nat.ne_of_lt (blk_lt (g := gb184) (o := .cells #[.int .i64 t176, .int .i64 t177, .string t178, .slice Ao24 t179.length co24] 24 (0, 0)) (by (with_reducible repeat (first | refine blk_drewN ?_ _ | refine blk_drew ?_ | refine blk_alloc ?_ _)); exact BK184.out)) : gb184 ≠ gb193)); have n8_ := Aside0.mk ((by rw [hg]; exact Nat.ne_of_gt (blk_lt (g := gb184) (o := .cells #[.int .i64 t176, .int .i64 t177, .string t178, .slice Ao24 t179.length co24] 24 (0, 0)) (by (with_reducible repeat (first | refine blk_drewN ?_ _ | refine blk_drew ?_ | refine blk_alloc ?_ _)); exact BK184.out)) : gb193 ≠ gb184)); clear HO181; clear HO190; clear BK184; clear HB; have HO181 := n0_; have HO190 := n1_; have BK184 := n2_; have HB := n3_; have BK193 := n4_; have GW193 := n5_; have GE193 := n6_; have NB184_193 := n7_; have NB193_184 := n8_; clear n0_ n1_ n2_ n3_ n4_ n5_ n6_ n7_ n8_; clear hb hbox hg; have hnb27 := NB193_184.out; have hnc27 := NB184_193.out; have hcz28_0 : w26.cell? ⟨gb193, 0, none⟩ = some (.int .i64 0) := (blk_cell BK193.out 0).trans rfl; have hcz28_1 : w26.cell? ⟨gb193, 1, none⟩ = some (.int .i64 0) := (blk_cell BK193.out 1).trans rfl; have hcz28_2 : w26.cell? ⟨gb193, 2, none⟩ = some (.string (⟨#[]⟩ : ByteArray)) := (blk_cell BK193.out 2).trans rfl; have hcz28_3 : w26.cell? ⟨gb193, 3, none⟩ = some (.slice none 0 0) := (blk_cell BK193.out 3).trans rfl; have hfz28_0 := blk_frozen BK193.out 0; have hfz28_1 := blk_frozen BK193.out 1; have hfz28_2 := blk_frozen BK193.out 2; have hfz28_3 := blk_frozen BK193.out 3; obtain ⟨Ao29, co29, eo29⟩ := Kd.R_slice HO190.out; subst eo29) | ((with_reducible refine gate_callee (f := 17) rfl ?_); refine goesL_ (some 31) rfl rfl Tryd.func17 (by kernel_rfl) rfl #[.string a0] rfl (by (try simp only [List.map_toArray, List.map_cons, List.map_nil]); first | done | rfl | (simp only [List.length_drop, List.length_take]; rfl)) ?_; (with_reducible refine (benc_Only.calls a0 t194 t195 t196 t197 t200 _ (LaidW.below hL (by repeat (first | (with_reducible first | exact HB.out | apply below_alloc | apply pw_below_drewN | apply below_drew1 | refine below_set ?_ GE184.out | refine below_set ?_ GE193.out) | exact HB.out))) A7.out).mono ?_); rintro e w30 ⟨v198, rfl, ho0, hb⟩; refine ⟨_, rfl, ?_⟩; have n0_ := Aside0.mk (Kd.R_elder' (by (with_reducible repeat (first | apply Kd.R_alloc | apply Kd.R_drewN | apply Kd.R_drew)); exact (Kd.R_mono (Kd.R_far (p := ⟨gb193, 3, none⟩) (Kd.R_far (p := ⟨gb193, 2, none⟩) (Kd.R_far (p := ⟨gb193, 1, none⟩) (Kd.R_far (p := ⟨gb193, 0, none⟩) (Kd.R_mono HO181.out (fun k_ hk => (⟨hk, hk.2⟩ : _ ∧ k_ ≠ gb193))) (fun _ hk => hk.2) (.int .i64 t185)) (fun _ hk => hk.2) (.int .i64 t186)) (fun _ hk => hk.2) (.string t187)) (fun _ hk => hk.2) (.slice Ao29 t188.length co29)) (fun _ h_ => h_.1))) (Kd.R_base ho0) hb); have n1_ := Aside0.mk (Kd.R_elder' (by (with_reducible repeat (first | apply Kd.R_alloc | apply Kd.R_drewN | apply Kd.R_drew)); exact (Kd.R_mono (Kd.R_far (p := ⟨gb193, 3, none⟩) (Kd.R_far (p := ⟨gb193, 2, none⟩) (Kd.R_far (p := ⟨gb193, 1, none⟩) (Kd.R_far (p := ⟨gb193, 0, none⟩) (Kd.R_mono HO190.out (fun k_ hk => (⟨hk, hk.2⟩ : _ ∧ k_ ≠ gb193))) (fun _ hk => hk.2) (.int .i64 t185)) (fun _ hk => hk.2) (.int .i64 t186)) (fun _ hk => hk.2) (.string t187)) (fun _ hk => hk.2) (.slice Ao29 t188.length co29)) (fun _ h_ => h_.1))) (Kd.R_base ho0) hb); have n2_ := Aside0.mk (Kd.R_lower (Kd.R_newB (Kd.R_newB (Kd.R_new' (Kd.R_new' ho0 (Kd.R_lt (by (with_reducible repeat (first | apply Kd.R_alloc | apply Kd.R_drewN | apply Kd.R_drew)); exact (Kd.R_mono (Kd.R_far (p := ⟨gb193, 3, none⟩) (Kd.R_far (p := ⟨gb193, 2, none⟩) (Kd.R_far (p := ⟨gb193, 1, none⟩) (Kd.R_far (p := ⟨gb193, 0, none⟩) (Kd.R_mono HO181.out (fun k_ hk => (⟨hk, hk.2⟩ : _ ∧ k_ ≠ gb193))) (fun _ hk => hk.2) (.int .i64 t185)) (fun _ hk => hk.2) (.int .i64 t186)) (fun _ hk => hk.2) (.string t187)) (fun _ hk => hk.2) (.slice Ao29 t188.length co29)) (fun _ h_ => h_.1))))) (Kd.R_lt (by (with_reducible repeat (first | apply Kd.R_alloc | apply Kd.R_drewN | apply Kd.R_drew)); exact (Kd.R_mono (Kd.R_far (p := ⟨gb193, 3, none⟩) (Kd.R_far (p := ⟨gb193, 2, none⟩) (Kd.R_far (p := ⟨gb193, 1, none⟩) (Kd.R_far (p := ⟨gb193, 0, none⟩) (Kd.R_mono HO190.out (fun k_ hk => (⟨hk, hk.2⟩ : _ ∧ k_ ≠ gb193))) (fun _ hk => hk.2) (.int .i64 t185)) (fun _ hk => hk.2) (.int .i64 t186)) (fun _ hk => hk.2) (.string t187)) (fun _ hk => hk.2) (.slice Ao29 t188.length co29)) (fun _ h_ => h_.1))))) (g := gb184) (o := .cells #[.int .i64 t176, .int .i64 t177, .string t178, .slice Ao24 t179.length co24] 24 (0, 0)) (by (with_reducible repeat (first | refine blk_drewN ?_ _ | refine blk_drew ?_ | refine blk_alloc ?_ _)); refine blk_far ?_ NB184_193.out _; (with_reducible repeat (first | refine blk_drewN ?_ _ | refine blk_drew ?_ | refine blk_alloc ?_ _)); refine blk_far ?_ NB184_193.out _; (with_reducible repeat (first | refine blk_drewN ?_ _ | refine blk_drew ?_ | refine blk_alloc ?_ _)); refine blk_far ?_ NB184_193.out _; (with_reducible repeat (first | refine blk_drewN ?_ _ | refine blk_drew ?_ | refine blk_alloc ?_ _)); refine blk_far ?_ NB184_193.out _; (with_reducible repeat (first | refine blk_drewN ?_ _ | refine blk_drew ?_ | refine blk_alloc ?_ _)); exact BK184.out)) (g := gb193) (o := .cells #[.int .i64 t185, .int .i64 t186, .string t187, .slice Ao29 t188.length co29] 24 (0, 0)) (by (with_reducible repeat (first | refine blk_drewN ?_ _ | refine blk_drew ?_ | refine blk_alloc ?_ _)); refine blk_put (cs := #[.int .i64 t185, .int .i64 t186, .string t187, .slice none 0 0]) ?_ 3 _ rfl; (with_reducible repeat (first | refine blk_drewN ?_ _ | refine blk_drew ?_ | refine blk_alloc ?_ _)); refine blk_put (cs := #[.int .i64 t185, .int .i64 t186, .string (⟨#[]⟩ : ByteArray), .slice none 0 0]) ?_ 2 _ rfl; (with_reducible repeat (first | refine blk_drewN ?_ _ | refine blk_drew ?_ | refine blk_alloc ?_ _)); refine blk_put (cs := #[.int .i64 t185, .int .i64 0, .string (⟨#[]⟩ : ByteArray), .slice none 0 0]) ?_ 1 _ rfl; (with_reducible repeat (first | refine blk_drewN ?_ _ | refine blk_drew ?_ | refine blk_alloc ?_ _)); refine blk_put (cs := #[.int .i64 0, .int .i64 0, .string (⟨#[]⟩ : ByteArray), .slice none 0 0]) ?_ 0 _ rfl; (with_reducible repeat (first | refine blk_drewN ?_ _ | refine blk_drew ?_ | refine blk_alloc ?_ _)); exact BK193.out)) (below_size (by repeat (first | (with_reducible first | exact HB.out | apply below_alloc | apply pw_below_drewN | apply below_drew1 | refine below_set ?_ GE184.out | refine below_set ?_ GE193.out) | exact HB.out)))); have n3_ := Aside0.mk (blk_below (g := gb184) (o := .cells #[.int .i64 t176, .int .i64 t177, .string t178, .slice Ao24 t179.length co24] 24 (0, 0)) (by (with_reducible repeat (first | refine blk_drewN ?_ _ | refine blk_drew ?_ | refine blk_alloc ?_ _)); refine blk_far ?_ NB184_193.out _; (with_reducible repeat (first | refine blk_drewN ?_ _ | refine blk_drew ?_ | refine blk_alloc ?_ _)); refine blk_far ?_ NB184_193.out _; (with_reducible repeat (first | refine blk_drewN ?_ _ | refine blk_drew ?_ | refine blk_alloc ?_ _)); refine blk_far ?_ NB184_193.out _; (with_reducible repeat (first | refine blk_drewN ?_ _ | refine blk_drew ?_ | refine blk_alloc ?_ _)); refine blk_far ?_ NB184_193.out _; (with_reducible repeat (first | refine blk_drewN ?_ _ | refine blk_drew ?_ | refine blk_alloc ?_ _)); exact BK184.out) hb); have n4_ := Aside0.mk (blk_below (g := gb193) (o := .cells #[.int .i64 t185, .int .i64 t186, .string t187, .slice Ao29 t188.length co29] 24 (0, 0)) (by (with_reducible repeat (first | refine blk_drewN ?_ _ | refine blk_drew ?_ | refine blk_alloc ?_ _)); refine blk_put (cs := #[.int .i64 t185, .int .i64 t186, .string t187, .slice none 0 0]) ?_ 3 _ rfl; (with_reducible repeat (first | refine blk_drewN ?_ _ | refine blk_drew ?_ | refine blk_alloc ?_ _)); refine blk_put (cs := #[.int .i64 t185, .int .i64 t186, .string (⟨#[]⟩ : ByteArray), .slice none 0 0]) ?_ 2 _ rfl; (with_reducible repeat (first | refine blk_drewN ?_ _ | refine blk_drew ?_ | refine blk_alloc ?_ _)); refine blk_put (cs := #[.int .i64 t185, .int .i64 0, .string (⟨#[]⟩ : ByteArray), .slice none 0 0]) ?_ 1 _ rfl; (with_reducible repeat (first | refine blk_drewN ?_ _ | refine blk_drew ?_ | refine blk_alloc ?_ _)); refine blk_put (cs := #[.int .i64 0, .int .i64 0, .string (⟨#[]⟩ : ByteArray), .slice none 0 0]) ?_ 0 _ rfl; (with_reducible repeat (first | refine blk_drewN ?_ _ | refine blk_drew ?_ | refine blk_alloc ?_ _)); exact BK193.out) hb); have n5_ := Aside0.mk (below_step (by repeat (first | (with_reducible first | exact HB.out | apply below_alloc | apply pw_below_drewN | apply below_drew1 | refine below_set ?_ GE184.out | refine below_set ?_ GE193.out) | exact HB.out)) hb); clear HO181; clear HO190; clear BK184; clear BK193; clear HB; have HO181 := n0_; have HO190 := n1_; have HO199 := n2_; have BK184 := n3_; have BK193 := n4_; have HB := n5_; clear n0_ n1_ n2_ n3_ n4_ n5_; (try clear hb); (try clear hb2); (try clear hk); (try clear hi); (try clear ho0)) | ((with_reducible refine gate_dst (N := 9) rfl ?_); refine box_event ?hg (N := 9) ?hd (cs := #[.int .i64 0, .int .i64 0, .string (⟨#[]⟩ : ByteArray), .slice none 0 0]) (t := 24) ?hr ?_; (case hd => rfl); (case hg => rfl); (case hr => first | (go_simp; done) | (go_simp; rfl)); intro gb201 hg w31 hbox hb; have n0_ := Aside0.mk (Kd.R_below (Kd.R_elderB (by (with_reducible repeat (first | apply Kd.R_alloc | apply Kd.R_drewN | apply Kd.R_drew)); exact HO181.out) gb201 (Nat.le_of_eq hg.symm)) hb); have n1_ := Aside0.mk (Kd.R_below (Kd.R_elderB (by (with_reducible repeat (first | apply Kd.R_alloc | apply Kd.R_drewN | apply Kd.R_drew)); exact HO190.out) gb201 (Nat.le_of_eq hg.symm)) hb); have n2_ := Aside0.mk (Kd.R_below (Kd.R_elderB (by (with_reducible repeat (first | apply Kd.R_alloc | apply Kd.R_drewN | apply Kd.R_drew)); exact HO199.out) gb201 (Nat.le_of_eq hg.symm)) hb); have n3_ := Aside0.mk (blk_below (g := gb184) (o := .cells #[.int .i64 t176, .int .i64 t177, .string t178, .slice Ao24 t179.length co24] 24 (0, 0)) (by (with_reducible repeat (first | refine blk_drewN ?_ _ | refine blk_drew ?_ | refine blk_alloc ?_ _)); exact BK184.out) hb); have n4_ := Aside0.mk (blk_below (g := gb193) (o := .cells #[.int .i64 t185, .int .i64 t186, .string t187, .slice Ao29 t188.length co29] 24 (0, 0)) (by (with_reducible repeat (first | refine blk_drewN ?_ _ | refine blk_drew ?_ | refine blk_alloc ?_ _)); exact BK193.out) hb); have n5_ := Aside0.mk (below_step (by repeat (first | (with_reducible first | exact HB.out | apply below_alloc | apply pw_below_drewN | apply below_drew1 | refine below_set ?_ GE184.out | refine below_set ?_ GE193.out) | exact HB.out)) hb); have n6_ := Aside0.mk (hbox); have n7_ := Aside0.mk ((by rw [hg]; exact (below_size (by repeat (first | (with_reducible first | exact HB.out | apply below_alloc | apply pw_below_drewN | apply below_drew1 | refine below_set ?_ GE184.out | refine below_set ?_ GE193.out) | exact HB.out))) : w.heap.size ≤ gb201)); have n8_ := Aside0.mk ((by rw [hg]; exact (below_size (by repeat (first | (with_reducible first | exact HB.out | apply below_alloc | apply pw_below_drewN | apply below_drew1 | refine below_set ?_ GE184.out | refine below_set ?_ GE193.out) | exact HB.out))) : w.heap.size ≤ gb201)); have n9_ := Aside0.mk ((by rw [hg]; exact Nat.ne_of_lt (blk_lt (g := gb184) (o := .cells #[.int .i64 t176, .int .i64 t177, .string t178, .slice Ao24 t179.length co24] 24 (0, 0)) (by (with_reducible repeat (first | refine blk_drewN ?_ _ | refine blk_drew ?_ | refine blk_alloc ?_ _)); exact BK184.out)) : gb184 ≠ gb201)); have n10_ := Aside0.mk ((by rw [hg]; exact Nat.ne_of_gt (blk_lt (g := gb184) (o := .cells #[.int .i64 t176, .int .i64 t177, .string t178, .slice Ao24 t179.length co24] 24 (0, 0)) (by (with_reducible repeat (first | refine blk_drewN ?_ _ | refine blk_drew ?_ | refine blk_alloc ?_ _)); exact BK184.out)) : gb201 ≠ gb184)); have n11_ := Aside0.mk ((by rw [hg]; exact Nat.ne_of_lt (blk_lt (g := gb193) (o := .cells #[.int .i64 t185, .int .i64 t186, .string t187, .slice Ao29 t188.length co29] 24 (0, 0)) (by (with_reducible repeat (first | refine blk_drewN ?_ _ | refine blk_drew ?_ | refine blk_alloc ?_ _)); exact BK193.out)) : gb193 ≠ gb201)); have n12_ := Aside0.mk ((by rw [hg]; exact Nat.ne_of_gt (blk_lt (g := gb193) (o := .cells #[.int .i64 t185, .int .i64 t186, .string t187, .slice Ao29 t188.length co29] 24 (0, 0)) (by (with_reducible repeat (first | refine blk_drewN ?_ _ | refine blk_drew ?_ | refine blk_alloc ?_ _)); exact BK193.out)) : gb201 ≠ gb193)); clear HO181; clear HO190; clear HO199; clear BK184; clear BK193; clear HB; have HO181 := n0_; have HO190 := n1_; have HO199 := n2_; have BK184 := n3_; have BK193 := n4_; have HB := n5_; have BK201 := n6_; have GW201 := n7_; have GE201 := n8_; have NB184_201 := n9_; have NB201_184 := n10_; have NB193_201 := n11_; have NB201_193 := n12_; clear n0_ n1_ n2_ n3_ n4_ n5_ n6_ n7_ n8_ n9_ n10_ n11_ n12_; clear hb hbox hg; have hnb32 := NB201_184.out; have hnc32 := NB184_201.out; have hnb33 := NB201_193.out; have hnc33 := NB193_201.out; have hcz34_0 : w31.cell? ⟨gb201, 0, none⟩ = some (.int .i64 0) := (blk_cell BK201.out 0).trans rfl; have hcz34_1 : w31.cell? ⟨gb201, 1, none⟩ = some (.int .i64 0) := (blk_cell BK201.out 1).trans rfl; have hcz34_2 : w31.cell? ⟨gb201, 2, none⟩ = some (.string (⟨#[]⟩ : ByteArray)) := (blk_cell BK201.out 2).trans rfl; have hcz34_3 : w31.cell? ⟨gb201, 3, none⟩ = some (.slice none 0 0) := (blk_cell BK201.out 3).trans rfl; have hfz34_0 := blk_frozen BK201.out 0; have hfz34_1 := blk_frozen BK201.out 1; have hfz34_2 := blk_frozen BK201.out 2; have hfz34_3 := blk_frozen BK201.out 3; obtain ⟨Ao35, co35, eo35⟩ := Kd.R_slice HO199.out; subst eo35) | ((with_reducible refine gate_callee (f := 18) rfl ?_); refine goesL_ (some 36) rfl rfl Tryd.func18 (by kernel_rfl) rfl #[.string a0] rfl (by (try simp only [List.map_toArray, List.map_cons, List.map_nil]); first | done | rfl | (simp only [List.length_drop, List.length_take]; rfl)) ?_; (with_reducible refine (ploverref02_Only.calls k a0 t202 t203 t204 t205 t208 _ A8.out).mono ?_); rintro e w36 ⟨v206, rfl, ho0, hb⟩; refine ⟨_, rfl, ?_⟩; have n0_ := Aside0.mk (Kd.R_elder' (by (with_reducible repeat (first | apply Kd.R_alloc | apply Kd.R_drewN | apply Kd.R_drew)); exact (Kd.R_mono (Kd.R_far (p := ⟨gb201, 3, none⟩) (Kd.R_far (p := ⟨gb201, 2, none⟩) (Kd.R_far (p := ⟨gb201, 1, none⟩) (Kd.R_far (p := ⟨gb201, 0, none⟩) (Kd.R_mono HO181.out (fun k_ hk => (⟨hk, hk.2⟩ : _ ∧ k_ ≠ gb201))) (fun _ hk => hk.2) (.int .i64 t194)) (fun _ hk => hk.2) (.int .i64 t195)) (fun _ hk => hk.2) (.string t196)) (fun _ hk => hk.2) (.slice Ao35 t197.length co35)) (fun _ h_ => h_.1))) (Kd.R_base ho0) hb); have n1_ := Aside0.mk (Kd.R_elder' (by (with_reducible repeat (first | apply Kd.R_alloc | apply Kd.R_drewN | apply Kd.R_drew)); exact (Kd.R_mono (Kd.R_far (p := ⟨gb201, 3, none⟩) (Kd.R_far (p := ⟨gb201, 2, none⟩) (Kd.R_far (p := ⟨gb201, 1, none⟩) (Kd.R_far (p := ⟨gb201, 0, none⟩) (Kd.R_mono HO190.out (fun k_ hk => (⟨hk, hk.2⟩ : _ ∧ k_ ≠ gb201))) (fun _ hk => hk.2) (.int .i64 t194)) (fun _ hk => hk.2) (.int .i64 t195)) (fun _ hk => hk.2) (.string t196)) (fun _ hk => hk.2) (.slice Ao35 t197.length co35)) (fun _ h_ => h_.1))) (Kd.R_base ho0) hb); have n2_ := Aside0.mk (Kd.R_elder' (by (with_reducible repeat (first | apply Kd.R_alloc | apply Kd.R_drewN | apply Kd.R_drew)); exact (Kd.R_mono (Kd.R_far (p := ⟨gb201, 3, none⟩) (Kd.R_far (p := ⟨gb201, 2, none⟩) (Kd.R_far (p := ⟨gb201, 1, none⟩) (Kd.R_far (p := ⟨gb201, 0, none⟩) (Kd.R_mono HO199.out (fun k_ hk => (⟨hk, hk.2⟩ : _ ∧ k_ ≠ gb201))) (fun _ hk => hk.2) (.int .i64 t194)) (fun _ hk => hk.2) (.int .i64 t195)) (fun _ hk => hk.2) (.string t196)) (fun _ hk => hk.2) (.slice Ao35 t197.length co35)) (fun _ h_ => h_.1))) (Kd.R_base ho0) hb); have n3_ := Aside0.mk (Kd.R_lower (Kd.R_newB (Kd.R_newB (Kd.R_newB (Kd.R_new' (Kd.R_new' (Kd.R_new' ho0 (Kd.R_lt (by (with_reducible repeat (first | apply Kd.R_alloc | apply Kd.R_drewN | apply Kd.R_drew)); exact (Kd.R_mono (Kd.R_far (p := ⟨gb201, 3, none⟩) (Kd.R_far (p := ⟨gb201, 2, none⟩) (Kd.R_far (p := ⟨gb201, 1, none⟩) (Kd.R_far (p := ⟨gb201, 0, none⟩) (Kd.R_mono HO181.out (fun k_ hk => (⟨hk, hk.2⟩ : _ ∧ k_ ≠ gb201))) (fun _ hk => hk.2) (.int .i64 t194)) (fun _ hk => hk.2) (.int .i64 t195)) (fun _ hk => hk.2) (.string t196)) (fun _ hk => hk.2) (.slice Ao35 t197.length co35)) (fun _ h_ => h_.1))))) (Kd.R_lt (by (with_reducible repeat (first | apply Kd.R_alloc | apply Kd.R_drewN | apply Kd.R_drew)); exact (Kd.R_mono (Kd.R_far (p := ⟨gb201, 3, none⟩) (Kd.R_far (p := ⟨gb201, 2, none⟩) (Kd.R_far (p := ⟨gb201, 1, none⟩) (Kd.R_far (p := ⟨gb201, 0, none⟩) (Kd.R_mono HO190.out (fun k_ hk => (⟨hk, hk.2⟩ : _ ∧ k_ ≠ gb201))) (fun _ hk => hk.2) (.int .i64 t194)) (fun _ hk => hk.2) (.int .i64 t195)) (fun _ hk => hk.2) (.string t196)) (fun _ hk => hk.2) (.slice Ao35 t197.length co35)) (fun _ h_ => h_.1))))) (Kd.R_lt (by (with_reducible repeat (first | apply Kd.R_alloc | apply Kd.R_drewN | apply Kd.R_drew)); exact (Kd.R_mono (Kd.R_far (p := ⟨gb201, 3, none⟩) (Kd.R_far (p := ⟨gb201, 2, none⟩) (Kd.R_far (p := ⟨gb201, 1, none⟩) (Kd.R_far (p := ⟨gb201, 0, none⟩) (Kd.R_mono HO199.out (fun k_ hk => (⟨hk, hk.2⟩ : _ ∧ k_ ≠ gb201))) (fun _ hk => hk.2) (.int .i64 t194)) (fun _ hk => hk.2) (.int .i64 t195)) (fun _ hk => hk.2) (.string t196)) (fun _ hk => hk.2) (.slice Ao35 t197.length co35)) (fun _ h_ => h_.1))))) (g := gb184) (o := .cells #[.int .i64 t176, .int .i64 t177, .string t178, .slice Ao24 t179.length co24] 24 (0, 0)) (by (with_reducible repeat (first | refine blk_drewN ?_ _ | refine blk_drew ?_ | refine blk_alloc ?_ _)); refine blk_far ?_ NB184_201.out _; (with_reducible repeat (first | refine blk_drewN ?_ _ | refine blk_drew ?_ | refine blk_alloc ?_ _)); refine blk_far ?_ NB184_201.out _; (with_reducible repeat (first | refine blk_drewN ?_ _ | refine blk_drew ?_ | refine blk_alloc ?_ _)); refine blk_far ?_ NB184_201.out _; (with_reducible repeat (first | refine blk_drewN ?_ _ | refine blk_drew ?_ | refine blk_alloc ?_ _)); refine blk_far ?_ NB184_201.out _; (with_reducible repeat (first | refine blk_drewN ?_ _ | refine blk_drew ?_ | refine blk_alloc ?_ _)); exact BK184.out)) (g := gb193) (o := .cells #[.int .i64 t185, .int .i64 t186, .string t187, .slice Ao29 t188.length co29] 24 (0, 0)) (by (with_reducible repeat (first | refine blk_drewN ?_ _ | refine blk_drew ?_ | refine blk_alloc ?_ _)); refine blk_far ?_ NB193_201.out _; (with_reducible repeat (first | refine blk_drewN ?_ _ | refine blk_drew ?_ | refine blk_alloc ?_ _)); refine blk_far ?_ NB193_201.out _; (with_reducible repeat (first | refine blk_drewN ?_ _ | refine blk_drew ?_ | refine blk_alloc ?_ _)); refine blk_far ?_ NB193_201.out _; (with_reducible repeat (first | refine blk_drewN ?_ _ | refine blk_drew ?_ | refine blk_alloc ?_ _)); refine blk_far ?_ NB193_201.out _; (with_reducible repeat (first | refine blk_drewN ?_ _ | refine blk_drew ?_ | refine blk_alloc ?_ _)); exact BK193.out)) (g := gb201) (o := .cells #[.int .i64 t194, .int .i64 t195, .string t196, .slice Ao35 t197.length co35] 24 (0, 0)) (by (with_reducible repeat (first | refine blk_drewN ?_ _ | refine blk_drew ?_ | refine blk_alloc ?_ _)); refine blk_put (cs := #[.int .i64 t194, .int .i64 t195, .string t196, .slice none 0 0]) ?_ 3 _ rfl; (with_reducible repeat (first | refine blk_drewN ?_ _ | refine blk_drew ?_ | refine blk_alloc ?_ _)); refine blk_put (cs := #[.int .i64 t194, .int .i64 t195, .string (⟨#[]⟩ : ByteArray), .slice none 0 0]) ?_ 2 _ rfl; (with_reducible repeat (first | refine blk_drewN ?_ _ | refine blk_drew ?_ | refine blk_alloc ?_ _)); refine blk_put (cs := #[.int .i64 t194, .int .i64 0, .string (⟨#[]⟩ : ByteArray), .slice none 0 0]) ?_ 1 _ rfl; (with_reducible repeat (first | refine blk_drewN ?_ _ | refine blk_drew ?_ | refine blk_alloc ?_ _)); refine blk_put (cs := #[.int .i64 0, .int .i64 0, .string (⟨#[]⟩ : ByteArray), .slice none 0 0]) ?_ 0 _ rfl; (with_reducible repeat (first | refine blk_drewN ?_ _ | refine blk_drew ?_ | refine blk_alloc ?_ _)); exact BK201.out)) (below_size (by repeat (first | (with_reducible first | exact HB.out | apply below_alloc | apply pw_below_drewN | apply below_drew1 | refine below_set ?_ GE184.out | refine below_set ?_ GE193.out | refine below_set ?_ GE201.out) | exact HB.out)))); have n4_ := Aside0.mk (blk_below (g := gb184) (o := .cells #[.int .i64 t176, .int .i64 t177, .string t178, .slice Ao24 t179.length co24] 24 (0, 0)) (by (with_reducible repeat (first | refine blk_drewN ?_ _ | refine blk_drew ?_ | refine blk_alloc ?_ _)); refine blk_far ?_ NB184_201.out _; (with_reducible repeat (first | refine blk_drewN ?_ _ | refine blk_drew ?_ | refine blk_alloc ?_ _)); refine blk_far ?_ NB184_201.out _; (with_reducible repeat (first | refine blk_drewN ?_ _ | refine blk_drew ?_ | refine blk_alloc ?_ _)); refine blk_far ?_ NB184_201.out _; (with_reducible repeat (first | refine blk_drewN ?_ _ | refine blk_drew ?_ | refine blk_alloc ?_ _)); refine blk_far ?_ NB184_201.out _; (with_reducible repeat (first | refine blk_drewN ?_ _ | refine blk_drew ?_ | refine blk_alloc ?_ _)); exact BK184.out) hb); have n5_ := Aside0.mk (blk_below (g := gb193) (o := .cells #[.int .i64 t185, .int .i64 t186, .string t187, .slice Ao29 t188.length co29] 24 (0, 0)) (by (with_reducible repeat (first | refine blk_drewN ?_ _ | refine blk_drew ?_ | refine blk_alloc ?_ _)); refine blk_far ?_ NB193_201.out _; (with_reducible repeat (first | refine blk_drewN ?_ _ | refine blk_drew ?_ | refine blk_alloc ?_ _)); refine blk_far ?_ NB193_201.out _; (with_reducible repeat (first | refine blk_drewN ?_ _ | refine blk_drew ?_ | refine blk_alloc ?_ _)); refine blk_far ?_ NB193_201.out _; (with_reducible repeat (first | refine blk_drewN ?_ _ | refine blk_drew ?_ | refine blk_alloc ?_ _)); refine blk_far ?_ NB193_201.out _; (with_reducible repeat (first | refine blk_drewN ?_ _ | refine blk_drew ?_ | refine blk_alloc ?_ _)); exact BK193.out) hb); have n6_ := Aside0.mk (blk_below (g := gb201) (o := .cells #[.int .i64 t194, .int .i64 t195, .string t196, .slice Ao35 t197.length co35] 24 (0, 0)) (by (with_reducible repeat (first | refine blk_drewN ?_ _ | refine blk_drew ?_ | refine blk_alloc ?_ _)); refine blk_put (cs := #[.int .i64 t194, .int .i64 t195, .string t196, .slice none 0 0]) ?_ 3 _ rfl; (with_reducible repeat (first | refine blk_drewN ?_ _ | refine blk_drew ?_ | refine blk_alloc ?_ _)); refine blk_put (cs := #[.int .i64 t194, .int .i64 t195, .string (⟨#[]⟩ : ByteArray), .slice none 0 0]) ?_ 2 _ rfl; (with_reducible repeat (first | refine blk_drewN ?_ _ | refine blk_drew ?_ | refine blk_alloc ?_ _)); refine blk_put (cs := #[.int .i64 t194, .int .i64 0, .string (⟨#[]⟩ : ByteArray), .slice none 0 0]) ?_ 1 _ rfl; (with_reducible repeat (first | refine blk_drewN ?_ _ | refine blk_drew ?_ | refine blk_alloc ?_ _)); refine blk_put (cs := #[.int .i64 0, .int .i64 0, .string (⟨#[]⟩ : ByteArray), .slice none 0 0]) ?_ 0 _ rfl; (with_reducible repeat (first | refine blk_drewN ?_ _ | refine blk_drew ?_ | refine blk_alloc ?_ _)); exact BK201.out) hb); have n7_ := Aside0.mk (below_step (by repeat (first | (with_reducible first | exact HB.out | apply below_alloc | apply pw_below_drewN | apply below_drew1 | refine below_set ?_ GE184.out | refine below_set ?_ GE193.out | refine below_set ?_ GE201.out) | exact HB.out)) hb); clear HO181; clear HO190; clear HO199; clear BK184; clear BK193; clear BK201; clear HB; have HO181 := n0_; have HO190 := n1_; have HO199 := n2_; have HO207 := n3_; have BK184 := n4_; have BK193 := n5_; have BK201 := n6_; have HB := n7_; clear n0_ n1_ n2_ n3_ n4_ n5_ n6_ n7_; (try clear hb); (try clear hb2); (try clear hk); (try clear hi); (try clear ho0)) | ((with_reducible refine gate_dst (N := 11) rfl ?_); refine box_event ?hg (N := 11) ?hd (cs := #[.int .i64 0, .int .i64 0, .string (⟨#[]⟩ : ByteArray), .slice none 0 0]) (t := 24) ?hr ?_; (case hd => rfl); (case hg => rfl); (case hr => first | (go_simp; done) | (go_simp; rfl)); intro gb209 hg w37 hbox hb; have n0_ := Aside0.mk (Kd.R_below (Kd.R_elderB (by (with_reducible repeat (first | apply Kd.R_alloc | apply Kd.R_drewN | apply Kd.R_drew)); exact HO181.out) gb209 (Nat.le_of_eq hg.symm)) hb); have n1_ := Aside0.mk (Kd.R_below (Kd.R_elderB (by (with_reducible repeat (first | apply Kd.R_alloc | apply Kd.R_drewN | apply Kd.R_drew)); exact HO190.out) gb209 (Nat.le_of_eq hg.symm)) hb); have n2_ := Aside0.mk (Kd.R_below (Kd.R_elderB (by (with_reducible repeat (first | apply Kd.R_alloc | apply Kd.R_drewN | apply Kd.R_drew)); exact HO199.out) gb209 (Nat.le_of_eq hg.symm)) hb); have n3_ := Aside0.mk (Kd.R_below (Kd.R_elderB (by (with_reducible repeat (first | apply Kd.R_alloc | apply Kd.R_drewN | apply Kd.R_drew)); exact HO207.out) gb209 (Nat.le_of_eq hg.symm)) hb); have n4_ := Aside0.mk (blk_below (g := gb184) (o := .cells #[.int .i64 t176, .int .i64 t177, .string t178, .slice Ao24 t179.length co24] 24 (0, 0)) (by (with_reducible repeat (first | refine blk_drewN ?_ _ | refine blk_drew ?_ | refine blk_alloc ?_ _)); exact BK184.out) hb); have n5_ := Aside0.mk (blk_below (g := gb193) (o := .cells #[.int .i64 t185, .int .i64 t186, .string t187, .slice Ao29 t188.length co29] 24 (0, 0)) (by (with_reducible repeat (first | refine blk_drewN ?_ _ | refine blk_drew ?_ | refine blk_alloc ?_ _)); exact BK193.out) hb); have n6_ := Aside0.mk (blk_below (g := gb201) (o := .cells #[.int .i64 t194, .int .i64 t195, .string t196, .slice Ao35 t197.length co35] 24 (0, 0)) (by (with_reducible repeat (first | refine blk_drewN ?_ _ | refine blk_drew ?_ | refine blk_alloc ?_ _)); exact BK201.out) hb); have n7_ := Aside0.mk (below_step (by repeat (first | (with_reducible first | exact HB.out | apply below_alloc | apply pw_below_drewN | apply below_drew1 | refine below_set ?_ GE184.out | refine below_set ?_ GE193.out | refine below_set ?_ GE201.out) | exact HB.out)) hb); have n8_ := Aside0.mk (hbox); have n9_ := Aside0.mk ((by rw [hg]; exact (below_size (by repeat (first | (with_reducible first | exact HB.out | apply below_alloc | apply pw_below_drewN | apply below_drew1 | refine below_set ?_ GE184.out | refine below_set ?_ GE193.out | refine below_set ?_ GE201.out) | exact HB.out))) : w.heap.size ≤ gb209)); have n10_ := Aside0.mk ((by rw [hg]; exact (below_size (by repeat (first | (with_reducible first | exact HB.out | apply below_alloc | apply pw_below_drewN | apply below_drew1 | refine below_set ?_ GE184.out | refine below_set ?_ GE193.out | refine below_set ?_ GE201.out) | exact HB.out))) : w.heap.size ≤ gb209)); have n11_ := Aside0.mk ((by rw [hg]; exact Nat.ne_of_lt (blk_lt (g := gb184) (o := .cells #[.int .i64 t176, .int .i64 t177, .string t178, .slice Ao24 t179.length co24] 24 (0, 0)) (by (with_reducible repeat (first | refine blk_drewN ?_ _ | refine blk_drew ?_ | refine blk_alloc ?_ _)); exact BK184.out)) : gb184 ≠ gb209)); have n12_ := Aside0.mk ((by rw [hg]; exact Nat.ne_of_gt (blk_lt (g := gb184) (o := .cells #[.int .i64 t176, .int .i64 t177, .string t178, .slice Ao24 t179.length co24] 24 (0, 0)) (by (with_reducible repeat (first | refine blk_drewN ?_ _ | refine blk_drew ?_ | refine blk_alloc ?_ _)); exact BK184.out)) : gb209 ≠ gb184)); have n13_ := Aside0.mk ((by rw [hg]; exact Nat.ne_of_lt (blk_lt (g := gb193) (o := .cells #[.int .i64 t185, .int .i64 t186, .string t187, .slice Ao29 t188.length co29] 24 (0, 0)) (by (with_reducible repeat (first | refine blk_drewN ?_ _ | refine blk_drew ?_ | refine blk_alloc ?_ _)); exact BK193.out)) : gb193 ≠ gb209)); have n14_ := Aside0.mk ((by rw [hg]; exact Nat.ne_of_gt (blk_lt (g := gb193) (o := .cells #[.int .i64 t185, .int .i64 t186, .string t187, .slice Ao29 t188.length co29] 24 (0, 0)) (by (with_reducible repeat (first | refine blk_drewN ?_ _ | refine blk_drew ?_ | refine blk_alloc ?_ _)); exact BK193.out)) : gb209 ≠ gb193)); have n15_ := Aside0.mk ((by rw [hg]; exact Nat.ne_of_lt (blk_lt (g := gb201) (o := .cells #[.int .i64 t194, .int .i64 t195, .string t196, .slice Ao35 t197.length co35] 24 (0, 0)) (by (with_reducible repeat (first | refine blk_drewN ?_ _ | refine blk_drew ?_ | refine blk_alloc ?_ _)); exact BK201.out)) : gb201 ≠ gb209)); have n16_ := Aside0.mk ((by rw [hg]; exact Nat.ne_of_gt (blk_lt (g := gb201) (o := .cells #[.int .i64 t194, .int .i64 t195, .string t196, .slice Ao35 t197.length co35] 24 (0, 0)) (by (with_reducible repeat (first | refine blk_drewN ?_ _ | refine blk_drew ?_ | refine blk_alloc ?_ _)); exact BK201.out)) : gb209 ≠ gb201)); clear HO181; clear HO190; clear HO199; clear HO207; clear BK184; clear BK193; clear BK201; clear HB; have HO181 := n0_; have HO190 := n1_; have HO199 := n2_; have HO207 := n3_; have BK184 := n4_; have BK193 := n5_; have BK201 := n6_; have HB := n7_; have BK209 := n8_; have GW209 := n9_; have GE209 := n10_; have NB184_209 := n11_; have NB209_184 := n12_; have NB193_209 := n13_; have NB209_193 := n14_; have NB201_209 := n15_; have NB209_201 := n16_; clear n0_ n1_ n2_ n3_ n4_ n5_ n6_ n7_ n8_ n9_ n10_ n11_ n12_ n13_ n14_ n15_ n16_; clear hb hbox hg; have hnb38 := NB209_184.out; have hnc38 := NB184_209.out; have hnb39 := NB209_193.out; have hnc39 := NB193_209.out; have hnb40 := NB209_201.out; have hnc40 := NB201_209.out; have hcz41_0 : w37.cell? ⟨gb209, 0, none⟩ = some (.int .i64 0) := (blk_cell BK209.out 0).trans rfl; have hcz41_1 : w37.cell? ⟨gb209, 1, none⟩ = some (.int .i64 0) := (blk_cell BK209.out 1).trans rfl; have hcz41_2 : w37.cell? ⟨gb209, 2, none⟩ = some (.string (⟨#[]⟩ : ByteArray)) := (blk_cell BK209.out 2).trans rfl; have hcz41_3 : w37.cell? ⟨gb209, 3, none⟩ = some (.slice none 0 0) := (blk_cell BK209.out 3).trans rfl; have hfz41_0 := blk_frozen BK209.out 0; have hfz41_1 := blk_frozen BK209.out 1; have hfz41_2 := blk_frozen BK209.out 2; have hfz41_3 := blk_frozen BK209.out 3; obtain ⟨Ao42, co42, eo42⟩ := Kd.R_slice HO207.out; subst eo42; have hcz43_0 : w37.cell? ⟨gb184, 0, none⟩ = some (.int .i64 t176) := (blk_cell BK184.out 0).trans rfl; have hcz43_1 : w37.cell? ⟨gb184, 1, none⟩ = some (.int .i64 t177) := (blk_cell BK184.out 1).trans rfl; have hcz43_2 : w37.cell? ⟨gb184, 2, none⟩ = some (.string t178) := (blk_cell BK184.out 2).trans rfl; have hcz43_3 : w37.cell? ⟨gb184, 3, none⟩ = some (.slice Ao24 t179.length co24) := (blk_cell BK184.out 3).trans rfl; have hfz43_0 := blk_frozen BK184.out 0; have hfz43_1 := blk_frozen BK184.out 1; have hfz43_2 := blk_frozen BK184.out 2; have hfz43_3 := blk_frozen BK184.out 3; have hcz44_0 : w37.cell? ⟨gb193, 0, none⟩ = some (.int .i64 t185) := (blk_cell BK193.out 0).trans rfl; have hcz44_1 : w37.cell? ⟨gb193, 1, none⟩ = some (.int .i64 t186) := (blk_cell BK193.out 1).trans rfl; have hcz44_2 : w37.cell? ⟨gb193, 2, none⟩ = some (.string t187) := (blk_cell BK193.out 2).trans rfl; have hcz44_3 : w37.cell? ⟨gb193, 3, none⟩ = some (.slice Ao29 t188.length co29) := (blk_cell BK193.out 3).trans rfl; have hfz44_0 := blk_frozen BK193.out 0; have hfz44_1 := blk_frozen BK193.out 1; have hfz44_2 := blk_frozen BK193.out 2; have hfz44_3 := blk_frozen BK193.out 3) | ((with_reducible refine gate_callee (f := 15) rfl ?_); refine goesL_ (some 41) rfl rfl Tryd.func15 (by kernel_rfl) rfl #[.agg #[.int .i64 t176, .int .i64 t177, .string t178, .slice Ao24 t179.length co24], .agg #[.int .i64 t185, .int .i64 t186, .string t187, .slice Ao29 t188.length co29]] rfl (by (try simp only [List.map_toArray, List.map_cons, List.map_nil]); first | done | rfl | (simp only [List.length_drop, List.length_take]; rfl)) ?_; (with_reducible refine (ploverref02_Same.calls k t176 t177 t178 _ _ t179 t185 t186 t187 _ _ t188 true _ ?side1 ?side2 ?side3 ?side4 A9.out).mono ?_); (case side1 => refine (Kd.R_reads' (e := 24) (base := w.heap.size) (ok := fun k_ => (((((((True ∧ k_ ≠ gb184) ∧ some k_ ≠ (.slice Ao29 t188.length co29 : Value).ownBlock) ∧ k_ ≠ gb193) ∧ some k_ ≠ (.slice Ao35 t197.length co35 : Value).ownBlock) ∧ k_ ≠ gb201) ∧ some k_ ≠ (.slice Ao42 t205.length co42 : Value).ownBlock) ∧ k_ ≠ gb209)) (n := t179.length) (c := co24) ?_).2.2; exact (by (with_reducible repeat (first | apply Kd.R_alloc | apply Kd.R_drewN | apply Kd.R_drew)); exact (Kd.R_mono (Kd.R_far (p := ⟨gb209, 3, none⟩) (Kd.R_far (p := ⟨gb209, 2, none⟩) (Kd.R_far (p := ⟨gb209, 1, none⟩) (Kd.R_far (p := ⟨gb209, 0, none⟩) (Kd.R_mono HO181.out (fun k_ hk => (⟨hk, hk.2⟩ : _ ∧ k_ ≠ gb209))) (fun _ hk => hk.2) (.int .i64 t202)) (fun _ hk => hk.2) (.int .i64 t203)) (fun _ hk => hk.2) (.string t204)) (fun _ hk => hk.2) (.slice Ao42 t205.length co42)) (fun _ h_ => h_.1)))); (case side2 => exact (Kd.R_reads' HO181.out).2.1); (case side3 => refine (Kd.R_reads' (e := 24) (base := w.heap.size) (ok := fun k_ => (((((((True ∧ some k_ ≠ (.slice Ao24 t179.length co24 : Value).ownBlock) ∧ k_ ≠ gb184) ∧ k_ ≠ gb193) ∧ some k_ ≠ (.slice Ao35 t197.length co35 : Value).ownBlock) ∧ k_ ≠ gb201) ∧ some k_ ≠ (.slice Ao42 t205.length co42 : Value).ownBlock) ∧ k_ ≠ gb209)) (n := t188.length) (c := co29) ?_).2.2; exact (by (with_reducible repeat (first | apply Kd.R_alloc | apply Kd.R_drewN | apply Kd.R_drew)); exact (Kd.R_mono (Kd.R_far (p := ⟨gb209, 3, none⟩) (Kd.R_far (p := ⟨gb209, 2, none⟩) (Kd.R_far (p := ⟨gb209, 1, none⟩) (Kd.R_far (p := ⟨gb209, 0, none⟩) (Kd.R_mono HO190.out (fun k_ hk => (⟨hk, hk.2⟩ : _ ∧ k_ ≠ gb209))) (fun _ hk => hk.2) (.int .i64 t202)) (fun _ hk => hk.2) (.int .i64 t203)) (fun _ hk => hk.2) (.string t204)) (fun _ hk => hk.2) (.slice Ao42 t205.length co42)) (fun _ h_ => h_.1)))); (case side4 => exact (Kd.R_reads' HO190.out).2.1); rintro e w45 ⟨rfl, hb⟩; refine ⟨_, rfl, ?_⟩; have n0_ := Aside0.mk (Kd.R_below (by (with_reducible repeat (first | apply Kd.R_alloc | apply Kd.R_drewN | apply Kd.R_drew)); exact (Kd.R_mono (Kd.R_far (p := ⟨gb209, 3, none⟩) (Kd.R_far (p := ⟨gb209, 2, none⟩) (Kd.R_far (p := ⟨gb209, 1, none⟩) (Kd.R_far (p := ⟨gb209, 0, none⟩) (Kd.R_mono HO181.out (fun k_ hk => (⟨hk, hk.2⟩ : _ ∧ k_ ≠ gb209))) (fun _ hk => hk.2) (.int .i64 t202)) (fun _ hk => hk.2) (.int .i64 t203)) (fun _ hk => hk.2) (.string t204)) (fun _ hk => hk.2) (.slice Ao42 t205.length co42)) (fun _ h_ => h_.1))) hb); have n1_ := Aside0.mk (Kd.R_below (by (with_reducible repeat (first | apply Kd.R_alloc | apply Kd.R_drewN | apply Kd.R_drew)); exact (Kd.R_mono (Kd.R_far (p := ⟨gb209, 3, none⟩) (Kd.R_far (p := ⟨gb209, 2, none⟩) (Kd.R_far (p := ⟨gb209, 1, none⟩) (Kd.R_far (p := ⟨gb209, 0, none⟩) (Kd.R_mono HO190.out (fun k_ hk => (⟨hk, hk.2⟩ : _ ∧ k_ ≠ gb209))) (fun _ hk => hk.2) (.int .i64 t202)) (fun _ hk => hk.2) (.int .i64 t203)) (fun _ hk => hk.2) (.string t204)) (fun _ hk => hk.2) (.slice Ao42 t205.length co42)) (fun _ h_ => h_.1))) hb); have n2_ := Aside0.mk (Kd.R_below (by (with_reducible repeat (first | apply Kd.R_alloc | apply Kd.R_drewN | apply Kd.R_drew)); exact (Kd.R_mono (Kd.R_far (p := ⟨gb209, 3, none⟩) (Kd.R_far (p := ⟨gb209, 2, none⟩) (Kd.R_far (p := ⟨gb209, 1, none⟩) (Kd.R_far (p := ⟨gb209, 0, none⟩) (Kd.R_mono HO199.out (fun k_ hk => (⟨hk, hk.2⟩ : _ ∧ k_ ≠ gb209))) (fun _ hk => hk.2) (.int .i64 t202)) (fun _ hk => hk.2) (.int .i64 t203)) (fun _ hk => hk.2) (.string t204)) (fun _ hk => hk.2) (.slice Ao42 t205.length co42)) (fun _ h_ => h_.1))) hb); have n3_ := Aside0.mk (Kd.R_below (by (with_reducible repeat (first | apply Kd.R_alloc | apply Kd.R_drewN | apply Kd.R_drew)); exact (Kd.R_mono (Kd.R_far (p := ⟨gb209, 3, none⟩) (Kd.R_far (p := ⟨gb209, 2, none⟩) (Kd.R_far (p := ⟨gb209, 1, none⟩) (Kd.R_far (p := ⟨gb209, 0, none⟩) (Kd.R_mono HO207.out (fun k_ hk => (⟨hk, hk.2⟩ : _ ∧ k_ ≠ gb209))) (fun _ hk => hk.2) (.int .i64 t202)) (fun _ hk => hk.2) (.int .i64 t203)) (fun _ hk => hk.2) (.string t204)) (fun _ hk => hk.2) (.slice Ao42 t205.length co42)) (fun _ h_ => h_.1))) hb); have n4_ := Aside0.mk (blk_below (g := gb184) (o := .cells #[.int .i64 t176, .int .i64 t177, .string t178, .slice Ao24 t179.length co24] 24 (0, 0)) (by (with_reducible repeat (first | refine blk_drewN ?_ _ | refine blk_drew ?_ | refine blk_alloc ?_ _)); refine blk_far ?_ NB184_209.out _; (with_reducible repeat (first | refine blk_drewN ?_ _ | refine blk_drew ?_ | refine blk_alloc ?_ _)); refine blk_far ?_ NB184_209.out _; (with_reducible repeat (first | refine blk_drewN ?_ _ | refine blk_drew ?_ | refine blk_alloc ?_ _)); refine blk_far ?_ NB184_209.out _; (with_reducible repeat (first | refine blk_drewN ?_ _ | refine blk_drew ?_ | refine blk_alloc ?_ _)); refine blk_far ?_ NB184_209.out _; (with_reducible repeat (first | refine blk_drewN ?_ _ | refine blk_drew ?_ | refine blk_alloc ?_ _)); exact BK184.out) hb); have n5_ := Aside0.mk (blk_below (g := gb193) (o := .cells #[.int .i64 t185, .int .i64 t186, .string t187, .slice Ao29 t188.length co29] 24 (0, 0)) (by (with_reducible repeat (first | refine blk_drewN ?_ _ | refine blk_drew ?_ | refine blk_alloc ?_ _)); refine blk_far ?_ NB193_209.out _; (with_reducible repeat (first | refine blk_drewN ?_ _ | refine blk_drew ?_ | refine blk_alloc ?_ _)); refine blk_far ?_ NB193_209.out _; (with_reducible repeat (first | refine blk_drewN ?_ _ | refine blk_drew ?_ | refine blk_alloc ?_ _)); refine blk_far ?_ NB193_209.out _; (with_reducible repeat (first | refine blk_drewN ?_ _ | refine blk_drew ?_ | refine blk_alloc ?_ _)); refine blk_far ?_ NB193_209.out _; (with_reducible repeat (first | refine blk_drewN ?_ _ | refine blk_drew ?_ | refine blk_alloc ?_ _)); exact BK193.out) hb); have n6_ := Aside0.mk (blk_below (g := gb201) (o := .cells #[.int .i64 t194, .int .i64 t195, .string t196, .slice Ao35 t197.length co35] 24 (0, 0)) (by (with_reducible repeat (first | refine blk_drewN ?_ _ | refine blk_drew ?_ | refine blk_alloc ?_ _)); refine blk_far ?_ NB201_209.out _; (with_reducible repeat (first | refine blk_drewN ?_ _ | refine blk_drew ?_ | refine blk_alloc ?_ _)); refine blk_far ?_ NB201_209.out _; (with_reducible repeat (first | refine blk_drewN ?_ _ | refine blk_drew ?_ | refine blk_alloc ?_ _)); refine blk_far ?_ NB201_209.out _; (with_reducible repeat (first | refine blk_drewN ?_ _ | refine blk_drew ?_ | refine blk_alloc ?_ _)); refine blk_far ?_ NB201_209.out _; (with_reducible repeat (first | refine blk_drewN ?_ _ | refine blk_drew ?_ | refine blk_alloc ?_ _)); exact BK201.out) hb); have n7_ := Aside0.mk (blk_below (g := gb209) (o := .cells #[.int .i64 t202, .int .i64 t203, .string t204, .slice Ao42 t205.length co42] 24 (0, 0)) (by (with_reducible repeat (first | refine blk_drewN ?_ _ | refine blk_drew ?_ | refine blk_alloc ?_ _)); refine blk_put (cs := #[.int .i64 t202, .int .i64 t203, .string t204, .slice none 0 0]) ?_ 3 _ rfl; (with_reducible repeat (first | refine blk_drewN ?_ _ | refine blk_drew ?_ | refine blk_alloc ?_ _)); refine blk_put (cs := #[.int .i64 t202, .int .i64 t203, .string (⟨#[]⟩ : ByteArray), .slice none 0 0]) ?_ 2 _ rfl; (with_reducible repeat (first | refine blk_drewN ?_ _ | refine blk_drew ?_ | refine blk_alloc ?_ _)); refine blk_put (cs := #[.int .i64 t202, .int .i64 0, .string (⟨#[]⟩ : ByteArray), .slice none 0 0]) ?_ 1 _ rfl; (with_reducible repeat (first | refine blk_drewN ?_ _ | refine blk_drew ?_ | refine blk_alloc ?_ _)); refine blk_put (cs := #[.int .i64 0, .int .i64 0, .string (⟨#[]⟩ : ByteArray), .slice none 0 0]) ?_ 0 _ rfl; (with_reducible repeat (first | refine blk_drewN ?_ _ | refine blk_drew ?_ | refine blk_alloc ?_ _)); exact BK209.out) hb); have n8_ := Aside0.mk (below_step (by repeat (first | (with_reducible first | exact HB.out | apply below_alloc | apply pw_below_drewN | apply below_drew1 | refine below_set ?_ GE184.out | refine below_set ?_ GE193.out | refine below_set ?_ GE201.out | refine below_set ?_ GE209.out) | exact HB.out)) hb); clear HO181; clear HO190; clear HO199; clear HO207; clear BK184; clear BK193; clear BK201; clear BK209; clear HB; have HO181 := n0_; have HO190 := n1_; have HO199 := n2_; have HO207 := n3_; have BK184 := n4_; have BK193 := n5_; have BK201 := n6_; have BK209 := n7_; have HB := n8_; clear n0_ n1_ n2_ n3_ n4_ n5_ n6_ n7_ n8_; (try clear hb); (try clear hb2); (try clear hk); (try clear hi); have hcz46_0 : w45.cell? ⟨gb184, 0, none⟩ = some (.int .i64 t176) := (blk_cell BK184.out 0).trans rfl; have hcz46_1 : w45.cell? ⟨gb184, 1, none⟩ = some (.int .i64 t177) := (blk_cell BK184.out 1).trans rfl; have hcz46_2 : w45.cell? ⟨gb184, 2, none⟩ = some (.string t178) := (blk_cell BK184.out 2).trans rfl; have hcz46_3 : w45.cell? ⟨gb184, 3, none⟩ = some (.slice Ao24 t179.length co24) := (blk_cell BK184.out 3).trans rfl; have hfz46_0 := blk_frozen BK184.out 0; have hfz46_1 := blk_frozen BK184.out 1; have hfz46_2 := blk_frozen BK184.out 2; have hfz46_3 := blk_frozen BK184.out 3) | (go_at_call 19; (with_reducible refine (ploverref02_Clean.calls k t176 t177 t178 _ _ t179 true _ ?side1 ?side2 A11.out).mono ?_); (case side1 => repeat (first | exact (Kd.R_reads' HO181.out).2.2 | (with_reducible refine Kd.C_alloc ?_ _) | (with_reducible refine Kd.C_drewN ?_ _) | (with_reducible refine Kd.C_drew ?_))); (case side2 => exact (Kd.R_reads' HO181.out).2.1); rintro e w47 ⟨rfl, hb⟩; have n0_ := Aside0.mk (Kd.R_below (by (with_reducible repeat (first | apply Kd.R_alloc | apply Kd.R_drewN | apply Kd.R_drew)); exact HO181.out) hb); have n1_ := Aside0.mk (Kd.R_below (by (with_reducible repeat (first | apply Kd.R_alloc | apply Kd.R_drewN | apply Kd.R_drew)); exact HO190.out) hb); have n2_ := Aside0.mk (Kd.R_below (by (with_reducible repeat (first | apply Kd.R_alloc | apply Kd.R_drewN | apply Kd.R_drew)); exact HO199.out) hb); have n3_ := Aside0.mk (Kd.R_below (by (with_reducible repeat (first | apply Kd.R_alloc | apply Kd.R_drewN | apply Kd.R_drew)); exact HO207.out) hb); have n4_ := Aside0.mk (blk_below (g := gb184) (o := .cells #[.int .i64 t176, .int .i64 t177, .string t178, .slice Ao24 t179.length co24] 24 (0, 0)) (by (with_reducible repeat (first | refine blk_drewN ?_ _ | refine blk_drew ?_ | refine blk_alloc ?_ _)); exact BK184.out) hb); have n5_ := Aside0.mk (blk_below (g := gb193) (o := .cells #[.int .i64 t185, .int .i64 t186, .string t187, .slice Ao29 t188.length co29] 24 (0, 0)) (by (with_reducible repeat (first | refine blk_drewN ?_ _ | refine blk_drew ?_ | refine blk_alloc ?_ _)); exact BK193.out) hb); have n6_ := Aside0.mk (blk_below (g := gb201) (o := .cells #[.int .i64 t194, .int .i64 t195, .string t196, .slice Ao35 t197.length co35] 24 (0, 0)) (by (with_reducible repeat (first | refine blk_drewN ?_ _ | refine blk_drew ?_ | refine blk_alloc ?_ _)); exact BK201.out) hb); have n7_ := Aside0.mk (blk_below (g := gb209) (o := .cells #[.int .i64 t202, .int .i64 t203, .string t204, .slice Ao42 t205.length co42] 24 (0, 0)) (by (with_reducible repeat (first | refine blk_drewN ?_ _ | refine blk_drew ?_ | refine blk_alloc ?_ _)); exact BK209.out) hb); have n8_ := Aside0.mk (below_step (by repeat (first | (with_reducible first | exact HB.out | apply below_alloc | apply pw_below_drewN | apply below_drew1 | refine below_set ?_ GE184.out | refine below_set ?_ GE193.out | refine below_set ?_ GE201.out | refine below_set ?_ GE209.out) | exact HB.out)) hb); clear HO181; clear HO190; clear HO199; clear HO207; clear BK184; clear BK193; clear BK201; clear BK209; clear HB; have HO181 := n0_; have HO190 := n1_; have HO199 := n2_; have HO207 := n3_; have BK184 := n4_; have BK193 := n5_; have BK201 := n6_; have BK209 := n7_; have HB := n8_; clear n0_ n1_ n2_ n3_ n4_ n5_ n6_ n7_ n8_; (try clear hb); (try clear hb2); (try clear hk); (try clear hi); have hcz48_0 : w47.cell? ⟨gb201, 0, none⟩ = some (.int .i64 t194) := (blk_cell BK201.out 0).trans rfl; have hcz48_1 : w47.cell? ⟨gb201, 1, none⟩ = some (.int .i64 t195) := (blk_cell BK201.out 1).trans rfl; have hcz48_2 : w47.cell? ⟨gb201, 2, none⟩ = some (.string t196) := (blk_cell BK201.out 2).trans rfl; have hcz48_3 : w47.cell? ⟨gb201, 3, none⟩ = some (.slice Ao35 t197.length co35) := (blk_cell BK201.out 3).trans rfl; have hfz48_0 := blk_frozen BK201.out 0; have hfz48_1 := blk_frozen BK201.out 1; have hfz48_2 := blk_frozen BK201.out 2; have hfz48_3 := blk_frozen BK201.out 3; have hcz49_0 : w47.cell? ⟨gb209, 0, none⟩ = some (.int .i64 t202) := (blk_cell BK209.out 0).trans rfl; have hcz49_1 : w47.cell? ⟨gb209, 1, none⟩ = some (.int .i64 t203) := (blk_cell BK209.out 1).trans rfl; have hcz49_2 : w47.cell? ⟨gb209, 2, none⟩ = some (.string t204) := (blk_cell BK209.out 2).trans rfl; have hcz49_3 : w47.cell? ⟨gb209, 3, none⟩ = some (.slice Ao42 t205.length co42) := (blk_cell BK209.out 3).trans rfl; have hfz49_0 := blk_frozen BK209.out 0; have hfz49_1 := blk_frozen BK209.out 1; have hfz49_2 := blk_frozen BK209.out 2; have hfz49_3 := blk_frozen BK209.out 3) | (go_at_call 15; (with_reducible refine (ploverref02_Same.calls k t194 t195 t196 _ _ t197 t202 t203 t204 _ _ t205 true _ ?side1 ?side2 ?side3 ?side4 A15.out).mono ?_); (case side1 => repeat (first | exact (Kd.R_reads' HO199.out).2.2 | (with_reducible refine Kd.C_alloc ?_ _) | (with_reducible refine Kd.C_drewN ?_ _) | (with_reducible refine Kd.C_drew ?_))); (case side2 => exact (Kd.R_reads' HO199.out).2.1); (case side3 => repeat (first | exact (Kd.R_reads' HO207.out).2.2 | (with_reducible refine Kd.C_alloc ?_ _) | (with_reducible refine Kd.C_drewN ?_ _) | (with_reducible refine Kd.C_drew ?_))); (case side4 => exact (Kd.R_reads' HO207.out).2.1); rintro e w50 ⟨rfl, hb⟩; have n0_ := Aside0.mk (Kd.R_below (by (with_reducible repeat (first | apply Kd.R_alloc | apply Kd.R_drewN | apply Kd.R_drew)); exact HO181.out) hb); have n1_ := Aside0.mk (Kd.R_below (by (with_reducible repeat (first | apply Kd.R_alloc | apply Kd.R_drewN | apply Kd.R_drew)); exact HO190.out) hb); have n2_ := Aside0.mk (Kd.R_below (by (with_reducible repeat (first | apply Kd.R_alloc | apply Kd.R_drewN | apply Kd.R_drew)); exact HO199.out) hb); have n3_ := Aside0.mk (Kd.R_below (by (with_reducible repeat (first | apply Kd.R_alloc | apply Kd.R_drewN | apply Kd.R_drew)); exact HO207.out) hb); have n4_ := Aside0.mk (blk_below (g := gb184) (o := .cells #[.int .i64 t176, .int .i64 t177, .string t178, .slice Ao24 t179.length co24] 24 (0, 0)) (by (with_reducible repeat (first | refine blk_drewN ?_ _ | refine blk_drew ?_ | refine blk_alloc ?_ _)); exact BK184.out) hb); have n5_ := Aside0.mk (blk_below (g := gb193) (o := .cells #[.int .i64 t185, .int .i64 t186, .string t187, .slice Ao29 t188.length co29] 24 (0, 0)) (by (with_reducible repeat (first | refine blk_drewN ?_ _ | refine blk_drew ?_ | refine blk_alloc ?_ _)); exact BK193.out) hb); have n6_ := Aside0.mk (blk_below (g := gb201) (o := .cells #[.int .i64 t194, .int .i64 t195, .string t196, .slice Ao35 t197.length co35] 24 (0, 0)) (by (with_reducible repeat (first | refine blk_drewN ?_ _ | refine blk_drew ?_ | refine blk_alloc ?_ _)); exact BK201.out) hb); have n7_ := Aside0.mk (blk_below (g := gb209) (o := .cells #[.int .i64 t202, .int .i64 t203, .string t204, .slice Ao42 t205.length co42] 24 (0, 0)) (by (with_reducible repeat (first | refine blk_drewN ?_ _ | refine blk_drew ?_ | refine blk_alloc ?_ _)); exact BK209.out) hb); have n8_ := Aside0.mk (below_step (by repeat (first | (with_reducible first | exact HB.out | apply below_alloc | apply pw_below_drewN | apply below_drew1 | refine below_set ?_ GE184.out | refine below_set ?_ GE193.out | refine below_set ?_ GE201.out | refine below_set ?_ GE209.out) | exact HB.out)) hb); clear HO181; clear HO190; clear HO199; clear HO207; clear BK184; clear BK193; clear BK201; clear BK209; clear HB; have HO181 := n0_; have HO190 := n1_; have HO199 := n2_; have HO207 := n3_; have BK184 := n4_; have BK193 := n5_; have BK201 := n6_; have BK209 := n7_; have HB := n8_; clear n0_ n1_ n2_ n3_ n4_ n5_ n6_ n7_ n8_; (try clear hb); (try clear hb2); (try clear hk); (try clear hi); have hcz51_0 : w50.cell? ⟨gb201, 0, none⟩ = some (.int .i64 t194) := (blk_cell BK201.out 0).trans rfl; have hcz51_1 : w50.cell? ⟨gb201, 1, none⟩ = some (.int .i64 t195) := (blk_cell BK201.out 1).trans rfl; have hcz51_2 : w50.cell? ⟨gb201, 2, none⟩ = some (.string t196) := (blk_cell BK201.out 2).trans rfl; have hcz51_3 : w50.cell? ⟨gb201, 3, none⟩ = some (.slice Ao35 t197.length co35) := (blk_cell BK201.out 3).trans rfl; have hfz51_0 := blk_frozen BK201.out 0; have hfz51_1 := blk_frozen BK201.out 1; have hfz51_2 := blk_frozen BK201.out 2; have hfz51_3 := blk_frozen BK201.out 3) | (go_at_call 19; (with_reducible refine (ploverref02_Clean.calls k t194 t195 t196 _ _ t197 true _ ?side1 ?side2 A17.out).mono ?_); (case side1 => repeat (first | exact (Kd.R_reads' HO199.out).2.2 | (with_reducible refine Kd.C_alloc ?_ _) | (with_reducible refine Kd.C_drewN ?_ _) | (with_reducible refine Kd.C_drew ?_))); (case side2 => exact (Kd.R_reads' HO199.out).2.1); rintro e w52 ⟨rfl, hb⟩; have n0_ := Aside0.mk (Kd.R_below (by (with_reducible repeat (first | apply Kd.R_alloc | apply Kd.R_drewN | apply Kd.R_drew)); exact HO181.out) hb); have n1_ := Aside0.mk (Kd.R_below (by (with_reducible repeat (first | apply Kd.R_alloc | apply Kd.R_drewN | apply Kd.R_drew)); exact HO190.out) hb); have n2_ := Aside0.mk (Kd.R_below (by (with_reducible repeat (first | apply Kd.R_alloc | apply Kd.R_drewN | apply Kd.R_drew)); exact HO199.out) hb); have n3_ := Aside0.mk (Kd.R_below (by (with_reducible repeat (first | apply Kd.R_alloc | apply Kd.R_drewN | apply Kd.R_drew)); exact HO207.out) hb); have n4_ := Aside0.mk (blk_below (g := gb184) (o := .cells #[.int .i64 t176, .int .i64 t177, .string t178, .slice Ao24 t179.length co24] 24 (0, 0)) (by (with_reducible repeat (first | refine blk_drewN ?_ _ | refine blk_drew ?_ | refine blk_alloc ?_ _)); exact BK184.out) hb); have n5_ := Aside0.mk (blk_below (g := gb193) (o := .cells #[.int .i64 t185, .int .i64 t186, .string t187, .slice Ao29 t188.length co29] 24 (0, 0)) (by (with_reducible repeat (first | refine blk_drewN ?_ _ | refine blk_drew ?_ | refine blk_alloc ?_ _)); exact BK193.out) hb); have n6_ := Aside0.mk (blk_below (g := gb201) (o := .cells #[.int .i64 t194, .int .i64 t195, .string t196, .slice Ao35 t197.length co35] 24 (0, 0)) (by (with_reducible repeat (first | refine blk_drewN ?_ _ | refine blk_drew ?_ | refine blk_alloc ?_ _)); exact BK201.out) hb); have n7_ := Aside0.mk (blk_below (g := gb209) (o := .cells #[.int .i64 t202, .int .i64 t203, .string t204, .slice Ao42 t205.length co42] 24 (0, 0)) (by (with_reducible repeat (first | refine blk_drewN ?_ _ | refine blk_drew ?_ | refine blk_alloc ?_ _)); exact BK209.out) hb); have n8_ := Aside0.mk (below_step (by repeat (first | (with_reducible first | exact HB.out | apply below_alloc | apply pw_below_drewN | apply below_drew1 | refine below_set ?_ GE184.out | refine below_set ?_ GE193.out | refine below_set ?_ GE201.out | refine below_set ?_ GE209.out) | exact HB.out)) hb); clear HO181; clear HO190; clear HO199; clear HO207; clear BK184; clear BK193; clear BK201; clear BK209; clear HB; have HO181 := n0_; have HO190 := n1_; have HO199 := n2_; have HO207 := n3_; have BK184 := n4_; have BK193 := n5_; have BK201 := n6_; have BK209 := n7_; have HB := n8_; clear n0_ n1_ n2_ n3_ n4_ n5_ n6_ n7_ n8_; (try clear hb); (try clear hb2); (try clear hk); (try clear hi)) | (go_at_call 11; (with_reducible refine (ploverlaw02_awake.calls k  t214 _ (LaidW.below hL (by repeat (first | (with_reducible first | exact HB.out | apply below_alloc | apply pw_below_drewN | apply below_drew1 | refine below_set ?_ GE184.out | refine below_set ?_ GE193.out | refine below_set ?_ GE201.out | refine below_set ?_ GE209.out) | exact HB.out))) A20.out).mono ?_); rintro e w53 ⟨rfl, hb⟩; have n0_ := Aside0.mk (Kd.R_below (by (with_reducible repeat (first | apply Kd.R_alloc | apply Kd.R_drewN | apply Kd.R_drew)); exact HO181.out) hb); have n1_ := Aside0.mk (Kd.R_below (by (with_reducible repeat (first | apply Kd.R_alloc | apply Kd.R_drewN | apply Kd.R_drew)); exact HO190.out) hb); have n2_ := Aside0.mk (Kd.R_below (by (with_reducible repeat (first | apply Kd.R_alloc | apply Kd.R_drewN | apply Kd.R_drew)); exact HO199.out) hb); have n3_ := Aside0.mk (Kd.R_below (by (with_reducible repeat (first | apply Kd.R_alloc | apply Kd.R_drewN | apply Kd.R_drew)); exact HO207.out) hb); have n4_ := Aside0.mk (blk_below (g := gb184) (o := .cells #[.int .i64 t176, .int .i64 t177, .string t178, .slice Ao24 t179.length co24] 24 (0, 0)) (by (with_reducible repeat (first | refine blk_drewN ?_ _ | refine blk_drew ?_ | refine blk_alloc ?_ _)); exact BK184.out) hb); have n5_ := Aside0.mk (blk_below (g := gb193) (o := .cells #[.int .i64 t185, .int .i64 t186, .string t187, .slice Ao29 t188.length co29] 24 (0, 0)) (by (with_reducible repeat (first | refine blk_drewN ?_ _ | refine blk_drew ?_ | refine blk_alloc ?_ _)); exact BK193.out) hb); have n6_ := Aside0.mk (blk_below (g := gb201) (o := .cells #[.int .i64 t194, .int .i64 t195, .string t196, .slice Ao35 t197.length co35] 24 (0, 0)) (by (with_reducible repeat (first | refine blk_drewN ?_ _ | refine blk_drew ?_ | refine blk_alloc ?_ _)); exact BK201.out) hb); have n7_ := Aside0.mk (blk_below (g := gb209) (o := .cells #[.int .i64 t202, .int .i64 t203, .string t204, .slice Ao42 t205.length co42] 24 (0, 0)) (by (with_reducible repeat (first | refine blk_drewN ?_ _ | refine blk_drew ?_ | refine blk_alloc ?_ _)); exact BK209.out) hb); have n8_ := Aside0.mk (below_step (by repeat (first | (with_reducible first | exact HB.out | apply below_alloc | apply pw_below_drewN | apply below_drew1 | refine below_set ?_ GE184.out | refine below_set ?_ GE193.out | refine below_set ?_ GE201.out | refine below_set ?_ GE209.out) | exact HB.out)) hb); clear HO181; clear HO190; clear HO199; clear HO207; clear BK184; clear BK193; clear BK201; clear BK209; clear HB; have HO181 := n0_; have HO190 := n1_; have HO199 := n2_; have HO207 := n3_; have BK184 := n4_; have BK193 := n5_; have BK201 := n6_; have BK209 := n7_; have HB := n8_; clear n0_ n1_ n2_ n3_ n4_ n5_ n6_ n7_ n8_; (try clear hb); (try clear hb2); (try clear hk); (try clear hi)))
                  go_ret
                  exact ⟨by first | rfl | (simp [errW_none, errW_some] <;> rfl) | (simp [*, errW_none, errW_some] <;> rfl), by repeat (first | (with_reducible first | exact HB.out | apply below_alloc | apply pw_below_drewN | apply below_drew1 | refine below_set ?_ GE184.out | refine below_set ?_ GE193.out | refine below_set ?_ GE201.out | refine below_set ?_ GE209.out) | exact HB.out)⟩
                · rw [if_neg c19] at H
                  have c19b0 : (t200 == t208) = false := beq_eq_false_iff_ne.mpr c19
                  have c19b1 : (t200 != t208) = true := bne_iff_ne.mpr c19
                  exact absurd ((Option.some.inj H).trans hr) (by decide)
              · replace c18 := Bool.eq_false_iff.mpr c18
                subst c18
                have H1 : (some false) = some r := by rw [if_neg (show ¬ (false = true) by decide)] at H; exact H
                clear H
                have H := H1
                clear H1
                exact absurd ((Option.some.inj H).trans hr) (by decide)
            · replace c16 := Bool.eq_false_iff.mpr c16
              subst c16
              have H1 : (some false) = some r := by rw [if_neg (show ¬ (false = true) by decide)] at H; exact H
              clear H
              have H := H1
              clear H1
              exact absurd ((Option.some.inj H).trans hr) (by decide)
          · rw [if_neg c14] at H
            have c14b0 : (t183 == t192) = false := beq_eq_false_iff_ne.mpr c14
            have c14b1 : (t183 != t192) = true := bne_iff_ne.mpr c14
            exact absurd ((Option.some.inj H).trans hr) (by decide)
        · rw [if_neg c13] at H
          have c13b0 : (t182 == t191) = false := beq_eq_false_iff_ne.mpr c13
          have c13b1 : (t182 != t191) = true := bne_iff_ne.mpr c13
          exact absurd ((Option.some.inj H).trans hr) (by decide)
      · replace c12 := Bool.eq_false_iff.mpr c12
        subst c12
        have H1 : (some false) = some r := by rw [if_neg (show ¬ (false = true) by decide)] at H; exact H
        clear H
        have H := H1
        clear H1
        exact absurd ((Option.some.inj H).trans hr) (by decide)
    · replace c10 := Bool.eq_false_iff.mpr c10
      subst c10
      have H1 : (some false) = some r := by rw [if_neg (show ¬ (false = true) by decide)] at H; exact H
      clear H
      have H := H1
      clear H1
      exact absurd ((Option.some.inj H).trans hr) (by decide)
def ploverlaw02_BencTakes.Pure : Prop := ∀ (a0 : ByteArray), a0.size ≤ 140737488351232 → ∃ k, ploverlaw02_BencTakes.f k a0 = some true
theorem ploverlaw02_BencTakes.walk (P : ploverlaw02_BencTakes.Pure) (a0 : ByteArray) (w : World) (hL : LaidW w) (w0 : a0.size ≤ 140737488351232) :
    Calls Tryd.prog 8 #[.string a0] w fun e w' => e = .returned (.bool true) ∧ Below w.heap.size w w' := by
  obtain ⟨k, h⟩ := P a0 w0
  refine (ploverlaw02_BencTakes.calls k a0 true rfl w hL h).mono ?_
  rintro e w' ⟨rfl, hd⟩
  exact ⟨rfl, hd⟩
end Go.Proofs.YtcdfedbecgfanaaDoor.P
namespace Go.Proofs.YtcdfedbecgfanaaDoor.Giv
open Go.RowKit Go.Lib
set_option linter.unusedVariables false
set_option linter.unusedSimpArgs false
def isD (c : UInt8) : Prop := 48 ≤ c.toNat ∧ c.toNat ≤ 57
def dv (c : UInt8) : Nat := c.toNat - 48
def foldN (a : Nat) (ds : List UInt8) : Nat := ds.foldl (fun a c => 10 * a + dv c) a
theorem foldN_nil (a : Nat) : foldN a [] = a := rfl
theorem foldN_cons (a : Nat) (c : UInt8) (t : List UInt8) : foldN a (c :: t) = foldN (10 * a + dv c) t := by unfold foldN; rw [List.foldl_cons]
theorem foldN_app (a : Nat) (l r : List UInt8) : foldN a (l ++ r) = foldN (foldN a l) r := List.foldl_append ..
theorem foldN_ge : ∀ (ds : List UInt8) (a : Nat), a ≤ foldN a ds
  | [], a => Nat.le_refl _
  | c :: t, a => by rw [foldN_cons]; have := foldN_ge t (10 * a + dv c); omega
theorem digit_of {u : Nat} (h : u < 10) : (UInt8.ofNat (48 + u)).toNat = 48 + u := by
  rw [UInt8.toNat_ofNat']
  omega
theorem dd_isD (u : Nat) : ∀ c ∈ decDigits u, isD c := by
  induction u using Nat.strongRecOn with
  | _ u ih =>
    intro c hc
    by_cases h : u < 10
    · rw [dd_small h] at hc
      rw [List.mem_singleton.1 hc]
      unfold isD
      rw [digit_of h]
      omega
    · rw [dd_big h] at hc
      rcases List.mem_append.1 hc with hc | hc
      · exact ih (u / 10) (by omega) c hc
      · rw [List.mem_singleton.1 hc]
        unfold isD
        rw [digit_of (by omega)]
        omega
theorem dd_fold (u : Nat) : foldN 0 (decDigits u) = u := by
  induction u using Nat.strongRecOn with
  | _ u ih =>
    by_cases h : u < 10
    · rw [dd_small h, foldN_cons, foldN_nil]
      unfold dv
      rw [digit_of h]
      omega
    · rw [dd_big h, foldN_app, ih (u / 10) (by omega), foldN_cons, foldN_nil]
      unfold dv
      rw [digit_of (by omega)]
      omega
theorem dd_head (u : Nat) : ∃ c t, decDigits u = c :: t ∧ (c.toNat = 48 → u = 0 ∧ t = []) := by
  induction u using Nat.strongRecOn with
  | _ u ih =>
    by_cases h : u < 10
    · rw [dd_small h]
      exact ⟨_, _, rfl, fun e => by rw [digit_of h] at e; exact ⟨by omega, rfl⟩⟩
    · rw [dd_big h]
      obtain ⟨c, t, e, h2⟩ := ih (u / 10) (by omega)
      rw [e]
      exact ⟨c, _, rfl, fun e2 => by have := (h2 e2).1; omega⟩
theorem foldN_last (a : Nat) (l : List UInt8) (c : UInt8) : foldN a (l ++ [c]) = 10 * foldN a l + dv c := by rw [foldN_app, foldN_cons, foldN_nil]
theorem ofNat_dv {c : UInt8} (h : isD c) : UInt8.ofNat (48 + dv c) = c := by
  unfold isD at h
  unfold dv
  apply UInt8.toNat_inj.1
  rw [UInt8.toNat_ofNat']
  omega
theorem dv_lt {c : UInt8} (h : isD c) : dv c < 10 := by unfold isD at h; unfold dv; omega
theorem dd_unique : ∀ (n : Nat) (ds : List UInt8), ds.length = n → ds ≠ [] → (∀ c ∈ ds, isD c) → (∀ c t, ds = c :: t → c.toNat = 48 → t = []) → decDigits (foldN 0 ds) = ds := by
  intro n
  induction n with
  | zero => intro ds h hne; exact absurd (List.eq_nil_of_length_eq_zero h) hne
  | succ n ih =>
    intro ds h hne hD hh
    obtain ⟨l, c, rfl⟩ : ∃ l c, ds = l ++ [c] := ⟨ds.dropLast, ds.getLast hne, (List.dropLast_concat_getLast hne).symm⟩
    have hc := hD c (by simp)
    rw [foldN_last]
    by_cases hl : l = []
    · subst hl
      rw [foldN_nil, dd_small (by have := dv_lt hc; omega), show 10 * 0 + dv c = dv c by omega, ofNat_dv hc]
      rfl
    · have hpos : 1 ≤ foldN 0 l := by
        cases l with
        | nil => exact absurd rfl hl
        | cons a t =>
          rw [foldN_cons]
          have ha := hD a (by simp)
          have hne48 : a.toNat ≠ 48 := fun e => by have := hh a (t ++ [c]) rfl e; simp at this
          have := foldN_ge t (10 * 0 + dv a)
          unfold isD at ha
          unfold dv at *
          omega
      have ih' := ih l (by simp at h; omega) hl (fun x hx => hD x (by simp [hx])) (fun a t e e2 => by
        subst e
        have := hh a (t ++ [c]) rfl e2
        simp at this)
      have hd := dv_lt hc
      rw [dd_big (by omega), show (10 * foldN 0 l + dv c) / 10 = foldN 0 l by omega, show (10 * foldN 0 l + dv c) % 10 = dv c by omega, ih', ofNat_dv hc]
def sgn (neg : Bool) (m : Nat) : Int := if neg = true then -(m : Int) else (m : Int)
def fits (neg : Bool) (m : Nat) : Prop := m ≤ 9223372036854775807 + (if neg = true then 1 else 0)
instance (neg : Bool) (m : Nat) : Decidable (fits neg m) := by unfold fits; infer_instance
theorem u8_ne {c d : UInt8} (h : c.toNat ≠ d.toNat) : ¬ c = d := fun e => h (by rw [e])
theorem isD_not {c : UInt8} (h : isD c) : ¬ c = 101 ∧ ¬ c = 58 ∧ ¬ c < 48 ∧ ¬ 57 < c := by
  unfold isD at h
  refine ⟨u8_ne ?_, u8_ne ?_, ?_, ?_⟩
  · show c.toNat ≠ 101; omega
  · show c.toNat ≠ 58; omega
  · rw [UInt8.lt_iff_toNat_lt]; show ¬ c.toNat < 48; omega
  · rw [UInt8.lt_iff_toNat_lt]; show ¬ 57 < c.toNat; omega
theorem isD_of {c : UInt8} (h1 : ¬ c < 48) (h2 : ¬ 57 < c) : isD c := by
  rw [UInt8.lt_iff_toNat_lt] at h1 h2
  exact ⟨Nat.not_lt.1 h1, Nat.not_lt.1 h2⟩
theorem numL_digit (neg z st : Bool) (m : Nat) (c : UInt8) (t : List UInt8) (hc : isD c) (hz : st = true → z = false) (h0 : st = false → c.toNat = 48 → neg = false) :
    numL neg z st (sgn neg m) (c :: t) = if fits neg (10 * m + dv c) then ((numL neg (if st then z else c == 48) true (sgn neg (10 * m + dv c)) t).1, (numL neg (if st then z else c == 48) true (sgn neg (10 * m + dv c)) t).2.1, (numL neg (if st then z else c == 48) true (sgn neg (10 * m + dv c)) t).2.2 + 1) else (20, 0, 0) := by
  obtain ⟨n1, n2, n3, n4⟩ := isD_not hc
  have hcv : ((c.toNat : Int) - 48) = (dv c : Int) := by unfold isD at hc; unfold dv; omega
  have hb : ¬(c < 48 ∨ 57 < c ∨ (st = true ∧ z = true) ∨ (st = false ∧ c = 48 ∧ neg = true)) := by
    rintro (h | h | ⟨h, h'⟩ | ⟨h, h', h''⟩)
    · exact n3 h
    · exact n4 h
    · rw [hz h] at h'; cases h'
    · rw [h0 h (by rw [h']; rfl)] at h''; cases h''
  rw [numL, if_neg (by rintro ⟨e, _⟩; exact n1 e), if_neg hb, hcv]
  cases neg with
  | true =>
    rw [if_pos rfl]
    have e : 10 * sgn true m - (dv c : Int) = sgn true (10 * m + dv c) := by unfold sgn; rw [if_pos rfl, if_pos rfl]; omega
    rw [e]
    by_cases hf : fits true (10 * m + dv c)
    · rw [if_pos hf, if_neg (by unfold fits at hf; unfold sgn; rw [if_pos rfl] at hf ⊢; omega)]
    · rw [if_neg hf, if_pos (by unfold fits at hf; unfold sgn; rw [if_pos rfl] at hf ⊢; omega)]
  | false =>
    rw [if_neg (by decide)]
    have e : 10 * sgn false m + (dv c : Int) = sgn false (10 * m + dv c) := by unfold sgn; rw [if_neg (by decide), if_neg (by decide)]; omega
    rw [e]
    by_cases hf : fits false (10 * m + dv c)
    · rw [if_pos hf, if_neg (by unfold fits at hf; unfold sgn; rw [if_neg (by decide)] at hf ⊢; omega)]
    · rw [if_neg hf, if_pos (by unfold fits at hf; unfold sgn; rw [if_neg (by decide)] at hf ⊢; omega)]
theorem fits_le {neg : Bool} {a b : Nat} (h : fits neg b) (hab : a ≤ b) : fits neg a := by unfold fits at *; omega
theorem numL_run (neg : Bool) (rest : List UInt8) : ∀ (ds : List UInt8) (m : Nat), (∀ c ∈ ds, isD c) → fits neg (foldN m ds) → numL neg false true (sgn neg m) (ds ++ 101 :: rest) = (0, sgn neg (foldN m ds), ds.length + 1)
  | [], m, _, _ => by
    rw [List.nil_append, numL, if_pos ⟨rfl, rfl⟩]
    rfl
  | c :: t, m, hD, hf => by
    rw [foldN_cons] at hf ⊢
    have hf1 : fits neg (10 * m + dv c) := fits_le hf (foldN_ge t _)
    rw [List.cons_append, numL_digit neg false true m c (t ++ 101 :: rest) (hD c (by simp)) (fun _ => rfl) (fun h => by cases h), if_pos hf1, if_pos rfl, numL_run neg rest t (10 * m + dv c) (fun x hx => hD x (by simp [hx])) hf]
    simp
theorem numL_dd (neg : Bool) (m : Nat) (rest : List UInt8) (hf : fits neg m) (h0 : neg = true → m ≠ 0) : numL neg false false 0 (decDigits m ++ 101 :: rest) = (0, sgn neg m, (decDigits m).length + 1) := by
  obtain ⟨c, t, e, h48⟩ := dd_head m
  have hD := dd_isD m
  have hF := dd_fold m
  rw [e] at hD hF ⊢
  rw [foldN_cons] at hF
  have hs : (0 : Int) = sgn neg 0 := by unfold sgn; split <;> rfl
  have hc48 : c.toNat = 48 → neg = false := fun h => by
    cases hn : neg with
    | false => rfl
    | true => exact absurd (h48 h).1 (h0 hn)
  have key := numL_digit neg false false 0 c (t ++ 101 :: rest) (hD c (by simp)) (fun h => by cases h) (fun _ => hc48)
  rw [← hs] at key
  rw [List.cons_append, key, if_pos (fits_le hf (by rw [← hF]; exact foldN_ge t _)), if_neg (by decide)]
  by_cases hz : c.toNat = 48
  · obtain ⟨hm, ht⟩ := h48 hz
    subst ht
    rw [foldN_nil] at hF
    rw [hF, List.nil_append, numL, if_pos ⟨rfl, rfl⟩]
    rfl
  · have hzz : (c == 48) = false := beq_eq_false_iff_ne.2 (u8_ne (by show c.toNat ≠ 48; exact hz))
    rw [hzz, numL_run neg rest t (10 * 0 + dv c) (fun x hx => hD x (by simp [hx])) (by rw [hF]; exact hf), hF]
    simp
theorem numL_inv (neg : Bool) : ∀ (l : List UInt8) (z st : Bool) (m : Nat), (numL neg z st (sgn neg m) l).1 = 0 → fits neg m → ∃ ds rest, l = ds ++ 101 :: rest ∧ (∀ c ∈ ds, isD c) ∧ (numL neg z st (sgn neg m) l).2.1 = sgn neg (foldN m ds) ∧ fits neg (foldN m ds) ∧ (numL neg z st (sgn neg m) l).2.2 = ds.length + 1 ∧ (st = true → z = true → ds = []) ∧ (st = false → ds ≠ [] ∧ ∀ c t, ds = c :: t → c.toNat = 48 → t = [] ∧ neg = false)
  | [], z, st, m, h, _ => by rw [numL] at h; cases h
  | c :: t, z, st, m, h, hfm => by
    by_cases c1 : c = 101 ∧ st = true
    · obtain ⟨rfl, rfl⟩ := c1
      refine ⟨[], t, rfl, fun _ h => by simp at h, ?_, hfm, ?_, fun _ _ => rfl, fun h => by cases h⟩ <;> (rw [numL, if_pos ⟨rfl, rfl⟩]; rfl)
    · by_cases c2 : c < 48 ∨ 57 < c ∨ (st = true ∧ z = true) ∨ (st = false ∧ c = 48 ∧ neg = true)
      · rw [numL, if_neg c1, if_pos c2] at h
        cases h
      · have hc := isD_of (fun h => c2 (.inl h)) (fun h => c2 (.inr (.inl h)))
        have hz : st = true → z = false := fun e => by
          cases hz : z with
          | false => rfl
          | true => exact absurd (.inr (.inr (.inl ⟨e, hz⟩))) c2
        have h0 : st = false → c.toNat = 48 → neg = false := fun e e2 => by
          cases hn : neg with
          | false => rfl
          | true => exact absurd (.inr (.inr (.inr ⟨e, UInt8.toNat_inj.1 (by rw [e2]; rfl), hn⟩))) c2
        rw [numL_digit neg z st m c t hc hz h0] at h ⊢
        by_cases hf : fits neg (10 * m + dv c)
        · rw [if_pos hf] at h ⊢
          obtain ⟨ds, rest, e1, e2, e3, e4, e5, e6, e7⟩ := numL_inv neg t _ true _ h hf
          refine ⟨c :: ds, rest, by rw [e1]; rfl, fun x hx => ?_, by rw [foldN_cons]; exact e3, by rw [foldN_cons]; exact e4, by simp [e5], (fun e e' => by rw [hz e] at e'; cases e'), fun e => ⟨by simp, fun c' t' he he' => ?_⟩⟩
          · rcases List.mem_cons.1 hx with rfl | hx
            · exact hc
            · exact e2 x hx
          · injection he with he1 he2
            subst he1
            subst he2
            refine ⟨e6 rfl ?_, h0 e he'⟩
            rw [if_neg (by rw [e]; decide)]
            exact beq_iff_eq.2 (UInt8.toNat_inj.1 (by rw [he']; rfl))
        · rw [if_neg hf] at h
          cases h
theorem lenL_digit (z st : Bool) (m : Nat) (c : UInt8) (t : List UInt8) (hc : isD c) (hz : st = true → z = false) :
    lenL z st m (c :: t) = if 65536 < 10 * m + dv c then (23, 0, 0) else ((lenL (if st then z else c == 48) true (10 * m + dv c) t).1, (lenL (if st then z else c == 48) true (10 * m + dv c) t).2.1, (lenL (if st then z else c == 48) true (10 * m + dv c) t).2.2 + 1) := by
  obtain ⟨n1, n2, n3, n4⟩ := isD_not hc
  have hb : ¬(c < 48 ∨ 57 < c ∨ (st = true ∧ z = true)) := by
    rintro (h | h | ⟨h, h'⟩)
    · exact n3 h
    · exact n4 h
    · rw [hz h] at h'; cases h'
  rw [lenL, if_neg (by rintro ⟨e, _⟩; exact n2 e), if_neg hb]
  rfl
theorem lenL_run (rest : List UInt8) : ∀ (ds : List UInt8) (m : Nat), (∀ c ∈ ds, isD c) → foldN m ds ≤ 65536 → lenL false true m (ds ++ 58 :: rest) = (0, foldN m ds, ds.length + 1)
  | [], m, _, _ => by
    rw [List.nil_append, lenL, if_pos ⟨rfl, rfl⟩]
    rfl
  | c :: t, m, hD, hf => by
    rw [foldN_cons] at hf ⊢
    have := foldN_ge t (10 * m + dv c)
    rw [List.cons_append, lenL_digit false true m c (t ++ 58 :: rest) (hD c (by simp)) (fun _ => rfl), if_neg (by omega), if_pos rfl, lenL_run rest t (10 * m + dv c) (fun x hx => hD x (by simp [hx])) hf]
    simp
theorem lenL_dd (m : Nat) (rest : List UInt8) (hf : m ≤ 65536) : lenL false false 0 (decDigits m ++ 58 :: rest) = (0, m, (decDigits m).length + 1) := by
  obtain ⟨c, t, e, h48⟩ := dd_head m
  have hD := dd_isD m
  have hF := dd_fold m
  rw [e] at hD hF ⊢
  rw [foldN_cons] at hF
  have := foldN_ge t (10 * 0 + dv c)
  rw [List.cons_append, lenL_digit false false 0 c (t ++ 58 :: rest) (hD c (by simp)) (fun h => by cases h), if_neg (by omega), if_neg (by decide)]
  by_cases hz : c.toNat = 48
  · obtain ⟨hm, ht⟩ := h48 hz
    subst ht
    rw [foldN_nil] at hF
    rw [hF, List.nil_append, lenL, if_pos ⟨rfl, rfl⟩]
    rfl
  · have hzz : (c == 48) = false := beq_eq_false_iff_ne.2 (u8_ne (by show c.toNat ≠ 48; exact hz))
    rw [hzz, lenL_run rest t (10 * 0 + dv c) (fun x hx => hD x (by simp [hx])) (by omega), hF]
    simp
theorem lenL_inv : ∀ (l : List UInt8) (z st : Bool) (m : Nat), (lenL z st m l).1 = 0 → ∃ ds rest, l = ds ++ 58 :: rest ∧ (∀ c ∈ ds, isD c) ∧ (lenL z st m l).2.1 = foldN m ds ∧ (lenL z st m l).2.2 = ds.length + 1 ∧ (st = true → z = true → ds = []) ∧ (st = false → ds ≠ [] ∧ ∀ c t, ds = c :: t → c.toNat = 48 → t = [])
  | [], z, st, m, h => by rw [lenL] at h; cases h
  | c :: t, z, st, m, h => by
    by_cases c1 : c = 58 ∧ st = true
    · obtain ⟨rfl, rfl⟩ := c1
      refine ⟨[], t, rfl, fun _ h => by simp at h, ?_, ?_, fun _ _ => rfl, fun h => by cases h⟩ <;> (rw [lenL, if_pos ⟨rfl, rfl⟩]; rfl)
    · by_cases c2 : c < 48 ∨ 57 < c ∨ (st = true ∧ z = true)
      · rw [lenL, if_neg c1, if_pos c2] at h
        cases h
      · have hc := isD_of (fun h => c2 (.inl h)) (fun h => c2 (.inr (.inl h)))
        have hz : st = true → z = false := fun e => by
          cases hz : z with
          | false => rfl
          | true => exact absurd (.inr (.inr ⟨e, hz⟩)) c2
        rw [lenL_digit z st m c t hc hz] at h ⊢
        by_cases hf : 65536 < 10 * m + dv c
        · rw [if_pos hf] at h
          cases h
        · rw [if_neg hf] at h ⊢
          obtain ⟨ds, rest, e1, e2, e3, e5, e6, e7⟩ := lenL_inv t _ true _ h
          refine ⟨c :: ds, rest, by rw [e1]; rfl, fun x hx => ?_, by rw [foldN_cons]; exact e3, by simp [e5], (fun e e' => by rw [hz e] at e'; cases e'), fun e => ⟨by simp, fun c' t' he he' => ?_⟩⟩
          · rcases List.mem_cons.1 hx with rfl | hx
            · exact hc
            · exact e2 x hx
          · injection he with he1 he2
            subst he1
            subst he2
            refine e6 rfl ?_
            rw [if_neg (by rw [e]; decide)]
            exact beq_iff_eq.2 (UInt8.toNat_inj.1 (by rw [he']; rfl))
end Go.Proofs.YtcdfedbecgfanaaDoor.Giv
namespace Go.Proofs.YtcdfedbecgfanaaDoor.Giv
open Go.RowKit Go.Lib
set_option linter.unusedVariables false
set_option linter.unusedSimpArgs false
mutual
def nrm : V → V
  | ⟨k, n, s, L⟩ => if k = 1 then intV n else if k = 2 then strV s else lisV (nrms L)
def nrms : List V → List V
  | [] => []
  | x :: xs => nrm x :: nrms xs
end
theorem nrm_eq (v : V) : nrm v = if v.f0 = 1 then intV v.f1 else if v.f0 = 2 then strV v.f2 else lisV (nrms v.f3) := by obtain ⟨k, n, s, L⟩ := v; rw [nrm]
theorem nrms_nil : nrms [] = [] := by rw [nrms]
theorem nrms_cons (x : V) (xs : List V) : nrms (x :: xs) = nrm x :: nrms xs := by rw [nrms]
mutual
def tok : V → Bool
  | ⟨k, n, s, L⟩ => if k = 1 then true else if k = 2 then decide (s.size ≤ 65536) else toks L
def toks : List V → Bool
  | [] => true
  | x :: xs => tok x && toks xs
end
theorem tok_eq (v : V) : tok v = if v.f0 = 1 then true else if v.f0 = 2 then decide (v.f2.size ≤ 65536) else toks v.f3 := by obtain ⟨k, n, s, L⟩ := v; rw [tok]
theorem toks_nil : toks [] = true := by rw [toks]
theorem toks_cons (x : V) (xs : List V) : toks (x :: xs) = (tok x && toks xs) := by rw [toks]
mutual
theorem tok_of_len : ∀ v : V, (enc v).length ≤ 65537 → tok v = true
  | ⟨k, n, s, L⟩, h => by
    rw [enc] at h
    rw [tok]
    by_cases c1 : k = 1
    · rw [if_pos c1]
    · rw [if_neg c1] at h ⊢
      by_cases c2 : k = 2
      · rw [if_pos c2] at h ⊢
        rw [List.length_append, List.length_cons, data_size] at h
        exact decide_eq_true (by omega)
      · rw [if_neg c2] at h ⊢
        rw [List.length_cons, List.length_append] at h
        exact toks_of_len L (by omega)
theorem toks_of_len : ∀ L : List V, (encs L).length ≤ 65537 → toks L = true
  | [], _ => toks_nil
  | x :: xs, h => by
    rw [encs_cons, List.length_append] at h
    rw [toks_cons, tok_of_len x (by omega), toks_of_len xs (by omega)]
    rfl
end
theorem itoa_neg {n : Int} (h : n < 0) : itoa n = 45 :: decDigits n.natAbs := by unfold itoa; rw [if_pos h]
theorem itoa_pos {n : Int} (h : ¬ n < 0) : itoa n = decDigits n.toNat := by unfold itoa; rw [if_neg h]
theorem dd_head45 (u : Nat) (r : List UInt8) : (decDigits u ++ r).head? ≠ some 45 := by
  obtain ⟨c, t, e, _⟩ := dd_head u
  have := dd_isD u c (by rw [e]; simp)
  rw [e, List.cons_append, List.head?_cons]
  intro h
  have h := Option.some.inj h
  rw [h] at this
  exact absurd this.1 (by decide)
theorem intL_itoa (n : Int) (h0 : -9223372036854775808 ≤ n) (h1 : n ≤ 9223372036854775807) (rest : List UInt8) : intL (itoa n ++ 101 :: rest) = (0, n, (itoa n).length + 1) := by
  unfold intL
  by_cases c : n < 0
  · rw [itoa_neg c, List.cons_append, if_pos (show (45 :: (decDigits n.natAbs ++ 101 :: rest)).head? = some 45 from rfl), List.tail_cons, numL_dd true n.natAbs rest (by unfold fits; rw [if_pos rfl]; omega) (fun _ => by omega)]
    have e : sgn true n.natAbs = n := by unfold sgn; rw [if_pos rfl]; omega
    rw [e]
    simp
  · rw [itoa_pos c, if_neg (dd_head45 _ _), numL_dd false n.toNat rest (by unfold fits; omega) (fun h => by cases h)]
    have e : sgn false n.toNat = n := by unfold sgn; rw [if_neg (by decide)]; omega
    rw [e]
theorem enc_head (v : V) (hk : kin v = true) : ∃ c t, enc v = c :: t ∧ c ≠ 101 := by
  rw [enc_eq]
  by_cases c1 : v.f0 = 1
  · rw [if_pos c1]; exact ⟨_, _, rfl, by decide⟩
  · rw [if_neg c1]
    by_cases c2 : v.f0 = 2
    · rw [if_pos c2, itoa_pos (by omega)]
      obtain ⟨c, t, e, _⟩ := dd_head ((v.f2.size : Int)).toNat
      have := dd_isD _ c (by rw [e]; simp)
      rw [e]
      exact ⟨c, _, rfl, (isD_not this).1⟩
    · rw [if_neg c2]; exact ⟨_, _, rfl, by decide⟩
theorem kins_mem {x : V} : ∀ {L : List V}, x ∈ L → kins L = true → kin x = true
  | y :: ys, h, ho => by
    rw [kins_cons, Bool.and_eq_true] at ho
    rcases List.mem_cons.1 h with rfl | h
    · exact ho.1
    · exact kins_mem h ho.2
theorem toks_mem {x : V} : ∀ {L : List V}, x ∈ L → toks L = true → tok x = true
  | y :: ys, h, ho => by
    rw [toks_cons, Bool.and_eq_true] at ho
    rcases List.mem_cons.1 h with rfl | h
    · exact ho.1
    · exact toks_mem h ho.2
theorem deps_mem {x : V} : ∀ {L : List V}, x ∈ L → dep x ≤ deps L
  | y :: ys, h => by
    rw [deps_cons]
    rcases List.mem_cons.1 h with rfl | h
    · omega
    · have := deps_mem h; omega
def Back (v : V) (d : Nat) : Prop := ∀ rest, valL d (enc v ++ rest) = (0, nrm v, (enc v).length)
theorem listL_back (d : Nat) (rest : List UInt8) : ∀ (L : List V), (∀ x ∈ L, kin x = true ∧ Back x d) → ∀ k, (encs L).length < k → listL (valL d) k (encs L ++ 101 :: rest) = (0, nrms L, (encs L).length + 1)
  | [], _, k, hk => by
    obtain ⟨k, rfl⟩ : ∃ j, k = j + 1 := ⟨k - 1, by omega⟩
    rw [encs_nil, List.nil_append, listL, if_pos rfl, nrms_nil]
    rfl
  | x :: xs, h, k, hk => by
    obtain ⟨k, rfl⟩ : ∃ j, k = j + 1 := ⟨k - 1, by omega⟩
    obtain ⟨c, t, e, hc⟩ := enc_head x (h x (by simp)).1
    have hb := (h x (by simp)).2 (encs xs ++ 101 :: rest)
    rw [encs_cons, List.append_assoc]
    have hlen : (enc x).length = t.length + 1 := by rw [e]; simp
    rw [encs_cons, List.length_append] at hk
    have ih := listL_back d rest xs (fun y hy => h y (by simp [hy])) k (by omega)
    have hd : (enc x ++ (encs xs ++ 101 :: rest)).drop (enc x).length = encs xs ++ 101 :: rest := List.drop_left
    have e1 : enc x ++ (encs xs ++ 101 :: rest) = c :: (t ++ (encs xs ++ 101 :: rest)) := by rw [e]; rfl
    rw [e1] at hb hd ⊢
    rw [listL, if_neg hc, hb]
    simp only
    rw [hd, ih]
    simp only [if_true]
    rw [nrms_cons, List.length_append]
    simp
    omega
theorem back : ∀ (n : Nat) (v : V), wt v ≤ n → kin v = true → okV v = true → tok v = true → ∀ d, dep v ≤ d → Back v d := by
  intro n
  induction n with
  | zero => intro v h; have := wt_eq v; omega
  | succ n ih =>
    intro v hw hk ho ht d hd rest
    rw [enc_eq, nrm_eq]
    rw [kin_eq] at hk
    rw [tok_eq] at ht
    obtain ⟨o1, o2, o3⟩ := (okV_iff v).1 ho
    by_cases c1 : v.f0 = 1
    · rw [if_pos c1, if_pos c1, List.cons_append, valL_cons, if_pos rfl, List.append_assoc]
      show (if (intL (itoa v.f1 ++ 101 :: rest)).1 = 0 then _ else _) = _
      rw [show [101] ++ rest = 101 :: rest from rfl, intL_itoa v.f1 o1 o2 rest]
      simp
    · rw [if_neg c1] at hk ht ⊢
      rw [if_neg c1]
      by_cases c2 : v.f0 = 2
      · rw [if_pos c2] at hk ht ⊢
        rw [if_pos c2, itoa_pos (by omega), Int.toNat_natCast]
        have hs := of_decide_eq_true ht
        obtain ⟨c, t, e, _⟩ := dd_head v.f2.size
        have hc := dd_isD _ c (by rw [e]; simp)
        have hl := lenL_dd v.f2.size (v.f2.data.toList ++ rest) hs
        have e1 : decDigits v.f2.size ++ 58 :: v.f2.data.toList ++ rest = c :: (t ++ (58 :: (v.f2.data.toList ++ rest))) := by rw [e]; simp
        have e2 : decDigits v.f2.size ++ 58 :: (v.f2.data.toList ++ rest) = c :: (t ++ (58 :: (v.f2.data.toList ++ rest))) := by rw [e]; simp
        rw [e1, valL_cons, ← e2, hl]
        have hz := data_size v.f2
        obtain ⟨k1, k2, k3, k4⟩ := isD_not hc
        have h105 : ¬ c = 105 := u8_ne (by unfold isD at hc; show c.toNat ≠ 105; omega)
        have hdig : 48 ≤ c ∧ c ≤ 57 := ⟨UInt8.not_lt.1 k3, UInt8.not_lt.1 k4⟩
        rw [if_neg h105, if_pos hdig, if_pos rfl]
        simp only
        rw [if_neg (by simp only [List.length_append, List.length_cons, hz]; omega)]
        have hdrop : (decDigits v.f2.size ++ 58 :: (v.f2.data.toList ++ rest)).drop ((decDigits v.f2.size).length + 1) = v.f2.data.toList ++ rest := by
          rw [List.drop_append, List.drop_of_length_le (by omega), show (decDigits v.f2.size).length + 1 - (decDigits v.f2.size).length = 1 by omega]
          rfl
        rw [hdrop, ← hz, List.take_left]
        simp only [List.length_append, List.length_cons]
        refine congrArg (fun q => (0, q)) ?_
        refine congr (congrArg Prod.mk ?_) (by first | rfl | omega)
        unfold strV
        simp
      · rw [if_neg c2] at hk ht ⊢
        rw [if_neg c2]
        by_cases c3 : v.f0 = 3
        · rw [if_pos c3] at hk
          rw [dep_eq, if_pos c3] at hd
          obtain ⟨d, rfl⟩ : ∃ j, d = j + 1 := ⟨d - 1, by omega⟩
          rw [wt_eq] at hw
          have hall : ∀ x ∈ v.f3, kin x = true ∧ Back x d := fun x hx => by
            have h1 := kins_mem hx hk
            exact ⟨h1, ih x (by have := wt_mem hx; omega) h1 (okV_mem hx o3) (toks_mem hx ht) d (by have := deps_mem hx; omega)⟩
          rw [List.cons_append, List.append_assoc, show [101] ++ rest = 101 :: rest from rfl, valL_cons, if_neg (by decide), if_neg (by decide), if_neg (by decide)]
          have hb := listL_back d rest v.f3 hall (encs v.f3 ++ 101 :: rest).length (by simp)
          dsimp only
          rw [hb]
          simp
        · rw [if_neg c3] at hk
          cases hk
def Fore (v : V) (d : Nat) (b : List UInt8) : Prop := enc v = b ∧ kin v = true ∧ dep v ≤ d ∧ okV v = true
theorem fits_ok {neg : Bool} {m : Nat} (h : fits neg m) : -9223372036854775808 ≤ sgn neg m ∧ sgn neg m ≤ 9223372036854775807 := by
  unfold fits at h
  unfold sgn
  cases neg <;> simp at h ⊢ <;> omega
theorem enc_int (n : Int) : enc (intV n) = 105 :: (itoa n ++ [101]) := by unfold intV; rw [enc]; rfl
theorem enc_str (s : ByteArray) : enc (strV s) = itoa (s.size : Int) ++ (58 :: s.data.toList) := by unfold strV; rw [enc]; rfl
theorem enc_lis (L : List V) : enc (lisV L) = 108 :: (encs L ++ [101]) := by unfold lisV; rw [enc]; rfl
theorem kin_int (n : Int) : kin (intV n) = true := by unfold intV; rw [kin]; rfl
theorem kin_str (s : ByteArray) : kin (strV s) = true := by unfold strV; rw [kin]; rfl
theorem kin_lis (L : List V) : kin (lisV L) = kins L := by unfold lisV; rw [kin]; rfl
theorem dep_int (n : Int) : dep (intV n) = 0 := by unfold intV; rw [dep]; rfl
theorem dep_str (s : ByteArray) : dep (strV s) = 0 := by unfold strV; rw [dep]; rfl
theorem dep_lis (L : List V) : dep (lisV L) = deps L + 1 := by unfold lisV; rw [dep]; rfl
theorem ok_int {n : Int} (h0 : -9223372036854775808 ≤ n) (h1 : n ≤ 9223372036854775807) : okV (intV n) = true := (okV_iff _).2 ⟨h0, h1, okVs_nil⟩
theorem ok_str (s : ByteArray) : okV (strV s) = true := (okV_iff _).2 ⟨show (-9223372036854775808 : Int) ≤ 0 by decide, show (0 : Int) ≤ 9223372036854775807 by decide, okVs_nil⟩
theorem ok_lis {L : List V} (h : okVs L = true) : okV (lisV L) = true := (okV_iff _).2 ⟨show (-9223372036854775808 : Int) ≤ 0 by decide, show (0 : Int) ≤ 9223372036854775807 by decide, h⟩
theorem intL_fore (t : List UInt8) (d : Nat) (h : (intL t).1 = 0) : Fore (intV (intL t).2.1) d ((105 :: t).take ((intL t).2.2 + 1)) := by
  unfold intL at h ⊢
  split at h
  · rename_i h45
    rw [if_pos h45]
    obtain ⟨t', rfl⟩ : ∃ t', t = 45 :: t' := by
      cases t with
      | nil => cases h45
      | cons c t' => exact ⟨t', by rw [List.head?_cons] at h45; rw [Option.some.inj h45]⟩
    rw [List.tail_cons] at h ⊢
    obtain ⟨ds, rest, e1, e2, e3, e4, e5, _, e7⟩ := numL_inv true t' false false 0 h (by unfold fits; simp)
    rw [show (0 : Int) = sgn true 0 from rfl] at h ⊢
    obtain ⟨hne, hh⟩ := e7 rfl
    have hu := dd_unique ds.length ds rfl hne e2 (fun c t e e' => (hh c t e e').1)
    have hf0 : foldN 0 ds ≠ 0 := by
      intro e0
      rw [e0, dd_small (by decide)] at hu
      have := hh (UInt8.ofNat (48 + 0)) [] hu.symm rfl
      cases this.2
    simp only
    rw [e3, e5]
    have hr := fits_ok e4
    refine ⟨?_, kin_int _, by rw [dep_int]; omega, ok_int hr.1 hr.2⟩
    have hneg : sgn true (foldN 0 ds) < 0 := by unfold sgn; rw [if_pos rfl]; omega
    have habs : (sgn true (foldN 0 ds)).natAbs = foldN 0 ds := by unfold sgn; rw [if_pos rfl]; omega
    rw [enc_int, itoa_neg hneg, habs, hu, e1]
    rw [show ds.length + 1 + 1 + 1 = (ds.length + 1) + 2 by omega]
    simp only [List.take_succ_cons]
    rw [show ds ++ 101 :: rest = (ds ++ [101]) ++ rest by simp, show ds.length + 1 = (ds ++ [101]).length by simp, List.take_left]
    simp
  · rename_i h45
    rw [if_neg h45]
    obtain ⟨ds, rest, e1, e2, e3, e4, e5, _, e7⟩ := numL_inv false t false false 0 h (by unfold fits; simp)
    rw [show (0 : Int) = sgn false 0 from rfl] at h ⊢
    obtain ⟨hne, hh⟩ := e7 rfl
    have hu := dd_unique ds.length ds rfl hne e2 (fun c t e e' => (hh c t e e').1)
    rw [e3, e5]
    have hr := fits_ok e4
    refine ⟨?_, kin_int _, by rw [dep_int]; omega, ok_int hr.1 hr.2⟩
    have hpos : ¬ sgn false (foldN 0 ds) < 0 := by unfold sgn; rw [if_neg (by decide)]; omega
    have habs : (sgn false (foldN 0 ds)).toNat = foldN 0 ds := by unfold sgn; rw [if_neg (by decide)]; omega
    rw [enc_int, itoa_pos hpos, habs, hu, e1]
    simp only [List.take_succ_cons]
    rw [show ds ++ 101 :: rest = (ds ++ [101]) ++ rest by simp, show ds.length + 1 = (ds ++ [101]).length by simp, List.take_left]
theorem text_fore (l : List UInt8) (d : Nat) (h : (lenL false false 0 l).1 = 0) (h2 : ¬ l.length < (lenL false false 0 l).2.2 + (lenL false false 0 l).2.1) :
    Fore (strV ⟨((l.drop (lenL false false 0 l).2.2).take (lenL false false 0 l).2.1).toArray⟩) d (l.take ((lenL false false 0 l).2.2 + (lenL false false 0 l).2.1)) := by
  obtain ⟨ds, rest, e1, e2, e3, e5, _, e7⟩ := lenL_inv l false false 0 h
  obtain ⟨hne, hh⟩ := e7 rfl
  have hu := dd_unique ds.length ds rfl hne e2 (fun c t e e' => hh c t e e')
  rw [e3, e5] at h2 ⊢
  refine ⟨?_, kin_str _, by rw [dep_str]; omega, ok_str _⟩
  have hl : l.length = ds.length + (rest.length + 1) := by rw [e1]; simp
  have hdrop : l.drop (ds.length + 1) = rest := by
    rw [e1, show ds ++ 58 :: rest = (ds ++ [58]) ++ rest by simp, show ds.length + 1 = (ds ++ [58]).length by simp, List.drop_left]
  rw [hdrop, enc_str, itoa_pos (by omega), Int.toNat_natCast]
  have hsz : (⟨(rest.take (foldN 0 ds)).toArray⟩ : ByteArray).size = foldN 0 ds := by
    show ((rest.take (foldN 0 ds)).toArray).size = _
    rw [List.size_toArray, List.length_take]
    omega
  rw [hsz, hu, e1, show ds ++ 58 :: rest = (ds ++ [58]) ++ rest by simp, show ds.length + 1 + foldN 0 ds = (ds ++ [58]).length + foldN 0 ds by simp, List.take_length_add_append]
  simp
theorem listL_fore (d : Nat) (hf : ∀ l, (valL d l).1 = 0 → Fore (valL d l).2.1 d (l.take (valL d l).2.2)) : ∀ (k : Nat) (l : List UInt8), (listL (valL d) k l).1 = 0 → encs (listL (valL d) k l).2.1 ++ [101] = l.take (listL (valL d) k l).2.2 ∧ kins (listL (valL d) k l).2.1 = true ∧ deps (listL (valL d) k l).2.1 ≤ d ∧ okVs (listL (valL d) k l).2.1 = true
  | _, [], h => by rw [listL] at h; cases h
  | 0, c :: t, h => by rw [listL] at h; cases h; simp
  | k + 1, c :: t, h => by
    rw [listL] at h ⊢
    split at h
    · rename_i h1
      rw [if_pos h1]
      simp [encs_nil, kins_nil, deps_nil, okVs_nil, h1]
    · rename_i h1
      rw [if_neg h1]
      split at h
      · rename_i h2
        rw [if_pos h2]
        split at h
        · rename_i h3
          rw [if_pos h3]
          obtain ⟨a1, a2, a3, a4⟩ := hf _ h2
          obtain ⟨b1, b2, b3, b4⟩ := listL_fore d hf k _ h3
          simp only
          rw [encs_cons, kins_cons, deps_cons, okVs_cons, List.append_assoc, b1, a1, a2, b2]
          refine ⟨?_, rfl, by omega, a4, b4⟩
          rw [List.take_add]
        · rename_i h3; exact absurd h h3
      · rename_i h2; exact absurd h h2
theorem fore : ∀ (d : Nat) (l : List UInt8), (valL d l).1 = 0 → Fore (valL d l).2.1 d (l.take (valL d l).2.2) := by
  intro d
  induction d with
  | zero =>
    intro l h
    cases l with
    | nil => rw [valL_nil] at h; cases h
    | cons c t =>
      rw [valL_cons] at h ⊢
      split at h
      · rename_i h1
        rw [if_pos h1]
        split at h
        · rename_i h2; rw [if_pos h2, h1]; exact intL_fore t 0 h2
        · rename_i h2; exact absurd h h2
      · rename_i h1
        rw [if_neg h1]
        split at h
        · rename_i h2
          rw [if_pos h2]
          split at h
          · rename_i h3
            rw [if_pos h3]
            split at h
            · cases h
            · rename_i h4; rw [if_neg h4]; exact text_fore _ 0 h3 h4
          · rename_i h3; exact absurd h h3
        · split at h
          · cases h
          · cases h
  | succ d ih =>
    intro l h
    cases l with
    | nil => rw [valL_nil] at h; cases h
    | cons c t =>
      rw [valL_cons] at h ⊢
      split at h
      · rename_i h1
        rw [if_pos h1]
        split at h
        · rename_i h2; rw [if_pos h2, h1]; exact intL_fore t _ h2
        · rename_i h2; exact absurd h h2
      · rename_i h1
        rw [if_neg h1]
        split at h
        · rename_i h2
          rw [if_pos h2]
          split at h
          · rename_i h3
            rw [if_pos h3]
            split at h
            · cases h
            · rename_i h4; rw [if_neg h4]; exact text_fore _ _ h3 h4
          · rename_i h3; exact absurd h h3
        · rename_i h2
          rw [if_neg h2]
          split at h
          · cases h
          · rename_i h3
            rw [if_neg h3]
            dsimp only at h ⊢
            split at h
            · rename_i h4
              simp only [h4, if_true]
              obtain ⟨b1, b2, b3, b4⟩ := listL_fore d ih _ _ h4
              refine ⟨?_, by rw [kin_lis]; exact b2, by rw [dep_lis]; omega, ok_lis b4⟩
              rw [enc_lis, b1, List.take_succ_cons, Decidable.not_not.1 h3]
            · rename_i h4; exact absurd h h4
end Go.Proofs.YtcdfedbecgfanaaDoor.Giv
