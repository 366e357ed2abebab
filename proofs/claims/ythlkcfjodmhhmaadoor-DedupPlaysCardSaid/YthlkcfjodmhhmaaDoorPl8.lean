/- Texts put together by prune.py: Px8, BncFr, BncHr, BncJr, Aid, BncXr, DdE, DdC, DdD, DdF, DdN, Cut. -/
import Derived.WalkKit
import Derived.Deep.Quiet
import Derived.BigQuiet
import Derived.Lib.ReflectliteSwap
import Derived.OrdersHeld
import Derived.Handy
import Derived.Test.YthlkcfjodmhhmaaDoorPl7
namespace Go.Proofs.YthlkcfjodmhhmaaDoor.P
open Go.RowKit Go.Proofs.YthlkcfjodmhhmaaDoorW.PrintWords Go.Proofs.YthlkcfjodmhhmaaDoorW.PrintLast Go.Proofs.YthlkcfjodmhhmaaDoorW.PrintMore
attribute [local go_sem] max2_int min2_int max_two min_two max_three min_three max_four min_four   -- for this text's walks alone
set_option linter.unusedVariables false
set_option linter.unusedSimpArgs false
open Go.Proofs.YthlkcfjodmhhmaaDoor.Giv
def benc_Only.f (a0 : ByteArray) : Option (Int × Int × ByteArray × (List (S66)) × Int) := (benc_Take.f a0).bind fun bt208 => (if bt208.2.2.2.2.2 = 0 then (if bt208.2.2.2.2.1 < (a0.size : Int) then (some (0, 0, (⟨#[]⟩ : ByteArray), ([] : List (S66)), 20)) else (some (bt208.1, bt208.2.1, bt208.2.2.1, bt208.2.2.2.1, 0))) else (some (0, 0, (⟨#[]⟩ : ByteArray), ([] : List (S66)), bt208.2.2.2.2.2)))
set_option maxHeartbeats 8000000 in
set_option maxRecDepth 100000 in
theorem benc_Only.calls (a0 : ByteArray) (r1 : Int) (r2 : Int) (r3 : ByteArray) (r4 : List (S66)) (r5 : Int) (w : World) (hL : LaidW w) (h : benc_Only.f a0 = some (r1, r2, r3, r4, r5)) :
    Calls Tryd.prog 27 #[.string a0] w fun e w' => ∃ v3_ : Value, e = .returned (.tuple #[.agg #[.int .i64 r1, .int .i64 r2, .string r3, v3_], .int .i64 r5]) ∧ Kd.R k66 66 w' w.heap.size (fun _ => True) v3_ r4 ∧ Below w.heap.size w w' := by
  have hu66 := Tryd.underlying66
  have HB := Aside0.mk (Below.refl w.heap.size w)
  have H : ((benc_Take.f a0).bind fun bt208 => (if bt208.2.2.2.2.2 = 0 then (if bt208.2.2.2.2.1 < (a0.size : Int) then (some (0, 0, (⟨#[]⟩ : ByteArray), ([] : List (S66)), 20)) else (some (bt208.1, bt208.2.1, bt208.2.2.1, bt208.2.2.2.1, 0))) else (some (0, 0, (⟨#[]⟩ : ByteArray), ([] : List (S66)), bt208.2.2.2.2.2)))) = some (r1, r2, r3, r4, r5) := h
  clear h
  replace H := Option.bind_eq_some_iff.mp H
  obtain ⟨⟨t208, t209, t210, t211, t214, t215⟩, A20, H⟩ := H
  replace H : (if t215 = 0 then (if t214 < (a0.size : Int) then (some (0, 0, (⟨#[]⟩ : ByteArray), ([] : List (S66)), 20)) else (some (t208, t209, t210, t211, 0))) else (some (0, 0, (⟨#[]⟩ : ByteArray), ([] : List (S66)), t215))) = some (r1, r2, r3, r4, r5) := H
  have A2 := Aside0.mk A20
  clear A20
  by_cases c3 : t215 = 0
  · rw [if_pos c3] at H
    have c3b0 : (t215 == 0) = true := beq_iff_eq.mpr c3
    have c3b1 : (t215 != 0) = false := bne_eq_false_iff_eq.mpr c3
    clear c3
    by_cases c4 : t214 < (a0.size : Int)
    · rw [if_pos c4] at H
      have c4b0 : decide (t214 < (a0.size : Int)) = true := decide_eq_true c4
      clear c4
      simp only [Option.some.injEq, Prod.mk.injEq] at H
      obtain ⟨rfl, rfl, rfl, rfl, rfl⟩ := H
      go_enter Tryd.func27, Tryd.ntmps27
      go_wp2_with (first | ((with_reducible refine gate_dst (N := 2) rfl ?_); refine box_event ?hg (N := 2) ?hd (cs := #[.int .i64 0, .int .i64 0, .string (⟨#[]⟩ : ByteArray), .slice none 0 0]) (t := 66) ?hr ?_; (case hd => rfl); (case hg => rfl); (case hr => first | (go_simp; done) | (go_simp; rfl)); intro gb207 hg w5 hbox hb; have n0_ := Aside0.mk (below_step (by repeat (first | (with_reducible first | exact HB.out | apply below_alloc | apply pw_below_drewN | apply below_drew1) | exact HB.out)) hb); have n1_ := Aside0.mk (hbox); have n2_ := Aside0.mk ((by rw [hg]; exact (below_size (by repeat (first | (with_reducible first | exact HB.out | apply below_alloc | apply pw_below_drewN | apply below_drew1) | exact HB.out))) : w.heap.size ≤ gb207)); have n3_ := Aside0.mk ((by rw [hg]; exact (below_size (by repeat (first | (with_reducible first | exact HB.out | apply below_alloc | apply pw_below_drewN | apply below_drew1) | exact HB.out))) : w.heap.size ≤ gb207)); clear HB; have HB := n0_; have BK207 := n1_; have GW207 := n2_; have GE207 := n3_; clear n0_ n1_ n2_ n3_; clear hb hbox hg) | ((with_reducible refine gate_callee (f := 36) rfl ?_); refine goesL_ (some 9) rfl rfl Tryd.func36 (by kernel_rfl) rfl #[.string a0] rfl (by (try simp only [List.map_toArray, List.map_cons, List.map_nil]); first | done | rfl | (simp only [List.length_drop, List.length_take]; rfl)) ?_; (with_reducible refine (benc_Take.calls a0 t208 t209 t210 t211 t214 t215 _ (LaidW.below hL (by repeat (first | (with_reducible first | exact HB.out | apply below_alloc | apply pw_below_drewN | apply below_drew1 | refine below_set ?_ GE207.out) | exact HB.out))) A2.out).mono ?_); rintro e w6 ⟨v212, rfl, ho0, hb⟩; refine ⟨_, rfl, ?_⟩; have n0_ := Aside0.mk (Kd.R_lower (Kd.R_newB ho0 (g := gb207) (o := .cells #[.int .i64 0, .int .i64 0, .string (⟨#[]⟩ : ByteArray), .slice none 0 0] 66 (0, 0)) (by (with_reducible repeat (first | refine blk_drewN ?_ _ | refine blk_drew ?_ | refine blk_alloc ?_ _)); exact BK207.out)) (below_size (by repeat (first | (with_reducible first | exact HB.out | apply below_alloc | apply pw_below_drewN | apply below_drew1 | refine below_set ?_ GE207.out) | exact HB.out)))); have n1_ := Aside0.mk (blk_below (g := gb207) (o := .cells #[.int .i64 0, .int .i64 0, .string (⟨#[]⟩ : ByteArray), .slice none 0 0] 66 (0, 0)) (by (with_reducible repeat (first | refine blk_drewN ?_ _ | refine blk_drew ?_ | refine blk_alloc ?_ _)); exact BK207.out) hb); have n2_ := Aside0.mk (below_step (by repeat (first | (with_reducible first | exact HB.out | apply below_alloc | apply pw_below_drewN | apply below_drew1 | refine below_set ?_ GE207.out) | exact HB.out)) hb); clear BK207; clear HB; have HO213 := n0_; have BK207 := n1_; have HB := n2_; clear n0_ n1_ n2_; (try clear hb); (try clear hb2); (try clear hk); (try clear hi); (try clear ho0)) | ((with_reducible refine gate_dst (N := 4) rfl ?_); refine box_event ?hg (N := 4) ?hd (cs := #[.int .i64 0, .int .i64 0, .string (⟨#[]⟩ : ByteArray), .slice none 0 0]) (t := 66) ?hr ?_; (case hd => rfl); (case hg => rfl); (case hr => first | (go_simp; done) | (go_simp; rfl)); intro gb216 hg w7 hbox hb; have n0_ := Aside0.mk (Kd.R_below (Kd.R_elderB (by (with_reducible repeat (first | apply Kd.R_alloc | apply Kd.R_drewN | apply Kd.R_drew)); exact HO213.out) gb216 (Nat.le_of_eq hg.symm)) hb); have n1_ := Aside0.mk (blk_below (g := gb207) (o := .cells #[.int .i64 0, .int .i64 0, .string (⟨#[]⟩ : ByteArray), .slice none 0 0] 66 (0, 0)) (by (with_reducible repeat (first | refine blk_drewN ?_ _ | refine blk_drew ?_ | refine blk_alloc ?_ _)); exact BK207.out) hb); have n2_ := Aside0.mk (below_step (by repeat (first | (with_reducible first | exact HB.out | apply below_alloc | apply pw_below_drewN | apply below_drew1 | refine below_set ?_ GE207.out) | exact HB.out)) hb); have n3_ := Aside0.mk (hbox); have n4_ := Aside0.mk ((by rw [hg]; exact (below_size (by repeat (first | (with_reducible first | exact HB.out | apply below_alloc | apply pw_below_drewN | apply below_drew1 | refine below_set ?_ GE207.out) | exact HB.out))) : w.heap.size ≤ gb216)); have n5_ := Aside0.mk ((by rw [hg]; exact (below_size (by repeat (first | (with_reducible first | exact HB.out | apply below_alloc | apply pw_below_drewN | apply below_drew1 | refine below_set ?_ GE207.out) | exact HB.out))) : w.heap.size ≤ gb216)); have n6_ := Aside0.mk ((by rw [hg]; exact Nat.ne_of_lt (blk_lt (g := gb207) (o := .cells #[.int .i64 0, .int .i64 0, .string (⟨#[]⟩ : ByteArray), .slice none 0 0] 66 (0, 0)) (by (with_reducible repeat (first | refine blk_drewN ?_ _ | refine blk_drew ?_ | refine blk_alloc ?_ _)); exact BK207.out)) : gb207 ≠ gb216)); have n7_ := Aside0.mk ((by rw [hg]; exact Nat.ne_of_gt (blk_lt (g := gb207) (o := .cells #[.int .i64 0, .int .i64 0, .string (⟨#[]⟩ : ByteArray), .slice none 0 0] 66 (0, 0)) (by (with_reducible repeat (first | refine blk_drewN ?_ _ | refine blk_drew ?_ | refine blk_alloc ?_ _)); exact BK207.out)) : gb216 ≠ gb207)); clear HO213; clear BK207; clear HB; have HO213 := n0_; have BK207 := n1_; have HB := n2_; have BK216 := n3_; have GW216 := n4_; have GE216 := n5_; have NB207_216 := n6_; have NB216_207 := n7_; clear n0_ n1_ n2_ n3_ n4_ n5_ n6_ n7_; clear hb hbox hg; have hnb8 := NB216_207.out; have hnc8 := NB207_216.out; have hcz9_0 : w7.cell? ⟨gb216, 0, none⟩ = some (.int .i64 0) := (blk_cell BK216.out 0).trans rfl; have hcz9_1 : w7.cell? ⟨gb216, 1, none⟩ = some (.int .i64 0) := (blk_cell BK216.out 1).trans rfl; have hcz9_2 : w7.cell? ⟨gb216, 2, none⟩ = some (.string (⟨#[]⟩ : ByteArray)) := (blk_cell BK216.out 2).trans rfl; have hcz9_3 : w7.cell? ⟨gb216, 3, none⟩ = some (.slice none 0 0) := (blk_cell BK216.out 3).trans rfl; have hfz9_0 := blk_frozen BK216.out 0; have hfz9_1 := blk_frozen BK216.out 1; have hfz9_2 := blk_frozen BK216.out 2; have hfz9_3 := blk_frozen BK216.out 3; obtain ⟨Ao10, co10, eo10⟩ := Kd.R_slice HO213.out; subst eo10; have hcz11_0 : w7.cell? ⟨gb207, 0, none⟩ = some (.int .i64 0) := (blk_cell BK207.out 0).trans rfl; have hcz11_1 : w7.cell? ⟨gb207, 1, none⟩ = some (.int .i64 0) := (blk_cell BK207.out 1).trans rfl; have hcz11_2 : w7.cell? ⟨gb207, 2, none⟩ = some (.string (⟨#[]⟩ : ByteArray)) := (blk_cell BK207.out 2).trans rfl; have hcz11_3 : w7.cell? ⟨gb207, 3, none⟩ = some (.slice none 0 0) := (blk_cell BK207.out 3).trans rfl; have hfz11_0 := blk_frozen BK207.out 0; have hfz11_1 := blk_frozen BK207.out 1; have hfz11_2 := blk_frozen BK207.out 2; have hfz11_3 := blk_frozen BK207.out 3))
      refine bodyPost_ret (results_ct rfl _ _ gb207 66 #[.int .i64 0, .int .i64 0, .string (⟨#[]⟩ : ByteArray), .slice none 0 0] (0, 0) _ rfl (by (with_reducible repeat (first | refine blk_drewN ?_ _ | refine blk_drew ?_ | refine blk_alloc ?_ _)); refine blk_put (cs := #[.int .i64 0, .int .i64 0, .string (⟨#[]⟩ : ByteArray), .slice none 0 0]) ?_ 3 _ rfl; (with_reducible repeat (first | refine blk_drewN ?_ _ | refine blk_drew ?_ | refine blk_alloc ?_ _)); refine blk_put (cs := #[.int .i64 0, .int .i64 0, .string (⟨#[]⟩ : ByteArray), .slice none 0 0]) ?_ 2 _ rfl; (with_reducible repeat (first | refine blk_drewN ?_ _ | refine blk_drew ?_ | refine blk_alloc ?_ _)); refine blk_put (cs := #[.int .i64 0, .int .i64 0, .string (⟨#[]⟩ : ByteArray), .slice none 0 0]) ?_ 1 _ rfl; (with_reducible repeat (first | refine blk_drewN ?_ _ | refine blk_drew ?_ | refine blk_alloc ?_ _)); refine blk_put (cs := #[.int .i64 0, .int .i64 0, .string (⟨#[]⟩ : ByteArray), .slice none 0 0]) ?_ 0 _ rfl; (with_reducible repeat (first | refine blk_drewN ?_ _ | refine blk_drew ?_ | refine blk_alloc ?_ _)); refine blk_far ?_ NB207_216.out _; (with_reducible repeat (first | refine blk_drewN ?_ _ | refine blk_drew ?_ | refine blk_alloc ?_ _)); refine blk_far ?_ NB207_216.out _; (with_reducible repeat (first | refine blk_drewN ?_ _ | refine blk_drew ?_ | refine blk_alloc ?_ _)); refine blk_far ?_ NB207_216.out _; (with_reducible repeat (first | refine blk_drewN ?_ _ | refine blk_drew ?_ | refine blk_alloc ?_ _)); refine blk_far ?_ NB207_216.out _; (with_reducible repeat (first | refine blk_drewN ?_ _ | refine blk_drew ?_ | refine blk_alloc ?_ _)); exact BK207.out) Tryd.underlying66 rfl (by kernel_rfl)) rfl ?_
      exact ⟨_, by first | rfl | (simp [errW_none, errW_some] <;> rfl) | (simp [*, errW_none, errW_some] <;> rfl), by first | exact Kd.R_nil _ _ _ _ _ | exact Kd.N_nil _ _ _ _ _ | exact Kd.V_nil _ _ _ _ _ | exact Kd.Q_nil _ _ _ _ _ | exact Kd.S_nil _ _ _ _ _, by repeat (first | (with_reducible first | exact HB.out | apply below_alloc | apply pw_below_drewN | apply below_drew1 | refine below_set ?_ GE207.out | refine below_set ?_ GE216.out) | exact HB.out)⟩
    · rw [if_neg c4] at H
      have c4b0 : decide (t214 < (a0.size : Int)) = false := decide_eq_false c4
      clear c4
      simp only [Option.some.injEq, Prod.mk.injEq] at H
      obtain ⟨rfl, rfl, rfl, rfl, rfl⟩ := H
      go_enter Tryd.func27, Tryd.ntmps27
      go_wp2_with (first | ((with_reducible refine gate_dst (N := 2) rfl ?_); refine box_event ?hg (N := 2) ?hd (cs := #[.int .i64 0, .int .i64 0, .string (⟨#[]⟩ : ByteArray), .slice none 0 0]) (t := 66) ?hr ?_; (case hd => rfl); (case hg => rfl); (case hr => first | (go_simp; done) | (go_simp; rfl)); intro gb207 hg w12 hbox hb; have n0_ := Aside0.mk (below_step (by repeat (first | (with_reducible first | exact HB.out | apply below_alloc | apply pw_below_drewN | apply below_drew1) | exact HB.out)) hb); have n1_ := Aside0.mk (hbox); have n2_ := Aside0.mk ((by rw [hg]; exact (below_size (by repeat (first | (with_reducible first | exact HB.out | apply below_alloc | apply pw_below_drewN | apply below_drew1) | exact HB.out))) : w.heap.size ≤ gb207)); have n3_ := Aside0.mk ((by rw [hg]; exact (below_size (by repeat (first | (with_reducible first | exact HB.out | apply below_alloc | apply pw_below_drewN | apply below_drew1) | exact HB.out))) : w.heap.size ≤ gb207)); clear HB; have HB := n0_; have BK207 := n1_; have GW207 := n2_; have GE207 := n3_; clear n0_ n1_ n2_ n3_; clear hb hbox hg) | ((with_reducible refine gate_callee (f := 36) rfl ?_); refine goesL_ (some 9) rfl rfl Tryd.func36 (by kernel_rfl) rfl #[.string a0] rfl (by (try simp only [List.map_toArray, List.map_cons, List.map_nil]); first | done | rfl | (simp only [List.length_drop, List.length_take]; rfl)) ?_; (with_reducible refine (benc_Take.calls a0 t208 t209 t210 t211 t214 t215 _ (LaidW.below hL (by repeat (first | (with_reducible first | exact HB.out | apply below_alloc | apply pw_below_drewN | apply below_drew1 | refine below_set ?_ GE207.out) | exact HB.out))) A2.out).mono ?_); rintro e w13 ⟨v212, rfl, ho0, hb⟩; refine ⟨_, rfl, ?_⟩; have n0_ := Aside0.mk (Kd.R_lower (Kd.R_newB ho0 (g := gb207) (o := .cells #[.int .i64 0, .int .i64 0, .string (⟨#[]⟩ : ByteArray), .slice none 0 0] 66 (0, 0)) (by (with_reducible repeat (first | refine blk_drewN ?_ _ | refine blk_drew ?_ | refine blk_alloc ?_ _)); exact BK207.out)) (below_size (by repeat (first | (with_reducible first | exact HB.out | apply below_alloc | apply pw_below_drewN | apply below_drew1 | refine below_set ?_ GE207.out) | exact HB.out)))); have n1_ := Aside0.mk (blk_below (g := gb207) (o := .cells #[.int .i64 0, .int .i64 0, .string (⟨#[]⟩ : ByteArray), .slice none 0 0] 66 (0, 0)) (by (with_reducible repeat (first | refine blk_drewN ?_ _ | refine blk_drew ?_ | refine blk_alloc ?_ _)); exact BK207.out) hb); have n2_ := Aside0.mk (below_step (by repeat (first | (with_reducible first | exact HB.out | apply below_alloc | apply pw_below_drewN | apply below_drew1 | refine below_set ?_ GE207.out) | exact HB.out)) hb); clear BK207; clear HB; have HO213 := n0_; have BK207 := n1_; have HB := n2_; clear n0_ n1_ n2_; (try clear hb); (try clear hb2); (try clear hk); (try clear hi); (try clear ho0)) | ((with_reducible refine gate_dst (N := 4) rfl ?_); refine box_event ?hg (N := 4) ?hd (cs := #[.int .i64 0, .int .i64 0, .string (⟨#[]⟩ : ByteArray), .slice none 0 0]) (t := 66) ?hr ?_; (case hd => rfl); (case hg => rfl); (case hr => first | (go_simp; done) | (go_simp; rfl)); intro gb216 hg w14 hbox hb; have n0_ := Aside0.mk (Kd.R_below (Kd.R_elderB (by (with_reducible repeat (first | apply Kd.R_alloc | apply Kd.R_drewN | apply Kd.R_drew)); exact HO213.out) gb216 (Nat.le_of_eq hg.symm)) hb); have n1_ := Aside0.mk (blk_below (g := gb207) (o := .cells #[.int .i64 0, .int .i64 0, .string (⟨#[]⟩ : ByteArray), .slice none 0 0] 66 (0, 0)) (by (with_reducible repeat (first | refine blk_drewN ?_ _ | refine blk_drew ?_ | refine blk_alloc ?_ _)); exact BK207.out) hb); have n2_ := Aside0.mk (below_step (by repeat (first | (with_reducible first | exact HB.out | apply below_alloc | apply pw_below_drewN | apply below_drew1 | refine below_set ?_ GE207.out) | exact HB.out)) hb); have n3_ := Aside0.mk (hbox); have n4_ := Aside0.mk ((by rw [hg]; exact (below_size (by repeat (first | (with_reducible first | exact HB.out | apply below_alloc | apply pw_below_drewN | apply below_drew1 | refine below_set ?_ GE207.out) | exact HB.out))) : w.heap.size ≤ gb216)); have n5_ := Aside0.mk ((by rw [hg]; exact (below_size (by repeat (first | (with_reducible first | exact HB.out | apply below_alloc | apply pw_below_drewN | apply below_drew1 | refine below_set ?_ GE207.out) | exact HB.out))) : w.heap.size ≤ gb216)); have n6_ := Aside0.mk ((by rw [hg]; exact Nat.ne_of_lt (blk_lt (g := gb207) (o := .cells #[.int .i64 0, .int .i64 0, .string (⟨#[]⟩ : ByteArray), .slice none 0 0] 66 (0, 0)) (by (with_reducible repeat (first | refine blk_drewN ?_ _ | refine blk_drew ?_ | refine blk_alloc ?_ _)); exact BK207.out)) : gb207 ≠ gb216)); have n7_ := Aside0.mk ((by rw [hg]; exact Nat.ne_of_gt (blk_lt (g := gb207) (o := .cells #[.int .i64 0, .int .i64 0, .string (⟨#[]⟩ : ByteArray), .slice none 0 0] 66 (0, 0)) (by (with_reducible repeat (first | refine blk_drewN ?_ _ | refine blk_drew ?_ | refine blk_alloc ?_ _)); exact BK207.out)) : gb216 ≠ gb207)); clear HO213; clear BK207; clear HB; have HO213 := n0_; have BK207 := n1_; have HB := n2_; have BK216 := n3_; have GW216 := n4_; have GE216 := n5_; have NB207_216 := n6_; have NB216_207 := n7_; clear n0_ n1_ n2_ n3_ n4_ n5_ n6_ n7_; clear hb hbox hg; have hnb15 := NB216_207.out; have hnc15 := NB207_216.out; have hcz16_0 : w14.cell? ⟨gb216, 0, none⟩ = some (.int .i64 0) := (blk_cell BK216.out 0).trans rfl; have hcz16_1 : w14.cell? ⟨gb216, 1, none⟩ = some (.int .i64 0) := (blk_cell BK216.out 1).trans rfl; have hcz16_2 : w14.cell? ⟨gb216, 2, none⟩ = some (.string (⟨#[]⟩ : ByteArray)) := (blk_cell BK216.out 2).trans rfl; have hcz16_3 : w14.cell? ⟨gb216, 3, none⟩ = some (.slice none 0 0) := (blk_cell BK216.out 3).trans rfl; have hfz16_0 := blk_frozen BK216.out 0; have hfz16_1 := blk_frozen BK216.out 1; have hfz16_2 := blk_frozen BK216.out 2; have hfz16_3 := blk_frozen BK216.out 3; obtain ⟨Ao17, co17, eo17⟩ := Kd.R_slice HO213.out; subst eo17; have hcz18_0 : w14.cell? ⟨gb207, 0, none⟩ = some (.int .i64 0) := (blk_cell BK207.out 0).trans rfl; have hcz18_1 : w14.cell? ⟨gb207, 1, none⟩ = some (.int .i64 0) := (blk_cell BK207.out 1).trans rfl; have hcz18_2 : w14.cell? ⟨gb207, 2, none⟩ = some (.string (⟨#[]⟩ : ByteArray)) := (blk_cell BK207.out 2).trans rfl; have hcz18_3 : w14.cell? ⟨gb207, 3, none⟩ = some (.slice none 0 0) := (blk_cell BK207.out 3).trans rfl; have hfz18_0 := blk_frozen BK207.out 0; have hfz18_1 := blk_frozen BK207.out 1; have hfz18_2 := blk_frozen BK207.out 2; have hfz18_3 := blk_frozen BK207.out 3))
      refine bodyPost_ret (results_ct rfl _ _ gb207 66 #[.int .i64 t208, .int .i64 t209, .string t210, .slice Ao17 t211.length co17] (0, 0) _ rfl (by (with_reducible repeat (first | refine blk_drewN ?_ _ | refine blk_drew ?_ | refine blk_alloc ?_ _)); refine blk_put (cs := #[.int .i64 t208, .int .i64 t209, .string t210, .slice none 0 0]) ?_ 3 _ rfl; (with_reducible repeat (first | refine blk_drewN ?_ _ | refine blk_drew ?_ | refine blk_alloc ?_ _)); refine blk_put (cs := #[.int .i64 t208, .int .i64 t209, .string (⟨#[]⟩ : ByteArray), .slice none 0 0]) ?_ 2 _ rfl; (with_reducible repeat (first | refine blk_drewN ?_ _ | refine blk_drew ?_ | refine blk_alloc ?_ _)); refine blk_put (cs := #[.int .i64 t208, .int .i64 0, .string (⟨#[]⟩ : ByteArray), .slice none 0 0]) ?_ 1 _ rfl; (with_reducible repeat (first | refine blk_drewN ?_ _ | refine blk_drew ?_ | refine blk_alloc ?_ _)); refine blk_put (cs := #[.int .i64 0, .int .i64 0, .string (⟨#[]⟩ : ByteArray), .slice none 0 0]) ?_ 0 _ rfl; (with_reducible repeat (first | refine blk_drewN ?_ _ | refine blk_drew ?_ | refine blk_alloc ?_ _)); refine blk_far ?_ NB207_216.out _; (with_reducible repeat (first | refine blk_drewN ?_ _ | refine blk_drew ?_ | refine blk_alloc ?_ _)); refine blk_far ?_ NB207_216.out _; (with_reducible repeat (first | refine blk_drewN ?_ _ | refine blk_drew ?_ | refine blk_alloc ?_ _)); refine blk_far ?_ NB207_216.out _; (with_reducible repeat (first | refine blk_drewN ?_ _ | refine blk_drew ?_ | refine blk_alloc ?_ _)); refine blk_far ?_ NB207_216.out _; (with_reducible repeat (first | refine blk_drewN ?_ _ | refine blk_drew ?_ | refine blk_alloc ?_ _)); exact BK207.out) Tryd.underlying66 rfl (by kernel_rfl)) rfl ?_
      exact ⟨_, by first | rfl | (simp [errW_none, errW_some] <;> rfl) | (simp [*, errW_none, errW_some] <;> rfl), by (with_reducible repeat (first | apply Kd.R_alloc | apply Kd.R_drewN | apply Kd.R_drew)); exact Kd.R_mono (Kd.R_far (p := ⟨gb207, 3, none⟩) (Kd.R_far (p := ⟨gb207, 2, none⟩) (Kd.R_far (p := ⟨gb207, 1, none⟩) (Kd.R_far (p := ⟨gb207, 0, none⟩) (Kd.R_far (p := ⟨gb216, 3, none⟩) (Kd.R_far (p := ⟨gb216, 2, none⟩) (Kd.R_far (p := ⟨gb216, 1, none⟩) (Kd.R_far (p := ⟨gb216, 0, none⟩) (Kd.R_mono (Kd.R_mono HO213.out (fun k_ hk => (⟨hk, hk.2⟩ : _ ∧ k_ ≠ gb216))) (fun k_ hk => (⟨hk, hk.1.1.2⟩ : _ ∧ k_ ≠ gb207))) (fun _ hk => hk.1.2) (.int .i64 t208)) (fun _ hk => hk.1.2) (.int .i64 t209)) (fun _ hk => hk.1.2) (.string t210)) (fun _ hk => hk.1.2) (.slice Ao17 t211.length co17)) (fun _ hk => hk.2) (.int .i64 t208)) (fun _ hk => hk.2) (.int .i64 t209)) (fun _ hk => hk.2) (.string t210)) (fun _ hk => hk.2) (.slice Ao17 t211.length co17)) (fun _ hk => trivial), by repeat (first | (with_reducible first | exact HB.out | apply below_alloc | apply pw_below_drewN | apply below_drew1 | refine below_set ?_ GE207.out | refine below_set ?_ GE216.out) | exact HB.out)⟩
  · rw [if_neg c3] at H
    have c3b0 : (t215 == 0) = false := beq_eq_false_iff_ne.mpr c3
    have c3b1 : (t215 != 0) = true := bne_iff_ne.mpr c3
    simp only [Option.some.injEq, Prod.mk.injEq] at H
    obtain ⟨rfl, rfl, rfl, rfl, rfl⟩ := H
    go_enter Tryd.func27, Tryd.ntmps27
    go_wp2_with (first | ((with_reducible refine gate_dst (N := 2) rfl ?_); refine box_event ?hg (N := 2) ?hd (cs := #[.int .i64 0, .int .i64 0, .string (⟨#[]⟩ : ByteArray), .slice none 0 0]) (t := 66) ?hr ?_; (case hd => rfl); (case hg => rfl); (case hr => first | (go_simp; done) | (go_simp; rfl)); intro gb207 hg w19 hbox hb; have n0_ := Aside0.mk (below_step (by repeat (first | (with_reducible first | exact HB.out | apply below_alloc | apply pw_below_drewN | apply below_drew1) | exact HB.out)) hb); have n1_ := Aside0.mk (hbox); have n2_ := Aside0.mk ((by rw [hg]; exact (below_size (by repeat (first | (with_reducible first | exact HB.out | apply below_alloc | apply pw_below_drewN | apply below_drew1) | exact HB.out))) : w.heap.size ≤ gb207)); have n3_ := Aside0.mk ((by rw [hg]; exact (below_size (by repeat (first | (with_reducible first | exact HB.out | apply below_alloc | apply pw_below_drewN | apply below_drew1) | exact HB.out))) : w.heap.size ≤ gb207)); clear HB; have HB := n0_; have BK207 := n1_; have GW207 := n2_; have GE207 := n3_; clear n0_ n1_ n2_ n3_; clear hb hbox hg) | ((with_reducible refine gate_callee (f := 36) rfl ?_); refine goesL_ (some 9) rfl rfl Tryd.func36 (by kernel_rfl) rfl #[.string a0] rfl (by (try simp only [List.map_toArray, List.map_cons, List.map_nil]); first | done | rfl | (simp only [List.length_drop, List.length_take]; rfl)) ?_; (with_reducible refine (benc_Take.calls a0 t208 t209 t210 t211 t214 t215 _ (LaidW.below hL (by repeat (first | (with_reducible first | exact HB.out | apply below_alloc | apply pw_below_drewN | apply below_drew1 | refine below_set ?_ GE207.out) | exact HB.out))) A2.out).mono ?_); rintro e w20 ⟨v212, rfl, ho0, hb⟩; refine ⟨_, rfl, ?_⟩; have n0_ := Aside0.mk (Kd.R_lower (Kd.R_newB ho0 (g := gb207) (o := .cells #[.int .i64 0, .int .i64 0, .string (⟨#[]⟩ : ByteArray), .slice none 0 0] 66 (0, 0)) (by (with_reducible repeat (first | refine blk_drewN ?_ _ | refine blk_drew ?_ | refine blk_alloc ?_ _)); exact BK207.out)) (below_size (by repeat (first | (with_reducible first | exact HB.out | apply below_alloc | apply pw_below_drewN | apply below_drew1 | refine below_set ?_ GE207.out) | exact HB.out)))); have n1_ := Aside0.mk (blk_below (g := gb207) (o := .cells #[.int .i64 0, .int .i64 0, .string (⟨#[]⟩ : ByteArray), .slice none 0 0] 66 (0, 0)) (by (with_reducible repeat (first | refine blk_drewN ?_ _ | refine blk_drew ?_ | refine blk_alloc ?_ _)); exact BK207.out) hb); have n2_ := Aside0.mk (below_step (by repeat (first | (with_reducible first | exact HB.out | apply below_alloc | apply pw_below_drewN | apply below_drew1 | refine below_set ?_ GE207.out) | exact HB.out)) hb); clear BK207; clear HB; have HO213 := n0_; have BK207 := n1_; have HB := n2_; clear n0_ n1_ n2_; (try clear hb); (try clear hb2); (try clear hk); (try clear hi); (try clear ho0)) | ((with_reducible refine gate_dst (N := 4) rfl ?_); refine box_event ?hg (N := 4) ?hd (cs := #[.int .i64 0, .int .i64 0, .string (⟨#[]⟩ : ByteArray), .slice none 0 0]) (t := 66) ?hr ?_; (case hd => rfl); (case hg => rfl); (case hr => first | (go_simp; done) | (go_simp; rfl)); intro gb216 hg w21 hbox hb; have n0_ := Aside0.mk (Kd.R_below (Kd.R_elderB (by (with_reducible repeat (first | apply Kd.R_alloc | apply Kd.R_drewN | apply Kd.R_drew)); exact HO213.out) gb216 (Nat.le_of_eq hg.symm)) hb); have n1_ := Aside0.mk (blk_below (g := gb207) (o := .cells #[.int .i64 0, .int .i64 0, .string (⟨#[]⟩ : ByteArray), .slice none 0 0] 66 (0, 0)) (by (with_reducible repeat (first | refine blk_drewN ?_ _ | refine blk_drew ?_ | refine blk_alloc ?_ _)); exact BK207.out) hb); have n2_ := Aside0.mk (below_step (by repeat (first | (with_reducible first | exact HB.out | apply below_alloc | apply pw_below_drewN | apply below_drew1 | refine below_set ?_ GE207.out) | exact HB.out)) hb); have n3_ := Aside0.mk (hbox); have n4_ := Aside0.mk ((by rw [hg]; exact (below_size (by repeat (first | (with_reducible first | exact HB.out | apply below_alloc | apply pw_below_drewN | apply below_drew1 | refine below_set ?_ GE207.out) | exact HB.out))) : w.heap.size ≤ gb216)); have n5_ := Aside0.mk ((by rw [hg]; exact (below_size (by repeat (first | (with_reducible first | exact HB.out | apply below_alloc | apply pw_below_drewN | apply below_drew1 | refine below_set ?_ GE207.out) | exact HB.out))) : w.heap.size ≤ gb216)); have n6_ := Aside0.mk ((by rw [hg]; exact Nat.ne_of_lt (blk_lt (g := gb207) (o := .cells #[.int .i64 0, .int .i64 0, .string (⟨#[]⟩ : ByteArray), .slice none 0 0] 66 (0, 0)) (by (with_reducible repeat (first | refine blk_drewN ?_ _ | refine blk_drew ?_ | refine blk_alloc ?_ _)); exact BK207.out)) : gb207 ≠ gb216)); have n7_ := Aside0.mk ((by rw [hg]; exact Nat.ne_of_gt (blk_lt (g := gb207) (o := .cells #[.int .i64 0, .int .i64 0, .string (⟨#[]⟩ : ByteArray), .slice none 0 0] 66 (0, 0)) (by (with_reducible repeat (first | refine blk_drewN ?_ _ | refine blk_drew ?_ | refine blk_alloc ?_ _)); exact BK207.out)) : gb216 ≠ gb207)); clear HO213; clear BK207; clear HB; have HO213 := n0_; have BK207 := n1_; have HB := n2_; have BK216 := n3_; have GW216 := n4_; have GE216 := n5_; have NB207_216 := n6_; have NB216_207 := n7_; clear n0_ n1_ n2_ n3_ n4_ n5_ n6_ n7_; clear hb hbox hg; have hnb22 := NB216_207.out; have hnc22 := NB207_216.out; have hcz23_0 : w21.cell? ⟨gb216, 0, none⟩ = some (.int .i64 0) := (blk_cell BK216.out 0).trans rfl; have hcz23_1 : w21.cell? ⟨gb216, 1, none⟩ = some (.int .i64 0) := (blk_cell BK216.out 1).trans rfl; have hcz23_2 : w21.cell? ⟨gb216, 2, none⟩ = some (.string (⟨#[]⟩ : ByteArray)) := (blk_cell BK216.out 2).trans rfl; have hcz23_3 : w21.cell? ⟨gb216, 3, none⟩ = some (.slice none 0 0) := (blk_cell BK216.out 3).trans rfl; have hfz23_0 := blk_frozen BK216.out 0; have hfz23_1 := blk_frozen BK216.out 1; have hfz23_2 := blk_frozen BK216.out 2; have hfz23_3 := blk_frozen BK216.out 3; obtain ⟨Ao24, co24, eo24⟩ := Kd.R_slice HO213.out; subst eo24; have hcz25_0 : w21.cell? ⟨gb207, 0, none⟩ = some (.int .i64 0) := (blk_cell BK207.out 0).trans rfl; have hcz25_1 : w21.cell? ⟨gb207, 1, none⟩ = some (.int .i64 0) := (blk_cell BK207.out 1).trans rfl; have hcz25_2 : w21.cell? ⟨gb207, 2, none⟩ = some (.string (⟨#[]⟩ : ByteArray)) := (blk_cell BK207.out 2).trans rfl; have hcz25_3 : w21.cell? ⟨gb207, 3, none⟩ = some (.slice none 0 0) := (blk_cell BK207.out 3).trans rfl; have hfz25_0 := blk_frozen BK207.out 0; have hfz25_1 := blk_frozen BK207.out 1; have hfz25_2 := blk_frozen BK207.out 2; have hfz25_3 := blk_frozen BK207.out 3))
    refine bodyPost_ret (results_ct rfl _ _ gb207 66 #[.int .i64 0, .int .i64 0, .string (⟨#[]⟩ : ByteArray), .slice none 0 0] (0, 0) _ rfl (by (with_reducible repeat (first | refine blk_drewN ?_ _ | refine blk_drew ?_ | refine blk_alloc ?_ _)); refine blk_put (cs := #[.int .i64 0, .int .i64 0, .string (⟨#[]⟩ : ByteArray), .slice none 0 0]) ?_ 3 _ rfl; (with_reducible repeat (first | refine blk_drewN ?_ _ | refine blk_drew ?_ | refine blk_alloc ?_ _)); refine blk_put (cs := #[.int .i64 0, .int .i64 0, .string (⟨#[]⟩ : ByteArray), .slice none 0 0]) ?_ 2 _ rfl; (with_reducible repeat (first | refine blk_drewN ?_ _ | refine blk_drew ?_ | refine blk_alloc ?_ _)); refine blk_put (cs := #[.int .i64 0, .int .i64 0, .string (⟨#[]⟩ : ByteArray), .slice none 0 0]) ?_ 1 _ rfl; (with_reducible repeat (first | refine blk_drewN ?_ _ | refine blk_drew ?_ | refine blk_alloc ?_ _)); refine blk_put (cs := #[.int .i64 0, .int .i64 0, .string (⟨#[]⟩ : ByteArray), .slice none 0 0]) ?_ 0 _ rfl; (with_reducible repeat (first | refine blk_drewN ?_ _ | refine blk_drew ?_ | refine blk_alloc ?_ _)); refine blk_far ?_ NB207_216.out _; (with_reducible repeat (first | refine blk_drewN ?_ _ | refine blk_drew ?_ | refine blk_alloc ?_ _)); refine blk_far ?_ NB207_216.out _; (with_reducible repeat (first | refine blk_drewN ?_ _ | refine blk_drew ?_ | refine blk_alloc ?_ _)); refine blk_far ?_ NB207_216.out _; (with_reducible repeat (first | refine blk_drewN ?_ _ | refine blk_drew ?_ | refine blk_alloc ?_ _)); refine blk_far ?_ NB207_216.out _; (with_reducible repeat (first | refine blk_drewN ?_ _ | refine blk_drew ?_ | refine blk_alloc ?_ _)); exact BK207.out) Tryd.underlying66 rfl (by kernel_rfl)) rfl ?_
    exact ⟨_, by first | rfl | (simp [errW_none, errW_some] <;> rfl) | (simp [*, errW_none, errW_some] <;> rfl), by first | exact Kd.R_nil _ _ _ _ _ | exact Kd.N_nil _ _ _ _ _ | exact Kd.V_nil _ _ _ _ _ | exact Kd.Q_nil _ _ _ _ _ | exact Kd.S_nil _ _ _ _ _, by repeat (first | (with_reducible first | exact HB.out | apply below_alloc | apply pw_below_drewN | apply below_drew1 | refine below_set ?_ GE207.out | refine below_set ?_ GE216.out) | exact HB.out)⟩
end Go.Proofs.YthlkcfjodmhhmaaDoor.P
namespace Go.Proofs.YthlkcfjodmhhmaaDoor.Pure
open Go.RowKit Go.Lib Go.Proofs.YthlkcfjodmhhmaaDoor.Giv Go.Proofs.YthlkcfjodmhhmaaDoor.P Go.Proofs.YthlkcfjodmhhmaaDoorW.PrintWords Go.Proofs.YthlkcfjodmhhmaaDoorW.PrintLast Go.Proofs.YthlkcfjodmhhmaaDoorW.PrintMore
set_option linter.unusedVariables false
set_option linter.unusedSimpArgs false
theorem kinds_ev (n : Nat) : ∀ (v : V), wt v ≤ n → n ≤ 4611686018427387904 → Ev (fun k => ploverref02_kinds.f k v.f0 v.f1 v.f2 v.f3) (kin v) := by
  induction n with
  | zero => intro v h; have := wt_eq v; omega
  | succ n ih =>
    intro v hw hb
    have hz := wt_eq v
    have hll := wts_len v.f3
    have stop : v.f0 ≠ 3 → Ev (fun k => ploverref02_kinds.l0 k ((0 : Nat) : Int) v.f0 v.f1 v.f2 v.f3) true := by
      intro h3
      refine Ev.step (f := fun k => ploverref02_kinds.j2 k ((0 : Nat) : Int) false v.f0 v.f1 v.f2 v.f3) (fun k => ?_) (Ev.step (f := fun _ => some true) (fun k => ?_) (Ev.now _))
      · simp only [ploverref02_kinds.l0]; rw [if_neg h3]
      · simp only [ploverref02_kinds.j2]; rfl
    have loop : v.f0 = 3 → ∀ (d i : Nat), v.f3.length - i ≤ d → i ≤ v.f3.length → Ev (fun k => ploverref02_kinds.l0 k (i : Int) v.f0 v.f1 v.f2 v.f3) (kins (v.f3.drop i)) := by
      intro h3 d
      induction d with
      | zero =>
        intro i h1 h2
        rw [List.drop_of_length_le (by omega), kins_nil]
        refine Ev.step (f := fun k => ploverref02_kinds.j2 k (i : Int) false v.f0 v.f1 v.f2 v.f3) (fun k => ?_) (Ev.step (f := fun _ => some true) (fun k => ?_) (Ev.now _))
        · simp only [ploverref02_kinds.l0]; rw [if_pos h3, decide_eq_false (by omega)]
        · simp only [ploverref02_kinds.j2]; rfl
      | succ d ihd =>
        intro i h1 h2
        by_cases hlt : i < v.f3.length
        · have hmem : v.f3[i] ∈ v.f3 := List.getElem_mem hlt
          have hx := ih v.f3[i] (by have := wt_mem hmem; omega) (by omega)
          have hn := ihd (i + 1) (by omega) (by omega)
          rw [List.drop_eq_getElem_cons hlt, kins_cons]
          refine Ev.step (f := fun k => ploverref02_kinds.j2 k (i : Int) true v.f0 v.f1 v.f2 v.f3) (fun k => ?_) (Ev.step (f := fun k => (ploverref02_kinds.f k v.f3[i].f0 v.f3[i].f1 v.f3[i].f2 v.f3[i].f3).bind fun q => if q = true then ploverref02_kinds.l0 k ((i + 1 : Nat) : Int) v.f0 v.f1 v.f2 v.f3 else some false) (fun k => ?_) (Ev.bind hx ?_))
          · simp only [ploverref02_kinds.l0]; rw [if_pos h3, decide_eq_true (by omega)]
          · simp only [ploverref02_kinds.j2]
            rw [if_pos trivial, if_pos (by omega), if_pos (by omega), rd_at _ _ hlt, w64 (n := (i : Int) + 1) (by omega) (by omega)]
            rfl
          · cases kin v.f3[i] with
            | true => rw [Bool.true_and]; exact Ev.congr (fun k => if_pos rfl) hn
            | false => rw [Bool.false_and]; exact Ev.congr (fun k => if_neg (by decide)) (Ev.now _)
        · rw [List.drop_of_length_le (by omega), kins_nil]
          refine Ev.step (f := fun k => ploverref02_kinds.j2 k (i : Int) false v.f0 v.f1 v.f2 v.f3) (fun k => ?_) (Ev.step (f := fun _ => some true) (fun k => ?_) (Ev.now _))
          · simp only [ploverref02_kinds.l0]; rw [if_pos h3, decide_eq_false (by omega)]
          · simp only [ploverref02_kinds.j2]; rfl
    rw [kin_eq]
    have go : ∀ x r, Ev (fun k => ploverref02_kinds.j0 k x v.f0 v.f1 v.f2 v.f3) r → (v.f0 < 1 ∧ x = true ∨ ¬ v.f0 < 1 ∧ x = decide (v.f0 > 3)) → Ev (fun k => ploverref02_kinds.f k v.f0 v.f1 v.f2 v.f3) r := by
      intro x r h hx
      refine Ev.step (fun k => ?_) h
      simp only [ploverref02_kinds.f]
      rcases hx with ⟨h1, rfl⟩ | ⟨h1, rfl⟩
      · rw [if_pos h1]
      · rw [if_neg h1]
    have yes : ∀ r, Ev (fun k => ploverref02_kinds.l0 k ((0 : Nat) : Int) v.f0 v.f1 v.f2 v.f3) r → Ev (fun k => ploverref02_kinds.j0 k false v.f0 v.f1 v.f2 v.f3) r := fun r h => by
      refine Ev.step (fun k => ?_) h
      simp only [ploverref02_kinds.j0]
      rfl
    by_cases c1 : v.f0 = 1
    · rw [if_pos c1]
      exact go false true (yes _ (stop (by omega))) (.inr ⟨by omega, (decide_eq_false (by omega)).symm⟩)
    · rw [if_neg c1]
      by_cases c2 : v.f0 = 2
      · rw [if_pos c2]
        exact go false true (yes _ (stop (by omega))) (.inr ⟨by omega, (decide_eq_false (by omega)).symm⟩)
      · rw [if_neg c2]
        by_cases c3 : v.f0 = 3
        · rw [if_pos c3]
          have := loop c3 v.f3.length 0 (by omega) (by omega)
          rw [List.drop_zero] at this
          exact go false _ (yes _ this) (.inr ⟨by omega, (decide_eq_false (by omega)).symm⟩)
        · rw [if_neg c3]
          refine go true false (Ev.step (f := fun _ => some false) (fun k => ?_) (Ev.now _)) ?_
          · simp only [ploverref02_kinds.j0]; rfl
          · by_cases h : v.f0 < 1
            · exact .inl ⟨h, rfl⟩
            · exact .inr ⟨h, (decide_eq_true (by omega)).symm⟩
theorem deep_ev (n : Nat) : ∀ (v : V), wt v ≤ n → n ≤ 4611686018427387904 → Ev (fun k => ploverref02_deep.f k v.f0 v.f1 v.f2 v.f3) (dep v : Int) := by
  induction n with
  | zero => intro v h; have := wt_eq v; omega
  | succ n ih =>
    intro v hw hb
    have hz := wt_eq v
    have hll := wts_len v.f3
    have hdw := deps_wts v.f3
    rw [dep_eq]
    by_cases c3 : v.f0 = 3
    · rw [if_pos c3]
      have loop : ∀ (d i m : Nat), v.f3.length - i ≤ d → i ≤ v.f3.length → m ≤ deps v.f3 → max m (deps (v.f3.drop i)) = deps v.f3 → Ev (fun k => ploverref02_deep.l0 k (m : Int) (i : Int) v.f0 v.f1 v.f2 v.f3) ((deps v.f3 + 1 : Nat) : Int) := by
        intro d
        induction d with
        | zero =>
          intro i m h1 h2 h3 h4
          rw [List.drop_of_length_le (by omega), deps_nil] at h4
          refine Ev.step (f := fun _ => some ((deps v.f3 + 1 : Nat) : Int)) (fun k => ?_) (Ev.now _)
          simp only [ploverref02_deep.l0]
          rw [if_neg (by omega), w64 (by omega) (by omega)]
          congr 1
          omega
        | succ d ihd =>
          intro i m h1 h2 h3 h4
          by_cases hlt : i < v.f3.length
          · have hmem : v.f3[i] ∈ v.f3 := List.getElem_mem hlt
            have hx := ih v.f3[i] (by have := wt_mem hmem; omega) (by omega)
            rw [List.drop_eq_getElem_cons hlt, deps_cons] at h4
            have hn := ihd (i + 1) (max m (dep v.f3[i])) (by omega) (by omega) (by omega) (by omega)
            refine Ev.step (f := fun k => (ploverref02_deep.f k v.f3[i].f0 v.f3[i].f1 v.f3[i].f2 v.f3[i].f3).bind fun q => ploverref02_deep.l0 k (mx (m : Int) q) ((i + 1 : Nat) : Int) v.f0 v.f1 v.f2 v.f3) (fun k => ?_) (Ev.bind hx ?_)
            · simp only [ploverref02_deep.l0]
              rw [if_pos (by omega), if_pos (by omega), rd_at _ _ hlt, w64 (n := (i : Int) + 1) (by omega) (by omega)]
              rfl
            · have e : mx (m : Int) (dep v.f3[i] : Int) = ((max m (dep v.f3[i]) : Nat) : Int) := by unfold mx; split <;> omega
              rw [e]
              exact hn
          · rw [List.drop_of_length_le (by omega), deps_nil] at h4
            refine Ev.step (f := fun _ => some ((deps v.f3 + 1 : Nat) : Int)) (fun k => ?_) (Ev.now _)
            simp only [ploverref02_deep.l0]
            rw [if_neg (by omega), w64 (by omega) (by omega)]
            congr 1
            omega
      refine Ev.step (f := fun k => ploverref02_deep.l0 k ((0 : Nat) : Int) ((0 : Nat) : Int) v.f0 v.f1 v.f2 v.f3) (fun k => ?_) (loop v.f3.length 0 0 (by omega) (by omega) (by omega) (by rw [List.drop_zero]; omega))
      simp only [ploverref02_deep.f]
      rw [if_pos c3]
      rfl
    · rw [if_neg c3]
      refine Ev.step (f := fun _ => some 0) (fun k => ?_) (Ev.now _)
      simp only [ploverref02_deep.f]
      rw [if_neg c3]
end Go.Proofs.YthlkcfjodmhhmaaDoor.Pure
namespace Go.Proofs.YthlkcfjodmhhmaaDoor.Pure
open Go.RowKit Go.Lib Go.Proofs.YthlkcfjodmhhmaaDoor.Giv Go.Proofs.YthlkcfjodmhhmaaDoor.P Go.Proofs.YthlkcfjodmhhmaaDoorW.PrintWords Go.Proofs.YthlkcfjodmhhmaaDoorW.PrintLast Go.Proofs.YthlkcfjodmhhmaaDoorW.PrintMore
set_option linter.unusedVariables false
set_option linter.unusedSimpArgs false
def nm (l : List UInt8) : List Int := l.map fun c => (c.toNat : Int)
theorem nm_app (a b : List UInt8) : nm (a ++ b) = nm a ++ nm b := by simp [nm]
theorem nm_len (a : List UInt8) : (nm a).length = a.length := by simp [nm]
theorem str_nm (l : List UInt8) : strOfNums (nm l) = ⟨l.toArray⟩ := by
  unfold strOfNums nm
  rw [List.map_map]
  congr 1
  congr 1
  have : (fun n : Int => UInt8.ofNat n.toNat) ∘ (fun c : UInt8 => (c.toNat : Int)) = id := by
    funext c
    simp
  rw [this, List.map_id]
theorem bytesOf_nm (s : ByteArray) : bytesOf s = nm s.data.toList := rfl
theorem digit_byte {d : Nat} (h : d < 10) : ((UInt8.ofNat (48 + d)).toNat : Int) = 48 + (d : Int) := by rw [digit_of h]; omega
theorem rev_ev (low : List UInt8) (hl : low.length ≤ 1000) : ∀ (d i : Nat), i ≤ d → i ≤ low.length → ∀ out : List UInt8, out.length + i ≤ 1000 → Ev (fun k => ploverref02_digits.l1 k (nm low) (nm out) ((i : Int) - 1)) (⟨(out ++ (low.take i).reverse).toArray⟩ : ByteArray) := by
  intro d
  induction d with
  | zero =>
    intro i h1 h2 out h3
    obtain rfl : i = 0 := by omega
    refine Ev.step (f := fun _ => some (strOfNums (nm out))) (fun k => ?_) ?_
    · simp only [ploverref02_digits.l1]; rw [if_neg (by omega)]
    · rw [str_nm]; simp; exact Ev.now _
  | succ d ih =>
    intro i h1 h2 out h3
    cases i with
    | zero =>
      refine Ev.step (f := fun _ => some (strOfNums (nm out))) (fun k => ?_) ?_
      · simp only [ploverref02_digits.l1]; rw [if_neg (by omega)]
      · rw [str_nm]; simp; exact Ev.now _
    | succ i =>
      have hlt : i < low.length := by omega
      have hr : rd (nm low) (((i + 1 : Nat) : Int) - 1) = (low[i].toNat : Int) := by
        unfold rd nm
        rw [show (((i + 1 : Nat) : Int) - 1).toNat = i by omega, List.getD_eq_getElem?_getD, List.getElem?_map, List.getElem?_eq_getElem hlt]
        rfl
      have e : nm out ++ [(low[i].toNat : Int)] = nm (out ++ [low[i]]) := by rw [nm_app]; rfl
      refine Ev.step (f := fun k => ploverref02_digits.l1 k (nm low) (nm (out ++ [low[i]])) ((i : Int) - 1)) (fun k => ?_) ?_
      · simp only [ploverref02_digits.l1]
        rw [if_pos (by omega), if_pos (by omega), if_pos (by rw [nm_len]; omega), if_pos (by rw [nm_len]; omega), hr, e, w64 (by omega) (by omega), show ((i + 1 : Nat) : Int) - 1 - 1 = (i : Int) - 1 by omega]
      · have := ih i (by omega) (by omega) (out ++ [low[i]]) (by simp; omega)
        refine Ev.to this ?_
        have e2 : low.take (i + 1) = low.take i ++ [low[i]] := List.take_succ_eq_append_getElem hlt
        rw [e2, List.reverse_append, List.append_assoc]
        rfl
theorem fin_ev (low : List UInt8) (hl : low.length ≤ 1000) : Ev (fun k => ploverref02_digits.j1 k (nm low)) (⟨low.reverse.toArray⟩ : ByteArray) := by
  refine Ev.step (f := fun k => ploverref02_digits.l1 k (nm low) (nm []) ((low.length : Int) - 1)) (fun k => ?_) ?_
  · simp only [ploverref02_digits.j1]
    rw [nm_len, w64 (by omega) (by omega)]
    rfl
  · have := rev_ev low hl low.length low.length (Nat.le_refl _) (Nat.le_refl _) [] (by simpa using hl)
    rw [List.take_length, List.nil_append] at this
    exact this
theorem low_ev (x : Int) : ∀ (f : Nat) (u : Nat) (neg : Bool) (low : List UInt8), u ≤ 9223372036854775808 → (neg = false → u ≤ 9223372036854775807) → (x < 0 ↔ neg = true) → u < 10 ^ f → low.length + f ≤ 500 →
    Ev (fun k => ploverref02_digits.l0 k x (nm low) (sgn neg u)) (⟨((low ++ (if u = 0 then [] else (decDigits u).reverse) ++ (if neg = true then [45] else []) : List UInt8).reverse).toArray⟩ : ByteArray) := by
  intro f
  induction f with
  | zero =>
    intro u neg low h1 h1' h2 h3 h4
    have hu : u = 0 := by simpa using h3
    subst hu
    have hs : sgn neg 0 = 0 := by unfold sgn; split <;> rfl
    rw [hs, if_pos rfl, List.append_nil]
    by_cases hn : neg = true
    · rw [if_pos hn]
      refine Ev.step (f := fun k => ploverref02_digits.j1 k (nm (low ++ [45]))) (fun k => ?_) (fin_ev _ (by simp; omega))
      simp only [ploverref02_digits.l0]
      rw [if_pos trivial, if_pos (h2.2 hn), if_pos (by rw [nm_len]; omega), nm_app]
      rfl
    · rw [if_neg hn, List.append_nil]
      refine Ev.step (f := fun k => ploverref02_digits.j1 k (nm low)) (fun k => ?_) (fin_ev _ (by omega))
      simp only [ploverref02_digits.l0]
      rw [if_pos trivial, if_neg (fun h => hn (h2.1 h))]
  | succ f ih =>
    intro u neg low h1 h1' h2 h3 h4
    by_cases hu : u = 0
    · subst hu
      have hs : sgn neg 0 = 0 := by unfold sgn; split <;> rfl
      rw [hs, if_pos rfl, List.append_nil]
      by_cases hn : neg = true
      · rw [if_pos hn]
        refine Ev.step (f := fun k => ploverref02_digits.j1 k (nm (low ++ [45]))) (fun k => ?_) (fin_ev _ (by simp; omega))
        simp only [ploverref02_digits.l0]
        rw [if_pos trivial, if_pos (h2.2 hn), if_pos (by rw [nm_len]; omega), nm_app]
        rfl
      · rw [if_neg hn, List.append_nil]
        refine Ev.step (f := fun k => ploverref02_digits.j1 k (nm low)) (fun k => ?_) (fin_ev _ (by omega))
        simp only [ploverref02_digits.l0]
        rw [if_pos trivial, if_neg (fun h => hn (h2.1 h))]
    · have hd := ih (u / 10) neg (low ++ [UInt8.ofNat (48 + u % 10)]) (by omega) (fun h => by have := h1' h; omega) h2 (by rw [Nat.pow_succ] at h3; omega) (by simp; omega)
      have hb : nm (low ++ [UInt8.ofNat (48 + u % 10)]) = nm low ++ [48 + ((u % 10 : Nat) : Int)] := by
        rw [nm_app]
        congr 1
        show [((UInt8.ofNat (48 + u % 10)).toNat : Int)] = _
        rw [digit_byte (by omega)]
      have hdd : (if u = 0 then [] else (decDigits u).reverse) = [UInt8.ofNat (48 + u % 10)] ++ (if u / 10 = 0 then [] else (decDigits (u / 10)).reverse) := by
        rw [if_neg hu]
        by_cases hs : u < 10
        · rw [dd_small hs, if_pos (by omega), show u % 10 = u by omega]; rfl
        · rw [dd_big hs, if_neg (by omega), List.reverse_append]; rfl
      rw [hdd]
      refine Ev.step (f := fun k => ploverref02_digits.l0 k x (nm (low ++ [UInt8.ofNat (48 + u % 10)])) (sgn neg (u / 10))) (fun k => ?_) (Ev.to hd (by simp))
      rw [hb]
      simp only [ploverref02_digits.l0]
      have hne : ¬ sgn neg u = 0 := by unfold sgn; split <;> omega
      rw [if_neg hne]
      cases neg with
      | true =>
        have em : Int.tmod (sgn true u) 10 = -((u % 10 : Nat) : Int) := by unfold sgn; rw [if_pos rfl, Int.neg_tmod, Int.tmod_eq_emod_of_nonneg (by omega)]; omega
        have ed : Int.tdiv (sgn true u) 10 = sgn true (u / 10) := by unfold sgn; rw [if_pos rfl, if_pos rfl, Int.neg_tdiv, Int.tdiv_eq_ediv_of_nonneg (by omega)]; omega
        have eb : -9223372036854775808 ≤ sgn true (u / 10) ∧ sgn true (u / 10) ≤ 9223372036854775807 := by unfold sgn; rw [if_pos rfl]; omega
        rw [em, ed, w64 eb.1 eb.2]
        by_cases hz : u % 10 = 0
        · have e0 : (wrap64 (48 + -((0 : Nat) : Int))) % 256 = 48 + ((0 : Nat) : Int) := by unfold wrap64; omega
          rw [if_neg (by omega), if_pos (by rw [nm_len]; omega), hz, e0]
        · rw [if_pos (by omega), if_pos (by rw [nm_len]; omega), w64 (n := - -((u % 10 : Nat) : Int)) (by omega) (by omega), w64 (n := 48 + - -((u % 10 : Nat) : Int)) (by omega) (by omega), show (48 + - -((u % 10 : Nat) : Int)) % 256 = 48 + ((u % 10 : Nat) : Int) by omega]
      | false =>
        have em : Int.tmod (sgn false u) 10 = ((u % 10 : Nat) : Int) := by unfold sgn; rw [if_neg (by decide), Int.tmod_eq_emod_of_nonneg (by omega)]; omega
        have ed : Int.tdiv (sgn false u) 10 = sgn false (u / 10) := by unfold sgn; rw [if_neg (by decide), if_neg (by decide), Int.tdiv_eq_ediv_of_nonneg (by omega)]; omega
        have h1f := h1' rfl
        have eb : -9223372036854775808 ≤ sgn false (u / 10) ∧ sgn false (u / 10) ≤ 9223372036854775807 := by unfold sgn; rw [if_neg (by decide)]; omega
        rw [em, ed, w64 eb.1 eb.2, if_neg (by omega), if_pos (by rw [nm_len]; omega), w64 (n := 48 + ((u % 10 : Nat) : Int)) (by omega) (by omega), show (48 + ((u % 10 : Nat) : Int)) % 256 = 48 + ((u % 10 : Nat) : Int) by omega]
theorem digits_ev (n : Int) (h0 : -9223372036854775808 ≤ n) (h1 : n ≤ 9223372036854775807) : Ev (fun k => ploverref02_digits.f k n) (⟨(itoa n).toArray⟩ : ByteArray) := by
  unfold ploverref02_digits.f
  by_cases hz : n = 0
  · subst hz
    refine Ev.congr (fun k => if_pos rfl) ?_
    rw [itoa_pos (by decide)]
    rw [show (0 : Int).toNat = 0 from rfl, dd_small (by decide)]
    exact Ev.now _
  · refine Ev.congr (fun k => if_neg hz) ?_
    by_cases hn : n < 0
    · have := low_ev n 20 n.natAbs true [] (by omega) (fun h => by cases h) (by simp [hn]) (Nat.lt_of_le_of_lt (show n.natAbs ≤ 9223372036854775808 by omega) (by decide)) (by simp)
      have e : sgn true n.natAbs = n := by unfold sgn; rw [if_pos rfl]; omega
      rw [e] at this
      refine Ev.to this ?_
      rw [itoa_neg hn, if_neg (by omega), if_pos rfl]
      simp
    · have := low_ev n 20 n.toNat false [] (by omega) (fun _ => by omega) (by simp [hn]) (Nat.lt_of_le_of_lt (show n.toNat ≤ 9223372036854775807 by omega) (by decide)) (by simp)
      have e : sgn false n.toNat = n := by unfold sgn; rw [if_neg (by decide)]; omega
      rw [e] at this
      refine Ev.to this ?_
      rw [itoa_pos hn, if_neg (by omega), if_neg (by decide)]
      simp
theorem data_ext {a b : ByteArray} (h : a.data.toList = b.data.toList) : a = b := by
  cases a; cases b
  simp at h
  rw [h]
theorem ba_app (a b : List UInt8) : (⟨a.toArray⟩ : ByteArray) ++ ⟨b.toArray⟩ = ⟨(a ++ b).toArray⟩ := data_ext (by rw [Giv.data_app])
theorem bytes_ev (n : Nat) : ∀ (v : V), wt v ≤ n → n ≤ 1099511627776 → okV v = true → ∃ b : List UInt8, Ev (fun k => ploverref02_bytes.f k v.f0 v.f1 v.f2 v.f3) (⟨b.toArray⟩ : ByteArray) ∧ ((enc v).length ≤ 65536 → b = enc v) ∧ (65536 < (enc v).length → 65536 < b.length) ∧ b.length ≤ wt v := by
  induction n with
  | zero => intro v h; have := wt_eq v; omega
  | succ n ih =>
    intro v hw hb ho
    have hz := wt_eq v
    have hll := wts_len v.f3
    obtain ⟨o1, o2, o3⟩ := (okV_iff v).1 ho
    have hds := data_size v.f2
    rw [enc_eq]
    by_cases c1 : v.f0 = 1
    · rw [if_pos c1]
      have hl := itoa_len o1 o2
      refine ⟨105 :: (itoa v.f1 ++ [101]), Ev.step (f := fun k => (ploverref02_digits.f k v.f1).bind fun t => if 1 + t.size ≤ 9223372036854775807 then (if ((⟨#[105]⟩ : ByteArray) ++ t).size + 1 ≤ 9223372036854775807 then some (((⟨#[105]⟩ : ByteArray) ++ t) ++ (⟨#[101]⟩ : ByteArray)) else none) else none) (fun k => ?_) (Ev.bind (digits_ev _ o1 o2) ?_), fun _ => rfl, fun h => h, by simp; omega⟩
      · simp only [ploverref02_bytes.f]; rw [if_pos c1]
      · have hsz : (⟨(itoa v.f1).toArray⟩ : ByteArray).size = (itoa v.f1).length := by show ((itoa v.f1).toArray).size = _; simp
        refine Ev.congr (fun k => ?_) (Ev.now _)
        rw [if_pos (by rw [hsz]; omega), if_pos (by rw [ByteArray.size_append, hsz]; show 1 + _ + 1 ≤ _; omega)]
        rw [show (⟨#[105]⟩ : ByteArray) = ⟨[105].toArray⟩ from rfl, show (⟨#[101]⟩ : ByteArray) = ⟨[101].toArray⟩ from rfl, ba_app, ba_app]
        rfl
    · rw [if_neg c1]
      by_cases c2 : v.f0 = 2
      · rw [if_pos c2]
        have hd := dd_any v.f2.size
        have hit : itoa (v.f2.size : Int) = decDigits v.f2.size := by rw [itoa_pos (by omega), Int.toNat_natCast]
        refine ⟨itoa (v.f2.size : Int) ++ (58 :: v.f2.data.toList), Ev.step (f := fun k => (ploverref02_digits.f k (v.f2.size : Int)).bind fun t => if t.size + 1 ≤ 9223372036854775807 then (if (t ++ (⟨#[58]⟩ : ByteArray)).size + v.f2.size ≤ 9223372036854775807 then some ((t ++ (⟨#[58]⟩ : ByteArray)) ++ v.f2) else none) else none) (fun k => ?_) (Ev.bind (digits_ev _ (by omega) (by omega)) ?_), fun _ => rfl, fun h => h, by rw [hit]; simp only [List.length_append, List.length_cons, hds]; omega⟩
        · simp only [ploverref02_bytes.f]; rw [if_neg c1, if_pos c2]
        · have hsz : (⟨(itoa (v.f2.size : Int)).toArray⟩ : ByteArray).size = (decDigits v.f2.size).length := by rw [hit]; show ((decDigits v.f2.size).toArray).size = _; simp
          refine Ev.congr (fun k => ?_) (Ev.now _)
          rw [if_pos (by rw [hsz]; omega), if_pos (by rw [ByteArray.size_append, hsz]; show _ + 1 + _ ≤ _; omega)]
          refine congrArg some (data_ext ?_)
          rw [Giv.data_app, Giv.data_app]
          simp
      · rw [if_neg c2]
        have loop : ∀ (d i : Nat) (out : List UInt8), v.f3.length - i ≤ d → i ≤ v.f3.length → out.length + wts (v.f3.drop i) ≤ wt v - 1 → 1 ≤ out.length →
            ∃ b : List UInt8, Ev (fun k => ploverref02_bytes.l0 k (nm out) (i : Int) v.f0 v.f1 v.f2 v.f3) (⟨b.toArray⟩ : ByteArray) ∧ ((out ++ encs (v.f3.drop i) ++ [101]).length ≤ 65536 → b = out ++ encs (v.f3.drop i) ++ [101]) ∧ (65536 < (out ++ encs (v.f3.drop i) ++ [101]).length → 65536 < b.length) ∧ b.length ≤ wt v := by
          intro d
          have fin : ∀ (i : Nat) (out : List UInt8), out.length + wts (v.f3.drop i) ≤ wt v - 1 → (∀ k, ploverref02_bytes.l0 (k + 1) (nm out) (i : Int) v.f0 v.f1 v.f2 v.f3 = if (nm out).length < 140737488355328 then some (strOfNums (nm out ++ [101])) else none) → Ev (fun k => ploverref02_bytes.l0 k (nm out) (i : Int) v.f0 v.f1 v.f2 v.f3) (⟨(out ++ [101]).toArray⟩ : ByteArray) := by
            intro i out h1 h2
            refine Ev.step (f := fun _ => some (⟨(out ++ [101]).toArray⟩ : ByteArray)) (fun k => ?_) (Ev.now _)
            rw [h2 k, if_pos (by rw [nm_len]; omega), ← str_nm, nm_app]
            rfl
          induction d with
          | zero =>
            intro i out h1 h2 h3 h4
            refine ⟨out ++ [101], fin i out h3 (fun k => ?_), ?_, ?_, by simp; omega⟩
            · simp only [ploverref02_bytes.l0]; rw [if_neg (by omega)]
            all_goals rw [List.drop_of_length_le (by omega), encs_nil, List.append_nil]
            · exact fun _ => rfl
            · exact fun h => h
          | succ d ihd =>
            intro i out h1 h2 h3 h4
            by_cases hlt : i < v.f3.length
            · by_cases hm : out.length ≤ 65536
              · have hmem : v.f3[i] ∈ v.f3 := List.getElem_mem hlt
                have hwm := wt_mem hmem
                rw [List.drop_eq_getElem_cons hlt, wts_cons] at h3
                obtain ⟨x, hx, x1, x2, x3⟩ := ih v.f3[i] (by omega) (by omega) (okV_mem hmem o3)
                obtain ⟨b, hb', b1, b2, b3⟩ := ihd (i + 1) (out ++ x) (by omega) (by omega) (by simp; omega) (by simp; omega)
                refine ⟨b, Ev.step (f := fun k => (ploverref02_bytes.f k v.f3[i].f0 v.f3[i].f1 v.f3[i].f2 v.f3[i].f3).bind fun t => if (nm out).length + t.size < 140737488355328 then ploverref02_bytes.l0 k (nm out ++ bytesOf t) ((i + 1 : Nat) : Int) v.f0 v.f1 v.f2 v.f3 else none) (fun k => ?_) (Ev.bind hx ?_), ?_, ?_, b3⟩
                · simp only [ploverref02_bytes.l0]
                  rw [if_pos (by omega), if_pos (by rw [nm_len]; omega), if_pos (by omega), rd_at _ _ hlt, w64 (n := (i : Int) + 1) (by omega) (by omega)]
                  rfl
                · have hsz : (⟨x.toArray⟩ : ByteArray).size = x.length := by show (x.toArray).size = _; simp
                  refine Ev.congr (fun k => if_pos (by rw [nm_len, hsz]; omega)) ?_
                  rw [bytesOf_nm, ← nm_app]
                  simpa using hb'
                · rw [List.drop_eq_getElem_cons hlt, encs_cons]
                  intro h
                  simp only [List.length_append, List.length_singleton] at h b1
                  have e := x1 (by omega)
                  subst e
                  rw [b1 (by omega)]
                  simp
                · rw [List.drop_eq_getElem_cons hlt, encs_cons]
                  intro h
                  simp only [List.length_append, List.length_singleton] at h b1 b2
                  by_cases hl : (enc v.f3[i]).length ≤ 65536
                  · have e := x1 hl
                    subst e
                    exact b2 (by omega)
                  · have := x2 (by omega)
                    exact b2 (by omega)
              · refine ⟨out ++ [101], fin i out h3 (fun k => ?_), ?_, ?_, by simp; omega⟩
                · simp only [ploverref02_bytes.l0]; rw [if_pos (by omega), if_neg (by rw [nm_len]; omega)]
                · intro h; simp only [List.length_append] at h; omega
                · intro _; simp; omega
            · refine ⟨out ++ [101], fin i out h3 (fun k => ?_), ?_, ?_, by simp; omega⟩
              · simp only [ploverref02_bytes.l0]; rw [if_neg (by omega)]
              all_goals rw [List.drop_of_length_le (by omega), encs_nil, List.append_nil]
              · exact fun _ => rfl
              · exact fun h => h
        obtain ⟨b, b0, b1, b2, b3⟩ := loop v.f3.length 0 [108] (by omega) (by omega) (by rw [List.drop_zero]; simp; omega) (by simp)
        rw [List.drop_zero] at b1 b2
        refine ⟨b, Ev.step (f := fun k => ploverref02_bytes.l0 k (nm [108]) ((0 : Nat) : Int) v.f0 v.f1 v.f2 v.f3) (fun k => ?_) b0, b1, b2, b3⟩
        simp only [ploverref02_bytes.f]
        rw [if_neg c1, if_neg c2]
        rfl
theorem refPut_ev (v : V) (hw : wt v ≤ 1000000000) (ho : okV v = true) : Ev (fun k => ploverref02_Put.f k v.f0 v.f1 v.f2 v.f3) (putM v) := by
  unfold ploverref02_Put.f
  refine Ev.bind (kinds_ev _ v (Nat.le_refl _) (by omega)) ?_
  unfold putM
  rw [chk_top]
  by_cases hk : kin v = true
  · rw [if_pos hk]
    refine Ev.congr (fun k => if_pos hk) ?_
    refine Ev.bind (deep_ev _ v (Nat.le_refl _) (by omega)) ?_
    by_cases hd : 8 < dep v
    · rw [if_pos hd, if_neg (by decide)]
      exact Ev.congr (fun k => if_pos (by omega)) (Ev.now _)
    · rw [if_neg hd, if_pos rfl]
      refine Ev.congr (fun k => if_neg (by omega)) ?_
      obtain ⟨b, b0, b1, b2, b3⟩ := bytes_ev _ v (Nat.le_refl _) (by omega) ho
      refine Ev.bind b0 ?_
      have hsz : (⟨b.toArray⟩ : ByteArray).size = b.length := by show (b.toArray).size = _; simp
      by_cases hl : (enc v).length ≤ 65536
      · rw [if_pos hl]
        have e := b1 hl
        refine Ev.congr (fun k => if_neg (by rw [hsz, e]; omega)) ?_
        rw [e]
        exact Ev.now _
      · rw [if_neg hl]
        have := b2 (by omega)
        exact Ev.congr (fun k => if_pos (by rw [hsz]; omega)) (Ev.now _)
  · rw [if_neg hk, if_neg (by decide)]
    exact Ev.congr (fun k => if_neg hk) (Ev.now _)
end Go.Proofs.YthlkcfjodmhhmaaDoor.Pure
namespace Go.Proofs.YthlkcfjodmhhmaaDoor.Pure
open Go.RowKit Go.Lib Go.Proofs.YthlkcfjodmhhmaaDoor.Giv Go.Proofs.YthlkcfjodmhhmaaDoor.P Go.Proofs.YthlkcfjodmhhmaaDoorW.PrintWords Go.Proofs.YthlkcfjodmhhmaaDoorW.PrintLast Go.Proofs.YthlkcfjodmhhmaaDoorW.PrintMore
set_option linter.unusedVariables false
set_option linter.unusedSimpArgs false
theorem V_eta (x : V) : (⟨x.f0, x.f1, x.f2, x.f3⟩ : V) = x := by cases x; rfl
abbrev Q6 := Int × Int × ByteArray × List V × Int × Int
def RdR (g : Nat → Option Q6) (R : Int × V × Nat) : Prop := ∃ q : Q6, Ev g q ∧ (R.1 = 0 → q = (R.2.1.f0, R.2.1.f1, R.2.1.f2, R.2.1.f3, (R.2.2 : Int), 0)) ∧ (R.1 ≠ 0 → q.2.2.2.2.2 = R.1)
theorem RdR.step {g f : Nat → Option Q6} {R : Int × V × Nat} (h : ∀ k, g (k + 1) = f k) (hf : RdR f R) : RdR g R := by
  obtain ⟨q, hq, h1, h2⟩ := hf
  exact ⟨q, Ev.step h hq, h1, h2⟩
theorem take_yes {s : ByteArray} (h : s.size ≤ 1099511627776) : benc_Take.f s = some (flat (takeM s)) := by unfold benc_Take.f; rw [if_pos h]
theorem put_yes {v : V} (h : fitV v = true) : benc_Put.f v.f0 v.f1 v.f2 v.f3 = some (putM v) := by unfold benc_Put.f; rw [V_eta]; exact if_pos h
def onlyM (s : ByteArray) : V × Int := if (takeM s).2.2 = 0 then (if (takeM s).2.1 < (s.size : Int) then (zV, 20) else ((takeM s).1, 0)) else (zV, (takeM s).2.2)
def flat5 (T : V × Int) : Int × Int × ByteArray × List V × Int := (T.1.f0, T.1.f1, T.1.f2, T.1.f3, T.2)
theorem only_yes {s : ByteArray} (h : s.size ≤ 1099511627776) : benc_Only.f s = some (flat5 (onlyM s)) := by
  unfold benc_Only.f onlyM
  rw [take_yes h]
  generalize takeM s = T
  obtain ⟨v, n, e⟩ := T
  simp only [flat, Option.bind_some]
  by_cases c : e = 0
  · rw [if_pos c, if_pos c]
    by_cases c2 : n < (s.size : Int)
    · rw [if_pos c2, if_pos c2]; rfl
    · rw [if_neg c2, if_neg c2]; rfl
  · rw [if_neg c, if_neg c]; rfl
end Go.Proofs.YthlkcfjodmhhmaaDoor.Pure
namespace Go.Proofs.YthlkcfjodmhhmaaDoor
open Go.RowKit
def Veil (p : Prop) : Prop := Unit → p
theorem Veil.out {p : Prop} (h : Veil p) : p := h ()
def Blk (w : World) (b : Nat) (c : Array Value) (t : TypeId) : Prop := w.heap[b]? = some (.cells c t (0, 0))
theorem Blk.lt {w : World} {b : Nat} {c : Array Value} {t : TypeId} (h : Blk w b c t) : b < w.heap.size := (Array.getElem?_eq_some_iff.1 h).1
theorem Blk.cell {w : World} {b : Nat} {c : Array Value} {t : TypeId} (h : Blk w b c t) (i : Nat) : w.cell? ⟨b, i, none⟩ = c[i]? := by
  unfold Blk at h
  simp [World.cell?, h]
theorem Blk.free {w : World} {b : Nat} {c : Array Value} {t : TypeId} (h : Blk w b c t) (i : Nat) : w.frozen? ⟨b, i, none⟩ = false := by
  unfold Blk at h
  simp [World.frozen?, h]
theorem Blk.new (w : World) (c : Array Value) (t : TypeId) : Blk (w.alloc (.cells c t)) w.heap.size c t := by
  show (w.heap.push _)[w.heap.size]? = _
  rw [Array.getElem?_push, if_pos rfl]
theorem Blk.alloc {w : World} {b : Nat} {c : Array Value} {t : TypeId} (h : Blk w b c t) (o : Obj) : Blk (w.alloc o) b c t := by
  have := h.lt
  unfold Blk at *
  rw [Below.heap_alloc _ _ _ this]; exact h
theorem Blk.drew {w : World} {b : Nat} {c : Array Value} {t : TypeId} (h : Blk w b c t) : Blk w.drew b c t := h
theorem Blk.set {w : World} {b : Nat} {c : Array Value} {t : TypeId} (h : Blk w b c t) (i : Nat) (v : Value) : Blk (w.setCell ⟨b, i, none⟩ v) b (c.setIfInBounds i v) t := by
  unfold Blk at *
  simp [World.setCell, Array.getElem?_modify, h]
theorem Blk.below {w w' : World} {B b : Nat} {c : Array Value} {t : TypeId} (h : Blk w b c t) (hb : Below B w w') (hB : b < B) : Blk w' b c t := by
  unfold Blk at *
  rw [hb.block b hB]; exact h
def BlkM (w : World) (b : Nat) (c : Array Value) (t : TypeId) (f : Nat × Nat) : Prop := w.heap[b]? = some (.cells c t f)
theorem BlkM.lt {w : World} {b : Nat} {c : Array Value} {t : TypeId} {f : Nat × Nat} (h : BlkM w b c t f) : b < w.heap.size := (Array.getElem?_eq_some_iff.1 h).1
theorem BlkM.cell {w : World} {b : Nat} {c : Array Value} {t : TypeId} {f : Nat × Nat} (h : BlkM w b c t f) (i : Nat) : w.cell? ⟨b, i, none⟩ = c[i]? := by
  unfold BlkM at h
  simp [World.cell?, h]
theorem BlkM.free {w : World} {b : Nat} {c : Array Value} {t : TypeId} {f : Nat × Nat} (h : BlkM w b c t f) {i : Nat} (hi : i < f.1) : w.frozen? ⟨b, i, none⟩ = false := by
  unfold BlkM at h
  simp [World.frozen?, h]
  omega
theorem BlkM.new (w : World) (c : Array Value) (t : TypeId) (f : Nat × Nat) : BlkM (w.alloc (.cells c t f)) w.heap.size c t f := by
  show (w.heap.push _)[w.heap.size]? = _
  rw [Array.getElem?_push, if_pos rfl]
theorem BlkM.alloc {w : World} {b : Nat} {c : Array Value} {t : TypeId} {f : Nat × Nat} (h : BlkM w b c t f) (o : Obj) : BlkM (w.alloc o) b c t f := by
  have := h.lt
  unfold BlkM at *
  rw [Below.heap_alloc _ _ _ this]; exact h
theorem BlkM.drew {w : World} {b : Nat} {c : Array Value} {t : TypeId} {f : Nat × Nat} (h : BlkM w b c t f) : BlkM w.drew b c t f := h
theorem BlkM.set {w : World} {b : Nat} {c : Array Value} {t : TypeId} {f : Nat × Nat} (h : BlkM w b c t f) (i : Nat) (v : Value) : BlkM (w.setCell ⟨b, i, none⟩ v) b (c.setIfInBounds i v) t f := by
  unfold BlkM at *
  simp [World.setCell, Array.getElem?_modify, h]
theorem BlkM.below {w w' : World} {B b : Nat} {c : Array Value} {t : TypeId} {f : Nat × Nat} (h : BlkM w b c t f) (hb : Below B w w') (hB : b < B) : BlkM w' b c t f := by
  unfold BlkM at *
  rw [hb.block b hB]; exact h
def Later (w : World) : Type := { v : World // Below w.heap.size w v }
instance (w : World) : Nonempty (Later w) := ⟨⟨w, Below.refl _ _⟩⟩
theorem Later.call {P : Program} {f : FuncId} {args : Array Value} {w : World} {v : Value} {x : Later w}
    (h : Calls P f args x.1 fun e w' => e = .returned v ∧ Below x.1.heap.size x.1 w') : Calls P f args x.1 fun e w' => e = .returned v ∧ ∃ y : Later w, w' = y.1 :=
  h.mono fun _ w' ⟨he, hb⟩ => ⟨he, ⟨w', x.2.trans (hb.mono x.2.size)⟩, rfl⟩
theorem Later.cell {w : World} (x : Later w) {p : Addr} (hp : p.block < w.heap.size) : x.1.cell? p = w.cell? p := x.2.cell hp
end Go.Proofs.YthlkcfjodmhhmaaDoor
namespace Go.Proofs.YthlkcfjodmhhmaaDoor.Pure
open Go.RowKit Go.Lib Go.Proofs.YthlkcfjodmhhmaaDoor.Giv Go.Proofs.YthlkcfjodmhhmaaDoor.P Go.Proofs.YthlkcfjodmhhmaaDoorW.PrintWords Go.Proofs.YthlkcfjodmhhmaaDoorW.PrintLast Go.Proofs.YthlkcfjodmhhmaaDoorW.PrintMore
set_option linter.unusedVariables false
set_option linter.unusedSimpArgs false
theorem fit_of {v : V} (ho : okV v = true) (hw : wt v ≤ 70368744177664) : fitV v = true := by unfold fitV; rw [ho, decide_eq_true hw]; rfl
theorem bytes_lit (l : List UInt8) : (⟨l.toArray⟩ : ByteArray).data.toList = l := by simp
theorem putM_of {v : V} (hk : kin v = true) (hd : dep v ≤ 8) (hl : (enc v).length ≤ 65536) : putM v = (⟨(enc v).toArray⟩, 0) := by
  have e : chk v 0 = 0 := by rw [chk_top, if_pos hk, if_neg (show ¬ 8 < dep v by omega)]
  unfold putM
  rw [if_pos e, if_pos hl]
theorem takeM_back {v : V} (hk : kin v = true) (ho : okV v = true) (hd : dep v ≤ 8) (hl : (enc v).length ≤ 65536) (rest : List UInt8) : takeM ⟨(enc v ++ rest).toArray⟩ = (nrm v, ((enc v).length : Int), 0) := by
  have hb := back (wt v) v (Nat.le_refl _) hk ho (tok_of_len v (by omega)) 8 hd rest
  unfold takeM
  rw [bytes_lit, hb]
  simp only [if_true]
  rw [if_pos hl]
def v0 : V := lisV [intV 12, strV ⟨#[97, 98]⟩]
end Go.Proofs.YthlkcfjodmhhmaaDoor.Pure
namespace Go.Proofs.YthlkcfjodmhhmaaDoor.Dd
open Go.RowKit Go.Lib Go.Proofs.YthlkcfjodmhhmaaDoor.Giv Go.Proofs.YthlkcfjodmhhmaaDoor.Pure Go.Proofs.YthlkcfjodmhhmaaDoorW.PrintWords Go.Proofs.YthlkcfjodmhhmaaDoorW.PrintLast Go.Proofs.YthlkcfjodmhhmaaDoorW.PrintMore
set_option linter.unusedVariables false
set_option linter.unusedSimpArgs false
def okE (x : Ent) : Prop := 0 ≤ x.s ∧ x.s ≤ 1099511627776 ∧ 0 ≤ x.e ∧ x.e ≤ 255 ∧ (x.s = 0 → x = zE)
def okT (T : List Ent) : Prop := T.length = 8 ∧ ∀ x ∈ T, okE x
theorem okE_zE : okE zE := ⟨by decide, by decide, by decide, by decide, fun _ => rfl⟩
theorem okT_T0 : okT T0 := ⟨rfl, fun x hx => by
  simp only [T0, List.mem_cons, List.not_mem_nil, or_false, or_self] at hx
  exact hx ▸ okE_zE⟩
theorem okT_put {T : List Ent} (h : okT T) (c s e : Int) (b : Bool) : okT (putT T c s e b).1 := by
  unfold putT
  split
  · rename_i hc
    split
    · exact h
    · refine ⟨by rw [List.length_set]; exact h.1, fun x hx => ?_⟩
      obtain ⟨m0, m1, m2, m3⟩ := mayM_iff.1 hc.1
      rcases List.mem_or_eq_of_mem_set hx with hx | rfl
      · exact h.2 x hx
      · exact ⟨by show (0 : Int) ≤ s; omega, m3, hc.2.1, hc.2.2, fun hz => by have : s = 0 := hz; omega⟩
  · exact h
theorem wi (b : Bool) : (if b = true then (1 : Int) else 0) = 0 ∨ (if b = true then (1 : Int) else 0) = 1 := by cases b <;> simp
theorem row_facts (k : Int) (x : Ent) (hk0 : 0 ≤ k) (hk : k ≤ 100) (h : okE x) : wt (rowV k x) = 150 ∧ okV (rowV k x) = true ∧ kin (rowV k x) = true ∧ dep (rowV k x) = 1 ∧ (enc (rowV k x)).length ≤ 90 ∧ nrm (rowV k x) = rowV k x := by
  obtain ⟨h0, h1, h2, h3, _⟩ := h
  have hw := wi x.w
  have hL : (fun n => wt (intV n)) = fun _ => 30 := by funext n; rw [wt_eq]; simp [intV, wts_nil]; rfl
  have hI : ∀ n, wt (intV n) = 30 := fun n => congrFun hL n
  have i1 := itoa_len (n := k) (by omega) (by omega)
  have i2 := itoa_len (n := x.s) (by omega) (by omega)
  have i3 := itoa_len (n := x.e) (by omega) (by omega)
  have i4 := itoa_len (n := if x.w = true then (1 : Int) else 0) (by omega) (by omega)
  unfold rowV
  refine ⟨?_, ?_, ?_, ?_, ?_, ?_⟩
  · rw [wt_eq]
    simp [lisV, wts_cons, wts_nil, hI]
    rfl
  · refine ok_lis ?_
    rw [okVs_cons, okVs_cons, okVs_cons, okVs_cons]
    exact ⟨ok_int (by omega) (by omega), ok_int (by omega) (by omega), ok_int (by omega) (by omega), ok_int (by omega) (by omega), okVs_nil⟩
  · rw [kin_lis]
    simp [kins_cons, kins_nil, kin_int]
  · rw [dep_lis]
    simp [deps_cons, deps_nil, dep_int]
  · rw [enc_lis]
    simp only [encs_cons, encs_nil, enc_int, List.length_cons, List.length_append, List.length_nil]
    omega
  · rw [nrm_eq]
    simp [lisV, nrms_cons, nrms_nil, nrm_eq, intV]
theorem rows_facts : ∀ (T : List Ent) (k : Nat), k + T.length ≤ 100 → (∀ x ∈ T, okE x) → wts (rowsM k T) ≤ 150 * T.length ∧ okVs (rowsM k T) = true ∧ kins (rowsM k T) = true ∧ deps (rowsM k T) ≤ 1 ∧ (encs (rowsM k T)).length ≤ 90 * T.length ∧ nrms (rowsM k T) = rowsM k T
  | [], k, hk, h => by simp [rowsM, wts_nil, okVs_nil, kins_nil, deps_nil, encs_nil, nrms_nil]
  | x :: T, k, hk, h => by
    rw [List.length_cons] at hk
    obtain ⟨a1, a2, a3, a4, a5, a6⟩ := rows_facts T (k + 1) (by omega) (fun y hy => h y (.tail _ hy))
    obtain ⟨b1, b2, b3, b4, b5, b6⟩ := row_facts (k : Int) x (by omega) (by omega) (h x (.head _))
    rw [rowsM]
    split
    · refine ⟨by rw [List.length_cons]; omega, a2, a3, a4, by rw [List.length_cons]; omega, a6⟩
    · rw [wts_cons, okVs_cons, kins_cons, deps_cons, encs_cons, nrms_cons, List.length_cons, List.length_append, b1, b3, b4, a3, a6, b6]
      exact ⟨by omega, ⟨b2, a2⟩, rfl, by omega, by omega, rfl⟩
theorem tab_facts {T : List Ent} (h : okT T) : wt (tabV T) ≤ 2000 ∧ okV (tabV T) = true ∧ kin (tabV T) = true ∧ dep (tabV T) ≤ 2 ∧ (enc (tabV T)).length ≤ 800 ∧ nrm (tabV T) = tabV T := by
  obtain ⟨a1, a2, a3, a4, a5, a6⟩ := rows_facts T 0 (by rw [h.1]; decide) h.2
  rw [h.1] at a1 a5
  unfold tabV
  refine ⟨?_, ok_lis a2, by rw [kin_lis]; exact a3, by rw [dep_lis]; omega, ?_, ?_⟩
  · rw [wt_eq]
    show 30 + 2 * 0 + wts (rowsM 0 T) ≤ 2000
    omega
  · rw [enc_lis]
    simp only [List.length_cons, List.length_append, List.length_nil]
    omega
  · rw [nrm_eq]
    show lisV (nrms (rowsM 0 T)) = _
    rw [a6]
theorem tab_put {T : List Ent} (h : okT T) : benc_Put.f 3 0 ⟨#[]⟩ (rowsM 0 T) = some (textM T, 0) := by
  obtain ⟨a1, a2, a3, a4, a5, a6⟩ := tab_facts h
  rw [show benc_Put.f 3 0 ⟨#[]⟩ (rowsM 0 T) = some (putM (tabV T)) from put_yes (v := tabV T) (fit_of a2 (by omega)), putM_of a3 (by omega) (by omega)]
  rfl
theorem textM_size {T : List Ent} (h : okT T) : (textM T).size ≤ 800 := by
  have := (tab_facts h).2.2.2.2.1
  unfold textM
  simpa [ByteArray.size] using this
theorem textM_list (T : List Ent) : (textM T).toList = enc (tabV T) := by rw [toList_data]; unfold textM; simp
theorem only_back {T : List Ent} (h : okT T) : onlyM (textM T) = (tabV T, 0) := by
  obtain ⟨a1, a2, a3, a4, a5, a6⟩ := tab_facts h
  have := takeM_back a3 a2 (by omega) (by omega) []
  rw [List.append_nil, a6] at this
  unfold onlyM
  rw [show takeM (textM T) = _ from this]
  have e : (textM T).size = (enc (tabV T)).length := by unfold textM; simp [ByteArray.size]
  simp [e]
end Go.Proofs.YthlkcfjodmhhmaaDoor.Dd
namespace Go.Proofs.YthlkcfjodmhhmaaDoor.Dd
open Go.RowKit Go.Lib Go.Proofs.YthlkcfjodmhhmaaDoor.Giv Go.Proofs.YthlkcfjodmhhmaaDoor.Pure Go.Proofs.YthlkcfjodmhhmaaDoorW.PrintWords Go.Proofs.YthlkcfjodmhhmaaDoorW.PrintLast Go.Proofs.YthlkcfjodmhhmaaDoorW.PrintMore
set_option linter.unusedVariables false
set_option linter.unusedSimpArgs false
def ofS (T : List Ent) (x : V) : List Ent × Int := putT T (P.rd_T66 x.f3 0).f1 (P.rd_T66 x.f3 1).f1 (P.rd_T66 x.f3 2).f1 ((P.rd_T66 x.f3 3).f1 == 1)
def ofL : List V → List Ent → Option (List Ent)
  | [], T => some T
  | x :: xs, T => if x.f3.length = 4 then (if (ofS T x).2 = 0 then ofL xs (ofS T x).1 else none) else none
theorem R_but {d : Kd V} {e : Nat} {w w' : World} {base g : Nat} {v : Value} {xs : List V} (h : d.R e w base (fun k => k ≠ g) v xs) (hb : But g w w') : d.R e w' base (fun k => k ≠ g) v xs := by
  refine Kd.R_mono (Kd.R_move (Kd.R_bound h) (fun k hk => ?_)) (fun k hk => hk.1)
  obtain ⟨h1, h2, h3, _⟩ := hk
  have : w.heap[k]? = some w.heap[k] := Array.getElem?_eq_getElem h3
  rw [this]
  exact hb.2 k _ h1 this
theorem cells4 {w : World} {g t : Nat} {a b c d : Value} (h : w.heap[g]? = some (.cells #[a, b, c, d] t (0, 0))) : w.cell? ⟨g, 0, none⟩ = some a ∧ w.cell? ⟨g, 1, none⟩ = some b ∧ w.cell? ⟨g, 2, none⟩ = some c ∧ w.cell? ⟨g, 3, none⟩ = some d :=
  ⟨blk_cell h 0, blk_cell h 1, blk_cell h 2, blk_cell h 3⟩
theorem R_at {w : World} {base : Nat} {ok : Nat → Prop} {v : Value} {xs : List V} (h : Kd.R P.k66 66 w base ok v xs) (i : Nat) (x : V) (hx : xs[i]? = some x) :
    ∃ g0 c0 v3, v = .slice (some ⟨g0, 0, none⟩) xs.length c0 ∧ ok g0 ∧ w.cell? ⟨g0, i * 4, none⟩ = some (.int .i64 x.f0) ∧ w.cell? ⟨g0, i * 4 + 1, none⟩ = some (.int .i64 x.f1) ∧ w.cell? ⟨g0, i * 4 + 2, none⟩ = some (.string x.f2) ∧ w.cell? ⟨g0, i * 4 + 3, none⟩ = some v3 ∧ Kd.R P.k66 66 w base ok v3 x.f3 := by
  obtain ⟨hok, inner, ⟨hl, hv⟩, hr⟩ := h
  have hi : i < xs.length := (List.getElem?_eq_some_iff.1 hx).1
  rcases hv with ⟨_, h0⟩ | ⟨g0, cap, cur, rfl, hg, hh, h1, h2, h3, h4⟩
  · omega
  · have hm := hr.2 i x hx
    obtain ⟨v3, he, hR⟩ := P.k66_openM hm
    have hsz : P.k66.sz = 4 := rfl
    rw [hsz] at he h4 hl h3
    have c : ∀ j u, [Value.int .i64 x.f0, .int .i64 x.f1, .string x.f2, v3][j]? = some u → w.cell? ⟨g0, i * 4 + j, none⟩ = some u := by
      intro j u hu
      rw [← he] at hu
      have hj : j < 4 := by
        have := (List.getElem?_eq_some_iff.1 hu).1
        rw [List.length_take] at this
        omega
      rw [List.getElem?_take_of_lt hj, List.getElem?_drop, ← h4, List.getElem?_take_of_lt (by omega)] at hu
      rw [blk_cell hh, ← hu, Array.getElem?_toList]
    exact ⟨g0, cap, v3, rfl, hok g0 rfl, c 0 _ rfl, c 1 _ rfl, c 2 _ rfl, c 3 _ rfl, Kd.R_mono hR (fun k hk => hk.1)⟩
theorem four_cells {w : World} {base : Nat} {ok : Nat → Prop} {v : Value} {l : List V} (h : Kd.R P.k66 66 w base ok v l) (h4 : l.length = 4) : ∃ b c, v = .slice (some ⟨b, 0, none⟩) 4 c ∧ ok b ∧ w.cell? ⟨b, 1, none⟩ = some (.int .i64 (P.rd_T66 l 0).f1) ∧ w.cell? ⟨b, 5, none⟩ = some (.int .i64 (P.rd_T66 l 1).f1) ∧ w.cell? ⟨b, 9, none⟩ = some (.int .i64 (P.rd_T66 l 2).f1) ∧ w.cell? ⟨b, 13, none⟩ = some (.int .i64 (P.rd_T66 l 3).f1) := by
  match l, h4 with
  | [a0, a1, a2, a3], _ =>
    obtain ⟨g0, c0, _, rfl, k0, _, u0, _⟩ := R_at h 0 a0 rfl
    obtain ⟨g1, c1, _, e1, _, _, u1, _⟩ := R_at h 1 a1 rfl
    obtain ⟨g2, c2, _, e2, _, _, u2, _⟩ := R_at h 2 a2 rfl
    obtain ⟨g3, c3, _, e3, _, _, u3, _⟩ := R_at h 3 a3 rfl
    cases e1; cases e2; cases e3
    exact ⟨g0, c0, rfl, k0, u0, u1, u2, u3⟩
theorem Tab.drew {w : World} {g : Nat} {T : List Ent} (h : Tab w g T) : Tab w.drew g T := ⟨h.1, h.2⟩
theorem But.cell {g : Nat} {w w' : World} (h : But g w w') {k i : Nat} {v : Value} (hk : k ≠ g) (hc : w.cell? ⟨k, i, none⟩ = some v) : w'.cell? ⟨k, i, none⟩ = some v := by
  cases ho : w.heap[k]? with
  | none => unfold World.cell? at hc; simp only [ho] at hc; cases hc
  | some o =>
    have := h.2 k o hk ho
    unfold World.cell? at hc ⊢
    simp only [ho] at hc
    simp only [this]
    exact hc
def OfPost (R : Option (List Ent)) (w : World) (e : Ending) (w' : World) : Prop :=
  ∃ (v : Value) (r : Int), e = .returned (.tuple #[v, .int .i64 r]) ∧ Below w.heap.size w w' ∧ ((∃ T g, R = some T ∧ v = .pointer (some ⟨g, 0, none⟩) ∧ r = 0 ∧ w.heap.size ≤ g ∧ Tab w' g T) ∨ (R = none ∧ v = .pointer none ∧ r = 20))
set_option maxHeartbeats 8000000 in
set_option maxRecDepth 100000 in
theorem of_fail {w : World} (hL : LaidW w) (s : ByteArray) (v : V) (er : Int) (hO : P.benc_Only.f s = some (v.f0, v.f1, v.f2, v.f3, er)) (he : er ≠ 0) :
    Calls Tryd.prog 18 #[.string s] w (OfPost none w) := by
  have d0 : (er != 0) = true := bne_iff_ne.2 he
  have d1 : (er == 0) = false := beq_eq_false_iff_ne.2 he
  have HC := Aside0.mk (fun (W : World) hb => P.benc_Only.calls s v.f0 v.f1 v.f2 v.f3 er W (LaidW.below hL hb) hO)
  clear hO he
  go_enter Tryd.func18, Tryd.ntmps18
  go_wp2_with fail
  refine (HC.out w (Below.refl _ _)).mono ?_
  rintro e w1 ⟨v3, rfl, hR, hb⟩
  obtain ⟨A3, c3, rfl⟩ := Kd.R_slice hR
  have HB1 := Aside0.mk hb
  clear hR hb
  obtain ⟨z0, z1, z2, z3⟩ := cells4 (blk_new w1 (.cells #[.int .i64 v.f0, .int .i64 v.f1, .string v.f2, .slice A3 v.f3.length c3] 66))
  go_wp2_with fail
  go_returns
  exact ⟨_, _, rfl, below_alloc HB1.out _, .inr ⟨rfl, rfl, rfl⟩⟩
set_option maxHeartbeats 8000000 in
set_option maxRecDepth 100000 in
theorem of_calls {w : World} (hL : LaidW w) (s : ByteArray) (v : V) (hO : P.benc_Only.f s = some (v.f0, v.f1, v.f2, v.f3, 0)) (R : Option (List Ent)) (hR : R = match ofL v.f3 T0 with | some T => if (textM T).toList = s.toList then some T else none | none => none) :
    Calls Tryd.prog 18 #[.string s] w (OfPost R w) := by
  have HC := Aside0.mk (fun (W : World) hb => P.benc_Only.calls s v.f0 v.f1 v.f2 v.f3 0 W (LaidW.below hL hb) hO)
  have HRR := Aside0.mk hR
  clear hO hR
  go_enter Tryd.func18, Tryd.ntmps18
  go_wp2_with fail
  refine (HC.out w (Below.refl _ _)).mono ?_
  rintro e w1 ⟨v3, rfl, hV, hb⟩
  obtain ⟨A3, c3, rfl⟩ := Kd.R_slice hV
  have HB1 := Aside0.mk hb
  have HV := Aside0.mk hV
  clear hV hb
  obtain ⟨z0, z1, z2, z3⟩ := cells4 (blk_new w1 (.cells #[.int .i64 v.f0, .int .i64 v.f1, .string v.f2, .slice A3 v.f3.length c3] 66))
  go_wp2_with fail
  refine (New_calls _).mono ?_
  rintro e w2 ⟨rfl, hb2, hT2⟩
  have HT2 := Aside0.mk hT2
  have HB2 := Aside0.mk ((below_alloc HB1.out (.cells #[.int .i64 v.f0, .int .i64 v.f1, .string v.f2, .slice A3 v.f3.length c3] 66)).trans (hb2.mono (below_alloc HB1.out (.cells #[.int .i64 v.f0, .int .i64 v.f1, .string v.f2, .slice A3 v.f3.length c3] 66)).size))
  have HGE := Aside0.mk (below_alloc HB1.out (.cells #[.int .i64 v.f0, .int .i64 v.f1, .string v.f2, .slice A3 v.f3.length c3] 66)).size
  have HV2 := Aside0.mk (Kd.R_mono (Kd.R_bound (Kd.R_below (Kd.R_alloc HV.out (.cells #[.int .i64 v.f0, .int .i64 v.f1, .string v.f2, .slice A3 v.f3.length c3] 66)) (Below.refl _ _))) (ok' := fun k => k < (w1.alloc (.cells #[.int .i64 v.f0, .int .i64 v.f1, .string v.f2, .slice A3 v.f3.length c3] 66)).heap.size) (fun k hk => hk.2.2.1))
  obtain ⟨z0, z1, z2, z3⟩ := cells4 (blk_below (blk_new w1 (.cells #[.int .i64 v.f0, .int .i64 v.f1, .string v.f2, .slice A3 v.f3.length c3] 66)) hb2)
  have HV3 := Aside0.mk (Kd.R_mono (Kd.R_below HV2.out hb2) (ok' := fun k => k ≠ (w1.alloc (.cells #[.int .i64 v.f0, .int .i64 v.f1, .string v.f2, .slice A3 v.f3.length c3] 66)).heap.size) (fun k hk => Nat.ne_of_lt hk))
  clear hb2 hT2 HV HV2 HB1
  generalize (w1.alloc (.cells #[.int .i64 v.f0, .int .i64 v.f1, .string v.f2, .slice A3 v.f3.length c3] 66)).heap.size = g at *
  go_wp2_with fail
  go_loopw [21] (fun v21 wr => ∃ (i : Nat) (T : List Ent), i ≤ v.f3.length ∧ v21 = .int .i64 (i : Int) ∧ Aside0 (Tab wr g T) ∧ Aside0 (okT T) ∧ Aside0 (ofL v.f3 T0 = ofL (v.f3.drop i) T) ∧ Aside0 (Kd.R P.k66 66 wr w.heap.size (fun k => k ≠ g) (.slice A3 v.f3.length c3) v.f3) ∧ Aside0 (Below w.heap.size w wr)) (fun v21 _ => v.f3.length - (RowKit.intOf v21).toNat)
  case atStart => exact ⟨0, T0, Nat.zero_le _, rfl, HT2, ⟨okT_T0⟩, ⟨rfl⟩, HV3, HB2⟩
  case round =>
    obtain ⟨i, T, hi, rfl, HT, HO, HL, HV, HB⟩ := hrel
    clear HT2 HV3 HB2 z0 z1 z2 z3
    by_cases hlt : i < v.f3.length
    · have c0 : decide ((i : Int) < (v.f3.length : Int)) = true := decide_eq_true (by omega)
      obtain ⟨g0, c0', v4, ev, k0, y0, y1, y2, y3, hR4⟩ := R_at HV.out i v.f3[i] (List.getElem?_eq_getElem hlt)
      cases ev
      have HLS := Aside0.mk (show v.f3.drop i = v.f3[i] :: v.f3.drop (i + 1) from List.drop_eq_getElem_cons hlt)
      generalize v.f3[i] = x at *
      obtain ⟨A4, c4, rfl⟩ := Kd.R_slice hR4
      have HC4 := Aside0.mk hR4
      clear hR4
      have BX := Aside0.mk (blk_new wr (.cells #[.int .i64 x.f0, .int .i64 x.f1, .string x.f2, .slice A4 x.f3.length c4] 66))
      have HT4 := Aside0.mk (HT.out.alloc (.cells #[.int .i64 x.f0, .int .i64 x.f1, .string x.f2, .slice A4 x.f3.length c4] 66))
      have HV4 := Aside0.mk (Kd.R_alloc HV.out (.cells #[.int .i64 x.f0, .int .i64 x.f1, .string x.f2, .slice A4 x.f3.length c4] 66))
      have HB4 := Aside0.mk (below_alloc HB.out (.cells #[.int .i64 x.f0, .int .i64 x.f1, .string x.f2, .slice A4 x.f3.length c4] 66))
      obtain ⟨z0, z1, z2, z3⟩ := cells4 BX.out
      by_cases e4 : x.f3.length = 4
      · have HC5 := Kd.R_alloc HC4.out (.cells #[.int .i64 x.f0, .int .i64 x.f1, .string x.f2, .slice A4 x.f3.length c4] 66)
        obtain ⟨b4, c4', ev4, hne4, n0, n1, n2, n3⟩ := four_cells HC5 e4
        rw [e4] at ev4
        cases ev4
        obtain ⟨PX, hPX⟩ : ∃ PX, PX = ofS T x := ⟨_, rfl⟩
        have HPX := Aside0.mk hPX
        have HSX := Aside0.mk hPX.symm
        clear hPX
        unfold ofS at HSX
        have hne0 : wr.heap.size ≠ g := by have := blk_lt HT.out.2; omega
        simp only [e4] at n0 n1 n2 n3 z0 z1 z2 z3 BX HT4 HV4 HB4 y3
        have E4 := Aside0.mk e4
        clear HC5 HC4 e4
        generalize (P.rd_T66 x.f3 0).f1 = m0 at *
        generalize (P.rd_T66 x.f3 1).f1 = m1 at *
        generalize (P.rd_T66 x.f3 2).f1 = m2 at *
        generalize (P.rd_T66 x.f3 3).f1 = m3 at *
        go_wp2_with fail
        go_region_held3 (fun w' => w'.cell? ⟨wr.heap.size, 3, none⟩ = some (.slice (some ⟨b4, 0, none⟩) 4 c4) ∧ w'.cell? ⟨b4, 1, none⟩ = some (.int .i64 m0) ∧ w'.cell? ⟨b4, 5, none⟩ = some (.int .i64 m1) ∧ w'.cell? ⟨b4, 9, none⟩ = some (.int .i64 m2) ∧ w'.cell? ⟨b4, 13, none⟩ = some (.int .i64 m3)) (first | exact ⟨z3, n0, n1, n2, n3⟩ | go_keep) ((go_at_call 10; refine (put_calls (Tab.drew HT4.out) m0 m1 m2 (m3 == 1) _ PX HSX.out).mono ?_; rintro e w5 ⟨rfl, hT5, hB5⟩; have HT5 := Aside0.mk hT5; have HV5 := Aside0.mk (R_but (Kd.R_drew HV4.out) hB5); have HB5 := Aside0.mk (hB5.1 _ _ (below_drew1 HB4.out) HGE.out); have z3 := hB5.cell hne0 z3; have n0 := hB5.cell hne4 n0; have n1 := hB5.cell hne4 n1; have n2 := hB5.cell hne4 n2; have n3 := hB5.cell hne4 n3; clear hT5 hB5))
        clear z0 z1 z2 z3 y0 y1 y2 y3 n0 n1 n2 n3 BX HT4 HV4 HB4
        have HQ := Aside0.mk (show okT PX.1 by rw [HPX.out]; exact okT_put HO.out _ _ _ _)
        have HN := Aside0.mk (show ofL v.f3 T0 = if PX.2 = 0 then ofL (v.f3.drop (i + 1)) PX.1 else none by rw [HL.out, HLS.out, ofL, if_pos E4.out, HPX.out])
        clear HPX HSX E4 HLS HL
        obtain ⟨pT, pr⟩ := PX
        dsimp only at *
        have HM := Aside0.mk (Kd.C_max (Kd.R_reads' HV.out).2.2)
        have HW := Aside0.mk (show wrap64 ((i : Int) + 1) = (i : Int) + 1 from w64 (by omega) (by have := HM.out; omega))
        by_cases hr : pr = 0
        · subst hr
          go_wp2_with fail
          go_roundw
          case rel => exact ⟨i + 1, pT, by omega, by rw [HW.out]; rfl, HT5, HQ, ⟨HN.out.trans (if_pos rfl)⟩, HV5, HB5⟩
          case measure => rw [HW.out]; simp [RowKit.intOf]; omega
        · have dr : (pr != 0) = true := bne_iff_ne.2 hr
          go_wp2_with fail
          go_returns
          refine ⟨_, _, rfl, HB5.out, .inr ⟨?_, rfl, rfl⟩⟩
          rw [HRR.out, HN.out, if_neg hr]
      · have d4 : ((x.f3.length : Int) != 4) = true := bne_iff_ne.2 (by omega)
        go_wp2_with fail
        go_returns
        refine ⟨_, _, rfl, HB4.out, .inr ⟨?_, rfl, rfl⟩⟩
        rw [HRR.out, HL.out, HLS.out, ofL, if_neg e4]
    · have c0 : decide ((i : Int) < (v.f3.length : Int)) = false := decide_eq_false (by omega)
      obtain rfl : i = v.f3.length := by omega
      rw [List.drop_length] at HL
      have HPT := Aside0.mk (tab_put HO.out)
      go_wp2_with fail
      refine (text_calls HT.out (LaidW.below hL HB.out) _ _ HPT.out).mono ?_
      rintro e w5 ⟨rfl, hb5⟩
      have HT5 := Aside0.mk (HT.out.kept hb5)
      have HB5 := Aside0.mk (below_step HB.out hb5)
      clear hb5
      by_cases hs : (textM T).toList = s.toList
      · have ds : (!(textM T).toList == s.toList) = false := by rw [hs]; exact bne_self_eq_false s.toList
        go_wp2_with fail
        go_returns
        refine ⟨_, _, rfl, HB5.out, .inl ⟨T, g, ?_, rfl, rfl, HGE.out, HT5.out⟩⟩
        rw [HRR.out, HL.out]
        exact if_pos hs
      · have ds : (!(textM T).toList == s.toList) = true := bne_iff_ne.2 hs
        go_wp2_with fail
        go_returns
        refine ⟨_, _, rfl, HB5.out, .inr ⟨?_, rfl, rfl⟩⟩
        rw [HRR.out, HL.out]
        exact if_neg hs
end Go.Proofs.YthlkcfjodmhhmaaDoor.Dd
namespace Go.Proofs.YthlkcfjodmhhmaaDoor.Dd
open Go.RowKit Go.Lib Go.Proofs.YthlkcfjodmhhmaaDoor.Giv Go.Proofs.YthlkcfjodmhhmaaDoorW.PrintWords Go.Proofs.YthlkcfjodmhhmaaDoorW.PrintLast Go.Proofs.YthlkcfjodmhhmaaDoorW.PrintMore
set_option linter.unusedVariables false
set_option linter.unusedSimpArgs false
def T1 : List Ent := [zE, ⟨5, 0, true⟩, zE, zE, zE, zE, zE, zE]
theorem put_T0 : putT T0 1 5 0 true = (T1, 0) := by kernel_rfl
theorem find_T1a : findM T1 1 5 = (0, true, 0) := by kernel_rfl
theorem find_T1b : findM T1 1 4 = (0, false, 90) := by kernel_rfl
theorem find_T1c : findM T1 1 6 = (0, false, 3) := by kernel_rfl
theorem last_T1 : lastM T1 1 = 5 := by kernel_rfl
set_option maxHeartbeats 8000000 in
set_option maxRecDepth 100000 in
theorem awake_calls {w : World} (hL : LaidW w) (t : ByteArray) (er : Int) (ht : benc_Put.f 3 0 ⟨#[]⟩ (rowsM 0 T1) = some (t, er)) (he : (t.toList == [108, 108, 105, 49, 101, 105, 53, 101, 105, 48, 101, 105, 49, 101, 101, 101]) = true) :
    Calls Tryd.prog 13 #[] w fun e w' => e = .returned (.bool true) ∧ Below w.heap.size w w' := by
  have HP := Aside0.mk ht
  have HE := Aside0.mk he
  clear ht he
  go_enter Tryd.func13, Tryd.ntmps13
  go_wp2_with fail
  refine (New_calls w).mono ?_
  rintro e w1 ⟨rfl, hb1, hT1⟩
  have HB := Aside0.mk hb1
  have HT := Aside0.mk hT1
  clear hb1 hT1
  go_wp2_with fail
  refine (put_calls HT.out 1 5 0 true _ _ put_T0).mono ?_
  rintro e w2 ⟨rfl, hT2, hB2⟩
  have HT := Aside0.mk hT2
  have HB := Aside0.mk (hB2.1 _ _ HB.out (Nat.le_refl _))
  clear hT2 hB2
  dsimp only
  go_wp2_with fail
  refine (find_calls HT.out 1 5 _ find_T1a).mono ?_
  rintro e w3 ⟨rfl, hb3⟩
  have HT := Aside0.mk ((HT.out.kept hb3).alloc (.cells #[.int .i64 0, .bool true, .slice none 0 0] 31))
  have HB := Aside0.mk (below_alloc (below_step HB.out hb3) (.cells #[.int .i64 0, .bool true, .slice none 0 0] 31))
  have BA := Aside0.mk (blk_new w3 (.cells #[.int .i64 0, .bool true, .slice none 0 0] 31))
  clear hb3
  go_wp2_with fail
  refine (find_calls HT.out 1 4 _ find_T1b).mono ?_
  rintro e w4 ⟨rfl, hb4⟩
  have HT := Aside0.mk ((HT.out.kept hb4).alloc (.cells #[.int .i64 0, .bool false, .slice none 0 0] 31))
  have HB := Aside0.mk (below_alloc (below_step HB.out hb4) (.cells #[.int .i64 0, .bool false, .slice none 0 0] 31))
  have BA := Aside0.mk (blk_alloc (blk_below BA.out hb4) (.cells #[.int .i64 0, .bool false, .slice none 0 0] 31))
  clear hb4
  go_wp2_with fail
  refine (find_calls HT.out 1 6 _ find_T1c).mono ?_
  rintro e w5 ⟨rfl, hb5⟩
  have HT := Aside0.mk ((HT.out.kept hb5).alloc (.cells #[.int .i64 0, .bool false, .slice none 0 0] 31))
  have HB := Aside0.mk (below_alloc (below_step HB.out hb5) (.cells #[.int .i64 0, .bool false, .slice none 0 0] 31))
  have BA := Aside0.mk (blk_alloc (blk_below BA.out hb5) (.cells #[.int .i64 0, .bool false, .slice none 0 0] 31))
  clear hb5
  obtain ⟨z0, z1, z2⟩ := cells3 BA.out
  go_wp2_with fail
  refine (last_calls HT.out 1 _ last_T1).mono ?_
  rintro e w6 ⟨rfl, hb6⟩
  have HT := Aside0.mk (HT.out.kept hb6)
  have HB := Aside0.mk (below_step HB.out hb6)
  clear hb6
  go_wp2_with fail
  refine (text_calls HT.out (LaidW.below hL HB.out) t er HP.out).mono ?_
  rintro e w7 ⟨rfl, hb7⟩
  have HB := Aside0.mk (below_step HB.out hb7)
  clear hb7
  have D := HE.out
  go_wp2_with fail
  go_returns
  exact ⟨rfl, HB.out⟩
end Go.Proofs.YthlkcfjodmhhmaaDoor.Dd
namespace Go.Proofs.YthlkcfjodmhhmaaDoor.Dd
open Go.RowKit Go.Lib Go.Proofs.YthlkcfjodmhhmaaDoor.Giv Go.Proofs.YthlkcfjodmhhmaaDoor.Pure Go.Proofs.YthlkcfjodmhhmaaDoorW.PrintWords Go.Proofs.YthlkcfjodmhhmaaDoorW.PrintLast Go.Proofs.YthlkcfjodmhhmaaDoorW.PrintMore
set_option linter.unusedVariables false
set_option linter.unusedSimpArgs false
theorem ofS_row {T : List Ent} (hT : T.length = 8) (k : Nat) (hk : k < 8) (x : Ent) (hx : okE x) (hs : x.s ≠ 0) (hz : T.getD k zE = zE) : ofS T (rowV (k : Int) x) = (T.set k x, 0) := by
  obtain ⟨h0, h1, h2, h3, _⟩ := hx
  unfold ofS rowV
  show putT T (k : Int) x.s x.e ((if x.w = true then (1 : Int) else 0) == 1) = _
  have hw : ((if x.w = true then (1 : Int) else 0) == 1) = x.w := by cases x.w <;> rfl
  rw [hw]
  unfold putT
  rw [if_pos ⟨mayM_iff.2 ⟨by omega, by omega, by omega, by omega⟩, h2, h3⟩, Int.toNat_natCast, hz, if_neg (by show ¬ x.s ≤ 0; omega)]
theorem ofL_rows : ∀ (T A : List Ent) (k : Nat), A.length = k → k + T.length = 8 → (∀ x ∈ T, okE x) → ofL (rowsM k T) (A ++ List.replicate T.length zE) = some (A ++ T)
  | [], A, k, hA, hk, h => by simp [rowsM, ofL]
  | x :: T, A, k, hA, hk, h => by
    rw [List.length_cons] at hk
    have ih := ofL_rows T (A ++ [x]) (k + 1) (by simp [hA]) (by omega) (fun y hy => h y (.tail _ hy))
    have hx := h x (.head _)
    rw [rowsM]
    split
    · rename_i hz
      rw [hx.2.2.2.2 hz] at ih ⊢
      simpa [List.replicate_succ] using ih
    · rename_i hz
      have hl : (A ++ List.replicate (x :: T).length zE).length = 8 := by simp [hA]; omega
      have hg : (A ++ List.replicate (x :: T).length zE).getD k zE = zE := by
        rw [List.getD_eq_getElem?_getD, List.getElem?_append_right (by omega)]
        simp [hA]
      have hst : (A ++ List.replicate (x :: T).length zE).set k x = A ++ [x] ++ List.replicate T.length zE := by
        rw [List.set_append_right _ _ (by omega)]
        simp [hA, List.replicate_succ]
      rw [ofL, if_pos (show (rowV (k : Int) x).f3.length = 4 from rfl), ofS_row hl k (by omega) x hx hz hg, if_pos rfl, hst, ih]
      simp
theorem ofL_text {T : List Ent} (h : okT T) : ofL (rowsM 0 T) T0 = some T := by
  have := ofL_rows T [] 0 rfl (by rw [h.1]) h.2
  rw [h.1] at this
  exact this
def ofM (s : ByteArray) : Option (List Ent) := if (onlyM s).2 = 0 then (match ofL (onlyM s).1.f3 T0 with | some T => if (textM T).toList = s.toList then some T else none | none => none) else none
theorem of_any {w : World} (hL : LaidW w) (s : ByteArray) (hs : s.size ≤ 1099511627776) : Calls Tryd.prog 18 #[.string s] w (OfPost (ofM s) w) := by
  have h := only_yes hs
  by_cases c : (onlyM s).2 = 0
  · refine of_calls hL s (onlyM s).1 ?_ _ ?_
    · rw [h, ← c]; rfl
    · unfold ofM; rw [if_pos c] <;> rfl
  · have e : ofM s = none := if_neg c
    rw [e]
    exact of_fail hL s (onlyM s).1 (onlyM s).2 h c
theorem of_back {T : List Ent} (h : okT T) : ofM (textM T) = some T := by
  unfold ofM
  rw [only_back h]
  show (match ofL (rowsM 0 T) T0 with | some T' => _ | none => _) = _
  rw [ofL_text h]
  simp
theorem okT_T1 : okT T1 := by have := okT_put okT_T0 1 5 0 true; rw [put_T0] at this; exact this
theorem text_T1 : ((textM T1).toList == [108, 108, 105, 49, 101, 105, 53, 101, 105, 48, 101, 105, 49, 101, 101, 101]) = true := by
  have i0 : itoa 0 = [48] := by rw [itoa_pos (by decide)]; show decDigits 0 = _; rw [dd_small (by decide)]; rfl
  have i1 : itoa 1 = [49] := by rw [itoa_pos (by decide)]; show decDigits 1 = _; rw [dd_small (by decide)]; rfl
  have i5 : itoa 5 = [53] := by rw [itoa_pos (by decide)]; show decDigits 5 = _; rw [dd_small (by decide)]; rfl
  rw [textM_list]
  show (enc (lisV [lisV [intV 1, intV 5, intV 0, intV 1]]) == _) = true
  simp only [enc_lis, encs_cons, encs_nil, enc_int, i0, i1, i5]
  rfl
theorem awake_ok {w : World} (hL : LaidW w) : Calls Tryd.prog 13 #[] w fun e w' => e = .returned (.bool true) ∧ Below w.heap.size w w' :=
  awake_calls hL (textM T1) 0 (tab_put okT_T1) text_T1
end Go.Proofs.YthlkcfjodmhhmaaDoor.Dd
namespace Go.Proofs.YthlkcfjodmhhmaaDoor.Dd
open Go.RowKit Go.Lib Go.Proofs.YthlkcfjodmhhmaaDoor.Giv Go.Proofs.YthlkcfjodmhhmaaDoor.Pure Go.Proofs.YthlkcfjodmhhmaaDoorW.PrintWords Go.Proofs.YthlkcfjodmhhmaaDoorW.PrintLast Go.Proofs.YthlkcfjodmhhmaaDoorW.PrintMore
set_option linter.unusedVariables false
set_option linter.unusedSimpArgs false
def RTab (w : World) (g : Nat) (T : List Ent) : Prop := T.length = 8 ∧ w.heap[g]? = some (.cells (T.flatMap Ent.cells).toArray 50 (0, 0))
theorem RTab.kept {w w' : World} {g : Nat} {T : List Ent} (h : RTab w g T) (hb : Below w.heap.size w w') : RTab w' g T := ⟨h.1, blk_below h.2 hb⟩
theorem RTab.alloc {w : World} {g : Nat} {T : List Ent} (h : RTab w g T) (o : Obj) : RTab (w.alloc o) g T := ⟨h.1, blk_alloc h.2 o⟩
theorem RTab.drew {w : World} {g : Nat} {T : List Ent} (h : RTab w g T) : RTab w.drew g T := h
theorem RTab.other {w w' : World} {g h : Nat} {T : List Ent} (ht : RTab w h T) (hb : But g w w') (hne : h ≠ g) : RTab w' h T := ⟨ht.1, hb.2 h _ hne ht.2⟩
theorem RTab.cell {w : World} {g : Nat} {T : List Ent} (h : RTab w g T) (k : Nat) (hk : k < 8) : w.cell? ⟨g, k * 3, none⟩ = some (.int .i64 (T.getD k zE).s) ∧ w.cell? ⟨g, k * 3 + 1, none⟩ = some (.int .i64 (T.getD k zE).e) ∧ w.cell? ⟨g, k * 3 + 2, none⟩ = some (.bool (T.getD k zE).w) := by
  have c := blk_cell h.2
  have e : ∀ j, j < 3 → w.cell? ⟨g, k * 3 + j, none⟩ = (T.getD k zE).cells[j]? := fun j hj => by
    rw [c, List.getElem?_toArray, show k * 3 + j = 3 * k + j by omega, flat_get T k j (by rw [h.1]; exact hk) hj]
  exact ⟨e 0 (by omega), e 1 (by omega), e 2 (by omega)⟩
theorem RTab.frozen {w : World} {g : Nat} {T : List Ent} (h : RTab w g T) (i : Nat) : w.frozen? ⟨g, i, none⟩ = false := blk_frozen h.2 i
theorem RTab.all {w : World} {g : Nat} {T : List Ent} (h : RTab w g T) : ∀ k v, (T.flatMap Ent.cells)[k]? = some v → w.cell? ⟨g, 0 + k, none⟩ = some v := by
  intro k v hv
  rw [Nat.zero_add, blk_cell h.2, List.getElem?_toArray]
  exact hv
theorem RTab.set {w : World} {g : Nat} {T : List Ent} (h : RTab w g T) (k : Nat) (hk : k < 8) (x : Ent) : RTab (((w.setCell ⟨g, k * 3, none⟩ (.int .i64 x.s)).setCell ⟨g, k * 3 + 1, none⟩ (.int .i64 x.e)).setCell ⟨g, k * 3 + 2, none⟩ (.bool x.w)) g (T.set k x) := by
  refine ⟨by rw [List.length_set]; exact h.1, ?_⟩
  have e : ((((T.flatMap Ent.cells).toArray).setIfInBounds (k * 3) (.int .i64 x.s)).setIfInBounds (k * 3 + 1) (.int .i64 x.e)).setIfInBounds (k * 3 + 2) (.bool x.w) = ((T.set k x).flatMap Ent.cells).toArray := by
    rw [← flat_set T k x (by rw [h.1]; exact hk)]
    have e1 : k * 3 = 3 * k := by omega
    rw [e1]
    simp [List.setIfInBounds_toArray]
  exact blk_put (blk_put (blk_put h.2 _ _ rfl) _ _ rfl) _ _ e
theorem cells_one_ent (T : List Ent) : ∀ v ∈ T.flatMap Ent.cells, v.oneCell' = true := by
  intro v hv
  obtain ⟨x, _, hx⟩ := List.mem_flatMap.1 hv
  simp only [Ent.cells, List.mem_cons, List.not_mem_nil, or_false] at hx
  rcases hx with rfl | rfl | rfl <;> rfl
theorem set_whole (g t : Nat) : ∀ (vs : List Value) (o : Nat) (pre : List Value) (old : List Value) (w : World), pre.length = o → old.length = vs.length → w.heap[g]? = some (.cells (pre ++ old).toArray t (0, 0)) →
    (w.setCells g o vs).heap[g]? = some (.cells (pre ++ vs).toArray t (0, 0)) ∧ But g w (w.setCells g o vs)
  | [], o, pre, old, w, ho, hl, h => by
    obtain rfl : old = [] := List.length_eq_zero_iff.1 hl
    exact ⟨h, fun B w0 hb _ => hb, fun k o _ hk => hk⟩
  | v :: vs, o, pre, old, w, ho, hl, h => by
    match old, hl with
    | u :: old, hl =>
      have h1 : (w.setCell ⟨g, o, none⟩ v).heap[g]? = some (.cells ((pre ++ [v]) ++ old).toArray t (0, 0)) := by
        refine blk_put h o v ?_
        rw [List.setIfInBounds_toArray, List.set_append_right _ _ (by omega)]
        simp [ho]
      obtain ⟨a, b⟩ := set_whole g t vs (o + 1) (pre ++ [v]) old _ (by simp [ho]) (by simpa using hl) h1
      rw [World.setCells]
      refine ⟨?_, (But.set1 g o w v).trans b⟩
      rw [a]
      simp
section
variable {P : Program} {ops : Array Oper} {rest : List Oper} {o : Oper} {a : Act} {w : World} {Q : Exit → Act → World → Prop}
theorem event_skip {w1 : World} (hgd : o.guard = none) (hd : o.dst = none) (hrun : (execOp a.eval o).run P w = .ok .skip w1) (h : wpList P ops Q rest a w1) : wpList P ops Q (o :: rest) a w := by
  refine wpList_plain hgd fun K hK => ?_
  unfold Oper.wp
  rw [hrun]
  refine hK _ _ ?_
  rw [hd]
  exact h
theorem gate_store {ty : TypeId} {x y : Operand} (_ : o.op = .store ty x y) (h : wpList P ops Q (o :: rest) a w) : wpList P ops Q (o :: rest) a w := h
theorem ev_store (hgd : o.guard = none) (hd : o.dst = none) (ty : TypeId) (x y : Operand) (ho : o.op = .store ty x y) (ie : TypeInfo) (hie : P.info? ty = some ie) (g t : Nat) (hx : a.eval x = .pointer (some ⟨g, 0, none⟩)) (vs old : List Value) (hy : a.eval y = .agg vs.toArray) (hs : vs.length = ie.size) (h1 : ∀ v ∈ vs, v.oneCell' = true)
    (hl : old.length = vs.length) (hold : w.heap[g]? = some (.cells old.toArray t (0, 0)))
    (h : ∀ w', w'.heap[g]? = some (.cells vs.toArray t (0, 0)) → But g w w' → wpList P ops Q rest a w') : wpList P ops Q (o :: rest) a w := by
  obtain ⟨a1, a2⟩ := set_whole g t vs 0 [] old w rfl hl hold
  have hst := rl_storeVar_cells (P := P) ty ie hie g 0 vs hs h1 w (fun k hk => by rw [Nat.zero_add, blk_cell hold, List.getElem?_toArray, List.getElem?_eq_getElem (by omega)]; rfl) (fun k hk => blk_frozen hold _)
  have := h _ a1 a2
  refine event_skip (w1 := w.setCells g 0 vs) hgd hd ?_ this
  unfold execOp
  simp only [ho, hx, hy, Instr.storeAt, Instr.sureAddr, Sem.run_bind, Sem.run_pure, Result.andThen_ok, hst]
end
theorem rmay_calls (c s : Int) (w : World) : Calls Tryd.prog 24 #[.int .i64 c, .int .i64 s] w fun e w' => e = .returned (.bool (mayM c s)) ∧ Below w.heap.size w w' := by
  refine (P.ploverref09_may.calls c s (mayM c s) w ?_).mono (fun e w' h => ⟨h.1, h.2.below⟩)
  unfold P.ploverref09_may.f mayM
  by_cases h1 : 0 ≤ c
  · by_cases h2 : c < 8
    · by_cases h3 : 0 < s
      · rw [if_pos h1, if_pos h2, if_pos (by omega)]; simp [h1, h2, h3]
      · rw [if_pos h1, if_pos h2, if_neg (by omega)]; simp [h1, h2, h3]
    · rw [if_pos h1, if_neg h2]; simp [h1, h2]
  · rw [if_neg h1]; simp [h1]
set_option maxHeartbeats 4000000 in
set_option maxRecDepth 100000 in
theorem rfind_calls {w : World} (T : List Ent) (hT : T.length = 8) (c s : Int) (F : Int × Bool × Int) (hF : findM T c s = F) :
    Calls Tryd.prog 16 #[.agg (T.flatMap Ent.cells).toArray, .int .i64 c, .int .i64 s] w fun e w' => e = .returned (.tuple #[.agg #[.int .i64 F.1, .bool F.2.1, .slice none 0 0], .int .i64 F.2.2]) ∧ Below w.heap.size w w' := by
  have hu := Tryd.underlying31
  have R0 : RTab (w.alloc (.cells (T.flatMap Ent.cells).toArray 50)) w.heap.size T := ⟨hT, blk_new w _⟩
  have h1 := R0.alloc (.cells #[.int .i64 0, .bool false, .slice none 0 0] 31)
  have hb0 := ((Below.refl w.heap.size w).alloc (Nat.le_refl _) (.cells (T.flatMap Ent.cells).toArray 50)).alloc (by simp) (.cells #[.int .i64 0, .bool false, .slice none 0 0] 31)
  have BR : _ = some (Obj.cells #[.int .i64 0, .bool false, .slice none 0 0] 31 (0, 0)) := blk_new (w.alloc (.cells (T.flatMap Ent.cells).toArray 50)) (.cells #[.int .i64 0, .bool false, .slice none 0 0] 31)
  have sz1 : (w.alloc (.cells (T.flatMap Ent.cells).toArray 50)).heap.size = w.heap.size + 1 := by simp
  rw [sz1] at BR
  have HR1 := Aside0.mk h1
  clear R0 h1
  cases hm : mayM c s with
  | false =>
    unfold findM at hF
    rw [hm, if_neg (by decide)] at hF
    subst hF
    go_enter Tryd.func16, Tryd.ntmps16
    go_wp2_with fail
    refine (rmay_calls c s _).mono ?_
    rw [hm]
    rintro e w1 ⟨rfl, hb⟩
    have BR1 := blk_below BR hb
    obtain ⟨z0, z1, z2⟩ := cells3 BR1
    have f0 := blk_frozen BR1 0
    have f1 := blk_frozen BR1 1
    have f2 := blk_frozen BR1 2
    go_wp2_with fail
    refine bodyPost_ret (results_ct rfl _ _ (w.heap.size + 1) 31 #[.int .i64 0, .bool false, .slice none 0 0] (0, 0) _ rfl (blk_store3 BR1 _ _ _) hu rfl (by kernel_rfl)) rfl ?_
    exact ⟨rfl, below_store3 (hb0.trans (hb.mono hb0.size)) (Nat.le_succ _) _ _ _⟩
  | true =>
    obtain ⟨m0, m1, m2, m3⟩ := mayM_iff.1 hm
    obtain ⟨k, rfl⟩ : ∃ k : Nat, c = (k : Int) := ⟨c.toNat, by omega⟩
    unfold findM at hF
    rw [hm, if_pos rfl, Int.toNat_natCast] at hF
    go_enter Tryd.func16, Tryd.ntmps16
    go_wp2_with fail
    refine (rmay_calls k s _).mono ?_
    rw [hm]
    rintro e w1 ⟨rfl, hb⟩
    have h2 := HR1.out.kept hb
    obtain ⟨x0, x1, x2⟩ := h2.cell k (by omega)
    have HR2 := Aside0.mk h2
    clear h2 hm
    have BR1 := blk_alloc (blk_below BR hb) (.cells #[.int .i64 (T.getD k zE).s, .int .i64 (T.getD k zE).e, .bool (T.getD k zE).w] 48)
    have BX1 := blk_new w1 (.cells #[.int .i64 (T.getD k zE).s, .int .i64 (T.getD k zE).e, .bool (T.getD k zE).w] 48)
    have hb1 := (hb0.trans (hb.mono hb0.size)).alloc (hb0.trans (hb.mono hb0.size)).size (.cells #[.int .i64 (T.getD k zE).s, .int .i64 (T.getD k zE).e, .bool (T.getD k zE).w] 48)
    rw [List.getD_eq_getElem?_getD] at *
    generalize (T[k]?).getD zE = X at *
    obtain ⟨z0, z1, z2⟩ := cells3 BR1
    obtain ⟨y0, y1, y2⟩ := cells3 BX1
    have f0 := blk_frozen BR1 0
    have f1 := blk_frozen BR1 1
    have f2 := blk_frozen BR1 2
    by_cases c1 : s < X.s
    · have d1 : decide (s < X.s) = true := decide_eq_true c1
      rw [if_pos c1] at hF
      subst hF
      go_wp2_with fail
      refine bodyPost_ret (results_ct rfl _ _ (w.heap.size + 1) 31 #[.int .i64 0, .bool false, .slice none 0 0] (0, 0) _ rfl (blk_store3 BR1 _ _ _) hu rfl (by kernel_rfl)) rfl ?_
      exact ⟨rfl, below_store3 hb1 (Nat.le_succ _) _ _ _⟩
    · have d1 : decide (s < X.s) = false := decide_eq_false c1
      rw [if_neg c1] at hF
      by_cases c2 : X.s < s
      · have d2 : decide (X.s < s) = true := decide_eq_true c2
        rw [if_pos c2] at hF
        subst hF
        go_wp2_with fail
        refine bodyPost_ret (results_ct rfl _ _ (w.heap.size + 1) 31 #[.int .i64 0, .bool false, .slice none 0 0] (0, 0) _ rfl (blk_store3 BR1 _ _ _) hu rfl (by kernel_rfl)) rfl ?_
        exact ⟨rfl, below_store3 hb1 (Nat.le_succ _) _ _ _⟩
      · have d2 : decide (X.s < s) = false := decide_eq_false c2
        rw [if_neg c2] at hF
        subst hF
        go_wp2_with fail
        refine bodyPost_ret (results_ct rfl _ _ (w.heap.size + 1) 31 #[.int .i64 X.e, .bool X.w, .slice none 0 0] (0, 0) _ rfl (blk_store3 BR1 _ _ _) hu rfl (by kernel_rfl)) rfl ?_
        exact ⟨rfl, below_store3 hb1 (Nat.le_succ _) _ _ _⟩
theorem rput_start (w : World) (T : List Ent) (er : Int) (b : Bool) (v : Value) (hT : T.length = 8) :
    Below w.heap.size w (((w.alloc (.cells (T.flatMap Ent.cells).toArray 50)).alloc (.cells #[.int .i64 er, .bool b, v] 31)).alloc (.cells (T0.flatMap Ent.cells).toArray 50)) ∧
    RTab (((w.alloc (.cells (T.flatMap Ent.cells).toArray 50)).alloc (.cells #[.int .i64 er, .bool b, v] 31)).alloc (.cells (T0.flatMap Ent.cells).toArray 50)) w.heap.size T ∧
    (((w.alloc (.cells (T.flatMap Ent.cells).toArray 50)).alloc (.cells #[.int .i64 er, .bool b, v] 31)).alloc (.cells (T0.flatMap Ent.cells).toArray 50)).heap[w.heap.size + 1]? = some (.cells #[.int .i64 er, .bool b, v] 31 (0, 0)) ∧
    (((w.alloc (.cells (T.flatMap Ent.cells).toArray 50)).alloc (.cells #[.int .i64 er, .bool b, v] 31)).alloc (.cells (T0.flatMap Ent.cells).toArray 50)).heap[w.heap.size + 1 + 1]? = some (.cells (T0.flatMap Ent.cells).toArray 50 (0, 0)) := by
  have a1 := blk_new w (.cells (T.flatMap Ent.cells).toArray 50)
  have a2 := blk_new (w.alloc (.cells (T.flatMap Ent.cells).toArray 50)) (.cells #[.int .i64 er, .bool b, v] 31)
  have a3 := blk_new ((w.alloc (.cells (T.flatMap Ent.cells).toArray 50)).alloc (.cells #[.int .i64 er, .bool b, v] 31)) (.cells (T0.flatMap Ent.cells).toArray 50)
  refine ⟨below_alloc (below_alloc (below_alloc (Below.refl _ _) _) _) _, ⟨hT, blk_alloc (blk_alloc a1 _) _⟩, ?_, ?_⟩
  · rw [show (w.alloc (.cells (T.flatMap Ent.cells).toArray 50)).heap.size = w.heap.size + 1 by simp] at a2
    exact blk_alloc a2 _
  · rw [show ((w.alloc (.cells (T.flatMap Ent.cells).toArray 50)).alloc (.cells #[.int .i64 er, .bool b, v] 31)).heap.size = w.heap.size + 1 + 1 by simp] at a3
    exact a3
set_option maxHeartbeats 4000000 in
set_option maxRecDepth 100000 in
theorem rput_calls {w : World} (T : List Ent) (hT : T.length = 8) (c s er : Int) (b : Bool) (v : Value) (F : List Ent × Int) (hF : putT T c s er b = F) :
    Calls Tryd.prog 15 #[.agg (T.flatMap Ent.cells).toArray, .int .i64 c, .int .i64 s, .agg #[.int .i64 er, .bool b, v]] w fun e w' => e = .returned (.tuple #[.agg (F.1.flatMap Ent.cells).toArray, .int .i64 F.2]) ∧ Below w.heap.size w w' := by
  have hu := Tryd.underlying50
  obtain ⟨hb0, hp0, hr0, hz0⟩ := rput_start w T er b v hT
  have HB0 := Aside0.mk hb0
  have HP0 := Aside0.mk hp0
  have HR0 := Aside0.mk hr0
  have HZ0 := Aside0.mk hz0
  clear hb0 hp0 hr0 hz0
  cases hm : mayM c s with
  | false =>
    unfold putT at hF
    rw [hm, if_neg (by simp)] at hF
    subst hF
    go_enter Tryd.func15, Tryd.ntmps15
    go_wp2_with fail
    refine (rmay_calls c s _).mono ?_
    rw [hm]
    rintro e w1 ⟨rfl, hb⟩
    have HRP := Aside0.mk (HP0.out.kept hb)
    have HZ := Aside0.mk (blk_below HZ0.out hb)
    have HW := Aside0.mk (below_step HB0.out hb)
    clear hb
    go_wp2_with (first | ((with_reducible refine gate_dst (N := 24) rfl ?_); refine ev_load rfl 50 (.tmp 4) rfl _ rfl (fun w => by kernel_rfl) w.heap.size 0 rfl (T.flatMap Ent.cells) (by rw [flat_len, HRP.out.1]; kernel_rfl) HRP.out.all ?_) | ((with_reducible refine gate_store (y := .tmp 24) rfl ?_); refine ev_store rfl rfl 50 (.tmp 8) (.tmp 24) rfl _ rfl (w.heap.size + 1 + 1) 50 rfl (T.flatMap Ent.cells) (T0.flatMap Ent.cells) rfl (by rw [flat_len, HRP.out.1]; kernel_rfl) (cells_one_ent _) (by rw [flat_len, flat_len, HRP.out.1]; rfl) HZ.out ?_; intro w9 a9 b9; have HW9 := Aside0.mk (b9.1 _ _ HW.out (by omega)); have HA9 := Aside0.mk a9; have HL9 := Aside0.mk HRP.out.1; clear a9 b9))
    refine bodyPost_ret (results_ct rfl _ _ (w.heap.size + 1 + 1) 50 (T.flatMap Ent.cells).toArray (0, 0) _ rfl HA9.out hu rfl (by rw [List.size_toArray, flat_len, HL9.out]; kernel_rfl)) rfl ?_
    exact ⟨rfl, HW9.out⟩
  | true =>
    obtain ⟨m0, m1, m2, m3⟩ := mayM_iff.1 hm
    obtain ⟨k, rfl⟩ : ∃ k : Nat, c = (k : Int) := ⟨c.toNat, by omega⟩
    unfold putT at hF
    rw [hm, Int.toNat_natCast] at hF
    by_cases a1 : 0 ≤ er
    · have d1 : decide (er < 0) = false := decide_eq_false (by omega)
      by_cases a2 : er ≤ 255
      · have d2 : decide (255 < er) = false := decide_eq_false (by omega)
        rw [if_pos ⟨rfl, a1, a2⟩] at hF
        rw [List.getD_eq_getElem?_getD] at hF
        by_cases a3 : s ≤ ((T[k]?).getD zE).s
        · have d3 : decide (s ≤ ((T[k]?).getD zE).s) = true := decide_eq_true a3
          rw [if_pos a3] at hF
          subst hF
          clear a1 a2 a3
          go_enter Tryd.func15, Tryd.ntmps15
          go_wp2_with fail
          refine (rmay_calls k s _).mono ?_
          rw [hm]
          rintro e w1 ⟨rfl, hb⟩
          have HRP := Aside0.mk (HP0.out.kept hb)
          have HZ := Aside0.mk (blk_below HZ0.out hb)
          have HW := Aside0.mk (below_step HB0.out hb)
          obtain ⟨x0, x1, x2⟩ := HRP.out.cell k (by omega)
          obtain ⟨z0, z1, z2⟩ := cells3 (blk_below HR0.out hb)
          clear hb hm
          go_wp2_with (first | ((with_reducible refine gate_dst (N := 31) rfl ?_); refine ev_load rfl 50 (.tmp 4) rfl _ rfl (fun w => by kernel_rfl) w.heap.size 0 rfl (T.flatMap Ent.cells) (by rw [flat_len, HRP.out.1]; kernel_rfl) HRP.out.all ?_) | ((with_reducible refine gate_store (y := .tmp 31) rfl ?_); refine ev_store rfl rfl 50 (.tmp 8) (.tmp 31) rfl _ rfl (w.heap.size + 1 + 1) 50 rfl (T.flatMap Ent.cells) (T0.flatMap Ent.cells) rfl (by rw [flat_len, HRP.out.1]; kernel_rfl) (cells_one_ent _) (by rw [flat_len, flat_len, HRP.out.1]; rfl) HZ.out ?_; intro w9 a9 b9; have HW9 := Aside0.mk (b9.1 _ _ HW.out (by omega)); have HA9 := Aside0.mk a9; have HL9 := Aside0.mk HRP.out.1; clear a9 b9))
          refine bodyPost_ret (results_ct rfl _ _ (w.heap.size + 1 + 1) 50 (T.flatMap Ent.cells).toArray (0, 0) _ rfl HA9.out hu rfl (by rw [List.size_toArray, flat_len, HL9.out]; kernel_rfl)) rfl ?_
          exact ⟨rfl, HW9.out⟩
        · have d3 : decide (s ≤ ((T[k]?).getD zE).s) = false := decide_eq_false a3
          rw [if_neg a3] at hF
          subst hF
          clear a1 a2 a3
          go_enter Tryd.func15, Tryd.ntmps15
          go_wp2_with fail
          refine (rmay_calls k s _).mono ?_
          rw [hm]
          rintro e w1 ⟨rfl, hb⟩
          have HRP := Aside0.mk (HP0.out.kept hb)
          have HZ := Aside0.mk (blk_below HZ0.out hb)
          have HW := Aside0.mk (below_step HB0.out hb)
          obtain ⟨x0, x1, x2⟩ := HRP.out.cell k (by omega)
          obtain ⟨z0, z1, z2⟩ := cells3 (blk_below HR0.out hb)
          have f0 := HRP.out.frozen (k * 3)
          have f1 := HRP.out.frozen (k * 3 + 1)
          have f2 := HRP.out.frozen (k * 3 + 2)
          clear hb hm
          have hB := ((But.set1 w.heap.size (k * 3) w1 (.int .i64 s)).trans (But.set1 w.heap.size (k * 3 + 1) _ (.int .i64 er))).trans (But.set1 w.heap.size (k * 3 + 2) _ (.bool b))
          have HRP := Aside0.mk (HRP.out.set k (by omega) ⟨s, er, b⟩)
          dsimp only at HRP
          have HZ := Aside0.mk (hB.2 _ _ (by omega) HZ.out)
          have HW := Aside0.mk (hB.1 _ _ HW.out (Nat.le_refl _))
          clear hB
          generalize hTS : T.set k ⟨s, er, b⟩ = TS at *
          go_wp2_with (first | ((with_reducible refine gate_dst (N := 40) rfl ?_); refine ev_load rfl 50 (.tmp 4) rfl _ rfl (fun w => by kernel_rfl) w.heap.size 0 rfl (TS.flatMap Ent.cells) (by rw [flat_len, HRP.out.1]; kernel_rfl) HRP.out.all ?_) | ((with_reducible refine gate_store (y := .tmp 40) rfl ?_); refine ev_store rfl rfl 50 (.tmp 8) (.tmp 40) rfl _ rfl (w.heap.size + 1 + 1) 50 rfl (TS.flatMap Ent.cells) (T0.flatMap Ent.cells) rfl (by rw [flat_len, HRP.out.1]; kernel_rfl) (cells_one_ent _) (by rw [flat_len, flat_len, HRP.out.1]; rfl) HZ.out ?_; intro w9 a9 b9; have HW9 := Aside0.mk (b9.1 _ _ HW.out (by omega)); have HA9 := Aside0.mk a9; have HL9 := Aside0.mk HRP.out.1; clear a9 b9))
          refine bodyPost_ret (results_ct rfl _ _ (w.heap.size + 1 + 1) 50 (TS.flatMap Ent.cells).toArray (0, 0) _ rfl HA9.out hu rfl (by rw [List.size_toArray, flat_len, HL9.out]; kernel_rfl)) rfl ?_
          subst hTS
          exact ⟨rfl, HW9.out⟩
      · have d2 : decide (255 < er) = true := decide_eq_true (by omega)
        rw [if_neg (fun hh => a2 hh.2.2)] at hF
        subst hF
        clear a1 a2
        go_enter Tryd.func15, Tryd.ntmps15
        go_wp2_with fail
        refine (rmay_calls k s _).mono ?_
        rw [hm]
        rintro e w1 ⟨rfl, hb⟩
        have HRP := Aside0.mk (HP0.out.kept hb)
        have HZ := Aside0.mk (blk_below HZ0.out hb)
        have HW := Aside0.mk (below_step HB0.out hb)
        obtain ⟨z0, z1, z2⟩ := cells3 (blk_below HR0.out hb)
        clear hb hm
        go_wp2_with (first | ((with_reducible refine gate_dst (N := 24) rfl ?_); refine ev_load rfl 50 (.tmp 4) rfl _ rfl (fun w => by kernel_rfl) w.heap.size 0 rfl (T.flatMap Ent.cells) (by rw [flat_len, HRP.out.1]; kernel_rfl) HRP.out.all ?_) | ((with_reducible refine gate_store (y := .tmp 24) rfl ?_); refine ev_store rfl rfl 50 (.tmp 8) (.tmp 24) rfl _ rfl (w.heap.size + 1 + 1) 50 rfl (T.flatMap Ent.cells) (T0.flatMap Ent.cells) rfl (by rw [flat_len, HRP.out.1]; kernel_rfl) (cells_one_ent _) (by rw [flat_len, flat_len, HRP.out.1]; rfl) HZ.out ?_; intro w9 a9 b9; have HW9 := Aside0.mk (b9.1 _ _ HW.out (by omega)); have HA9 := Aside0.mk a9; have HL9 := Aside0.mk HRP.out.1; clear a9 b9))
        refine bodyPost_ret (results_ct rfl _ _ (w.heap.size + 1 + 1) 50 (T.flatMap Ent.cells).toArray (0, 0) _ rfl HA9.out hu rfl (by rw [List.size_toArray, flat_len, HL9.out]; kernel_rfl)) rfl ?_
        exact ⟨rfl, HW9.out⟩
    · have d1 : decide (er < 0) = true := decide_eq_true (by omega)
      rw [if_neg (fun hh => a1 hh.2.1)] at hF
      subst hF
      clear a1
      go_enter Tryd.func15, Tryd.ntmps15
      go_wp2_with fail
      refine (rmay_calls k s _).mono ?_
      rw [hm]
      rintro e w1 ⟨rfl, hb⟩
      have HRP := Aside0.mk (HP0.out.kept hb)
      have HZ := Aside0.mk (blk_below HZ0.out hb)
      have HW := Aside0.mk (below_step HB0.out hb)
      obtain ⟨z0, z1, z2⟩ := cells3 (blk_below HR0.out hb)
      clear hb hm
      go_wp2_with (first | ((with_reducible refine gate_dst (N := 24) rfl ?_); refine ev_load rfl 50 (.tmp 4) rfl _ rfl (fun w => by kernel_rfl) w.heap.size 0 rfl (T.flatMap Ent.cells) (by rw [flat_len, HRP.out.1]; kernel_rfl) HRP.out.all ?_) | ((with_reducible refine gate_store (y := .tmp 24) rfl ?_); refine ev_store rfl rfl 50 (.tmp 8) (.tmp 24) rfl _ rfl (w.heap.size + 1 + 1) 50 rfl (T.flatMap Ent.cells) (T0.flatMap Ent.cells) rfl (by rw [flat_len, HRP.out.1]; kernel_rfl) (cells_one_ent _) (by rw [flat_len, flat_len, HRP.out.1]; rfl) HZ.out ?_; intro w9 a9 b9; have HW9 := Aside0.mk (b9.1 _ _ HW.out (by omega)); have HA9 := Aside0.mk a9; have HL9 := Aside0.mk HRP.out.1; clear a9 b9))
      refine bodyPost_ret (results_ct rfl _ _ (w.heap.size + 1 + 1) 50 (T.flatMap Ent.cells).toArray (0, 0) _ rfl HA9.out hu rfl (by rw [List.size_toArray, flat_len, HL9.out]; kernel_rfl)) rfl ?_
      exact ⟨rfl, HW9.out⟩
end Go.Proofs.YthlkcfjodmhhmaaDoor.Dd
namespace Go.Proofs.YthlkcfjodmhhmaaDoor.Cut
open Go
section
variable {P : Program} {Q : Exit → Act → World → Prop}
def cutQ (P : Program) (ops : Array Oper) (z : Oper) (Q : Exit → Act → World → Prop) : Exit → Act → World → Prop
  | .normal, a, w => wpList P ops Q [z] a w
  | e, a, w => Q e a w
theorem cutQ_out {ops : Array Oper} {z : Oper} (h : LetsOut (cutQ P ops z Q)) : LetsOut Q := h
theorem wp_cut {ops : Array Oper} {z o : Oper} {a : Act} {w : World} {K : Act → World → Prop} (hh : o.wp P a w K (cutQ P ops z Q)) : o.wp P a w K Q := by
  unfold Oper.wp at *
  generalize (execOp a.eval o).run P w = r at *
  cases r with
  | ok n w' =>
    cases n <;> simp only [Oper.upon] at hh ⊢ <;>
      first
        | exact hh
        | exact Calls.mono hh (fun e w'' he => by cases e <;> exact he)
  | halt x w' => cases x <;> simp only [Oper.upon] at hh ⊢ <;> exact hh
def waitsAll (ops : Array Oper) (z : Oper) : Bool :=
  ((List.range ops.size).all fun i => z.after.any fun e => Region.binds .any e && e.on == i) && z.after.all fun e => !Region.binds .any e || decide (e.on < ops.size)
def downAll (ops : Array Oper) : Bool :=
  (List.range ops.size).all fun i => ((ops[i]?).map fun o => o.after.all fun e => !Region.binds .any e || decide (e.on < i)).getD true
theorem yielded_push {ops : Array Oper} {z : Oper} (hd : z.dst = none) (tmps : Array Value) : yielded (ops.push z) tmps = yielded ops tmps := by
  funext j
  unfold yielded
  rcases Nat.lt_trichotomy j ops.size with h | h | h
  · rw [Array.getElem?_push_lt h, Array.getElem?_eq_getElem h]
  · subst h
    rw [Array.getElem?_push_size, Array.getElem?_eq_none (Nat.le_refl _)]
    simp [hd]
  · rw [Array.getElem?_eq_none (by rw [Array.size_push]; omega), Array.getElem?_eq_none (by omega)]
theorem all_listed {ops : Array Oper} {listed : Array Bool} (hs : listed.size = ops.size) (hdn : downAll ops = true) (h : Region.ready .any ops listed = []) : ∀ i, i < ops.size → listed.getD i false = true := by
  intro i
  induction i using Nat.strongRecOn with
  | ind i ih =>
    intro hi
    by_cases hl : listed.getD i true = false
    · exfalso
      have : i ∈ Region.ready .any ops listed := by
        rw [mem_ready]
        refine ⟨hl, ops[i], Array.getElem?_eq_getElem hi, fun e he hb => ?_⟩
        have h1 := List.all_eq_true.1 hdn i (List.mem_range.2 hi)
        rw [Array.getElem?_eq_getElem hi] at h1
        simp only [Option.map_some, Option.getD_some] at h1
        have h2 := Array.all_eq_true'.1 h1 e he
        rw [hb] at h2
        have h3 : e.on < i := by simpa using h2
        exact ih e.on h3 (by omega)
      rw [h] at this
      cases this
    · simp only [Bool.not_eq_false] at hl
      have hlt : i < listed.size := by omega
      simp [hlt] at hl ⊢
      exact hl
theorem listed_none {ops : Array Oper} {listed : Array Bool} (hs : listed.size = ops.size) (h : ∀ i, i < ops.size → listed.getD i false = true) : Region.ready .any ops listed = [] := by
  apply List.eq_nil_iff_forall_not_mem.2
  intro i hi
  rw [mem_ready] at hi
  obtain ⟨h0, o, ho, _⟩ := hi
  have hlt : i < ops.size := (Array.getElem?_eq_some_iff.1 ho).1
  have := h i hlt
  have hlt2 : i < listed.size := by omega
  simp [hlt2] at this h0
  rw [this] at h0
  cases h0
theorem getD_push_lt {listed : Array Bool} {i : Nat} (h : i < listed.size) (d : Bool) : (listed.push false).getD i d = listed.getD i d := by
  simp [Array.getElem?_push_lt h, h]
theorem cut_any {ops : Array Oper} {z : Oper} (hd : z.dst = none) (hz : waitsAll ops z = true) (hdn : downAll ops = true) :
    ∀ (fuel : Nat) (listed : Array Bool) (a : Act) (w : World), listed.size = ops.size → wpAny P .any ops (cutQ P (ops.push z) z Q) fuel listed a w → wpAny P .any (ops.push z) Q (fuel + 1) (listed.push false) a w := by
  unfold waitsAll at hz
  rw [Bool.and_eq_true] at hz
  obtain ⟨hz1, hz2⟩ := hz
  -- the last one comes up just when all others have
  have last : ∀ listed : Array Bool, listed.size = ops.size → ops.size ∈ Region.ready .any (ops.push z) (listed.push false) → ∀ i, i < ops.size → listed.getD i false = true := by
    intro listed hs hr i hi
    rw [mem_ready] at hr
    obtain ⟨_, o, ho, hall⟩ := hr
    rw [Array.getElem?_push_size] at ho
    obtain rfl := Option.some.inj ho
    have h1 := List.all_eq_true.1 hz1 i (List.mem_range.2 hi)
    obtain ⟨e, he, hb⟩ := Array.any_eq_true'.1 h1
    rw [Bool.and_eq_true] at hb
    have h2 := hall e he hb.1
    have h3 : e.on = i := by simpa using hb.2
    rw [h3, getD_push_lt (by omega)] at h2
    exact h2
  have lastr : ∀ listed : Array Bool, listed.size = ops.size → (∀ i, i < ops.size → listed.getD i false = true) → ops.size ∈ Region.ready .any (ops.push z) (listed.push false) := by
    intro listed hs h
    rw [mem_ready]
    refine ⟨by rw [← hs]; simp, z, Array.getElem?_push_size, fun e he hb => ?_⟩
    have h2 := Array.all_eq_true'.1 hz2 e he
    rw [hb] at h2
    have h3 : e.on < ops.size := by simpa using h2
    rw [getD_push_lt (by omega)]
    exact h e.on h3
  have fin : ∀ (fuel : Nat) (listed : Array Bool) (a : Act) (w : World), listed.size = ops.size → (∀ i, i < ops.size → listed.getD i false = true) → wpList P (ops.push z) Q [z] a w →
      wpOp P (ops.push z) Q ops.size (wpAny P .any (ops.push z) Q fuel ((listed.push false).setIfInBounds ops.size true)) a w := by
    intro fuel listed a w hs hl h
    have hrn : Region.ready .any (ops.push z) ((listed.push false).setIfInBounds ops.size true) = [] := by
      refine listed_none (by simp [hs]) (fun i hi => ?_)
      rw [Array.size_push] at hi
      by_cases hin : i = ops.size
      · subst hin; rw [← hs]; simp
      · rw [getD_set_ne false (Ne.symm hin), getD_push_lt (by omega)]
        exact hl i (by omega)
    have hK : ∀ a w, Q .normal a w → wpAny P .any (ops.push z) Q fuel ((listed.push false).setIfInBounds ops.size true) a w := by
      intro a w hq
      cases fuel with
      | zero => exact ⟨hrn, hq⟩
      | succ f => exact ⟨fun _ => hq, by rw [hrn]; simp⟩
    unfold wpOp
    rw [Array.getElem?_push_size]
    simp only [wpList] at h
    dsimp only
    split at h
    · rename_i hw
      rw [if_pos hw]
      rcases h with h | h
      · exact .inl (Oper.wp_mono hK h)
      · exact .inr h
    · rename_i hw
      rw [if_neg hw]
      exact hK _ _ h
  have inner : ∀ (listed : Array Bool) (i : Nat), listed.size = ops.size → i < ops.size → i ∈ Region.ready .any (ops.push z) (listed.push false) → i ∈ Region.ready .any ops listed := by
    intro listed i hs hi hr
    rw [mem_ready] at hr ⊢
    obtain ⟨h0, o, ho, hall⟩ := hr
    rw [getD_push_lt (by omega)] at h0
    rw [Array.getElem?_push_lt hi] at ho
    refine ⟨h0, o, by rw [Array.getElem?_eq_getElem hi]; exact ho, fun e he hb => ?_⟩
    have h1 := List.all_eq_true.1 hdn i (List.mem_range.2 hi)
    rw [Array.getElem?_eq_getElem hi, ho] at h1
    simp only [Option.map_some, Option.getD_some] at h1
    have h2 := Array.all_eq_true'.1 h1 e he
    rw [hb] at h2
    have h3 : e.on < i := by simpa using h2
    have := hall e he hb
    rw [getD_push_lt (by omega)] at this
    exact this
  intro fuel
  induction fuel with
  | zero =>
    intro listed a w hs H
    have hl := all_listed hs hdn H.1
    refine ⟨fun h => ?_, fun i hi => ?_⟩
    · have := lastr listed hs hl
      rw [h] at this; cases this
    · have hi' : i < (ops.push z).size := by
        rw [mem_ready] at hi
        obtain ⟨_, o, ho, _⟩ := hi
        exact (Array.getElem?_eq_some_iff.1 ho).1
      rw [Array.size_push] at hi'
      by_cases hin : i = ops.size
      · subst hin; exact fin 0 listed a w hs hl H.2
      · have := inner listed i hs (by omega) hi
        rw [H.1] at this; cases this
  | succ fuel ih =>
    intro listed a w hs H
    refine ⟨fun h => ?_, fun i hi => ?_⟩
    · exfalso
      have hn : Region.ready .any ops listed = [] := by
        apply List.eq_nil_iff_forall_not_mem.2
        intro i hi
        have : i ∈ Region.ready .any (ops.push z) (listed.push false) := by
          rw [mem_ready] at hi ⊢
          obtain ⟨h0, o, ho, hall⟩ := hi
          have hlt : i < ops.size := (Array.getElem?_eq_some_iff.1 ho).1
          refine ⟨by rw [getD_push_lt (by omega)]; exact h0, o, by rw [Array.getElem?_push_lt hlt, ← ho, Array.getElem?_eq_getElem hlt], fun e he hb => ?_⟩
          have := hall e he hb
          by_cases hlt2 : e.on < listed.size
          · rw [getD_push_lt hlt2]; exact this
          · simp [hlt2] at this
        rw [h] at this; cases this
      have := lastr listed hs (all_listed hs hdn hn)
      rw [h] at this; cases this
    · have hi' : i < (ops.push z).size := by
        rw [mem_ready] at hi
        obtain ⟨_, o, ho, _⟩ := hi
        exact (Array.getElem?_eq_some_iff.1 ho).1
      rw [Array.size_push] at hi'
      by_cases hin : i = ops.size
      · subst hin
        have hl := last listed hs hi
        exact fin (fuel + 1) listed a w hs hl (H.1 (listed_none hs hl))
      · have hlt : i < ops.size := by omega
        have h1 := H.2 i (inner listed i hs hlt hi)
        have hset : (listed.push false).setIfInBounds i true = (listed.setIfInBounds i true).push false := by
          apply Array.ext_getElem?
          intro j
          by_cases hj : i = j
          · subst hj
            rw [Array.getElem?_setIfInBounds_self_of_lt (by simp; omega), Array.getElem?_push_lt (by simp; omega), Array.getElem_setIfInBounds_self]
          · rw [Array.getElem?_setIfInBounds_ne hj]
            rcases Nat.lt_trichotomy j listed.size with h | h | h
            · rw [Array.getElem?_push_lt h, Array.getElem?_push_lt (by simpa using h), Array.getElem_setIfInBounds_ne _ hj]
            · subst h
              rw [Array.getElem?_push_size, show listed.size = (listed.setIfInBounds i true).size by simp, Array.getElem?_push_size]
            · rw [Array.getElem?_eq_none (by simp; omega), Array.getElem?_eq_none (by simp; omega)]
        rw [hset]
        have h2 : wpOp P ops (cutQ P (ops.push z) z Q) i (wpAny P .any (ops.push z) Q (fuel + 1) ((listed.setIfInBounds i true).push false)) a w :=
          wpOp_mono (fun a' w' h3 => ih (listed.setIfInBounds i true) a' w' (by simpa using hs) h3) h1
        unfold wpOp at h2 ⊢
        rw [Array.getElem?_eq_getElem hlt] at h2
        rw [Array.getElem?_push_lt hlt]
        dsimp only at h2 ⊢
        rw [yielded_push hd]
        split at h2
        · rename_i hw
          rw [if_pos hw]
          rcases h2 with h2 | h2
          · exact .inl (wp_cut h2)
          · exact .inr ⟨h2.1, cutQ_out h2.2⟩
        · rename_i hw
          rw [if_neg hw]
          exact h2
theorem wp_region_cut {id : Nat} {ops : Array Oper} {z : Oper} {S : World → Prop} {a : Act} {w : World} (hm : P.follows .mixedOrders = true) (hops : ops = ops.pop.push z) (hd : z.dst = none) (hz : waitsAll ops.pop z = true) (hdn : downAll ops.pop = true)
    (h : wpAnyH P .any ops.pop (cutQ P ops z Q) S ops.pop.size (Array.replicate ops.pop.size false) a w.drew) : (Code.region id ops true).wp P Q a w := by
  refine wp_region_any hm ?_
  have h1 := wpAny_of_held _ _ _ _ h
  rw [hops] at h1
  simp only [Array.pop_push] at h1
  have h2 := cut_any hd hz hdn _ _ _ _ (by simp) h1
  have e : (Array.replicate ops.size false) = (Array.replicate ops.pop.size false).push false := by
    conv => lhs; rw [hops, Array.size_push]
    rw [Array.replicate_succ]
  rw [e]
  have e2 : ops.size = ops.pop.size + 1 := by conv => lhs; rw [hops, Array.size_push]
  rw [e2]
  rw [hops]
  simpa using h2
end
end Go.Proofs.YthlkcfjodmhhmaaDoor.Cut
