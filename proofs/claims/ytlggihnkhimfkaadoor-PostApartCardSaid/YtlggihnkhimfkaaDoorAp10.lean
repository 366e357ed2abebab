/- Texts put together by prune.py: Px14, PsE, Opn, PsO, LayP. -/
import Derived.ChangeArms
import Derived.DataReads
import Derived.SizedLaws
import Derived.Test.YtlggihnkhimfkaaDoorRows
import Derived.Lib.LaidIn
import Derived.Lib.LaidU8T
import Derived.Deep.DeepHandedRow
import Derived.Deep.DeepWitnessRowRef
import Derived.ProofKit
import Derived.Stop.LaidErr
import Derived.Lib.LaidTab
import Derived.Test.YtlggihnkhimfkaaDoorAp9
namespace Go.Proofs.YtlggihnkhimfkaaDoor.P
open Go.RowKit Go.Proofs.YtlggihnkhimfkaaDoorW.PrintWords Go.Proofs.YtlggihnkhimfkaaDoorW.PrintLast Go.Proofs.YtlggihnkhimfkaaDoorW.PrintMore
attribute [local go_sem] max2_int min2_int max_two min_two max_three min_three max_four min_four   -- for this text's walks alone
set_option linter.unusedVariables false
set_option linter.unusedSimpArgs false
open Go.Proofs.YtlggihnkhimfkaaDoor.Giv
mutual
def ploverlaw13_PostApart.j0 : Nat → Bool → Int → Int → Int → Int → Int → Int → Int → Int → Int → Int → List Int → Int → Int → Bool → List (S52) → ByteArray → Int → Int → Int → Int → Int → Int → Int → Int → Int → Int → List Int → Int → Int → Bool → List (S52) → ByteArray → Option (Bool)
  | 0, _, _, _, _, _, _, _, _, _, _, _, _, _, _, _, _, _, _, _, _, _, _, _, _, _, _, _, _, _, _, _, _, _ => none
  | k + 1, x16, x268000, x268001, x268002, x268003, x268004, x268005, x268006, x268007, x268008, x268009, x268010, x268011, x268012, x268013, x268014, x268015, x269000, x269001, x269002, x269003, x269004, x269005, x269006, x269007, x269008, x269009, x269010, x269011, x269012, x269013, x269014, x269015 => if x16 = true then ((ploverlaw13_awake.f).bind fun t271 => (some t271)) else ((post_Put.f x268000 x268001 x268002 x268003 x268004 x268005 x268006 x268007 x268008 x268009 x268010 x268011 x268012 x268013 x268014 x268015).bind fun bt272 => ((post_Put.f x269000 x269001 x269002 x269003 x269004 x269005 x269006 x269007 x269008 x269009 x269010 x269011 x269012 x269013 x269014 x269015).bind fun bt274 => (if bt272.2 = 0 then (ploverlaw13_PostApart.j1 k bt272.1 bt274.1 (bt274.2 != 0) x268000 x268001 x268002 x268003 x268004 x268005 x268006 x268007 x268008 x268009 x268010 x268011 x268012 x268013 x268014 x268015 x269000 x269001 x269002 x269003 x269004 x269005 x269006 x269007 x269008 x269009 x269010 x269011 x269012 x269013 x269014 x269015) else (ploverlaw13_PostApart.j1 k bt272.1 bt274.1 true x268000 x268001 x268002 x268003 x268004 x268005 x268006 x268007 x268008 x268009 x268010 x268011 x268012 x268013 x268014 x268015 x269000 x269001 x269002 x269003 x269004 x269005 x269006 x269007 x269008 x269009 x269010 x269011 x269012 x269013 x269014 x269015))))
def ploverlaw13_PostApart.j1 : Nat → ByteArray → ByteArray → Bool → Int → Int → Int → Int → Int → Int → Int → Int → Int → Int → List Int → Int → Int → Bool → List (S52) → ByteArray → Int → Int → Int → Int → Int → Int → Int → Int → Int → Int → List Int → Int → Int → Bool → List (S52) → ByteArray → Option (Bool)
  | 0, _, _, _, _, _, _, _, _, _, _, _, _, _, _, _, _, _, _, _, _, _, _, _, _, _, _, _, _, _, _, _, _, _, _, _ => none
  | k + 1, x5, x7, x33, x268000, x268001, x268002, x268003, x268004, x268005, x268006, x268007, x268008, x268009, x268010, x268011, x268012, x268013, x268014, x268015, x269000, x269001, x269002, x269003, x269004, x269005, x269006, x269007, x269008, x269009, x269010, x269011, x269012, x269013, x269014, x269015 => if x33 = true then ((ploverlaw13_awake.f).bind fun t276 => (some t276)) else ((ploverref13_Same.f k x268000 x268001 x268002 x268003 x268004 x268005 x268006 x268007 x268008 x268009 x268010 x268011 x268012 x268013 x268014 x268015 x269000 x269001 x269002 x269003 x269004 x269005 x269006 x269007 x269008 x269009 x269010 x269011 x269012 x269013 x269014 x269015).bind fun t277 => (if ((x5.toList == x7.toList) == t277) = true then ((ploverlaw13_awake.f).bind fun t278 => (some t278)) else (some false)))
end
def ploverlaw13_PostApart.f (k : Nat) (a0_0 : Int) (a0_1 : Int) (a0_2 : Int) (a0_3 : Int) (a0_4 : Int) (a0_5 : Int) (a0_6 : Int) (a0_7 : Int) (a0_8 : Int) (a0_9 : Int) (l0_10 : List Int) (a0_11 : Int) (a0_12 : Int) (a0_13 : Bool) (l0_14 : List (S52)) (a0_15 : ByteArray) (a1_0 : Int) (a1_1 : Int) (a1_2 : Int) (a1_3 : Int) (a1_4 : Int) (a1_5 : Int) (a1_6 : Int) (a1_7 : Int) (a1_8 : Int) (a1_9 : Int) (l1_10 : List Int) (a1_11 : Int) (a1_12 : Int) (a1_13 : Bool) (l1_14 : List (S52)) (a1_15 : ByteArray) : Option (Bool) := (ploverlaw13_light.f a0_0 a0_1 a0_2 a0_3 a0_4 a0_5 a0_6 a0_7 a0_8 a0_9 l0_10 a0_11 a0_12 a0_13 l0_14 a0_15).bind fun t269 => (if t269 = true then ((ploverlaw13_light.f a1_0 a1_1 a1_2 a1_3 a1_4 a1_5 a1_6 a1_7 a1_8 a1_9 l1_10 a1_11 a1_12 a1_13 l1_14 a1_15).bind fun t270 => (ploverlaw13_PostApart.j0 k (!t270) a0_0 a0_1 a0_2 a0_3 a0_4 a0_5 a0_6 a0_7 a0_8 a0_9 l0_10 a0_11 a0_12 a0_13 l0_14 a0_15 a1_0 a1_1 a1_2 a1_3 a1_4 a1_5 a1_6 a1_7 a1_8 a1_9 l1_10 a1_11 a1_12 a1_13 l1_14 a1_15)) else (ploverlaw13_PostApart.j0 k true a0_0 a0_1 a0_2 a0_3 a0_4 a0_5 a0_6 a0_7 a0_8 a0_9 l0_10 a0_11 a0_12 a0_13 l0_14 a0_15 a1_0 a1_1 a1_2 a1_3 a1_4 a1_5 a1_6 a1_7 a1_8 a1_9 l1_10 a1_11 a1_12 a1_13 l1_14 a1_15))
set_option maxHeartbeats 8000000 in
set_option maxRecDepth 100000 in
theorem ploverlaw13_PostApart.calls (k : Nat) (a0_0 : Int) (a0_1 : Int) (a0_2 : Int) (a0_3 : Int) (a0_4 : Int) (a0_5 : Int) (a0_6 : Int) (a0_7 : Int) (a0_8 : Int) (a0_9 : Int) (A0_10 : Option Addr) (c0_10 : Nat) (l0_10 : List Int) (a0_11 : Int) (a0_12 : Int) (a0_13 : Bool) (A0_14 : Option Addr) (c0_14 : Nat) (l0_14 : List (S52)) (a0_15 : ByteArray) (a1_0 : Int) (a1_1 : Int) (a1_2 : Int) (a1_3 : Int) (a1_4 : Int) (a1_5 : Int) (a1_6 : Int) (a1_7 : Int) (a1_8 : Int) (a1_9 : Int) (A1_10 : Option Addr) (c1_10 : Nat) (l1_10 : List Int) (a1_11 : Int) (a1_12 : Int) (a1_13 : Bool) (A1_14 : Option Addr) (c1_14 : Nat) (l1_14 : List (S52)) (a1_15 : ByteArray) (r : Bool) (w : World) (hL : LaidW w) (hr0_10 : Kd.C (Kd.int .i64) w A0_10 l0_10.length l0_10) (hc0_10 : l0_10.length ≤ c0_10) (hr0_14 : Kd.C k52 w A0_14 l0_14.length l0_14) (hc0_14 : l0_14.length ≤ c0_14) (hr1_10 : Kd.C (Kd.int .i64) w A1_10 l1_10.length l1_10) (hc1_10 : l1_10.length ≤ c1_10) (hr1_14 : Kd.C k52 w A1_14 l1_14.length l1_14) (hc1_14 : l1_14.length ≤ c1_14) (h : ploverlaw13_PostApart.f k a0_0 a0_1 a0_2 a0_3 a0_4 a0_5 a0_6 a0_7 a0_8 a0_9 l0_10 a0_11 a0_12 a0_13 l0_14 a0_15 a1_0 a1_1 a1_2 a1_3 a1_4 a1_5 a1_6 a1_7 a1_8 a1_9 l1_10 a1_11 a1_12 a1_13 l1_14 a1_15 = some r) :
    Calls Tryd.prog 4 #[.agg #[.int .i64 a0_0, .int .i64 a0_1, .int .i64 a0_2, .int .i64 a0_3, .int .i64 a0_4, .int .i64 a0_5, .int .i64 a0_6, .int .i64 a0_7, .int .i64 a0_8, .int .i64 a0_9, .slice A0_10 l0_10.length c0_10, .int .i64 a0_11, .int .i64 a0_12, .bool a0_13, .slice A0_14 l0_14.length c0_14, .string a0_15], .agg #[.int .i64 a1_0, .int .i64 a1_1, .int .i64 a1_2, .int .i64 a1_3, .int .i64 a1_4, .int .i64 a1_5, .int .i64 a1_6, .int .i64 a1_7, .int .i64 a1_8, .int .i64 a1_9, .slice A1_10 l1_10.length c1_10, .int .i64 a1_11, .int .i64 a1_12, .bool a1_13, .slice A1_14 l1_14.length c1_14, .string a1_15]] w fun e w' => e = .returned (.bool r) ∧ Below w.heap.size w w' := by
  have hu30 := Tryd.underlying30
  have HR0_10 := Aside0.mk hr0_10
  have HC0_10 := Aside0.mk hc0_10
  clear hr0_10 hc0_10
  have HR0_14 := Aside0.mk hr0_14
  have HC0_14 := Aside0.mk hc0_14
  clear hr0_14 hc0_14
  have HR1_10 := Aside0.mk hr1_10
  have HC1_10 := Aside0.mk hc1_10
  clear hr1_10 hc1_10
  have HR1_14 := Aside0.mk hr1_14
  have HC1_14 := Aside0.mk hc1_14
  clear hr1_14 hc1_14
  have HB := Aside0.mk (Below.refl w.heap.size w)
  have H : ((ploverlaw13_light.f a0_0 a0_1 a0_2 a0_3 a0_4 a0_5 a0_6 a0_7 a0_8 a0_9 l0_10 a0_11 a0_12 a0_13 l0_14 a0_15).bind fun t269 => (if t269 = true then ((ploverlaw13_light.f a1_0 a1_1 a1_2 a1_3 a1_4 a1_5 a1_6 a1_7 a1_8 a1_9 l1_10 a1_11 a1_12 a1_13 l1_14 a1_15).bind fun t270 => (ploverlaw13_PostApart.j0 k (!t270) a0_0 a0_1 a0_2 a0_3 a0_4 a0_5 a0_6 a0_7 a0_8 a0_9 l0_10 a0_11 a0_12 a0_13 l0_14 a0_15 a1_0 a1_1 a1_2 a1_3 a1_4 a1_5 a1_6 a1_7 a1_8 a1_9 l1_10 a1_11 a1_12 a1_13 l1_14 a1_15)) else (ploverlaw13_PostApart.j0 k true a0_0 a0_1 a0_2 a0_3 a0_4 a0_5 a0_6 a0_7 a0_8 a0_9 l0_10 a0_11 a0_12 a0_13 l0_14 a0_15 a1_0 a1_1 a1_2 a1_3 a1_4 a1_5 a1_6 a1_7 a1_8 a1_9 l1_10 a1_11 a1_12 a1_13 l1_14 a1_15))) = some r := h
  clear h
  have HC3 := Aside0.mk H
  clear H
  go_enter Tryd.func4, Tryd.ntmps4
  go_upto_region 1 with (first | ((with_reducible refine gate_dst (N := 2) rfl ?_); refine box_event ?hg (N := 2) ?hd (cs := #[.int .i64 a0_0, .int .i64 a0_1, .int .i64 a0_2, .int .i64 a0_3, .int .i64 a0_4, .int .i64 a0_5, .int .i64 a0_6, .int .i64 a0_7, .int .i64 a0_8, .int .i64 a0_9, .slice A0_10 l0_10.length c0_10, .int .i64 a0_11, .int .i64 a0_12, .bool a0_13, .slice A0_14 l0_14.length c0_14, .string a0_15]) (t := 30) ?hr ?_; (case hd => rfl); (case hg => rfl); (case hr => first | (go_simp; done) | (go_simp; rfl)); intro gb267 hg w4 hbox hb; have n0_ := Aside0.mk (below_step (by repeat (first | (with_reducible first | exact HB.out | apply below_alloc | apply pw_below_drewN | apply below_drew1) | exact HB.out)) hb); have n1_ := Aside0.mk (hbox); have n2_ := Aside0.mk ((by rw [hg]; exact (below_size (by repeat (first | (with_reducible first | exact HB.out | apply below_alloc | apply pw_below_drewN | apply below_drew1) | exact HB.out))) : w.heap.size ≤ gb267)); have n3_ := Aside0.mk ((by rw [hg]; exact (below_size (by repeat (first | (with_reducible first | exact HB.out | apply below_alloc | apply pw_below_drewN | apply below_drew1) | exact HB.out))) : w.heap.size ≤ gb267)); clear HB; have HB := n0_; have BK267 := n1_; have GW267 := n2_; have GE267 := n3_; clear n0_ n1_ n2_ n3_; clear hb hbox hg) | ((with_reducible refine gate_dst (N := 3) rfl ?_); refine box_event ?hg (N := 3) ?hd (cs := #[.int .i64 a1_0, .int .i64 a1_1, .int .i64 a1_2, .int .i64 a1_3, .int .i64 a1_4, .int .i64 a1_5, .int .i64 a1_6, .int .i64 a1_7, .int .i64 a1_8, .int .i64 a1_9, .slice A1_10 l1_10.length c1_10, .int .i64 a1_11, .int .i64 a1_12, .bool a1_13, .slice A1_14 l1_14.length c1_14, .string a1_15]) (t := 30) ?hr ?_; (case hd => rfl); (case hg => rfl); (case hr => first | (go_simp; done) | (go_simp; rfl)); intro gb268 hg w5 hbox hb; have n0_ := Aside0.mk (blk_below (g := gb267) (o := .cells #[.int .i64 a0_0, .int .i64 a0_1, .int .i64 a0_2, .int .i64 a0_3, .int .i64 a0_4, .int .i64 a0_5, .int .i64 a0_6, .int .i64 a0_7, .int .i64 a0_8, .int .i64 a0_9, .slice A0_10 l0_10.length c0_10, .int .i64 a0_11, .int .i64 a0_12, .bool a0_13, .slice A0_14 l0_14.length c0_14, .string a0_15] 30 (0, 0)) (by (with_reducible repeat (first | refine blk_drewN ?_ _ | refine blk_drew ?_ | refine blk_alloc ?_ _)); exact BK267.out) hb); have n1_ := Aside0.mk (below_step (by repeat (first | (with_reducible first | exact HB.out | apply below_alloc | apply pw_below_drewN | apply below_drew1 | refine below_set ?_ GE267.out) | exact HB.out)) hb); have n2_ := Aside0.mk (hbox); have n3_ := Aside0.mk ((by rw [hg]; exact (below_size (by repeat (first | (with_reducible first | exact HB.out | apply below_alloc | apply pw_below_drewN | apply below_drew1 | refine below_set ?_ GE267.out) | exact HB.out))) : w.heap.size ≤ gb268)); have n4_ := Aside0.mk ((by rw [hg]; exact (below_size (by repeat (first | (with_reducible first | exact HB.out | apply below_alloc | apply pw_below_drewN | apply below_drew1 | refine below_set ?_ GE267.out) | exact HB.out))) : w.heap.size ≤ gb268)); have n5_ := Aside0.mk ((by rw [hg]; exact Nat.ne_of_lt (blk_lt (g := gb267) (o := .cells #[.int .i64 a0_0, .int .i64 a0_1, .int .i64 a0_2, .int .i64 a0_3, .int .i64 a0_4, .int .i64 a0_5, .int .i64 a0_6, .int .i64 a0_7, .int .i64 a0_8, .int .i64 a0_9, .slice A0_10 l0_10.length c0_10, .int .i64 a0_11, .int .i64 a0_12, .bool a0_13, .slice A0_14 l0_14.length c0_14, .string a0_15] 30 (0, 0)) (by (with_reducible repeat (first | refine blk_drewN ?_ _ | refine blk_drew ?_ | refine blk_alloc ?_ _)); exact BK267.out)) : gb267 ≠ gb268)); have n6_ := Aside0.mk ((by rw [hg]; exact Nat.ne_of_gt (blk_lt (g := gb267) (o := .cells #[.int .i64 a0_0, .int .i64 a0_1, .int .i64 a0_2, .int .i64 a0_3, .int .i64 a0_4, .int .i64 a0_5, .int .i64 a0_6, .int .i64 a0_7, .int .i64 a0_8, .int .i64 a0_9, .slice A0_10 l0_10.length c0_10, .int .i64 a0_11, .int .i64 a0_12, .bool a0_13, .slice A0_14 l0_14.length c0_14, .string a0_15] 30 (0, 0)) (by (with_reducible repeat (first | refine blk_drewN ?_ _ | refine blk_drew ?_ | refine blk_alloc ?_ _)); exact BK267.out)) : gb268 ≠ gb267)); clear BK267; clear HB; have BK267 := n0_; have HB := n1_; have BK268 := n2_; have GW268 := n3_; have GE268 := n4_; have NB267_268 := n5_; have NB268_267 := n6_; clear n0_ n1_ n2_ n3_ n4_ n5_ n6_; clear hb hbox hg))
  (try simp only [Act.put, List.setIfInBounds_toArray, List.set_cons_zero, List.set_cons_succ])
  go_cut [16] (fun v16 wc => ∃ (kq : Nat) (x16_2 : Bool), v16 = .bool x16_2 ∧ Aside0 (ploverlaw13_PostApart.j0 kq x16_2 a0_0 a0_1 a0_2 a0_3 a0_4 a0_5 a0_6 a0_7 a0_8 a0_9 l0_10 a0_11 a0_12 a0_13 l0_14 a0_15 a1_0 a1_1 a1_2 a1_3 a1_4 a1_5 a1_6 a1_7 a1_8 a1_9 l1_10 a1_11 a1_12 a1_13 l1_14 a1_15 = some r) ∧ Aside0 (kq ≤ k) ∧ Aside0 (wc.heap[gb267]? = some (.cells #[.int .i64 a0_0, .int .i64 a0_1, .int .i64 a0_2, .int .i64 a0_3, .int .i64 a0_4, .int .i64 a0_5, .int .i64 a0_6, .int .i64 a0_7, .int .i64 a0_8, .int .i64 a0_9, (.slice A0_10 l0_10.length c0_10), .int .i64 a0_11, .int .i64 a0_12, .bool a0_13, (.slice A0_14 l0_14.length c0_14), .string a0_15] 30 (0, 0))) ∧ Aside0 (wc.heap[gb268]? = some (.cells #[.int .i64 a1_0, .int .i64 a1_1, .int .i64 a1_2, .int .i64 a1_3, .int .i64 a1_4, .int .i64 a1_5, .int .i64 a1_6, .int .i64 a1_7, .int .i64 a1_8, .int .i64 a1_9, (.slice A1_10 l1_10.length c1_10), .int .i64 a1_11, .int .i64 a1_12, .bool a1_13, (.slice A1_14 l1_14.length c1_14), .string a1_15] 30 (0, 0))) ∧ Aside0 (Below w.heap.size w wc))
  case first =>
    as_aux_lemma =>
    have H := HC3.out
    clear HC3
    replace H := Option.bind_eq_some_iff.mp H
    obtain ⟨t269, A60, H⟩ := H
    replace H : (if t269 = true then ((ploverlaw13_light.f a1_0 a1_1 a1_2 a1_3 a1_4 a1_5 a1_6 a1_7 a1_8 a1_9 l1_10 a1_11 a1_12 a1_13 l1_14 a1_15).bind fun t270 => (ploverlaw13_PostApart.j0 k (!t270) a0_0 a0_1 a0_2 a0_3 a0_4 a0_5 a0_6 a0_7 a0_8 a0_9 l0_10 a0_11 a0_12 a0_13 l0_14 a0_15 a1_0 a1_1 a1_2 a1_3 a1_4 a1_5 a1_6 a1_7 a1_8 a1_9 l1_10 a1_11 a1_12 a1_13 l1_14 a1_15)) else (ploverlaw13_PostApart.j0 k true a0_0 a0_1 a0_2 a0_3 a0_4 a0_5 a0_6 a0_7 a0_8 a0_9 l0_10 a0_11 a0_12 a0_13 l0_14 a0_15 a1_0 a1_1 a1_2 a1_3 a1_4 a1_5 a1_6 a1_7 a1_8 a1_9 l1_10 a1_11 a1_12 a1_13 l1_14 a1_15)) = some r := H
    have A6 := Aside0.mk A60
    clear A60
    by_cases c7 : t269 = true
    · as_aux_lemma =>
      subst c7
      have H1 : ((ploverlaw13_light.f a1_0 a1_1 a1_2 a1_3 a1_4 a1_5 a1_6 a1_7 a1_8 a1_9 l1_10 a1_11 a1_12 a1_13 l1_14 a1_15).bind fun t270 => (ploverlaw13_PostApart.j0 k (!t270) a0_0 a0_1 a0_2 a0_3 a0_4 a0_5 a0_6 a0_7 a0_8 a0_9 l0_10 a0_11 a0_12 a0_13 l0_14 a0_15 a1_0 a1_1 a1_2 a1_3 a1_4 a1_5 a1_6 a1_7 a1_8 a1_9 l1_10 a1_11 a1_12 a1_13 l1_14 a1_15)) = some r := by rw [if_pos rfl] at H; exact H
      clear H
      have H := H1
      clear H1
      replace H := Option.bind_eq_some_iff.mp H
      obtain ⟨t270, A80, H⟩ := H
      replace H : (ploverlaw13_PostApart.j0 k (!t270) a0_0 a0_1 a0_2 a0_3 a0_4 a0_5 a0_6 a0_7 a0_8 a0_9 l0_10 a0_11 a0_12 a0_13 l0_14 a0_15 a1_0 a1_1 a1_2 a1_3 a1_4 a1_5 a1_6 a1_7 a1_8 a1_9 l1_10 a1_11 a1_12 a1_13 l1_14 a1_15) = some r := H
      have A8 := Aside0.mk A80
      clear A80
      have H' := Aside0.mk H
      clear H
      have hnb9 := NB267_268.out
      have hnc9 := NB268_267.out
      have hcz10_0 : w5.cell? ⟨gb267, 0, none⟩ = some (.int .i64 a0_0) := (blk_cell BK267.out 0).trans rfl
      have hcz10_1 : w5.cell? ⟨gb267, 1, none⟩ = some (.int .i64 a0_1) := (blk_cell BK267.out 1).trans rfl
      have hcz10_2 : w5.cell? ⟨gb267, 2, none⟩ = some (.int .i64 a0_2) := (blk_cell BK267.out 2).trans rfl
      have hcz10_3 : w5.cell? ⟨gb267, 3, none⟩ = some (.int .i64 a0_3) := (blk_cell BK267.out 3).trans rfl
      have hcz10_4 : w5.cell? ⟨gb267, 4, none⟩ = some (.int .i64 a0_4) := (blk_cell BK267.out 4).trans rfl
      have hcz10_5 : w5.cell? ⟨gb267, 5, none⟩ = some (.int .i64 a0_5) := (blk_cell BK267.out 5).trans rfl
      have hcz10_6 : w5.cell? ⟨gb267, 6, none⟩ = some (.int .i64 a0_6) := (blk_cell BK267.out 6).trans rfl
      have hcz10_7 : w5.cell? ⟨gb267, 7, none⟩ = some (.int .i64 a0_7) := (blk_cell BK267.out 7).trans rfl
      have hcz10_8 : w5.cell? ⟨gb267, 8, none⟩ = some (.int .i64 a0_8) := (blk_cell BK267.out 8).trans rfl
      have hcz10_9 : w5.cell? ⟨gb267, 9, none⟩ = some (.int .i64 a0_9) := (blk_cell BK267.out 9).trans rfl
      have hcz10_10 : w5.cell? ⟨gb267, 10, none⟩ = some (.slice A0_10 l0_10.length c0_10) := (blk_cell BK267.out 10).trans rfl
      have hcz10_11 : w5.cell? ⟨gb267, 11, none⟩ = some (.int .i64 a0_11) := (blk_cell BK267.out 11).trans rfl
      have hcz10_12 : w5.cell? ⟨gb267, 12, none⟩ = some (.int .i64 a0_12) := (blk_cell BK267.out 12).trans rfl
      have hcz10_13 : w5.cell? ⟨gb267, 13, none⟩ = some (.bool a0_13) := (blk_cell BK267.out 13).trans rfl
      have hcz10_14 : w5.cell? ⟨gb267, 14, none⟩ = some (.slice A0_14 l0_14.length c0_14) := (blk_cell BK267.out 14).trans rfl
      have hcz10_15 : w5.cell? ⟨gb267, 15, none⟩ = some (.string a0_15) := (blk_cell BK267.out 15).trans rfl
      have hfz10_0 := blk_frozen BK267.out 0
      have hfz10_1 := blk_frozen BK267.out 1
      have hfz10_2 := blk_frozen BK267.out 2
      have hfz10_3 := blk_frozen BK267.out 3
      have hfz10_4 := blk_frozen BK267.out 4
      have hfz10_5 := blk_frozen BK267.out 5
      have hfz10_6 := blk_frozen BK267.out 6
      have hfz10_7 := blk_frozen BK267.out 7
      have hfz10_8 := blk_frozen BK267.out 8
      have hfz10_9 := blk_frozen BK267.out 9
      have hfz10_10 := blk_frozen BK267.out 10
      have hfz10_11 := blk_frozen BK267.out 11
      have hfz10_12 := blk_frozen BK267.out 12
      have hfz10_13 := blk_frozen BK267.out 13
      have hfz10_14 := blk_frozen BK267.out 14
      have hfz10_15 := blk_frozen BK267.out 15
      go_wp2_with (first | ((with_reducible refine gate_callee (f := 7) rfl ?_); refine goesL_ (some 10) rfl rfl Tryd.func7 (by kernel_rfl) rfl #[.agg #[.int .i64 a0_0, .int .i64 a0_1, .int .i64 a0_2, .int .i64 a0_3, .int .i64 a0_4, .int .i64 a0_5, .int .i64 a0_6, .int .i64 a0_7, .int .i64 a0_8, .int .i64 a0_9, .slice A0_10 l0_10.length c0_10, .int .i64 a0_11, .int .i64 a0_12, .bool a0_13, .slice A0_14 l0_14.length c0_14, .string a0_15]] rfl (by (try simp only [List.map_toArray, List.map_cons, List.map_nil]); first | done | rfl | (simp only [List.length_drop, List.length_take]; rfl)) ?_; (with_reducible refine (ploverlaw13_light.calls a0_0 a0_1 a0_2 a0_3 a0_4 a0_5 a0_6 a0_7 a0_8 a0_9 _ _ l0_10 a0_11 a0_12 a0_13 _ _ l0_14 a0_15 true _ ?side1 ?side2 ?side3 ?side4 A6.out).mono ?_); (case side1 => repeat (first | exact (Kd.C_below HR0_10.out HB.out) | (with_reducible refine Kd.C_alloc ?_ _) | (with_reducible refine Kd.C_drewN ?_ _) | (with_reducible refine Kd.C_drew ?_))); (case side2 => exact HC0_10.out); (case side3 => repeat (first | exact (Kd.C_below HR0_14.out HB.out) | (with_reducible refine Kd.C_alloc ?_ _) | (with_reducible refine Kd.C_drewN ?_ _) | (with_reducible refine Kd.C_drew ?_))); (case side4 => exact HC0_14.out); rintro e w11 ⟨rfl, hb⟩; refine ⟨_, rfl, ?_⟩; have n0_ := Aside0.mk (blk_below (g := gb267) (o := .cells #[.int .i64 a0_0, .int .i64 a0_1, .int .i64 a0_2, .int .i64 a0_3, .int .i64 a0_4, .int .i64 a0_5, .int .i64 a0_6, .int .i64 a0_7, .int .i64 a0_8, .int .i64 a0_9, .slice A0_10 l0_10.length c0_10, .int .i64 a0_11, .int .i64 a0_12, .bool a0_13, .slice A0_14 l0_14.length c0_14, .string a0_15] 30 (0, 0)) (by (with_reducible repeat (first | refine blk_drewN ?_ _ | refine blk_drew ?_ | refine blk_alloc ?_ _)); exact BK267.out) hb); have n1_ := Aside0.mk (blk_below (g := gb268) (o := .cells #[.int .i64 a1_0, .int .i64 a1_1, .int .i64 a1_2, .int .i64 a1_3, .int .i64 a1_4, .int .i64 a1_5, .int .i64 a1_6, .int .i64 a1_7, .int .i64 a1_8, .int .i64 a1_9, .slice A1_10 l1_10.length c1_10, .int .i64 a1_11, .int .i64 a1_12, .bool a1_13, .slice A1_14 l1_14.length c1_14, .string a1_15] 30 (0, 0)) (by (with_reducible repeat (first | refine blk_drewN ?_ _ | refine blk_drew ?_ | refine blk_alloc ?_ _)); exact BK268.out) hb); have n2_ := Aside0.mk (below_step (by repeat (first | (with_reducible first | exact HB.out | apply below_alloc | apply pw_below_drewN | apply below_drew1 | refine below_set ?_ GE267.out | refine below_set ?_ GE268.out) | exact HB.out)) hb); clear BK267; clear BK268; clear HB; have BK267 := n0_; have BK268 := n1_; have HB := n2_; clear n0_ n1_ n2_; (try clear hb); (try clear hb2); (try clear hk); (try clear hi); have hcz12_0 : w11.cell? ⟨gb268, 0, none⟩ = some (.int .i64 a1_0) := (blk_cell BK268.out 0).trans rfl; have hcz12_1 : w11.cell? ⟨gb268, 1, none⟩ = some (.int .i64 a1_1) := (blk_cell BK268.out 1).trans rfl; have hcz12_2 : w11.cell? ⟨gb268, 2, none⟩ = some (.int .i64 a1_2) := (blk_cell BK268.out 2).trans rfl; have hcz12_3 : w11.cell? ⟨gb268, 3, none⟩ = some (.int .i64 a1_3) := (blk_cell BK268.out 3).trans rfl; have hcz12_4 : w11.cell? ⟨gb268, 4, none⟩ = some (.int .i64 a1_4) := (blk_cell BK268.out 4).trans rfl; have hcz12_5 : w11.cell? ⟨gb268, 5, none⟩ = some (.int .i64 a1_5) := (blk_cell BK268.out 5).trans rfl; have hcz12_6 : w11.cell? ⟨gb268, 6, none⟩ = some (.int .i64 a1_6) := (blk_cell BK268.out 6).trans rfl; have hcz12_7 : w11.cell? ⟨gb268, 7, none⟩ = some (.int .i64 a1_7) := (blk_cell BK268.out 7).trans rfl; have hcz12_8 : w11.cell? ⟨gb268, 8, none⟩ = some (.int .i64 a1_8) := (blk_cell BK268.out 8).trans rfl; have hcz12_9 : w11.cell? ⟨gb268, 9, none⟩ = some (.int .i64 a1_9) := (blk_cell BK268.out 9).trans rfl; have hcz12_10 : w11.cell? ⟨gb268, 10, none⟩ = some (.slice A1_10 l1_10.length c1_10) := (blk_cell BK268.out 10).trans rfl; have hcz12_11 : w11.cell? ⟨gb268, 11, none⟩ = some (.int .i64 a1_11) := (blk_cell BK268.out 11).trans rfl; have hcz12_12 : w11.cell? ⟨gb268, 12, none⟩ = some (.int .i64 a1_12) := (blk_cell BK268.out 12).trans rfl; have hcz12_13 : w11.cell? ⟨gb268, 13, none⟩ = some (.bool a1_13) := (blk_cell BK268.out 13).trans rfl; have hcz12_14 : w11.cell? ⟨gb268, 14, none⟩ = some (.slice A1_14 l1_14.length c1_14) := (blk_cell BK268.out 14).trans rfl; have hcz12_15 : w11.cell? ⟨gb268, 15, none⟩ = some (.string a1_15) := (blk_cell BK268.out 15).trans rfl; have hfz12_0 := blk_frozen BK268.out 0; have hfz12_1 := blk_frozen BK268.out 1; have hfz12_2 := blk_frozen BK268.out 2; have hfz12_3 := blk_frozen BK268.out 3; have hfz12_4 := blk_frozen BK268.out 4; have hfz12_5 := blk_frozen BK268.out 5; have hfz12_6 := blk_frozen BK268.out 6; have hfz12_7 := blk_frozen BK268.out 7; have hfz12_8 := blk_frozen BK268.out 8; have hfz12_9 := blk_frozen BK268.out 9; have hfz12_10 := blk_frozen BK268.out 10; have hfz12_11 := blk_frozen BK268.out 11; have hfz12_12 := blk_frozen BK268.out 12; have hfz12_13 := blk_frozen BK268.out 13; have hfz12_14 := blk_frozen BK268.out 14; have hfz12_15 := blk_frozen BK268.out 15) | (go_at_call 7; (with_reducible refine (ploverlaw13_light.calls a1_0 a1_1 a1_2 a1_3 a1_4 a1_5 a1_6 a1_7 a1_8 a1_9 _ _ l1_10 a1_11 a1_12 a1_13 _ _ l1_14 a1_15 t270 _ ?side1 ?side2 ?side3 ?side4 A8.out).mono ?_); (case side1 => repeat (first | exact (Kd.C_below HR1_10.out HB.out) | (with_reducible refine Kd.C_alloc ?_ _) | (with_reducible refine Kd.C_drewN ?_ _) | (with_reducible refine Kd.C_drew ?_))); (case side2 => exact HC1_10.out); (case side3 => repeat (first | exact (Kd.C_below HR1_14.out HB.out) | (with_reducible refine Kd.C_alloc ?_ _) | (with_reducible refine Kd.C_drewN ?_ _) | (with_reducible refine Kd.C_drew ?_))); (case side4 => exact HC1_14.out); rintro e w13 ⟨rfl, hb⟩; have n0_ := Aside0.mk (blk_below (g := gb267) (o := .cells #[.int .i64 a0_0, .int .i64 a0_1, .int .i64 a0_2, .int .i64 a0_3, .int .i64 a0_4, .int .i64 a0_5, .int .i64 a0_6, .int .i64 a0_7, .int .i64 a0_8, .int .i64 a0_9, .slice A0_10 l0_10.length c0_10, .int .i64 a0_11, .int .i64 a0_12, .bool a0_13, .slice A0_14 l0_14.length c0_14, .string a0_15] 30 (0, 0)) (by (with_reducible repeat (first | refine blk_drewN ?_ _ | refine blk_drew ?_ | refine blk_alloc ?_ _)); exact BK267.out) hb); have n1_ := Aside0.mk (blk_below (g := gb268) (o := .cells #[.int .i64 a1_0, .int .i64 a1_1, .int .i64 a1_2, .int .i64 a1_3, .int .i64 a1_4, .int .i64 a1_5, .int .i64 a1_6, .int .i64 a1_7, .int .i64 a1_8, .int .i64 a1_9, .slice A1_10 l1_10.length c1_10, .int .i64 a1_11, .int .i64 a1_12, .bool a1_13, .slice A1_14 l1_14.length c1_14, .string a1_15] 30 (0, 0)) (by (with_reducible repeat (first | refine blk_drewN ?_ _ | refine blk_drew ?_ | refine blk_alloc ?_ _)); exact BK268.out) hb); have n2_ := Aside0.mk (below_step (by repeat (first | (with_reducible first | exact HB.out | apply below_alloc | apply pw_below_drewN | apply below_drew1 | refine below_set ?_ GE267.out | refine below_set ?_ GE268.out) | exact HB.out)) hb); clear BK267; clear BK268; clear HB; have BK267 := n0_; have BK268 := n1_; have HB := n2_; clear n0_ n1_ n2_; (try clear hb); (try clear hb2); (try clear hk); (try clear hi)))
      go_meet
      case rel => exact ⟨_, (!t270), (by first | rfl | (simp; done) | (simp [*]; done)), H', ⟨by first | omega | exact Nat.le_refl _⟩, ⟨by (with_reducible repeat (first | refine blk_drewN ?_ _ | refine blk_drew ?_ | refine blk_alloc ?_ _)); exact BK267.out⟩, ⟨by (with_reducible repeat (first | refine blk_drewN ?_ _ | refine blk_drew ?_ | refine blk_alloc ?_ _)); exact BK268.out⟩, ⟨by repeat (first | (with_reducible first | exact HB.out | apply below_alloc | apply pw_below_drewN | apply below_drew1 | refine below_set ?_ GE267.out | refine below_set ?_ GE268.out) | exact HB.out)⟩⟩
    · as_aux_lemma =>
      replace c7 := Bool.eq_false_iff.mpr c7
      subst c7
      have H1 : (ploverlaw13_PostApart.j0 k true a0_0 a0_1 a0_2 a0_3 a0_4 a0_5 a0_6 a0_7 a0_8 a0_9 l0_10 a0_11 a0_12 a0_13 l0_14 a0_15 a1_0 a1_1 a1_2 a1_3 a1_4 a1_5 a1_6 a1_7 a1_8 a1_9 l1_10 a1_11 a1_12 a1_13 l1_14 a1_15) = some r := by rw [if_neg (show ¬ (false = true) by decide)] at H; exact H
      clear H
      have H := H1
      clear H1
      have H' := Aside0.mk H
      clear H
      have hnb14 := NB267_268.out
      have hnc14 := NB268_267.out
      have hcz15_0 : w5.cell? ⟨gb267, 0, none⟩ = some (.int .i64 a0_0) := (blk_cell BK267.out 0).trans rfl
      have hcz15_1 : w5.cell? ⟨gb267, 1, none⟩ = some (.int .i64 a0_1) := (blk_cell BK267.out 1).trans rfl
      have hcz15_2 : w5.cell? ⟨gb267, 2, none⟩ = some (.int .i64 a0_2) := (blk_cell BK267.out 2).trans rfl
      have hcz15_3 : w5.cell? ⟨gb267, 3, none⟩ = some (.int .i64 a0_3) := (blk_cell BK267.out 3).trans rfl
      have hcz15_4 : w5.cell? ⟨gb267, 4, none⟩ = some (.int .i64 a0_4) := (blk_cell BK267.out 4).trans rfl
      have hcz15_5 : w5.cell? ⟨gb267, 5, none⟩ = some (.int .i64 a0_5) := (blk_cell BK267.out 5).trans rfl
      have hcz15_6 : w5.cell? ⟨gb267, 6, none⟩ = some (.int .i64 a0_6) := (blk_cell BK267.out 6).trans rfl
      have hcz15_7 : w5.cell? ⟨gb267, 7, none⟩ = some (.int .i64 a0_7) := (blk_cell BK267.out 7).trans rfl
      have hcz15_8 : w5.cell? ⟨gb267, 8, none⟩ = some (.int .i64 a0_8) := (blk_cell BK267.out 8).trans rfl
      have hcz15_9 : w5.cell? ⟨gb267, 9, none⟩ = some (.int .i64 a0_9) := (blk_cell BK267.out 9).trans rfl
      have hcz15_10 : w5.cell? ⟨gb267, 10, none⟩ = some (.slice A0_10 l0_10.length c0_10) := (blk_cell BK267.out 10).trans rfl
      have hcz15_11 : w5.cell? ⟨gb267, 11, none⟩ = some (.int .i64 a0_11) := (blk_cell BK267.out 11).trans rfl
      have hcz15_12 : w5.cell? ⟨gb267, 12, none⟩ = some (.int .i64 a0_12) := (blk_cell BK267.out 12).trans rfl
      have hcz15_13 : w5.cell? ⟨gb267, 13, none⟩ = some (.bool a0_13) := (blk_cell BK267.out 13).trans rfl
      have hcz15_14 : w5.cell? ⟨gb267, 14, none⟩ = some (.slice A0_14 l0_14.length c0_14) := (blk_cell BK267.out 14).trans rfl
      have hcz15_15 : w5.cell? ⟨gb267, 15, none⟩ = some (.string a0_15) := (blk_cell BK267.out 15).trans rfl
      have hfz15_0 := blk_frozen BK267.out 0
      have hfz15_1 := blk_frozen BK267.out 1
      have hfz15_2 := blk_frozen BK267.out 2
      have hfz15_3 := blk_frozen BK267.out 3
      have hfz15_4 := blk_frozen BK267.out 4
      have hfz15_5 := blk_frozen BK267.out 5
      have hfz15_6 := blk_frozen BK267.out 6
      have hfz15_7 := blk_frozen BK267.out 7
      have hfz15_8 := blk_frozen BK267.out 8
      have hfz15_9 := blk_frozen BK267.out 9
      have hfz15_10 := blk_frozen BK267.out 10
      have hfz15_11 := blk_frozen BK267.out 11
      have hfz15_12 := blk_frozen BK267.out 12
      have hfz15_13 := blk_frozen BK267.out 13
      have hfz15_14 := blk_frozen BK267.out 14
      have hfz15_15 := blk_frozen BK267.out 15
      go_wp2_with (first | ((with_reducible refine gate_callee (f := 7) rfl ?_); refine goesL_ (some 10) rfl rfl Tryd.func7 (by kernel_rfl) rfl #[.agg #[.int .i64 a0_0, .int .i64 a0_1, .int .i64 a0_2, .int .i64 a0_3, .int .i64 a0_4, .int .i64 a0_5, .int .i64 a0_6, .int .i64 a0_7, .int .i64 a0_8, .int .i64 a0_9, .slice A0_10 l0_10.length c0_10, .int .i64 a0_11, .int .i64 a0_12, .bool a0_13, .slice A0_14 l0_14.length c0_14, .string a0_15]] rfl (by (try simp only [List.map_toArray, List.map_cons, List.map_nil]); first | done | rfl | (simp only [List.length_drop, List.length_take]; rfl)) ?_; (with_reducible refine (ploverlaw13_light.calls a0_0 a0_1 a0_2 a0_3 a0_4 a0_5 a0_6 a0_7 a0_8 a0_9 _ _ l0_10 a0_11 a0_12 a0_13 _ _ l0_14 a0_15 false _ ?side1 ?side2 ?side3 ?side4 A6.out).mono ?_); (case side1 => repeat (first | exact (Kd.C_below HR0_10.out HB.out) | (with_reducible refine Kd.C_alloc ?_ _) | (with_reducible refine Kd.C_drewN ?_ _) | (with_reducible refine Kd.C_drew ?_))); (case side2 => exact HC0_10.out); (case side3 => repeat (first | exact (Kd.C_below HR0_14.out HB.out) | (with_reducible refine Kd.C_alloc ?_ _) | (with_reducible refine Kd.C_drewN ?_ _) | (with_reducible refine Kd.C_drew ?_))); (case side4 => exact HC0_14.out); rintro e w16 ⟨rfl, hb⟩; refine ⟨_, rfl, ?_⟩; have n0_ := Aside0.mk (blk_below (g := gb267) (o := .cells #[.int .i64 a0_0, .int .i64 a0_1, .int .i64 a0_2, .int .i64 a0_3, .int .i64 a0_4, .int .i64 a0_5, .int .i64 a0_6, .int .i64 a0_7, .int .i64 a0_8, .int .i64 a0_9, .slice A0_10 l0_10.length c0_10, .int .i64 a0_11, .int .i64 a0_12, .bool a0_13, .slice A0_14 l0_14.length c0_14, .string a0_15] 30 (0, 0)) (by (with_reducible repeat (first | refine blk_drewN ?_ _ | refine blk_drew ?_ | refine blk_alloc ?_ _)); exact BK267.out) hb); have n1_ := Aside0.mk (blk_below (g := gb268) (o := .cells #[.int .i64 a1_0, .int .i64 a1_1, .int .i64 a1_2, .int .i64 a1_3, .int .i64 a1_4, .int .i64 a1_5, .int .i64 a1_6, .int .i64 a1_7, .int .i64 a1_8, .int .i64 a1_9, .slice A1_10 l1_10.length c1_10, .int .i64 a1_11, .int .i64 a1_12, .bool a1_13, .slice A1_14 l1_14.length c1_14, .string a1_15] 30 (0, 0)) (by (with_reducible repeat (first | refine blk_drewN ?_ _ | refine blk_drew ?_ | refine blk_alloc ?_ _)); exact BK268.out) hb); have n2_ := Aside0.mk (below_step (by repeat (first | (with_reducible first | exact HB.out | apply below_alloc | apply pw_below_drewN | apply below_drew1 | refine below_set ?_ GE267.out | refine below_set ?_ GE268.out) | exact HB.out)) hb); clear BK267; clear BK268; clear HB; have BK267 := n0_; have BK268 := n1_; have HB := n2_; clear n0_ n1_ n2_; (try clear hb); (try clear hb2); (try clear hk); (try clear hi)))
      go_meet
      case rel => exact ⟨_, (true), (by first | rfl | (simp; done) | (simp [*]; done)), H', ⟨by first | omega | exact Nat.le_refl _⟩, ⟨by (with_reducible repeat (first | refine blk_drewN ?_ _ | refine blk_drew ?_ | refine blk_alloc ?_ _)); exact BK267.out⟩, ⟨by (with_reducible repeat (first | refine blk_drewN ?_ _ | refine blk_drew ?_ | refine blk_alloc ?_ _)); exact BK268.out⟩, ⟨by repeat (first | (with_reducible first | exact HB.out | apply below_alloc | apply pw_below_drewN | apply below_drew1 | refine below_set ?_ GE267.out | refine below_set ?_ GE268.out) | exact HB.out)⟩⟩
  case rest =>
    as_aux_lemma =>
    clear HC3
    try clear c1
    try clear p2
    try clear c4
    try clear c7
    try clear c9
    try clear c14
    try clear hcz10_0
    try clear hcz10_1
    try clear hcz10_10
    try clear hcz10_11
    try clear hcz10_12
    try clear hcz10_13
    try clear hcz10_14
    try clear hcz10_15
    try clear hcz10_2
    try clear hcz10_3
    try clear hcz10_4
    try clear hcz10_5
    try clear hcz10_6
    try clear hcz10_7
    try clear hcz10_8
    try clear hcz10_9
    try clear hcz12_0
    try clear hcz12_1
    try clear hcz12_10
    try clear hcz12_11
    try clear hcz12_12
    try clear hcz12_13
    try clear hcz12_14
    try clear hcz12_15
    try clear hcz12_2
    try clear hcz12_3
    try clear hcz12_4
    try clear hcz12_5
    try clear hcz12_6
    try clear hcz12_7
    try clear hcz12_8
    try clear hcz12_9
    try clear hcz15_0
    try clear hcz15_1
    try clear hcz15_10
    try clear hcz15_11
    try clear hcz15_12
    try clear hcz15_13
    try clear hcz15_14
    try clear hcz15_15
    try clear hcz15_2
    try clear hcz15_3
    try clear hcz15_4
    try clear hcz15_5
    try clear hcz15_6
    try clear hcz15_7
    try clear hcz15_8
    try clear hcz15_9
    try clear hfz10_0
    try clear hfz10_1
    try clear hfz10_10
    try clear hfz10_11
    try clear hfz10_12
    try clear hfz10_13
    try clear hfz10_14
    try clear hfz10_15
    try clear hfz10_2
    try clear hfz10_3
    try clear hfz10_4
    try clear hfz10_5
    try clear hfz10_6
    try clear hfz10_7
    try clear hfz10_8
    try clear hfz10_9
    try clear hfz12_0
    try clear hfz12_1
    try clear hfz12_10
    try clear hfz12_11
    try clear hfz12_12
    try clear hfz12_13
    try clear hfz12_14
    try clear hfz12_15
    try clear hfz12_2
    try clear hfz12_3
    try clear hfz12_4
    try clear hfz12_5
    try clear hfz12_6
    try clear hfz12_7
    try clear hfz12_8
    try clear hfz12_9
    try clear hfz15_0
    try clear hfz15_1
    try clear hfz15_10
    try clear hfz15_11
    try clear hfz15_12
    try clear hfz15_13
    try clear hfz15_14
    try clear hfz15_15
    try clear hfz15_2
    try clear hfz15_3
    try clear hfz15_4
    try clear hfz15_5
    try clear hfz15_6
    try clear hfz15_7
    try clear hfz15_8
    try clear hfz15_9
    obtain ⟨kq, x16_2, rfl, HA, HJ2, BK267, BK268, HB⟩ := hcut
    cases kq with
    | zero => exact absurd HA.out (by simp [ploverlaw13_PostApart.j0])
    | succ kj2 =>
      have H := HA.out
      clear HA
      simp only [ploverlaw13_PostApart.j0] at H
      by_cases c17 : x16_2 = true
      · as_aux_lemma =>
        subst c17
        have H1 : ((ploverlaw13_awake.f).bind fun t271 => (some t271)) = some r := by rw [if_pos rfl] at H; exact H
        clear H
        have H := H1
        clear H1
        replace H := Option.bind_eq_some_iff.mp H
        obtain ⟨t271, A180, H⟩ := H
        replace H : (some t271) = some r := H
        have A18 := Aside0.mk A180
        clear A180
        obtain rfl := Option.some.inj H
        go_wp2_with (first | ((with_reducible refine gate_callee (f := 8) rfl ?_); refine goesL_ (some 17) rfl rfl Tryd.func8 (by kernel_rfl) rfl #[] rfl (by (try simp only [List.map_toArray, List.map_cons, List.map_nil]); first | done | rfl | (simp only [List.length_drop, List.length_take]; rfl)) ?_; (with_reducible refine (ploverlaw13_awake.calls  t271 _ (LaidW.below hL (by repeat (first | (with_reducible first | exact HB.out | apply below_alloc | apply pw_below_drewN | apply below_drew1 | refine below_set ?_ GE267.out | refine below_set ?_ GE268.out) | exact HB.out))) A18.out).mono ?_); rintro e w19 ⟨rfl, hb⟩; refine ⟨_, rfl, ?_⟩; have n0_ := Aside0.mk (blk_below (g := gb267) (o := .cells #[.int .i64 a0_0, .int .i64 a0_1, .int .i64 a0_2, .int .i64 a0_3, .int .i64 a0_4, .int .i64 a0_5, .int .i64 a0_6, .int .i64 a0_7, .int .i64 a0_8, .int .i64 a0_9, .slice A0_10 l0_10.length c0_10, .int .i64 a0_11, .int .i64 a0_12, .bool a0_13, .slice A0_14 l0_14.length c0_14, .string a0_15] 30 (0, 0)) (by (with_reducible repeat (first | refine blk_drewN ?_ _ | refine blk_drew ?_ | refine blk_alloc ?_ _)); exact BK267.out) hb); have n1_ := Aside0.mk (blk_below (g := gb268) (o := .cells #[.int .i64 a1_0, .int .i64 a1_1, .int .i64 a1_2, .int .i64 a1_3, .int .i64 a1_4, .int .i64 a1_5, .int .i64 a1_6, .int .i64 a1_7, .int .i64 a1_8, .int .i64 a1_9, .slice A1_10 l1_10.length c1_10, .int .i64 a1_11, .int .i64 a1_12, .bool a1_13, .slice A1_14 l1_14.length c1_14, .string a1_15] 30 (0, 0)) (by (with_reducible repeat (first | refine blk_drewN ?_ _ | refine blk_drew ?_ | refine blk_alloc ?_ _)); exact BK268.out) hb); have n2_ := Aside0.mk (below_step (by repeat (first | (with_reducible first | exact HB.out | apply below_alloc | apply pw_below_drewN | apply below_drew1 | refine below_set ?_ GE267.out | refine below_set ?_ GE268.out) | exact HB.out)) hb); clear BK267; clear BK268; clear HB; have BK267 := n0_; have BK268 := n1_; have HB := n2_; clear n0_ n1_ n2_; (try clear hb); (try clear hb2); (try clear hk); (try clear hi)))
        go_ret
        exact ⟨by first | rfl | (simp [errW_none, errW_some] <;> rfl) | (simp [*, errW_none, errW_some] <;> rfl), by repeat (first | (with_reducible first | exact HB.out | apply below_alloc | apply pw_below_drewN | apply below_drew1 | refine below_set ?_ GE267.out | refine below_set ?_ GE268.out) | exact HB.out)⟩
      · as_aux_lemma =>
        replace c17 := Bool.eq_false_iff.mpr c17
        subst c17
        have H1 : ((post_Put.f a0_0 a0_1 a0_2 a0_3 a0_4 a0_5 a0_6 a0_7 a0_8 a0_9 l0_10 a0_11 a0_12 a0_13 l0_14 a0_15).bind fun bt272 => ((post_Put.f a1_0 a1_1 a1_2 a1_3 a1_4 a1_5 a1_6 a1_7 a1_8 a1_9 l1_10 a1_11 a1_12 a1_13 l1_14 a1_15).bind fun bt274 => (if bt272.2 = 0 then (ploverlaw13_PostApart.j1 kj2 bt272.1 bt274.1 (bt274.2 != 0) a0_0 a0_1 a0_2 a0_3 a0_4 a0_5 a0_6 a0_7 a0_8 a0_9 l0_10 a0_11 a0_12 a0_13 l0_14 a0_15 a1_0 a1_1 a1_2 a1_3 a1_4 a1_5 a1_6 a1_7 a1_8 a1_9 l1_10 a1_11 a1_12 a1_13 l1_14 a1_15) else (ploverlaw13_PostApart.j1 kj2 bt272.1 bt274.1 true a0_0 a0_1 a0_2 a0_3 a0_4 a0_5 a0_6 a0_7 a0_8 a0_9 l0_10 a0_11 a0_12 a0_13 l0_14 a0_15 a1_0 a1_1 a1_2 a1_3 a1_4 a1_5 a1_6 a1_7 a1_8 a1_9 l1_10 a1_11 a1_12 a1_13 l1_14 a1_15)))) = some r := by rw [if_neg (show ¬ (false = true) by decide)] at H; exact H
        clear H
        have H := H1
        clear H1
        replace H := Option.bind_eq_some_iff.mp H
        obtain ⟨⟨t272, t273⟩, A200, H⟩ := H
        replace H : ((post_Put.f a1_0 a1_1 a1_2 a1_3 a1_4 a1_5 a1_6 a1_7 a1_8 a1_9 l1_10 a1_11 a1_12 a1_13 l1_14 a1_15).bind fun bt274 => (if t273 = 0 then (ploverlaw13_PostApart.j1 kj2 t272 bt274.1 (bt274.2 != 0) a0_0 a0_1 a0_2 a0_3 a0_4 a0_5 a0_6 a0_7 a0_8 a0_9 l0_10 a0_11 a0_12 a0_13 l0_14 a0_15 a1_0 a1_1 a1_2 a1_3 a1_4 a1_5 a1_6 a1_7 a1_8 a1_9 l1_10 a1_11 a1_12 a1_13 l1_14 a1_15) else (ploverlaw13_PostApart.j1 kj2 t272 bt274.1 true a0_0 a0_1 a0_2 a0_3 a0_4 a0_5 a0_6 a0_7 a0_8 a0_9 l0_10 a0_11 a0_12 a0_13 l0_14 a0_15 a1_0 a1_1 a1_2 a1_3 a1_4 a1_5 a1_6 a1_7 a1_8 a1_9 l1_10 a1_11 a1_12 a1_13 l1_14 a1_15))) = some r := H
        have A20 := Aside0.mk A200
        clear A200
        replace H := Option.bind_eq_some_iff.mp H
        obtain ⟨⟨t274, t275⟩, A210, H⟩ := H
        replace H : (if t273 = 0 then (ploverlaw13_PostApart.j1 kj2 t272 t274 (t275 != 0) a0_0 a0_1 a0_2 a0_3 a0_4 a0_5 a0_6 a0_7 a0_8 a0_9 l0_10 a0_11 a0_12 a0_13 l0_14 a0_15 a1_0 a1_1 a1_2 a1_3 a1_4 a1_5 a1_6 a1_7 a1_8 a1_9 l1_10 a1_11 a1_12 a1_13 l1_14 a1_15) else (ploverlaw13_PostApart.j1 kj2 t272 t274 true a0_0 a0_1 a0_2 a0_3 a0_4 a0_5 a0_6 a0_7 a0_8 a0_9 l0_10 a0_11 a0_12 a0_13 l0_14 a0_15 a1_0 a1_1 a1_2 a1_3 a1_4 a1_5 a1_6 a1_7 a1_8 a1_9 l1_10 a1_11 a1_12 a1_13 l1_14 a1_15)) = some r := H
        have A21 := Aside0.mk A210
        clear A210
        have HC22 := Aside0.mk H
        clear H
        have hnb23 := NB267_268.out
        have hnc23 := NB268_267.out
        have hcz24_0 : wc.cell? ⟨gb267, 0, none⟩ = some (.int .i64 a0_0) := (blk_cell BK267.out 0).trans rfl
        have hcz24_1 : wc.cell? ⟨gb267, 1, none⟩ = some (.int .i64 a0_1) := (blk_cell BK267.out 1).trans rfl
        have hcz24_2 : wc.cell? ⟨gb267, 2, none⟩ = some (.int .i64 a0_2) := (blk_cell BK267.out 2).trans rfl
        have hcz24_3 : wc.cell? ⟨gb267, 3, none⟩ = some (.int .i64 a0_3) := (blk_cell BK267.out 3).trans rfl
        have hcz24_4 : wc.cell? ⟨gb267, 4, none⟩ = some (.int .i64 a0_4) := (blk_cell BK267.out 4).trans rfl
        have hcz24_5 : wc.cell? ⟨gb267, 5, none⟩ = some (.int .i64 a0_5) := (blk_cell BK267.out 5).trans rfl
        have hcz24_6 : wc.cell? ⟨gb267, 6, none⟩ = some (.int .i64 a0_6) := (blk_cell BK267.out 6).trans rfl
        have hcz24_7 : wc.cell? ⟨gb267, 7, none⟩ = some (.int .i64 a0_7) := (blk_cell BK267.out 7).trans rfl
        have hcz24_8 : wc.cell? ⟨gb267, 8, none⟩ = some (.int .i64 a0_8) := (blk_cell BK267.out 8).trans rfl
        have hcz24_9 : wc.cell? ⟨gb267, 9, none⟩ = some (.int .i64 a0_9) := (blk_cell BK267.out 9).trans rfl
        have hcz24_10 : wc.cell? ⟨gb267, 10, none⟩ = some (.slice A0_10 l0_10.length c0_10) := (blk_cell BK267.out 10).trans rfl
        have hcz24_11 : wc.cell? ⟨gb267, 11, none⟩ = some (.int .i64 a0_11) := (blk_cell BK267.out 11).trans rfl
        have hcz24_12 : wc.cell? ⟨gb267, 12, none⟩ = some (.int .i64 a0_12) := (blk_cell BK267.out 12).trans rfl
        have hcz24_13 : wc.cell? ⟨gb267, 13, none⟩ = some (.bool a0_13) := (blk_cell BK267.out 13).trans rfl
        have hcz24_14 : wc.cell? ⟨gb267, 14, none⟩ = some (.slice A0_14 l0_14.length c0_14) := (blk_cell BK267.out 14).trans rfl
        have hcz24_15 : wc.cell? ⟨gb267, 15, none⟩ = some (.string a0_15) := (blk_cell BK267.out 15).trans rfl
        have hfz24_0 := blk_frozen BK267.out 0
        have hfz24_1 := blk_frozen BK267.out 1
        have hfz24_2 := blk_frozen BK267.out 2
        have hfz24_3 := blk_frozen BK267.out 3
        have hfz24_4 := blk_frozen BK267.out 4
        have hfz24_5 := blk_frozen BK267.out 5
        have hfz24_6 := blk_frozen BK267.out 6
        have hfz24_7 := blk_frozen BK267.out 7
        have hfz24_8 := blk_frozen BK267.out 8
        have hfz24_9 := blk_frozen BK267.out 9
        have hfz24_10 := blk_frozen BK267.out 10
        have hfz24_11 := blk_frozen BK267.out 11
        have hfz24_12 := blk_frozen BK267.out 12
        have hfz24_13 := blk_frozen BK267.out 13
        have hfz24_14 := blk_frozen BK267.out 14
        have hfz24_15 := blk_frozen BK267.out 15
        go_upto_region 5 with (first | ((with_reducible refine gate_callee (f := 9) rfl ?_); refine goesL_ (some 20) rfl rfl Tryd.func9 (by kernel_rfl) rfl #[.agg #[.int .i64 a0_0, .int .i64 a0_1, .int .i64 a0_2, .int .i64 a0_3, .int .i64 a0_4, .int .i64 a0_5, .int .i64 a0_6, .int .i64 a0_7, .int .i64 a0_8, .int .i64 a0_9, .slice A0_10 l0_10.length c0_10, .int .i64 a0_11, .int .i64 a0_12, .bool a0_13, .slice A0_14 l0_14.length c0_14, .string a0_15]] rfl (by (try simp only [List.map_toArray, List.map_cons, List.map_nil]); first | done | rfl | (simp only [List.length_drop, List.length_take]; rfl)) ?_; (with_reducible refine (post_Put.calls a0_0 a0_1 a0_2 a0_3 a0_4 a0_5 a0_6 a0_7 a0_8 a0_9 _ _ l0_10 a0_11 a0_12 a0_13 _ _ l0_14 a0_15 t272 t273 _ (LaidW.below hL (by repeat (first | (with_reducible first | exact HB.out | apply below_alloc | apply pw_below_drewN | apply below_drew1 | refine below_set ?_ GE267.out | refine below_set ?_ GE268.out) | exact HB.out))) ?side1 ?side2 ?side3 ?side4 A20.out).mono ?_); (case side1 => repeat (first | exact (Kd.C_below HR0_10.out HB.out) | (with_reducible refine Kd.C_alloc ?_ _) | (with_reducible refine Kd.C_drewN ?_ _) | (with_reducible refine Kd.C_drew ?_))); (case side2 => exact HC0_10.out); (case side3 => repeat (first | exact (Kd.C_below HR0_14.out HB.out) | (with_reducible refine Kd.C_alloc ?_ _) | (with_reducible refine Kd.C_drewN ?_ _) | (with_reducible refine Kd.C_drew ?_))); (case side4 => exact HC0_14.out); rintro e w25 ⟨rfl, hb⟩; refine ⟨_, rfl, ?_⟩; have n0_ := Aside0.mk (blk_below (g := gb267) (o := .cells #[.int .i64 a0_0, .int .i64 a0_1, .int .i64 a0_2, .int .i64 a0_3, .int .i64 a0_4, .int .i64 a0_5, .int .i64 a0_6, .int .i64 a0_7, .int .i64 a0_8, .int .i64 a0_9, .slice A0_10 l0_10.length c0_10, .int .i64 a0_11, .int .i64 a0_12, .bool a0_13, .slice A0_14 l0_14.length c0_14, .string a0_15] 30 (0, 0)) (by (with_reducible repeat (first | refine blk_drewN ?_ _ | refine blk_drew ?_ | refine blk_alloc ?_ _)); exact BK267.out) hb); have n1_ := Aside0.mk (blk_below (g := gb268) (o := .cells #[.int .i64 a1_0, .int .i64 a1_1, .int .i64 a1_2, .int .i64 a1_3, .int .i64 a1_4, .int .i64 a1_5, .int .i64 a1_6, .int .i64 a1_7, .int .i64 a1_8, .int .i64 a1_9, .slice A1_10 l1_10.length c1_10, .int .i64 a1_11, .int .i64 a1_12, .bool a1_13, .slice A1_14 l1_14.length c1_14, .string a1_15] 30 (0, 0)) (by (with_reducible repeat (first | refine blk_drewN ?_ _ | refine blk_drew ?_ | refine blk_alloc ?_ _)); exact BK268.out) hb); have n2_ := Aside0.mk (below_step (by repeat (first | (with_reducible first | exact HB.out | apply below_alloc | apply pw_below_drewN | apply below_drew1 | refine below_set ?_ GE267.out | refine below_set ?_ GE268.out) | exact HB.out)) hb); clear BK267; clear BK268; clear HB; have BK267 := n0_; have BK268 := n1_; have HB := n2_; clear n0_ n1_ n2_; (try clear hb); (try clear hb2); (try clear hk); (try clear hi); have hcz26_0 : w25.cell? ⟨gb268, 0, none⟩ = some (.int .i64 a1_0) := (blk_cell BK268.out 0).trans rfl; have hcz26_1 : w25.cell? ⟨gb268, 1, none⟩ = some (.int .i64 a1_1) := (blk_cell BK268.out 1).trans rfl; have hcz26_2 : w25.cell? ⟨gb268, 2, none⟩ = some (.int .i64 a1_2) := (blk_cell BK268.out 2).trans rfl; have hcz26_3 : w25.cell? ⟨gb268, 3, none⟩ = some (.int .i64 a1_3) := (blk_cell BK268.out 3).trans rfl; have hcz26_4 : w25.cell? ⟨gb268, 4, none⟩ = some (.int .i64 a1_4) := (blk_cell BK268.out 4).trans rfl; have hcz26_5 : w25.cell? ⟨gb268, 5, none⟩ = some (.int .i64 a1_5) := (blk_cell BK268.out 5).trans rfl; have hcz26_6 : w25.cell? ⟨gb268, 6, none⟩ = some (.int .i64 a1_6) := (blk_cell BK268.out 6).trans rfl; have hcz26_7 : w25.cell? ⟨gb268, 7, none⟩ = some (.int .i64 a1_7) := (blk_cell BK268.out 7).trans rfl; have hcz26_8 : w25.cell? ⟨gb268, 8, none⟩ = some (.int .i64 a1_8) := (blk_cell BK268.out 8).trans rfl; have hcz26_9 : w25.cell? ⟨gb268, 9, none⟩ = some (.int .i64 a1_9) := (blk_cell BK268.out 9).trans rfl; have hcz26_10 : w25.cell? ⟨gb268, 10, none⟩ = some (.slice A1_10 l1_10.length c1_10) := (blk_cell BK268.out 10).trans rfl; have hcz26_11 : w25.cell? ⟨gb268, 11, none⟩ = some (.int .i64 a1_11) := (blk_cell BK268.out 11).trans rfl; have hcz26_12 : w25.cell? ⟨gb268, 12, none⟩ = some (.int .i64 a1_12) := (blk_cell BK268.out 12).trans rfl; have hcz26_13 : w25.cell? ⟨gb268, 13, none⟩ = some (.bool a1_13) := (blk_cell BK268.out 13).trans rfl; have hcz26_14 : w25.cell? ⟨gb268, 14, none⟩ = some (.slice A1_14 l1_14.length c1_14) := (blk_cell BK268.out 14).trans rfl; have hcz26_15 : w25.cell? ⟨gb268, 15, none⟩ = some (.string a1_15) := (blk_cell BK268.out 15).trans rfl; have hfz26_0 := blk_frozen BK268.out 0; have hfz26_1 := blk_frozen BK268.out 1; have hfz26_2 := blk_frozen BK268.out 2; have hfz26_3 := blk_frozen BK268.out 3; have hfz26_4 := blk_frozen BK268.out 4; have hfz26_5 := blk_frozen BK268.out 5; have hfz26_6 := blk_frozen BK268.out 6; have hfz26_7 := blk_frozen BK268.out 7; have hfz26_8 := blk_frozen BK268.out 8; have hfz26_9 := blk_frozen BK268.out 9; have hfz26_10 := blk_frozen BK268.out 10; have hfz26_11 := blk_frozen BK268.out 11; have hfz26_12 := blk_frozen BK268.out 12; have hfz26_13 := blk_frozen BK268.out 13; have hfz26_14 := blk_frozen BK268.out 14; have hfz26_15 := blk_frozen BK268.out 15) | ((with_reducible refine gate_callee (f := 9) rfl ?_); refine goesL_ (some 25) rfl rfl Tryd.func9 (by kernel_rfl) rfl #[.agg #[.int .i64 a1_0, .int .i64 a1_1, .int .i64 a1_2, .int .i64 a1_3, .int .i64 a1_4, .int .i64 a1_5, .int .i64 a1_6, .int .i64 a1_7, .int .i64 a1_8, .int .i64 a1_9, .slice A1_10 l1_10.length c1_10, .int .i64 a1_11, .int .i64 a1_12, .bool a1_13, .slice A1_14 l1_14.length c1_14, .string a1_15]] rfl (by (try simp only [List.map_toArray, List.map_cons, List.map_nil]); first | done | rfl | (simp only [List.length_drop, List.length_take]; rfl)) ?_; (with_reducible refine (post_Put.calls a1_0 a1_1 a1_2 a1_3 a1_4 a1_5 a1_6 a1_7 a1_8 a1_9 _ _ l1_10 a1_11 a1_12 a1_13 _ _ l1_14 a1_15 t274 t275 _ (LaidW.below hL (by repeat (first | (with_reducible first | exact HB.out | apply below_alloc | apply pw_below_drewN | apply below_drew1 | refine below_set ?_ GE267.out | refine below_set ?_ GE268.out) | exact HB.out))) ?side1 ?side2 ?side3 ?side4 A21.out).mono ?_); (case side1 => repeat (first | exact (Kd.C_below HR1_10.out HB.out) | (with_reducible refine Kd.C_alloc ?_ _) | (with_reducible refine Kd.C_drewN ?_ _) | (with_reducible refine Kd.C_drew ?_))); (case side2 => exact HC1_10.out); (case side3 => repeat (first | exact (Kd.C_below HR1_14.out HB.out) | (with_reducible refine Kd.C_alloc ?_ _) | (with_reducible refine Kd.C_drewN ?_ _) | (with_reducible refine Kd.C_drew ?_))); (case side4 => exact HC1_14.out); rintro e w27 ⟨rfl, hb⟩; refine ⟨_, rfl, ?_⟩; have n0_ := Aside0.mk (blk_below (g := gb267) (o := .cells #[.int .i64 a0_0, .int .i64 a0_1, .int .i64 a0_2, .int .i64 a0_3, .int .i64 a0_4, .int .i64 a0_5, .int .i64 a0_6, .int .i64 a0_7, .int .i64 a0_8, .int .i64 a0_9, .slice A0_10 l0_10.length c0_10, .int .i64 a0_11, .int .i64 a0_12, .bool a0_13, .slice A0_14 l0_14.length c0_14, .string a0_15] 30 (0, 0)) (by (with_reducible repeat (first | refine blk_drewN ?_ _ | refine blk_drew ?_ | refine blk_alloc ?_ _)); exact BK267.out) hb); have n1_ := Aside0.mk (blk_below (g := gb268) (o := .cells #[.int .i64 a1_0, .int .i64 a1_1, .int .i64 a1_2, .int .i64 a1_3, .int .i64 a1_4, .int .i64 a1_5, .int .i64 a1_6, .int .i64 a1_7, .int .i64 a1_8, .int .i64 a1_9, .slice A1_10 l1_10.length c1_10, .int .i64 a1_11, .int .i64 a1_12, .bool a1_13, .slice A1_14 l1_14.length c1_14, .string a1_15] 30 (0, 0)) (by (with_reducible repeat (first | refine blk_drewN ?_ _ | refine blk_drew ?_ | refine blk_alloc ?_ _)); exact BK268.out) hb); have n2_ := Aside0.mk (below_step (by repeat (first | (with_reducible first | exact HB.out | apply below_alloc | apply pw_below_drewN | apply below_drew1 | refine below_set ?_ GE267.out | refine below_set ?_ GE268.out) | exact HB.out)) hb); clear BK267; clear BK268; clear HB; have BK267 := n0_; have BK268 := n1_; have HB := n2_; clear n0_ n1_ n2_; (try clear hb); (try clear hb2); (try clear hk); (try clear hi)))
        (try simp only [Act.put, List.setIfInBounds_toArray, List.set_cons_zero, List.set_cons_succ])
        go_cut [33] (fun v33 wc => ∃ (kq : Nat) (x33_21 : Bool), v33 = .bool x33_21 ∧ Aside0 (ploverlaw13_PostApart.j1 kq t272 t274 x33_21 a0_0 a0_1 a0_2 a0_3 a0_4 a0_5 a0_6 a0_7 a0_8 a0_9 l0_10 a0_11 a0_12 a0_13 l0_14 a0_15 a1_0 a1_1 a1_2 a1_3 a1_4 a1_5 a1_6 a1_7 a1_8 a1_9 l1_10 a1_11 a1_12 a1_13 l1_14 a1_15 = some r) ∧ Aside0 (kq ≤ kj2) ∧ Aside0 (wc.heap[gb267]? = some (.cells #[.int .i64 a0_0, .int .i64 a0_1, .int .i64 a0_2, .int .i64 a0_3, .int .i64 a0_4, .int .i64 a0_5, .int .i64 a0_6, .int .i64 a0_7, .int .i64 a0_8, .int .i64 a0_9, (.slice A0_10 l0_10.length c0_10), .int .i64 a0_11, .int .i64 a0_12, .bool a0_13, (.slice A0_14 l0_14.length c0_14), .string a0_15] 30 (0, 0))) ∧ Aside0 (wc.heap[gb268]? = some (.cells #[.int .i64 a1_0, .int .i64 a1_1, .int .i64 a1_2, .int .i64 a1_3, .int .i64 a1_4, .int .i64 a1_5, .int .i64 a1_6, .int .i64 a1_7, .int .i64 a1_8, .int .i64 a1_9, (.slice A1_10 l1_10.length c1_10), .int .i64 a1_11, .int .i64 a1_12, .bool a1_13, (.slice A1_14 l1_14.length c1_14), .string a1_15] 30 (0, 0))) ∧ Aside0 (Below w.heap.size w wc))
        case first =>
          as_aux_lemma =>
          have H := HC22.out
          clear HC22
          by_cases c28 : t273 = 0
          · rw [if_pos c28] at H
            have c28b0 : (t273 == 0) = true := beq_iff_eq.mpr c28
            have c28b1 : (t273 != 0) = false := bne_eq_false_iff_eq.mpr c28
            clear c28
            (first | rw [c28b0] | (simp only [i64_w, i32_w]; rw [c28b0]) | skip)
            have H' := Aside0.mk H
            clear H
            go_wp2
            go_meet
            case rel => exact ⟨_, ((t275 != 0)), (by first | rfl | (simp; done) | (simp [*]; done)), H', ⟨by have := HJ2.out; first | omega | exact Nat.le_refl _⟩, ⟨by (with_reducible repeat (first | refine blk_drewN ?_ _ | refine blk_drew ?_ | refine blk_alloc ?_ _)); exact BK267.out⟩, ⟨by (with_reducible repeat (first | refine blk_drewN ?_ _ | refine blk_drew ?_ | refine blk_alloc ?_ _)); exact BK268.out⟩, ⟨by repeat (first | (with_reducible first | exact HB.out | apply below_alloc | apply pw_below_drewN | apply below_drew1 | refine below_set ?_ GE267.out | refine below_set ?_ GE268.out) | exact HB.out)⟩⟩
          · rw [if_neg c28] at H
            have c28b0 : (t273 == 0) = false := beq_eq_false_iff_ne.mpr c28
            have c28b1 : (t273 != 0) = true := bne_iff_ne.mpr c28
            (first | rw [c28b0] | (simp only [i64_w, i32_w]; rw [c28b0]) | skip)
            have H' := Aside0.mk H
            clear H
            go_wp2
            go_meet
            case rel => exact ⟨_, (true), (by first | rfl | (simp; done) | (simp [*]; done)), H', ⟨by have := HJ2.out; first | omega | exact Nat.le_refl _⟩, ⟨by (with_reducible repeat (first | refine blk_drewN ?_ _ | refine blk_drew ?_ | refine blk_alloc ?_ _)); exact BK267.out⟩, ⟨by (with_reducible repeat (first | refine blk_drewN ?_ _ | refine blk_drew ?_ | refine blk_alloc ?_ _)); exact BK268.out⟩, ⟨by repeat (first | (with_reducible first | exact HB.out | apply below_alloc | apply pw_below_drewN | apply below_drew1 | refine below_set ?_ GE267.out | refine below_set ?_ GE268.out) | exact HB.out)⟩⟩
        case rest =>
          as_aux_lemma =>
          clear HC22
          try clear c1
          try clear c2
          try clear p2
          try clear c4
          try clear c7
          try clear c8
          try clear c9
          try clear c14
          try clear c17
          try clear c23
          try clear c28
          try clear c28b0
          try clear c28b1
          try clear hcz10_0
          try clear hcz10_1
          try clear hcz10_10
          try clear hcz10_11
          try clear hcz10_12
          try clear hcz10_13
          try clear hcz10_14
          try clear hcz10_15
          try clear hcz10_2
          try clear hcz10_3
          try clear hcz10_4
          try clear hcz10_5
          try clear hcz10_6
          try clear hcz10_7
          try clear hcz10_8
          try clear hcz10_9
          try clear hcz12_0
          try clear hcz12_1
          try clear hcz12_10
          try clear hcz12_11
          try clear hcz12_12
          try clear hcz12_13
          try clear hcz12_14
          try clear hcz12_15
          try clear hcz12_2
          try clear hcz12_3
          try clear hcz12_4
          try clear hcz12_5
          try clear hcz12_6
          try clear hcz12_7
          try clear hcz12_8
          try clear hcz12_9
          try clear hcz15_0
          try clear hcz15_1
          try clear hcz15_10
          try clear hcz15_11
          try clear hcz15_12
          try clear hcz15_13
          try clear hcz15_14
          try clear hcz15_15
          try clear hcz15_2
          try clear hcz15_3
          try clear hcz15_4
          try clear hcz15_5
          try clear hcz15_6
          try clear hcz15_7
          try clear hcz15_8
          try clear hcz15_9
          try clear hcz24_0
          try clear hcz24_1
          try clear hcz24_10
          try clear hcz24_11
          try clear hcz24_12
          try clear hcz24_13
          try clear hcz24_14
          try clear hcz24_15
          try clear hcz24_2
          try clear hcz24_3
          try clear hcz24_4
          try clear hcz24_5
          try clear hcz24_6
          try clear hcz24_7
          try clear hcz24_8
          try clear hcz24_9
          try clear hcz26_0
          try clear hcz26_1
          try clear hcz26_10
          try clear hcz26_11
          try clear hcz26_12
          try clear hcz26_13
          try clear hcz26_14
          try clear hcz26_15
          try clear hcz26_2
          try clear hcz26_3
          try clear hcz26_4
          try clear hcz26_5
          try clear hcz26_6
          try clear hcz26_7
          try clear hcz26_8
          try clear hcz26_9
          try clear hfz10_0
          try clear hfz10_1
          try clear hfz10_10
          try clear hfz10_11
          try clear hfz10_12
          try clear hfz10_13
          try clear hfz10_14
          try clear hfz10_15
          try clear hfz10_2
          try clear hfz10_3
          try clear hfz10_4
          try clear hfz10_5
          try clear hfz10_6
          try clear hfz10_7
          try clear hfz10_8
          try clear hfz10_9
          try clear hfz12_0
          try clear hfz12_1
          try clear hfz12_10
          try clear hfz12_11
          try clear hfz12_12
          try clear hfz12_13
          try clear hfz12_14
          try clear hfz12_15
          try clear hfz12_2
          try clear hfz12_3
          try clear hfz12_4
          try clear hfz12_5
          try clear hfz12_6
          try clear hfz12_7
          try clear hfz12_8
          try clear hfz12_9
          try clear hfz15_0
          try clear hfz15_1
          try clear hfz15_10
          try clear hfz15_11
          try clear hfz15_12
          try clear hfz15_13
          try clear hfz15_14
          try clear hfz15_15
          try clear hfz15_2
          try clear hfz15_3
          try clear hfz15_4
          try clear hfz15_5
          try clear hfz15_6
          try clear hfz15_7
          try clear hfz15_8
          try clear hfz15_9
          try clear hfz24_0
          try clear hfz24_1
          try clear hfz24_10
          try clear hfz24_11
          try clear hfz24_12
          try clear hfz24_13
          try clear hfz24_14
          try clear hfz24_15
          try clear hfz24_2
          try clear hfz24_3
          try clear hfz24_4
          try clear hfz24_5
          try clear hfz24_6
          try clear hfz24_7
          try clear hfz24_8
          try clear hfz24_9
          try clear hfz26_0
          try clear hfz26_1
          try clear hfz26_10
          try clear hfz26_11
          try clear hfz26_12
          try clear hfz26_13
          try clear hfz26_14
          try clear hfz26_15
          try clear hfz26_2
          try clear hfz26_3
          try clear hfz26_4
          try clear hfz26_5
          try clear hfz26_6
          try clear hfz26_7
          try clear hfz26_8
          try clear hfz26_9
          try clear p2
          obtain ⟨kq, x33_21, rfl, HA, HJ21, BK267, BK268, HB⟩ := hcut
          cases kq with
          | zero => exact absurd HA.out (by simp [ploverlaw13_PostApart.j1])
          | succ kj21 =>
            have H := HA.out
            clear HA
            simp only [ploverlaw13_PostApart.j1] at H
            by_cases c29 : x33_21 = true
            · as_aux_lemma =>
              subst c29
              have H1 : ((ploverlaw13_awake.f).bind fun t276 => (some t276)) = some r := by rw [if_pos rfl] at H; exact H
              clear H
              have H := H1
              clear H1
              replace H := Option.bind_eq_some_iff.mp H
              obtain ⟨t276, A300, H⟩ := H
              replace H : (some t276) = some r := H
              have A30 := Aside0.mk A300
              clear A300
              obtain rfl := Option.some.inj H
              go_wp2_with (first | ((with_reducible refine gate_callee (f := 8) rfl ?_); refine goesL_ (some 34) rfl rfl Tryd.func8 (by kernel_rfl) rfl #[] rfl (by (try simp only [List.map_toArray, List.map_cons, List.map_nil]); first | done | rfl | (simp only [List.length_drop, List.length_take]; rfl)) ?_; (with_reducible refine (ploverlaw13_awake.calls  t276 _ (LaidW.below hL (by repeat (first | (with_reducible first | exact HB.out | apply below_alloc | apply pw_below_drewN | apply below_drew1 | refine below_set ?_ GE267.out | refine below_set ?_ GE268.out) | exact HB.out))) A30.out).mono ?_); rintro e w31 ⟨rfl, hb⟩; refine ⟨_, rfl, ?_⟩; have n0_ := Aside0.mk (blk_below (g := gb267) (o := .cells #[.int .i64 a0_0, .int .i64 a0_1, .int .i64 a0_2, .int .i64 a0_3, .int .i64 a0_4, .int .i64 a0_5, .int .i64 a0_6, .int .i64 a0_7, .int .i64 a0_8, .int .i64 a0_9, .slice A0_10 l0_10.length c0_10, .int .i64 a0_11, .int .i64 a0_12, .bool a0_13, .slice A0_14 l0_14.length c0_14, .string a0_15] 30 (0, 0)) (by (with_reducible repeat (first | refine blk_drewN ?_ _ | refine blk_drew ?_ | refine blk_alloc ?_ _)); exact BK267.out) hb); have n1_ := Aside0.mk (blk_below (g := gb268) (o := .cells #[.int .i64 a1_0, .int .i64 a1_1, .int .i64 a1_2, .int .i64 a1_3, .int .i64 a1_4, .int .i64 a1_5, .int .i64 a1_6, .int .i64 a1_7, .int .i64 a1_8, .int .i64 a1_9, .slice A1_10 l1_10.length c1_10, .int .i64 a1_11, .int .i64 a1_12, .bool a1_13, .slice A1_14 l1_14.length c1_14, .string a1_15] 30 (0, 0)) (by (with_reducible repeat (first | refine blk_drewN ?_ _ | refine blk_drew ?_ | refine blk_alloc ?_ _)); exact BK268.out) hb); have n2_ := Aside0.mk (below_step (by repeat (first | (with_reducible first | exact HB.out | apply below_alloc | apply pw_below_drewN | apply below_drew1 | refine below_set ?_ GE267.out | refine below_set ?_ GE268.out) | exact HB.out)) hb); clear BK267; clear BK268; clear HB; have BK267 := n0_; have BK268 := n1_; have HB := n2_; clear n0_ n1_ n2_; (try clear hb); (try clear hb2); (try clear hk); (try clear hi)))
              go_ret
              exact ⟨by first | rfl | (simp [errW_none, errW_some] <;> rfl) | (simp [*, errW_none, errW_some] <;> rfl), by repeat (first | (with_reducible first | exact HB.out | apply below_alloc | apply pw_below_drewN | apply below_drew1 | refine below_set ?_ GE267.out | refine below_set ?_ GE268.out) | exact HB.out)⟩
            · as_aux_lemma =>
              replace c29 := Bool.eq_false_iff.mpr c29
              subst c29
              have H1 : ((ploverref13_Same.f kj21 a0_0 a0_1 a0_2 a0_3 a0_4 a0_5 a0_6 a0_7 a0_8 a0_9 l0_10 a0_11 a0_12 a0_13 l0_14 a0_15 a1_0 a1_1 a1_2 a1_3 a1_4 a1_5 a1_6 a1_7 a1_8 a1_9 l1_10 a1_11 a1_12 a1_13 l1_14 a1_15).bind fun t277 => (if ((t272.toList == t274.toList) == t277) = true then ((ploverlaw13_awake.f).bind fun t278 => (some t278)) else (some false))) = some r := by rw [if_neg (show ¬ (false = true) by decide)] at H; exact H
              clear H
              have H := H1
              clear H1
              replace H := Option.bind_eq_some_iff.mp H
              obtain ⟨t277, A320, H⟩ := H
              replace H : (if ((t272.toList == t274.toList) == t277) = true then ((ploverlaw13_awake.f).bind fun t278 => (some t278)) else (some false)) = some r := H
              have A32 := Aside0.mk A320
              clear A320
              by_cases c33 : ((t272.toList == t274.toList) == t277) = true
              · as_aux_lemma =>
                rw [if_pos c33] at H
                have c33b0 : ((t272.toList == t274.toList) == t277) = true := c33
                (try (have c33b1 : decide ((t272.toList == t274.toList) = t277) = true := by simpa using c33))
                (try (have c33b2 : ((t272.toList == t274.toList) == t277) = true := by simpa using c33))
                clear c33
                replace H := Option.bind_eq_some_iff.mp H
                obtain ⟨t278, A340, H⟩ := H
                replace H : (some t278) = some r := H
                have A34 := Aside0.mk A340
                clear A340
                obtain rfl := Option.some.inj H
                have hnb35 := NB267_268.out
                have hnc35 := NB268_267.out
                have hcz36_0 : wc.cell? ⟨gb267, 0, none⟩ = some (.int .i64 a0_0) := (blk_cell BK267.out 0).trans rfl
                have hcz36_1 : wc.cell? ⟨gb267, 1, none⟩ = some (.int .i64 a0_1) := (blk_cell BK267.out 1).trans rfl
                have hcz36_2 : wc.cell? ⟨gb267, 2, none⟩ = some (.int .i64 a0_2) := (blk_cell BK267.out 2).trans rfl
                have hcz36_3 : wc.cell? ⟨gb267, 3, none⟩ = some (.int .i64 a0_3) := (blk_cell BK267.out 3).trans rfl
                have hcz36_4 : wc.cell? ⟨gb267, 4, none⟩ = some (.int .i64 a0_4) := (blk_cell BK267.out 4).trans rfl
                have hcz36_5 : wc.cell? ⟨gb267, 5, none⟩ = some (.int .i64 a0_5) := (blk_cell BK267.out 5).trans rfl
                have hcz36_6 : wc.cell? ⟨gb267, 6, none⟩ = some (.int .i64 a0_6) := (blk_cell BK267.out 6).trans rfl
                have hcz36_7 : wc.cell? ⟨gb267, 7, none⟩ = some (.int .i64 a0_7) := (blk_cell BK267.out 7).trans rfl
                have hcz36_8 : wc.cell? ⟨gb267, 8, none⟩ = some (.int .i64 a0_8) := (blk_cell BK267.out 8).trans rfl
                have hcz36_9 : wc.cell? ⟨gb267, 9, none⟩ = some (.int .i64 a0_9) := (blk_cell BK267.out 9).trans rfl
                have hcz36_10 : wc.cell? ⟨gb267, 10, none⟩ = some (.slice A0_10 l0_10.length c0_10) := (blk_cell BK267.out 10).trans rfl
                have hcz36_11 : wc.cell? ⟨gb267, 11, none⟩ = some (.int .i64 a0_11) := (blk_cell BK267.out 11).trans rfl
                have hcz36_12 : wc.cell? ⟨gb267, 12, none⟩ = some (.int .i64 a0_12) := (blk_cell BK267.out 12).trans rfl
                have hcz36_13 : wc.cell? ⟨gb267, 13, none⟩ = some (.bool a0_13) := (blk_cell BK267.out 13).trans rfl
                have hcz36_14 : wc.cell? ⟨gb267, 14, none⟩ = some (.slice A0_14 l0_14.length c0_14) := (blk_cell BK267.out 14).trans rfl
                have hcz36_15 : wc.cell? ⟨gb267, 15, none⟩ = some (.string a0_15) := (blk_cell BK267.out 15).trans rfl
                have hfz36_0 := blk_frozen BK267.out 0
                have hfz36_1 := blk_frozen BK267.out 1
                have hfz36_2 := blk_frozen BK267.out 2
                have hfz36_3 := blk_frozen BK267.out 3
                have hfz36_4 := blk_frozen BK267.out 4
                have hfz36_5 := blk_frozen BK267.out 5
                have hfz36_6 := blk_frozen BK267.out 6
                have hfz36_7 := blk_frozen BK267.out 7
                have hfz36_8 := blk_frozen BK267.out 8
                have hfz36_9 := blk_frozen BK267.out 9
                have hfz36_10 := blk_frozen BK267.out 10
                have hfz36_11 := blk_frozen BK267.out 11
                have hfz36_12 := blk_frozen BK267.out 12
                have hfz36_13 := blk_frozen BK267.out 13
                have hfz36_14 := blk_frozen BK267.out 14
                have hfz36_15 := blk_frozen BK267.out 15
                have hcz37_0 : wc.cell? ⟨gb268, 0, none⟩ = some (.int .i64 a1_0) := (blk_cell BK268.out 0).trans rfl
                have hcz37_1 : wc.cell? ⟨gb268, 1, none⟩ = some (.int .i64 a1_1) := (blk_cell BK268.out 1).trans rfl
                have hcz37_2 : wc.cell? ⟨gb268, 2, none⟩ = some (.int .i64 a1_2) := (blk_cell BK268.out 2).trans rfl
                have hcz37_3 : wc.cell? ⟨gb268, 3, none⟩ = some (.int .i64 a1_3) := (blk_cell BK268.out 3).trans rfl
                have hcz37_4 : wc.cell? ⟨gb268, 4, none⟩ = some (.int .i64 a1_4) := (blk_cell BK268.out 4).trans rfl
                have hcz37_5 : wc.cell? ⟨gb268, 5, none⟩ = some (.int .i64 a1_5) := (blk_cell BK268.out 5).trans rfl
                have hcz37_6 : wc.cell? ⟨gb268, 6, none⟩ = some (.int .i64 a1_6) := (blk_cell BK268.out 6).trans rfl
                have hcz37_7 : wc.cell? ⟨gb268, 7, none⟩ = some (.int .i64 a1_7) := (blk_cell BK268.out 7).trans rfl
                have hcz37_8 : wc.cell? ⟨gb268, 8, none⟩ = some (.int .i64 a1_8) := (blk_cell BK268.out 8).trans rfl
                have hcz37_9 : wc.cell? ⟨gb268, 9, none⟩ = some (.int .i64 a1_9) := (blk_cell BK268.out 9).trans rfl
                have hcz37_10 : wc.cell? ⟨gb268, 10, none⟩ = some (.slice A1_10 l1_10.length c1_10) := (blk_cell BK268.out 10).trans rfl
                have hcz37_11 : wc.cell? ⟨gb268, 11, none⟩ = some (.int .i64 a1_11) := (blk_cell BK268.out 11).trans rfl
                have hcz37_12 : wc.cell? ⟨gb268, 12, none⟩ = some (.int .i64 a1_12) := (blk_cell BK268.out 12).trans rfl
                have hcz37_13 : wc.cell? ⟨gb268, 13, none⟩ = some (.bool a1_13) := (blk_cell BK268.out 13).trans rfl
                have hcz37_14 : wc.cell? ⟨gb268, 14, none⟩ = some (.slice A1_14 l1_14.length c1_14) := (blk_cell BK268.out 14).trans rfl
                have hcz37_15 : wc.cell? ⟨gb268, 15, none⟩ = some (.string a1_15) := (blk_cell BK268.out 15).trans rfl
                have hfz37_0 := blk_frozen BK268.out 0
                have hfz37_1 := blk_frozen BK268.out 1
                have hfz37_2 := blk_frozen BK268.out 2
                have hfz37_3 := blk_frozen BK268.out 3
                have hfz37_4 := blk_frozen BK268.out 4
                have hfz37_5 := blk_frozen BK268.out 5
                have hfz37_6 := blk_frozen BK268.out 6
                have hfz37_7 := blk_frozen BK268.out 7
                have hfz37_8 := blk_frozen BK268.out 8
                have hfz37_9 := blk_frozen BK268.out 9
                have hfz37_10 := blk_frozen BK268.out 10
                have hfz37_11 := blk_frozen BK268.out 11
                have hfz37_12 := blk_frozen BK268.out 12
                have hfz37_13 := blk_frozen BK268.out 13
                have hfz37_14 := blk_frozen BK268.out 14
                have hfz37_15 := blk_frozen BK268.out 15
                go_wp2_with (first | ((with_reducible refine gate_callee (f := 13) rfl ?_); refine goesL_ (some 40) rfl rfl Tryd.func13 (by kernel_rfl) rfl #[.agg #[.int .i64 a0_0, .int .i64 a0_1, .int .i64 a0_2, .int .i64 a0_3, .int .i64 a0_4, .int .i64 a0_5, .int .i64 a0_6, .int .i64 a0_7, .int .i64 a0_8, .int .i64 a0_9, .slice A0_10 l0_10.length c0_10, .int .i64 a0_11, .int .i64 a0_12, .bool a0_13, .slice A0_14 l0_14.length c0_14, .string a0_15], .agg #[.int .i64 a1_0, .int .i64 a1_1, .int .i64 a1_2, .int .i64 a1_3, .int .i64 a1_4, .int .i64 a1_5, .int .i64 a1_6, .int .i64 a1_7, .int .i64 a1_8, .int .i64 a1_9, .slice A1_10 l1_10.length c1_10, .int .i64 a1_11, .int .i64 a1_12, .bool a1_13, .slice A1_14 l1_14.length c1_14, .string a1_15]] rfl (by (try simp only [List.map_toArray, List.map_cons, List.map_nil]); first | done | rfl | (simp only [List.length_drop, List.length_take]; rfl)) ?_; (with_reducible refine (ploverref13_Same.calls kj21 a0_0 a0_1 a0_2 a0_3 a0_4 a0_5 a0_6 a0_7 a0_8 a0_9 _ _ l0_10 a0_11 a0_12 a0_13 _ _ l0_14 a0_15 a1_0 a1_1 a1_2 a1_3 a1_4 a1_5 a1_6 a1_7 a1_8 a1_9 _ _ l1_10 a1_11 a1_12 a1_13 _ _ l1_14 a1_15 t277 _ ?side1 ?side2 ?side3 ?side4 ?side5 ?side6 ?side7 ?side8 A32.out).mono ?_); (case side1 => repeat (first | exact (Kd.C_below HR0_10.out HB.out) | (with_reducible refine Kd.C_alloc ?_ _) | (with_reducible refine Kd.C_drewN ?_ _) | (with_reducible refine Kd.C_drew ?_))); (case side2 => exact HC0_10.out); (case side3 => repeat (first | exact (Kd.C_below HR0_14.out HB.out) | (with_reducible refine Kd.C_alloc ?_ _) | (with_reducible refine Kd.C_drewN ?_ _) | (with_reducible refine Kd.C_drew ?_))); (case side4 => exact HC0_14.out); (case side5 => repeat (first | exact (Kd.C_below HR1_10.out HB.out) | (with_reducible refine Kd.C_alloc ?_ _) | (with_reducible refine Kd.C_drewN ?_ _) | (with_reducible refine Kd.C_drew ?_))); (case side6 => exact HC1_10.out); (case side7 => repeat (first | exact (Kd.C_below HR1_14.out HB.out) | (with_reducible refine Kd.C_alloc ?_ _) | (with_reducible refine Kd.C_drewN ?_ _) | (with_reducible refine Kd.C_drew ?_))); (case side8 => exact HC1_14.out); rintro e w38 ⟨rfl, hb⟩; refine ⟨_, rfl, ?_⟩; have n0_ := Aside0.mk (blk_below (g := gb267) (o := .cells #[.int .i64 a0_0, .int .i64 a0_1, .int .i64 a0_2, .int .i64 a0_3, .int .i64 a0_4, .int .i64 a0_5, .int .i64 a0_6, .int .i64 a0_7, .int .i64 a0_8, .int .i64 a0_9, .slice A0_10 l0_10.length c0_10, .int .i64 a0_11, .int .i64 a0_12, .bool a0_13, .slice A0_14 l0_14.length c0_14, .string a0_15] 30 (0, 0)) (by (with_reducible repeat (first | refine blk_drewN ?_ _ | refine blk_drew ?_ | refine blk_alloc ?_ _)); exact BK267.out) hb); have n1_ := Aside0.mk (blk_below (g := gb268) (o := .cells #[.int .i64 a1_0, .int .i64 a1_1, .int .i64 a1_2, .int .i64 a1_3, .int .i64 a1_4, .int .i64 a1_5, .int .i64 a1_6, .int .i64 a1_7, .int .i64 a1_8, .int .i64 a1_9, .slice A1_10 l1_10.length c1_10, .int .i64 a1_11, .int .i64 a1_12, .bool a1_13, .slice A1_14 l1_14.length c1_14, .string a1_15] 30 (0, 0)) (by (with_reducible repeat (first | refine blk_drewN ?_ _ | refine blk_drew ?_ | refine blk_alloc ?_ _)); exact BK268.out) hb); have n2_ := Aside0.mk (below_step (by repeat (first | (with_reducible first | exact HB.out | apply below_alloc | apply pw_below_drewN | apply below_drew1 | refine below_set ?_ GE267.out | refine below_set ?_ GE268.out) | exact HB.out)) hb); clear BK267; clear BK268; clear HB; have BK267 := n0_; have BK268 := n1_; have HB := n2_; clear n0_ n1_ n2_; (try clear hb); (try clear hb2); (try clear hk); (try clear hi)) | (go_at_call 8; (with_reducible refine (ploverlaw13_awake.calls  t278 _ (LaidW.below hL (by repeat (first | (with_reducible first | exact HB.out | apply below_alloc | apply pw_below_drewN | apply below_drew1 | refine below_set ?_ GE267.out | refine below_set ?_ GE268.out) | exact HB.out))) A34.out).mono ?_); rintro e w39 ⟨rfl, hb⟩; have n0_ := Aside0.mk (blk_below (g := gb267) (o := .cells #[.int .i64 a0_0, .int .i64 a0_1, .int .i64 a0_2, .int .i64 a0_3, .int .i64 a0_4, .int .i64 a0_5, .int .i64 a0_6, .int .i64 a0_7, .int .i64 a0_8, .int .i64 a0_9, .slice A0_10 l0_10.length c0_10, .int .i64 a0_11, .int .i64 a0_12, .bool a0_13, .slice A0_14 l0_14.length c0_14, .string a0_15] 30 (0, 0)) (by (with_reducible repeat (first | refine blk_drewN ?_ _ | refine blk_drew ?_ | refine blk_alloc ?_ _)); exact BK267.out) hb); have n1_ := Aside0.mk (blk_below (g := gb268) (o := .cells #[.int .i64 a1_0, .int .i64 a1_1, .int .i64 a1_2, .int .i64 a1_3, .int .i64 a1_4, .int .i64 a1_5, .int .i64 a1_6, .int .i64 a1_7, .int .i64 a1_8, .int .i64 a1_9, .slice A1_10 l1_10.length c1_10, .int .i64 a1_11, .int .i64 a1_12, .bool a1_13, .slice A1_14 l1_14.length c1_14, .string a1_15] 30 (0, 0)) (by (with_reducible repeat (first | refine blk_drewN ?_ _ | refine blk_drew ?_ | refine blk_alloc ?_ _)); exact BK268.out) hb); have n2_ := Aside0.mk (below_step (by repeat (first | (with_reducible first | exact HB.out | apply below_alloc | apply pw_below_drewN | apply below_drew1 | refine below_set ?_ GE267.out | refine below_set ?_ GE268.out) | exact HB.out)) hb); clear BK267; clear BK268; clear HB; have BK267 := n0_; have BK268 := n1_; have HB := n2_; clear n0_ n1_ n2_; (try clear hb); (try clear hb2); (try clear hk); (try clear hi)))
                go_ret
                exact ⟨by first | rfl | (simp [errW_none, errW_some] <;> rfl) | (simp [*, errW_none, errW_some] <;> rfl), by repeat (first | (with_reducible first | exact HB.out | apply below_alloc | apply pw_below_drewN | apply below_drew1 | refine below_set ?_ GE267.out | refine below_set ?_ GE268.out) | exact HB.out)⟩
              · as_aux_lemma =>
                rw [if_neg c33] at H
                have c33b0 : ((t272.toList == t274.toList) == t277) = false := by simpa using c33
                (try (have c33b1 : decide ((t272.toList == t274.toList) = t277) = false := by simpa using c33))
                (try (have c33b2 : ((t272.toList == t274.toList) == t277) = false := by simpa using c33))
                (try (have c33b3 : ¬ ((t272.toList == t274.toList) = t277) := by simpa using c33))
                clear c33
                obtain rfl := Option.some.inj H
                have hnb40 := NB267_268.out
                have hnc40 := NB268_267.out
                have hcz41_0 : wc.cell? ⟨gb267, 0, none⟩ = some (.int .i64 a0_0) := (blk_cell BK267.out 0).trans rfl
                have hcz41_1 : wc.cell? ⟨gb267, 1, none⟩ = some (.int .i64 a0_1) := (blk_cell BK267.out 1).trans rfl
                have hcz41_2 : wc.cell? ⟨gb267, 2, none⟩ = some (.int .i64 a0_2) := (blk_cell BK267.out 2).trans rfl
                have hcz41_3 : wc.cell? ⟨gb267, 3, none⟩ = some (.int .i64 a0_3) := (blk_cell BK267.out 3).trans rfl
                have hcz41_4 : wc.cell? ⟨gb267, 4, none⟩ = some (.int .i64 a0_4) := (blk_cell BK267.out 4).trans rfl
                have hcz41_5 : wc.cell? ⟨gb267, 5, none⟩ = some (.int .i64 a0_5) := (blk_cell BK267.out 5).trans rfl
                have hcz41_6 : wc.cell? ⟨gb267, 6, none⟩ = some (.int .i64 a0_6) := (blk_cell BK267.out 6).trans rfl
                have hcz41_7 : wc.cell? ⟨gb267, 7, none⟩ = some (.int .i64 a0_7) := (blk_cell BK267.out 7).trans rfl
                have hcz41_8 : wc.cell? ⟨gb267, 8, none⟩ = some (.int .i64 a0_8) := (blk_cell BK267.out 8).trans rfl
                have hcz41_9 : wc.cell? ⟨gb267, 9, none⟩ = some (.int .i64 a0_9) := (blk_cell BK267.out 9).trans rfl
                have hcz41_10 : wc.cell? ⟨gb267, 10, none⟩ = some (.slice A0_10 l0_10.length c0_10) := (blk_cell BK267.out 10).trans rfl
                have hcz41_11 : wc.cell? ⟨gb267, 11, none⟩ = some (.int .i64 a0_11) := (blk_cell BK267.out 11).trans rfl
                have hcz41_12 : wc.cell? ⟨gb267, 12, none⟩ = some (.int .i64 a0_12) := (blk_cell BK267.out 12).trans rfl
                have hcz41_13 : wc.cell? ⟨gb267, 13, none⟩ = some (.bool a0_13) := (blk_cell BK267.out 13).trans rfl
                have hcz41_14 : wc.cell? ⟨gb267, 14, none⟩ = some (.slice A0_14 l0_14.length c0_14) := (blk_cell BK267.out 14).trans rfl
                have hcz41_15 : wc.cell? ⟨gb267, 15, none⟩ = some (.string a0_15) := (blk_cell BK267.out 15).trans rfl
                have hfz41_0 := blk_frozen BK267.out 0
                have hfz41_1 := blk_frozen BK267.out 1
                have hfz41_2 := blk_frozen BK267.out 2
                have hfz41_3 := blk_frozen BK267.out 3
                have hfz41_4 := blk_frozen BK267.out 4
                have hfz41_5 := blk_frozen BK267.out 5
                have hfz41_6 := blk_frozen BK267.out 6
                have hfz41_7 := blk_frozen BK267.out 7
                have hfz41_8 := blk_frozen BK267.out 8
                have hfz41_9 := blk_frozen BK267.out 9
                have hfz41_10 := blk_frozen BK267.out 10
                have hfz41_11 := blk_frozen BK267.out 11
                have hfz41_12 := blk_frozen BK267.out 12
                have hfz41_13 := blk_frozen BK267.out 13
                have hfz41_14 := blk_frozen BK267.out 14
                have hfz41_15 := blk_frozen BK267.out 15
                have hcz42_0 : wc.cell? ⟨gb268, 0, none⟩ = some (.int .i64 a1_0) := (blk_cell BK268.out 0).trans rfl
                have hcz42_1 : wc.cell? ⟨gb268, 1, none⟩ = some (.int .i64 a1_1) := (blk_cell BK268.out 1).trans rfl
                have hcz42_2 : wc.cell? ⟨gb268, 2, none⟩ = some (.int .i64 a1_2) := (blk_cell BK268.out 2).trans rfl
                have hcz42_3 : wc.cell? ⟨gb268, 3, none⟩ = some (.int .i64 a1_3) := (blk_cell BK268.out 3).trans rfl
                have hcz42_4 : wc.cell? ⟨gb268, 4, none⟩ = some (.int .i64 a1_4) := (blk_cell BK268.out 4).trans rfl
                have hcz42_5 : wc.cell? ⟨gb268, 5, none⟩ = some (.int .i64 a1_5) := (blk_cell BK268.out 5).trans rfl
                have hcz42_6 : wc.cell? ⟨gb268, 6, none⟩ = some (.int .i64 a1_6) := (blk_cell BK268.out 6).trans rfl
                have hcz42_7 : wc.cell? ⟨gb268, 7, none⟩ = some (.int .i64 a1_7) := (blk_cell BK268.out 7).trans rfl
                have hcz42_8 : wc.cell? ⟨gb268, 8, none⟩ = some (.int .i64 a1_8) := (blk_cell BK268.out 8).trans rfl
                have hcz42_9 : wc.cell? ⟨gb268, 9, none⟩ = some (.int .i64 a1_9) := (blk_cell BK268.out 9).trans rfl
                have hcz42_10 : wc.cell? ⟨gb268, 10, none⟩ = some (.slice A1_10 l1_10.length c1_10) := (blk_cell BK268.out 10).trans rfl
                have hcz42_11 : wc.cell? ⟨gb268, 11, none⟩ = some (.int .i64 a1_11) := (blk_cell BK268.out 11).trans rfl
                have hcz42_12 : wc.cell? ⟨gb268, 12, none⟩ = some (.int .i64 a1_12) := (blk_cell BK268.out 12).trans rfl
                have hcz42_13 : wc.cell? ⟨gb268, 13, none⟩ = some (.bool a1_13) := (blk_cell BK268.out 13).trans rfl
                have hcz42_14 : wc.cell? ⟨gb268, 14, none⟩ = some (.slice A1_14 l1_14.length c1_14) := (blk_cell BK268.out 14).trans rfl
                have hcz42_15 : wc.cell? ⟨gb268, 15, none⟩ = some (.string a1_15) := (blk_cell BK268.out 15).trans rfl
                have hfz42_0 := blk_frozen BK268.out 0
                have hfz42_1 := blk_frozen BK268.out 1
                have hfz42_2 := blk_frozen BK268.out 2
                have hfz42_3 := blk_frozen BK268.out 3
                have hfz42_4 := blk_frozen BK268.out 4
                have hfz42_5 := blk_frozen BK268.out 5
                have hfz42_6 := blk_frozen BK268.out 6
                have hfz42_7 := blk_frozen BK268.out 7
                have hfz42_8 := blk_frozen BK268.out 8
                have hfz42_9 := blk_frozen BK268.out 9
                have hfz42_10 := blk_frozen BK268.out 10
                have hfz42_11 := blk_frozen BK268.out 11
                have hfz42_12 := blk_frozen BK268.out 12
                have hfz42_13 := blk_frozen BK268.out 13
                have hfz42_14 := blk_frozen BK268.out 14
                have hfz42_15 := blk_frozen BK268.out 15
                go_wp2_with (first | ((with_reducible refine gate_callee (f := 13) rfl ?_); refine goesL_ (some 40) rfl rfl Tryd.func13 (by kernel_rfl) rfl #[.agg #[.int .i64 a0_0, .int .i64 a0_1, .int .i64 a0_2, .int .i64 a0_3, .int .i64 a0_4, .int .i64 a0_5, .int .i64 a0_6, .int .i64 a0_7, .int .i64 a0_8, .int .i64 a0_9, .slice A0_10 l0_10.length c0_10, .int .i64 a0_11, .int .i64 a0_12, .bool a0_13, .slice A0_14 l0_14.length c0_14, .string a0_15], .agg #[.int .i64 a1_0, .int .i64 a1_1, .int .i64 a1_2, .int .i64 a1_3, .int .i64 a1_4, .int .i64 a1_5, .int .i64 a1_6, .int .i64 a1_7, .int .i64 a1_8, .int .i64 a1_9, .slice A1_10 l1_10.length c1_10, .int .i64 a1_11, .int .i64 a1_12, .bool a1_13, .slice A1_14 l1_14.length c1_14, .string a1_15]] rfl (by (try simp only [List.map_toArray, List.map_cons, List.map_nil]); first | done | rfl | (simp only [List.length_drop, List.length_take]; rfl)) ?_; (with_reducible refine (ploverref13_Same.calls kj21 a0_0 a0_1 a0_2 a0_3 a0_4 a0_5 a0_6 a0_7 a0_8 a0_9 _ _ l0_10 a0_11 a0_12 a0_13 _ _ l0_14 a0_15 a1_0 a1_1 a1_2 a1_3 a1_4 a1_5 a1_6 a1_7 a1_8 a1_9 _ _ l1_10 a1_11 a1_12 a1_13 _ _ l1_14 a1_15 t277 _ ?side1 ?side2 ?side3 ?side4 ?side5 ?side6 ?side7 ?side8 A32.out).mono ?_); (case side1 => repeat (first | exact (Kd.C_below HR0_10.out HB.out) | (with_reducible refine Kd.C_alloc ?_ _) | (with_reducible refine Kd.C_drewN ?_ _) | (with_reducible refine Kd.C_drew ?_))); (case side2 => exact HC0_10.out); (case side3 => repeat (first | exact (Kd.C_below HR0_14.out HB.out) | (with_reducible refine Kd.C_alloc ?_ _) | (with_reducible refine Kd.C_drewN ?_ _) | (with_reducible refine Kd.C_drew ?_))); (case side4 => exact HC0_14.out); (case side5 => repeat (first | exact (Kd.C_below HR1_10.out HB.out) | (with_reducible refine Kd.C_alloc ?_ _) | (with_reducible refine Kd.C_drewN ?_ _) | (with_reducible refine Kd.C_drew ?_))); (case side6 => exact HC1_10.out); (case side7 => repeat (first | exact (Kd.C_below HR1_14.out HB.out) | (with_reducible refine Kd.C_alloc ?_ _) | (with_reducible refine Kd.C_drewN ?_ _) | (with_reducible refine Kd.C_drew ?_))); (case side8 => exact HC1_14.out); rintro e w43 ⟨rfl, hb⟩; refine ⟨_, rfl, ?_⟩; have n0_ := Aside0.mk (blk_below (g := gb267) (o := .cells #[.int .i64 a0_0, .int .i64 a0_1, .int .i64 a0_2, .int .i64 a0_3, .int .i64 a0_4, .int .i64 a0_5, .int .i64 a0_6, .int .i64 a0_7, .int .i64 a0_8, .int .i64 a0_9, .slice A0_10 l0_10.length c0_10, .int .i64 a0_11, .int .i64 a0_12, .bool a0_13, .slice A0_14 l0_14.length c0_14, .string a0_15] 30 (0, 0)) (by (with_reducible repeat (first | refine blk_drewN ?_ _ | refine blk_drew ?_ | refine blk_alloc ?_ _)); exact BK267.out) hb); have n1_ := Aside0.mk (blk_below (g := gb268) (o := .cells #[.int .i64 a1_0, .int .i64 a1_1, .int .i64 a1_2, .int .i64 a1_3, .int .i64 a1_4, .int .i64 a1_5, .int .i64 a1_6, .int .i64 a1_7, .int .i64 a1_8, .int .i64 a1_9, .slice A1_10 l1_10.length c1_10, .int .i64 a1_11, .int .i64 a1_12, .bool a1_13, .slice A1_14 l1_14.length c1_14, .string a1_15] 30 (0, 0)) (by (with_reducible repeat (first | refine blk_drewN ?_ _ | refine blk_drew ?_ | refine blk_alloc ?_ _)); exact BK268.out) hb); have n2_ := Aside0.mk (below_step (by repeat (first | (with_reducible first | exact HB.out | apply below_alloc | apply pw_below_drewN | apply below_drew1 | refine below_set ?_ GE267.out | refine below_set ?_ GE268.out) | exact HB.out)) hb); clear BK267; clear BK268; clear HB; have BK267 := n0_; have BK268 := n1_; have HB := n2_; clear n0_ n1_ n2_; (try clear hb); (try clear hb2); (try clear hk); (try clear hi)))
                go_ret
                exact ⟨by first | rfl | (simp [errW_none, errW_some] <;> rfl) | (simp [*, errW_none, errW_some] <;> rfl), by repeat (first | (with_reducible first | exact HB.out | apply below_alloc | apply pw_below_drewN | apply below_drew1 | refine below_set ?_ GE267.out | refine below_set ?_ GE268.out) | exact HB.out)⟩
end Go.Proofs.YtlggihnkhimfkaaDoor.P
namespace Go.Proofs.YtlggihnkhimfkaaDoor.Pure
open Go.RowKit Go.Lib Go.Proofs.YtlggihnkhimfkaaDoor.Giv Go.Proofs.YtlggihnkhimfkaaDoor.P Go.Proofs.YtlggihnkhimfkaaDoorW.PrintWords Go.Proofs.YtlggihnkhimfkaaDoorW.PrintLast Go.Proofs.YtlggihnkhimfkaaDoorW.PrintMore
set_option linter.unusedVariables false
set_option linter.unusedSimpArgs false
theorem succA {α : Type} {g : Nat → Option α} {r : α} (h : Ev (fun k => g (k + 1)) r) : Ev g r := Ev.step (f := fun k => g (k + 1)) (fun _ => rfl) h
def putA (m : Ms) : ByteArray × Int := if mayB m = true then (msgT m, 0) else (⟨#[]⟩, 1)
theorem put_anyA (m : Ms) (hw : wfM m) : post_Put.f m.kd m.sh m.ep m.cl m.sq m.nn m.ve m.li m.ok m.id m.v m.kk m.er m.was m.hits m.text = some (putA m) := by
  unfold putA
  by_cases hm : mayB m = true
  · rw [if_pos hm]; exact put_msg m hw hm
  · rw [if_neg hm]; exact put_bad m hm
def lightA (m : Ms) : Bool := decide (m.text.size ≤ 2048) && (decide (m.v.length ≤ 100) && decide (m.hits.length ≤ 100))
theorem light_fA (m : Ms) : ploverlaw13_light.f m.kd m.sh m.ep m.cl m.sq m.nn m.ve m.li m.ok m.id m.v m.kk m.er m.was m.hits m.text = some (lightA m) := by
  unfold ploverlaw13_light.f lightA
  by_cases h1 : m.text.size ≤ 2048
  · rw [if_pos (by omega), decide_eq_true h1]
    by_cases h2 : m.v.length ≤ 100
    · rw [if_pos (by omega), decide_eq_true h2]
      simp only [Bool.true_and]
      exact congrArg some (decide_eq_decide.2 (by omega))
    · rw [if_neg (by omega), decide_eq_false h2]; rfl
  · rw [if_neg (by omega), decide_eq_false h1]; rfl
theorem msg_inj {a b : Ms} (ha : wfM a) (hb : wfM b) (h1 : mayB a = true) (h2 : mayB b = true) (h : msgT a = msgT b) : a = b := by
  have e1 := take_msg a ha h1
  rw [h, take_msg b hb h2] at e1
  have e := (Option.some.inj e1).symm
  cases a; cases b
  simp only [Prod.mk.injEq] at e
  obtain ⟨rfl, rfl, rfl, rfl, rfl, rfl, rfl, rfl, rfl, rfl, rfl, rfl, rfl, rfl, rfl, rfl, _⟩ := e
  rfl
theorem awA : Ev (fun _ => ploverlaw13_awake.f.bind fun t => some t) true := Ev.now true
theorem apart_end (a b : Ms) (ha : wfM a) (hb : wfM b) (h1 : mayB a = true) (h2 : mayB b = true) (s1 : a.v.length ≤ 1000000) (s2 : a.hits.length ≤ 1000000) : Ev (fun k => ploverlaw13_PostApart.j1 k (msgT a) (msgT b) false a.kd a.sh a.ep a.cl a.sq a.nn a.ve a.li a.ok a.id a.v a.kk a.er a.was a.hits a.text b.kd b.sh b.ep b.cl b.sq b.nn b.ve b.li b.ok b.id b.v b.kk b.er b.was b.hits b.text) true := by
  refine succA ?_
  simp only [ploverlaw13_PostApart.j1, if_neg Bool.false_ne_true]
  obtain ⟨r, h, hr⟩ := same_ev a b s1 s2
  refine Ev.bind h ?_
  have e : ((msgT a).toList == (msgT b).toList) = r := by
    refine Bool.eq_iff_iff.2 ?_
    rw [hr, toList_eq]
    exact ⟨fun e => msg_inj ha hb h1 h2 e, fun e => by rw [e]⟩
  rw [e]
  refine Ev.congr (fun k => if_pos (by simp)) ?_
  exact awA
theorem apart_no (s t : ByteArray) (a b : Ms) : Ev (fun k => ploverlaw13_PostApart.j1 k s t true a.kd a.sh a.ep a.cl a.sq a.nn a.ve a.li a.ok a.id a.v a.kk a.er a.was a.hits a.text b.kd b.sh b.ep b.cl b.sq b.nn b.ve b.li b.ok b.id b.v b.kk b.er b.was b.hits b.text) true := by
  refine succA ?_
  simp only [ploverlaw13_PostApart.j1]
  exact awA
theorem apart_j0 (a b : Ms) (ha : wfM a) (hb : wfM b) (s1 : a.v.length ≤ 1000000) (s2 : a.hits.length ≤ 1000000) : Ev (fun k => ploverlaw13_PostApart.j0 k false a.kd a.sh a.ep a.cl a.sq a.nn a.ve a.li a.ok a.id a.v a.kk a.er a.was a.hits a.text b.kd b.sh b.ep b.cl b.sq b.nn b.ve b.li b.ok b.id b.v b.kk b.er b.was b.hits b.text) true := by
  refine succA ?_
  simp only [ploverlaw13_PostApart.j0, if_neg Bool.false_ne_true, put_anyA a ha, put_anyA b hb, Option.bind_some]
  by_cases h1 : mayB a = true
  · have e1 : putA a = (msgT a, 0) := if_pos h1
    simp only [e1, if_pos trivial]
    by_cases h2 : mayB b = true
    · have e2 : putA b = (msgT b, 0) := if_pos h2
      simp only [e2, bne_self_eq_false]
      exact apart_end a b ha hb h1 h2 s1 s2
    · have e2 : putA b = (⟨#[]⟩, 1) := if_neg h2
      simp only [e2]
      exact apart_no _ _ a b
  · have e1 : putA a = (⟨#[]⟩, 1) := if_neg h1
    simp only [e1]
    exact apart_no _ _ a b
theorem apart_j0t (a b : Ms) : Ev (fun k => ploverlaw13_PostApart.j0 k true a.kd a.sh a.ep a.cl a.sq a.nn a.ve a.li a.ok a.id a.v a.kk a.er a.was a.hits a.text b.kd b.sh b.ep b.cl b.sq b.nn b.ve b.li b.ok b.id b.v b.kk b.er b.was b.hits b.text) true := by
  refine succA ?_
  simp only [ploverlaw13_PostApart.j0]
  exact awA
theorem PostApart_pure (a b : Ms) (ha : wfM a) (hb : wfM b) : ∃ k, ploverlaw13_PostApart.f k a.kd a.sh a.ep a.cl a.sq a.nn a.ve a.li a.ok a.id a.v a.kk a.er a.was a.hits a.text b.kd b.sh b.ep b.cl b.sq b.nn b.ve b.li b.ok b.id b.v b.kk b.er b.was b.hits b.text = some true := by
  refine Ev.rounds ?_
  simp only [ploverlaw13_PostApart.f, light_fA, Option.bind_some]
  by_cases l1 : lightA a = true
  · simp only [if_pos l1]
    have hs : a.v.length ≤ 1000000 ∧ a.hits.length ≤ 1000000 := by simp [lightA] at l1; omega
    cases hb2 : lightA b
    · exact apart_j0t a b
    · exact apart_j0 a b ha hb hs.1 hs.2
  · simp only [if_neg l1]
    exact apart_j0t a b
end Go.Proofs.YtlggihnkhimfkaaDoor.Pure
namespace Go.Proofs.YtlggihnkhimfkaaDoor.Opn
open Go.RowKit Go.Proofs.YtlggihnkhimfkaaDoorW.PrintWords
set_option linter.unusedVariables false
def OpensAt {α : Type} (P : Program) (n : Nat) (t : TypeId) (d : Kd α) (G : α → Prop) : Prop :=
  ∀ {H : Type} {enc : TypeId × Value → H} {w : World} {base : Nat} {spare : Nat → Bool} {held : Bool} {cs : List Value} {dd : DataW H} {ps : List MemPlace},
    DataW.trod enc P w base spare held n t cs = some (dd, ps) → (∀ x ∈ dd.weights P t, x ≤ reachBytes) → ∃ a, d.K w a cs ∧ G a
def FieldsAt {α : Type} (P : Program) (n : Nat) (fs : List Field) (start : Nat) (d : Kd α) (G : α → Prop) : Prop :=
  ∀ {H : Type} {enc : TypeId × Value → H} {w : World} {base : Nat} {spare : Nat → Bool} {held : Bool} {cs : List Value} {xs : List (DataW H × List MemPlace)},
    xs.length = fs.length → (∀ (i : Nat) (f : Field), fs[i]? = some f → DataW.trod enc P w base spare held n f.type ((cs.drop f.offset).take (P.cellsOf f.type)) = xs[i]?) →
    (∀ x ∈ DataW.weightsEach P (fs.map Field.type) (xs.map (·.1)), x ≤ reachBytes) → cs.length = start + d.sz → ∃ a, d.K w a (cs.drop start) ∧ G a
section
variable {α β : Type} {P : Program} {n : Nat} {t e : TypeId} {d : Kd α} {G : α → Prop}
theorem OpensAt.map {d' : Kd β} {G' : β → Prop} (g : α → β) (h : OpensAt P n t d G) (hg : ∀ w a cs, d.K w a cs → G a → d'.K w (g a) cs ∧ G' (g a)) : OpensAt P n t d' G' := by
  intro H enc w base spare held cs dd ps ht hw
  obtain ⟨a, h1, h2⟩ := h ht hw
  exact ⟨g a, (hg _ _ _ h1 h2).1, (hg _ _ _ h1 h2).2⟩
theorem opens_int {k : IntKind} (hu : P.underlying t = some (.int k)) : OpensAt P n t (Kd.int k) (fun z => (Lit.int k z).wf = true) := by
  intro H enc w base spare held cs dd ps ht hw
  obtain ⟨z, rfl, _, hz⟩ := DataW.trod_int hu ht
  exact ⟨z, rfl, hz⟩
theorem opens_bool (hu : P.underlying t = some .bool) : OpensAt P n t Kd.bool (fun _ => True) := by
  intro H enc w base spare held cs dd ps ht hw
  obtain ⟨z, rfl, _⟩ := DataW.trod_bool hu ht
  exact ⟨z, rfl, trivial⟩
theorem opens_string (hu : P.underlying t = some .string) : OpensAt P n t Kd.string (fun s => s.size ≤ 140737488351232) := by
  intro H enc w base spare held cs dd ps ht hw
  obtain ⟨z, rfl, hx, _⟩ := DataW.trod_string hu ht
  obtain ⟨rfl, _⟩ := Prod.mk.inj hx
  refine ⟨z, rfl, ?_⟩
  have h1 : z.data.toList.length ≤ reachBytes := hw z.data.toList.length (by rw [DataW.weights]; exact List.mem_singleton_self _)
  rw [Array.length_toList] at h1
  exact h1
theorem mem_weightsAll {H : Type} {P : Program} {e : TypeId} : ∀ {l : List (DataW H)} {x : DataW H}, x ∈ l → ∀ y ∈ x.weights P e, y ∈ DataW.weightsAll P e l
  | [], _, h, _, _ => absurd h (List.not_mem_nil)
  | a :: l, x, h, y, hy => by
    rw [DataW.weightsAll]
    rcases List.mem_cons.1 h with rfl | h
    · exact List.mem_append_left _ hy
    · exact List.mem_append_right _ (mem_weightsAll h y hy)
theorem choose_list {γ : Type} (L : Nat) (Q : Nat → γ → Prop) (h : ∀ i, i < L → ∃ a, Q i a) : ∃ l : List γ, l.length = L ∧ ∀ i a, l[i]? = some a → Q i a := by
  induction L with
  | zero => exact ⟨[], rfl, fun i a hi => by simp at hi⟩
  | succ L ih =>
    obtain ⟨l, h1, h2⟩ := ih (fun i hi => h i (by omega))
    obtain ⟨a, ha⟩ := h L (by omega)
    refine ⟨l ++ [a], by simp [h1], fun i b hi => ?_⟩
    by_cases hl : i < l.length
    · rw [List.getElem?_append_left hl] at hi
      exact h2 i b hi
    · rw [List.getElem?_append_right (by omega)] at hi
      have : i - l.length = 0 := by
        cases hq : i - l.length with
        | zero => rfl
        | succ m => rw [hq] at hi; simp at hi
      rw [this] at hi
      simp at hi
      subst hi
      obtain rfl : i = L := by omega
      exact ha
theorem addr_add_add (a : Addr) (i j : Nat) : (a.add i).add j = a.add (i + j) := by
  unfold Addr.add
  by_cases h1 : i = 0
  · subst h1; simp
  · by_cases h2 : j = 0
    · subst h2; simp
    · have h3 : ¬ i + j = 0 := by omega
      simp [h1, h2, Nat.add_assoc]
theorem cells_all {w : World} {base : Nat} {a : Addr} {m : Nat} {cs : List Value} (h : w.cells? base a m = some cs) : cs.length = m ∧ ∀ i u, cs[i]? = some u → w.cell? (a.add i) = some u := by
  obtain ⟨_, h1, h2⟩ := World.cells?_some h
  refine ⟨h1, fun i u hu => ?_⟩
  have hi : i < m := by rw [← h1]; exact (List.getElem?_eq_some_iff.1 hu).1
  rw [h2 i hi]
  exact hu
theorem opens_slice (hu : P.underlying t = some (.slice e)) (hc : P.cellsOf e = d.sz) (B : Nat) (hB : P.bytesOf e = B) (h : ∀ m, m < n → OpensAt P m e d G) :
    OpensAt P n t (Kd.slice e d) (fun l => (∀ x ∈ l, G x) ∧ l.length * B ≤ 140737488351232) := by
  intro H enc w base spare held cs dd ps ht hw
  rcases DataW.trod_slice hu ht with ⟨rfl, hx⟩ | ⟨a, len, cap, elems, rest, m, rfl, rfl, hx, _, hl, hm, hlen, hel, _, _⟩
  · exact ⟨[], ⟨none, 0, rfl, Nat.le_refl _, rfl, by simp, fun h => absurd h (Nat.lt_irrefl 0)⟩, by simp, by simp⟩
  · obtain ⟨rfl, _⟩ := Prod.mk.inj hx
    rw [DataW.weights, hu] at hw
    dsimp only at hw
    have hB' := hw _ List.mem_cons_self
    rw [hB] at hB'
    simp only [List.length_map, hlen] at hB'
    have hb : len * B ≤ 140737488351232 := Nat.le_trans (Nat.mul_le_mul_right _ (Nat.le_add_right _ _)) hB'
    obtain ⟨l, h1, h2⟩ := choose_list (γ := α) len (fun i y => ∃ c, c.length = d.sz ∧ d.K w y c ∧ (∀ q u, c[q]? = some u → w.cell? (a.add (i * d.sz + q)) = some u) ∧ G y) (fun i hi => by
      have hi' := hel i hi
      rw [List.getElem?_eq_getElem (by omega)] at hi'
      obtain ⟨c, hc1, hc2⟩ := Option.bind_eq_some_iff.1 hi'
      obtain ⟨k1, k2⟩ := cells_all hc1
      obtain ⟨y, y1, y2⟩ := h m (Nat.lt_succ_self _) hc2 (fun x hx => hw x (List.mem_cons_of_mem _ (List.mem_append_left _ (mem_weightsAll (List.mem_map_of_mem (List.getElem_mem (by omega))) x hx))))
      refine ⟨y, c, by rw [k1, hc], y1, fun q u hq => ?_, y2⟩
      have := k2 q u hq
      rw [hc] at this
      rw [← addr_add_add]
      exact this)
    refine ⟨l, ⟨some a, cap, by rw [h1], by omega, rfl, by unfold maxLen at hm; omega, fun _ => ⟨a, rfl, fun j p hp => ?_⟩⟩, fun x hx => ?_, by rw [h1]; exact hb⟩
    · obtain ⟨c, c1, c2, c3, _⟩ := h2 j p hp
      exact ⟨c, c1, c2, c3⟩
    · obtain ⟨i, hi, rfl⟩ := List.getElem_of_mem hx
      obtain ⟨_, _, _, _, g⟩ := h2 i _ (List.getElem?_eq_getElem hi)
      exact g
theorem fields_one {f : Field} {start : Nat} (ho : f.offset = start) (hc : P.cellsOf f.type = d.sz) (h : OpensAt P n f.type d G) : FieldsAt P n [f] start d G := by
  intro H enc w base spare held cs xs hl ht hw hlen
  match xs, hl with
  | [x], _ =>
    have h0 := ht 0 f rfl
    rw [ho, hc, List.take_of_length_le (by rw [List.length_drop]; omega)] at h0
    exact h (dd := x.1) (ps := x.2) h0 (fun y hy => hw y (by simpa [DataW.weightsEach] using hy))
theorem fields_cons {f : Field} {fs : List Field} {start : Nat} {d2 : Kd β} {G2 : β → Prop} (ho : f.offset = start) (hc : P.cellsOf f.type = d.sz) (h : OpensAt P n f.type d G) (h2 : FieldsAt P n fs (start + d.sz) d2 G2) :
    FieldsAt P n (f :: fs) start (Kd.pair d d2) (fun a => G a.1 ∧ G2 a.2) := by
  intro H enc w base spare held cs xs hl ht hw hlen
  match xs, hl with
  | x :: xs, hl =>
    have hs : (Kd.pair d d2).sz = d.sz + d2.sz := rfl
    rw [hs] at hlen
    have h0 := ht 0 f rfl
    rw [ho, hc] at h0
    have hw' : ∀ y ∈ DataW.weights P f.type x.1 ++ DataW.weightsEach P (fs.map Field.type) (xs.map (·.1)), y ≤ reachBytes := by
      intro y hy
      exact hw y (by simpa [DataW.weightsEach] using hy)
    obtain ⟨a, a1, a2⟩ := h (dd := x.1) (ps := x.2) h0 (fun y hy => hw' y (List.mem_append_left _ hy))
    obtain ⟨b, b1, b2⟩ := h2 (cs := cs) (xs := xs) (by simpa using hl) (fun i g hg => ht (i + 1) g hg) (fun y hy => hw' y (List.mem_append_right _ hy)) (by omega)
    refine ⟨(a, b), ⟨(cs.drop start).take d.sz, cs.drop (start + d.sz), ?_, a1, b1⟩, a2, b2⟩
    rw [← List.drop_drop, List.take_append_drop]
theorem opens_struct {fs : Array Field} (hu : P.underlying t = some (.struct fs)) (hc : P.cellsOf t = d.sz) (h : ∀ m, m < n → FieldsAt P m fs.toList 0 d G) : OpensAt P n t d G := by
  intro H enc w base spare held cs dd ps ht hw
  obtain ⟨xs, m, rfl, hx, hl, hxs, hf⟩ := DataW.trod_struct hu ht
  obtain ⟨rfl, _⟩ := Prod.mk.inj hx
  rw [DataW.weights, hu] at hw
  obtain ⟨a, a1, a2⟩ := h m (Nat.lt_succ_self _) (cs := cs) (xs := xs) (by simpa using hxs) (fun i f hi => hf i f (by simpa using hi)) hw (by rw [hl, hc]; omega)
  exact ⟨a, by simpa using a1, a2⟩
end
theorem weights_of {H : Type} {P : Program} {ts : List TypeId} {ds : List (DataW H)} {j : Nat} {t : TypeId} {d : DataW H} (hsz : (DataW.weightsEach P ts ds).all (· ≤ reachBytes) = true) (ht : ts[j]? = some t) (hd : ds[j]? = some d) : ∀ x ∈ d.weights P t, x ≤ reachBytes := by
  intro x hx
  have := List.all_eq_true.1 hsz x (DataW.weights_mem_each ht hd x hx)
  simpa using this
end Go.Proofs.YtlggihnkhimfkaaDoor.Opn
namespace Go.Proofs.YtlggihnkhimfkaaDoor.Opn
open Go.RowKit Go.Proofs.YtlggihnkhimfkaaDoorW.PrintWords Go.Proofs.YtlggihnkhimfkaaDoor.P Go.Proofs.YtlggihnkhimfkaaDoor.Giv Go.Proofs.YtlggihnkhimfkaaDoor.Pure
set_option linter.unusedVariables false
theorem opens_hit : ∀ n, OpensAt Tryd.prog n 52 k52 (fun h => inR h.f0 ∧ inR h.f1) := fun n =>
  OpensAt.map (d := Kd.pair (Kd.int .i64) (Kd.int .i64)) (fun a => (⟨a.1, a.2⟩ : Hit)) (opens_struct Tryd.underlying52 (by kernel_rfl) (fun m hm => fields_cons rfl (by kernel_rfl) (opens_int (by kernel_rfl)) (fields_one rfl (by kernel_rfl) (opens_int (by kernel_rfl))))) (by
    rintro w ⟨a0, a1⟩ cs ⟨_, _, rfl, rfl, rfl⟩ ⟨h0, h1⟩
    exact ⟨k52_mk w ⟨a0, a1⟩, bounds_i64 h0, bounds_i64 h1⟩)
abbrev opK := Kd.pair (Kd.int .i64) (Kd.pair (Kd.int .i64) (Kd.pair (Kd.slice 3 (Kd.int .i64)) (Kd.int .i64)))
abbrev replyK := Kd.pair (Kd.int .i64) (Kd.pair Kd.bool (Kd.slice 52 k52))
theorem opens_op : ∀ n, OpensAt Tryd.prog n 24 opK (fun a => (Lit.int .i64 a.1).wf = true ∧ (Lit.int .i64 a.2.1).wf = true ∧ ((∀ x ∈ a.2.2.1, (Lit.int .i64 x).wf = true) ∧ a.2.2.1.length * 8 ≤ 140737488351232) ∧ (Lit.int .i64 a.2.2.2).wf = true) := fun n =>
  opens_struct Tryd.underlying24 (by kernel_rfl) (fun m hm => fields_cons rfl (by kernel_rfl) (opens_int (by kernel_rfl)) (fields_cons rfl (by kernel_rfl) (opens_int (by kernel_rfl)) (fields_cons rfl (by kernel_rfl) (opens_slice (e := 3) (by kernel_rfl) (by kernel_rfl) 8 (by kernel_rfl) (fun q hq => opens_int (by kernel_rfl))) (fields_one rfl (by kernel_rfl) (opens_int (by kernel_rfl))))))
theorem opens_reply : ∀ n, OpensAt Tryd.prog n 28 replyK (fun a => (Lit.int .i64 a.1).wf = true ∧ True ∧ ((∀ x ∈ a.2.2, inR x.f0 ∧ inR x.f1) ∧ a.2.2.length * 16 ≤ 140737488351232)) := fun n =>
  opens_struct Tryd.underlying28 (by kernel_rfl) (fun m hm => fields_cons rfl (by kernel_rfl) (opens_int (by kernel_rfl)) (fields_cons rfl (by kernel_rfl) (opens_bool (by kernel_rfl)) (fields_one rfl (by kernel_rfl) (opens_slice (e := 52) (by kernel_rfl) (by kernel_rfl) 16 (by kernel_rfl) (fun q hq => opens_hit q)))))
abbrev msgK := Kd.pair (Kd.int .i64) (Kd.pair (Kd.int .i64) (Kd.pair (Kd.int .i64) (Kd.pair (Kd.int .i64) (Kd.pair (Kd.int .i64) (Kd.pair (Kd.int .i64) (Kd.pair (Kd.int .i64) (Kd.pair (Kd.int .i64) (Kd.pair opK (Kd.pair replyK Kd.string)))))))))
abbrev wfI (x : Int) : Prop := (Lit.int .i64 x).wf = true
theorem opens_msg : ∀ n, OpensAt Tryd.prog n 30 msgK (fun a => wfI a.1 ∧ wfI a.2.1 ∧ wfI a.2.2.1 ∧ wfI a.2.2.2.1 ∧ wfI a.2.2.2.2.1 ∧ wfI a.2.2.2.2.2.1 ∧ wfI a.2.2.2.2.2.2.1 ∧ wfI a.2.2.2.2.2.2.2.1 ∧
    (wfI a.2.2.2.2.2.2.2.2.1.1 ∧ wfI a.2.2.2.2.2.2.2.2.1.2.1 ∧ ((∀ x ∈ a.2.2.2.2.2.2.2.2.1.2.2.1, wfI x) ∧ a.2.2.2.2.2.2.2.2.1.2.2.1.length * 8 ≤ 140737488351232) ∧ wfI a.2.2.2.2.2.2.2.2.1.2.2.2) ∧
    (wfI a.2.2.2.2.2.2.2.2.2.1.1 ∧ True ∧ ((∀ x ∈ a.2.2.2.2.2.2.2.2.2.1.2.2, inR x.f0 ∧ inR x.f1) ∧ a.2.2.2.2.2.2.2.2.2.1.2.2.length * 16 ≤ 140737488351232)) ∧ a.2.2.2.2.2.2.2.2.2.2.size ≤ 140737488351232) := fun n =>
  opens_struct Tryd.underlying30 (by kernel_rfl) (fun m hm => fields_cons rfl (by kernel_rfl) (opens_int (by kernel_rfl)) (fields_cons rfl (by kernel_rfl) (opens_int (by kernel_rfl)) (fields_cons rfl (by kernel_rfl) (opens_int (by kernel_rfl)) (fields_cons rfl (by kernel_rfl) (opens_int (by kernel_rfl)) (fields_cons rfl (by kernel_rfl) (opens_int (by kernel_rfl)) (fields_cons rfl (by kernel_rfl) (opens_int (by kernel_rfl)) (fields_cons rfl (by kernel_rfl) (opens_int (by kernel_rfl)) (fields_cons rfl (by kernel_rfl) (opens_int (by kernel_rfl)) (fields_cons rfl (by kernel_rfl) (opens_op m) (fields_cons rfl (by kernel_rfl) (opens_reply m) (fields_one rfl (by kernel_rfl) (opens_string (by kernel_rfl)))))))))))))
set_option maxRecDepth 100000 in
theorem open_msg {H : Type} {enc : TypeId × Value → H} {W : World} {base : Nat} {spare : Nat → Bool} {held : Bool} {v : Value} {d : DataW H} {ps : List MemPlace} {r : Reach} {b0 : Nat}
    (hval : Value.okWide Tryd.prog W r b0 30 v) (hd : DataW.Trod enc Tryd.prog W base spare held 30 v d ps) (hw : ∀ x ∈ d.weights Tryd.prog 30, x ≤ reachBytes) :
    ∃ (m : Ms) (A3 : Option Addr) (c3 : Nat) (A4 : Option Addr) (c4 : Nat), v = .agg #[.int .i64 m.kd, .int .i64 m.sh, .int .i64 m.ep, .int .i64 m.cl, .int .i64 m.sq, .int .i64 m.nn, .int .i64 m.ve, .int .i64 m.li, .int .i64 m.ok, .int .i64 m.id, .slice A3 m.v.length c3, .int .i64 m.kk, .int .i64 m.er, .bool m.was, .slice A4 m.hits.length c4, .string m.text] ∧
      Kd.C (Kd.int .i64) W A3 m.v.length m.v ∧ m.v.length ≤ c3 ∧ Kd.C k52 W A4 m.hits.length m.hits ∧ m.hits.length ≤ c4 ∧ wfM m := by
  obtain ⟨cs, rfl, _⟩ := Go.WideShapes.okWide_struct Tryd.underlying30 hval
  obtain ⟨n, hn⟩ := hd
  obtain ⟨⟨a0, a1, a2, a3, a4, a5, a6, a7, ⟨b0, b1, b2, b3⟩, ⟨e0, e1, e2⟩, tx⟩, hK, h0, h1, h2, h3, h4, h5, h6, h7, ⟨h8, h9, ⟨h10, h10l⟩, h11⟩, ⟨h12, _, ⟨h14, h14l⟩⟩, h15⟩ := opens_msg n hn hw
  obtain ⟨_, _, he, rfl, ⟨_, _, rfl, rfl, ⟨_, _, rfl, rfl, ⟨_, _, rfl, rfl, ⟨_, _, rfl, rfl, ⟨_, _, rfl, rfl, ⟨_, _, rfl, rfl, ⟨_, _, rfl, rfl, ⟨_, _, rfl, ⟨_, _, rfl, rfl, ⟨_, _, rfl, rfl, ⟨_, _, rfl, ⟨A3, c3, rfl, l3, g3⟩, rfl⟩⟩⟩, ⟨_, _, rfl, ⟨_, _, rfl, rfl, ⟨_, _, rfl, rfl, ⟨A4, c4, rfl, l4, g4⟩⟩⟩, rfl⟩⟩⟩⟩⟩⟩⟩⟩⟩⟩ := hK
  dsimp only at h0 h1 h2 h3 h4 h5 h6 h7 h8 h9 h10 h10l h11 h12 h14 h14l h15 l3 g3 l4 g4
  refine ⟨⟨a0, a1, a2, a3, a4, a5, a6, a7, b0, b1, b2, b3, e0, e1, e2, tx⟩, A3, c3, A4, c4, ?_, g3, l3, g4, l4, ?_⟩
  · have : cs.toList = [.int .i64 a0, .int .i64 a1, .int .i64 a2, .int .i64 a3, .int .i64 a4, .int .i64 a5, .int .i64 a6, .int .i64 a7, .int .i64 b0, .int .i64 b1, .slice A3 b2.length c3, .int .i64 b3, .int .i64 e0, .bool e1, .slice A4 e2.length c4, .string tx] := he
    congr 1
    exact Array.toList_inj.1 this
  · refine ⟨?_, fun x hx => bounds_i64 (h10 x hx), bounds_i64 h12, h14, ?_, ?_, h15⟩
    · intro x hx
      simp only [List.mem_cons, List.not_mem_nil, or_false] at hx
      rcases hx with rfl | rfl | rfl | rfl | rfl | rfl | rfl | rfl | rfl | rfl | rfl <;> exact bounds_i64 (by assumption)
    · dsimp only; omega
    · dsimp only; omega
end Go.Proofs.YtlggihnkhimfkaaDoor.Opn
namespace Go.Proofs.YtlggihnkhimfkaaDoor.Lay
open Go.RowKit Go.Lib
def LL : List (String × DataW Unit) := [("math/bits.deBruijn32tab", Rows.laid_math_bits_deBruijn32tab), ("math/bits.deBruijn64tab", Rows.laid_math_bits_deBruijn64tab), ("internal/strconv.uint64pow10", Rows.laid_internal_strconv_uint64pow10), ("strconv.ErrRange", Rows.laid_strconv_ErrRange), ("strconv.ErrSyntax", Rows.laid_strconv_ErrSyntax)]
def cellsOf : DataW Unit → List Value
  | .agg l => l.map fun | .lit (.int k z) => .int k z | _ => .nilIface
  | _ => []
noncomputable def low : Nat := (World.holding Tryd.prog default ⟨#[], #[], []⟩).heap.size
noncomputable def laidWorld (os : Os) : World :=
  let w0 := World.holding Tryd.prog os ⟨#[.cells #[.string ⟨#[118, 97, 108, 117, 101, 32, 111, 117, 116, 32, 111, 102, 32, 114, 97, 110, 103, 101]⟩] 146, .cells #[.string ⟨#[105, 110, 118, 97, 108, 105, 100, 32, 115, 121, 110, 116, 97, 120]⟩] 146], #[], []⟩
  let put (h : Array Obj) (g : Nat) (cs : Array Value) : Array Obj := h.modify g fun
    | .cells _ t frozen => .cells cs t frozen
    | o => o
  let h1 := put w0.heap 1 (cellsOf Rows.laid_math_bits_deBruijn32tab).toArray
  let h2 := put h1 2 (cellsOf Rows.laid_math_bits_deBruijn64tab).toArray
  let h3 := put h2 0 (cellsOf Rows.laid_internal_strconv_uint64pow10).toArray
  let h4 := put h3 4 #[.iface 144 (.pointer (some ⟨low, 0, none⟩))]
  let h5 := put h4 3 #[.iface 144 (.pointer (some ⟨low + 1, 0, none⟩))]
  { w0 with heap := h5 }
theorem laid_met (os : Os) (args : Array Value) : laidMet Tryd.prog LL ((laidWorld os).forCall (fun _ _ => 0) ⟨#[], args, []⟩).memory :=
  (LaidIn.of_run (l := LL) [1, 2, 0, 4, 3, low, low + 1] 8 (by kernel_rfl) (by kernel_rfl) (by kernel_rfl) (by kernel_rfl)).met
def tab64 : List Int := Lib.deBruijn64tab.map Int.ofNat
theorem eqB : (Rows.laid_math_bits_deBruijn64tab : DataW Unit) = Lib.tabData .u8 tab64 := by kernel_rfl
theorem eqP : (Rows.laid_internal_strconv_uint64pow10 : DataW Unit) = Lib.tabData .u64 Lib.pow10Tab := by kernel_rfl
theorem star : "*" ++ "errors.errorString" = "*errors.errorString" := by decide
theorem rowE (u : TypeId) (h : Tryd.prog.typeName? 3 u = some "*errors.errorString") : u = 144 :=
  typeName_ptr_named (nm := "errors.errorString") (by rw [star]; kernel_rfl) (by kernel_rfl) (by decide) u (by rw [star]; exact h)
theorem nR : Tryd.prog.globalNamed "strconv.ErrRange" = some 4 := by kernel_rfl
theorem nS : Tryd.prog.globalNamed "strconv.ErrSyntax" = some 3 := by kernel_rfl
theorem nB : Tryd.prog.globalNamed "math/bits.deBruijn64tab" = some 2 := by kernel_rfl
set_option maxRecDepth 100000 in
theorem tabIs_of_reads {name : String} {k : IntKind} {zs : List Int} {W : World} {g : Nat} {t e : TypeId} {n : Nat} (hg : Tryd.prog.globalNamed name = some g) (hty : (Tryd.prog.globals[g]?).map (·.type) = some t) (ht : Tryd.prog.underlying t = some (.array n e)) (he : Tryd.prog.underlying e = some (.int k)) (hce : Tryd.prog.cellsOf e = 1) (hct : Tryd.prog.cellsOf t = n)
    (h : VarReads Tryd.prog W name (tabData k zs)) : Lib.TabIs Tryd.prog W name k zs := by
  obtain ⟨g', t', cs, fuel, p, h1, h2, h3, h4⟩ := h
  obtain rfl : g' = g := by rw [hg] at h1; exact (Option.some.inj h1).symm
  obtain rfl : t' = t := by rw [hty] at h2; exact (Option.some.inj h2).symm
  have := cells_of_tab ht he hce hct h4
  unfold Lib.TabIs
  rw [h3]
  congr 1
  apply Array.toList_inj.1
  rw [this]
set_option maxRecDepth 100000 in
theorem tabAt_of {W : World} (h : Lib.TabIs Tryd.prog W "math/bits.deBruijn64tab" .u8 tab64) : TabAt 2 Lib.deBruijn64tab W := by
  intro j hj
  have h0 := World.var?_cell nB h j
  rw [h0]
  have hl : Lib.deBruijn64tab.length = 64 := by decide
  simp only [List.getElem?_toArray, List.getElem?_map, tab64]
  rw [List.getElem?_eq_getElem hj]
  simp [List.getD_eq_getElem?_getD, List.getElem?_eq_getElem hj]
set_option maxRecDepth 100000 in
theorem laidW_of {W : World} (hL : laidMetH Tryd.prog LL W) : Giv.LaidW W := by
  have h1 := Lib.laidMet.reads hL (.tail _ (.head _))
  have h0 := Lib.laidMet.reads hL (.tail _ (.tail _ (.head _)))
  rw [eqP] at h0
  rw [eqB] at h1
  have hR := laidMet.tail (laidMet.tail (laidMet.tail hL))
  have hS := laidMet.tail hR
  obtain ⟨a1, s1, hv1, -, -, -⟩ := laid_sentinel hR nR (ti := 89) (by kernel_rfl) Tryd.underlying89 rowE Tryd.underlying144 Tryd.underlying146 rfl rfl Tryd.underlying9 (by kernel_rfl) (by kernel_rfl)
  obtain ⟨a2, s2, hv2, -, -, -⟩ := laid_sentinel hS nS (ti := 89) (by kernel_rfl) Tryd.underlying89 rowE Tryd.underlying144 Tryd.underlying146 rfl rfl Tryd.underlying9 (by kernel_rfl) (by kernel_rfl)
  refine ⟨tabIs_of_reads (t := 124) (e := 115) (n := 20) Giv.pow10_named (by kernel_rfl) Tryd.underlying124 Tryd.underlying115 (by kernel_rfl) (by kernel_rfl) h0, tabAt_of (tabIs_of_reads (t := 137) (e := 5) (n := 64) nB (by kernel_rfl) Tryd.underlying137 Tryd.underlying5 (by kernel_rfl) (by kernel_rfl) h1), ⟨_, by have := World.var?_cell nS hv2 0; simpa using this, .inr ⟨_, _, rfl⟩⟩, ⟨_, by have := World.var?_cell nR hv1 0; simpa using this, .inr ⟨_, _, rfl⟩⟩⟩
theorem own : ownKnob Tryd.prog.godebug = none := by kernel_rfl
theorem laidOut : laidOutB Tryd.prog = true := by kernel_rfl
end Go.Proofs.YtlggihnkhimfkaaDoor.Lay
