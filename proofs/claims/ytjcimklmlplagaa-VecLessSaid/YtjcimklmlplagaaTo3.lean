/- Texts put together by prune.py: Px4, ShelfV, Aid, VecO, TopT, VecC, Sn, VecT, VecI. -/
import Derived.Shelf.SlSortCmp.NoneTotal
import Derived.Shelf.SlicesE.Clone
import Derived.Shelf.Small.Wraps
import Derived.Test.YtjcimklmlplagaaProg
import Derived.WalkKit
import Derived.Deep.Quiet
import Derived.BigQuiet
import Derived.BigCall
import Derived.Deep.RegionHeld3
import Derived.Laws.AppendOwn
import Derived.Maps.Own
import Derived.Maps.OwnOps
import Derived.Maps.Views
import Derived.WalkSpells
import Derived.WalkLawsBesides
import Derived.Test.YtjcimklmlplagaaTo2
namespace Go.Proofs.Ytjcimklmlplagaa.P
open Go.RowKit Go.Proofs.YtjcimklmlplagaaW.PrintWords Go.Proofs.YtjcimklmlplagaaW.PrintLast Go.Proofs.YtjcimklmlplagaaW.PrintMore
attribute [local go_sem] max2_int min2_int max_two min_two max_three min_three max_four min_four   -- for this text's walks alone
set_option linter.unusedVariables false
set_option linter.unusedSimpArgs false
def ploverref05_Top.f (k : Nat) (l0 : List (S32)) (a1 : Int) : Option ((List (S32)) × Int) := if a1 < 0 then (some (([] : List (S32)), 51)) else (if a1 > 64 then (some (([] : List (S32)), 51)) else ((ploverref05_top.f k l0 a1).bind fun t161 => (some (t161, 0))))
set_option maxHeartbeats 8000000 in
set_option maxRecDepth 100000 in
theorem ploverref05_Top.calls (k : Nat) (A0 : Option Addr) (c0 : Nat) (l0 : List (S32)) (a1 : Int) (r1 : List (S32)) (r2 : Int) (w : World) (hr0 : Kd.C k32 w A0 l0.length l0) (hc0 : l0.length ≤ c0) (h : ploverref05_Top.f k l0 a1 = some (r1, r2)) :
    Calls Try.prog 10 #[.slice A0 l0.length c0, .int .i64 a1] w fun e w' => ∃ v0_ : Value, e = .returned (.tuple #[v0_, .int .i64 r2]) ∧ Kd.R k32 32 w' w.heap.size (fun _ => True) v0_ r1 ∧ Below w.heap.size w w' := by
  have HR0 := Aside0.mk hr0
  have HC0 := Aside0.mk hc0
  clear hr0 hc0
  have HB := Aside0.mk (Below.refl w.heap.size w)
  have H : (if a1 < 0 then (some (([] : List (S32)), 51)) else (if a1 > 64 then (some (([] : List (S32)), 51)) else ((ploverref05_top.f k l0 a1).bind fun t161 => (some (t161, 0))))) = some (r1, r2) := h
  clear h
  by_cases c3 : a1 < 0
  · rw [if_pos c3] at H
    have c3b0 : decide (a1 < 0) = true := decide_eq_true c3
    clear c3
    simp only [Option.some.injEq, Prod.mk.injEq] at H
    obtain ⟨rfl, rfl⟩ := H
    go_enter Try.func10, Try.ntmps10
    go_wp2
    go_ret2
    exact ⟨_, by first | rfl | (simp [errW_none, errW_some] <;> rfl) | (simp [*, errW_none, errW_some] <;> rfl), by first | exact Kd.R_nil _ _ _ _ _ | exact Kd.N_nil _ _ _ _ _ | exact Kd.V_nil _ _ _ _ _ | exact Kd.Q_nil _ _ _ _ _ | exact Kd.S_nil _ _ _ _ _, by repeat (first | (with_reducible first | exact HB.out | apply below_alloc | apply pw_below_drewN | apply below_drew1) | exact HB.out)⟩
  · rw [if_neg c3] at H
    have c3b0 : decide (a1 < 0) = false := decide_eq_false c3
    clear c3
    by_cases c4 : a1 > 64
    · rw [if_pos c4] at H
      have c4b0 : decide (64 < a1) = true := decide_eq_true c4
      clear c4
      simp only [Option.some.injEq, Prod.mk.injEq] at H
      obtain ⟨rfl, rfl⟩ := H
      go_enter Try.func10, Try.ntmps10
      go_wp2
      go_ret2
      exact ⟨_, by first | rfl | (simp [errW_none, errW_some] <;> rfl) | (simp [*, errW_none, errW_some] <;> rfl), by first | exact Kd.R_nil _ _ _ _ _ | exact Kd.N_nil _ _ _ _ _ | exact Kd.V_nil _ _ _ _ _ | exact Kd.Q_nil _ _ _ _ _ | exact Kd.S_nil _ _ _ _ _, by repeat (first | (with_reducible first | exact HB.out | apply below_alloc | apply pw_below_drewN | apply below_drew1) | exact HB.out)⟩
    · rw [if_neg c4] at H
      have c4b0 : decide (64 < a1) = false := decide_eq_false c4
      clear c4
      replace H := Option.bind_eq_some_iff.mp H
      obtain ⟨t161, A50, H⟩ := H
      replace H : (some (t161, 0)) = some (r1, r2) := H
      have A5 := Aside0.mk A50
      clear A50
      simp only [Option.some.injEq, Prod.mk.injEq] at H
      obtain ⟨rfl, rfl⟩ := H
      go_enter Try.func10, Try.ntmps10
      go_wp2_with (first | ((with_reducible refine gate_callee (f := 19) rfl ?_); refine goesL_ (some 14) rfl rfl Try.func19 (by kernel_rfl) rfl #[.slice A0 l0.length c0, .int .i64 a1] rfl (by (try simp only [List.map_toArray, List.map_cons, List.map_nil]); first | done | rfl | (simp only [List.length_drop, List.length_take]; rfl)) ?_; (with_reducible refine (ploverref05_top.calls k _ _ l0 a1 t161 _ ?side1 ?side2 A5.out).mono ?_); (case side1 => repeat (first | exact HR0.out | (with_reducible refine Kd.C_alloc ?_ _) | (with_reducible refine Kd.C_drewN ?_ _) | (with_reducible refine Kd.C_drew ?_))); (case side2 => exact HC0.out); rintro e w6 ⟨v162, rfl, ho0, hb⟩; refine ⟨_, rfl, ?_⟩; have n0_ := Aside0.mk (Kd.R_lower ho0 (below_size (by repeat (first | (with_reducible first | exact HB.out | apply below_alloc | apply pw_below_drewN | apply below_drew1) | exact HB.out)))); have n1_ := Aside0.mk (below_step (by repeat (first | (with_reducible first | exact HB.out | apply below_alloc | apply pw_below_drewN | apply below_drew1) | exact HB.out)) hb); clear HB; have HO163 := n0_; have HB := n1_; clear n0_ n1_; (try clear hb); (try clear hb2); (try clear hk); (try clear hi); (try clear ho0)))
      go_ret2
      exact ⟨_, by first | rfl | (simp [errW_none, errW_some] <;> rfl) | (simp [*, errW_none, errW_some] <;> rfl), by (with_reducible repeat (first | apply Kd.R_alloc | apply Kd.R_drewN | apply Kd.R_drew)); exact HO163.out, by repeat (first | (with_reducible first | exact HB.out | apply below_alloc | apply pw_below_drewN | apply below_drew1) | exact HB.out)⟩
def ploverref05_Is.l0 : Nat → List Int → Int → Option (Bool)
  | 0, _, _ => none
  | k + 1, x0, x3 => if x3 < (x0.length : Int) then (if 0 ≤ x3 then (if (rd x0 x3) < (-2147483648) then (some false) else (if (rd x0 x3) > 2147483647 then (some false) else (ploverref05_Is.l0 k x0 (wrap64 (x3 + 1))))) else (none)) else (if (x0.length : Int) ≥ 1 then (some (decide ((x0.length : Int) ≤ 16))) else (some false))
def ploverref05_Is.f (k : Nat) (l0 : List Int) : Option (Bool) := ploverref05_Is.l0 k l0 0
set_option maxHeartbeats 8000000 in
set_option maxRecDepth 100000 in
theorem ploverref05_Is.calls (k : Nat) (A0 : Option Addr) (c0 : Nat) (l0 : List Int) (r : Bool) (w : World) (hr0 : Kd.C (Kd.int .i64) w A0 l0.length l0) (hc0 : l0.length ≤ c0) (h : ploverref05_Is.f k l0 = some r) :
    Calls Try.prog 22 #[.slice A0 l0.length c0] w fun e w' => e = .returned (.bool r) ∧ Drawn0 w w' := by
  have HR0 := Aside0.mk hr0
  have HC0 := Aside0.mk hc0
  clear hr0 hc0
  have H : (ploverref05_Is.l0 k l0 0) = some r := h
  clear h
  have H' := Aside0.mk H
  clear H
  go_enter Try.func22, Try.ntmps22
  go_wp2
  go_loopg [3] k (fun kq v3 w' => ∃ (x3_1 : Int), v3 = .int .i64 x3_1 ∧ Aside0 (ploverref05_Is.l0 kq l0 x3_1 = some r) ∧ Aside0 (kq ≤ k) ∧ Drawn0 w w')
  case atStart => exact ⟨(0), (by first | rfl | (simp; done) | (simp [*]; done)), H', ⟨Nat.le_refl _⟩, by repeat (first | exact Drawn0.refl _ | apply Drawn0.step)⟩
  case round =>
    clear H'
    obtain ⟨x3_1, rfl, HA, HK1, ⟨m1, rfl⟩⟩ := hrel
    cases gk with
    | zero => exact absurd HA.out (by simp [ploverref05_Is.l0])
    | succ k1 =>
      have H := HA.out
      clear HA
      simp only [ploverref05_Is.l0] at H
      by_cases c2 : x3_1 < (l0.length : Int)
      · rw [if_pos c2] at H
        have c2b0 : decide (x3_1 < (l0.length : Int)) = true := decide_eq_true c2
        clear c2
        by_cases c3 : 0 ≤ x3_1
        · rw [if_pos c3] at H
          have c3b0 : decide (0 ≤ x3_1) = true := decide_eq_true c3
          clear c3
          by_cases c4 : (rd l0 x3_1) < (-2147483648)
          · rw [if_pos c4] at H
            have c4b0 : decide ((rd l0 x3_1) < (-2147483648)) = true := decide_eq_true c4
            clear c4
            obtain rfl := Option.some.inj H
            have p239 : 0 ≤ (x3_1 : Int) := of_decide_eq_true (by first | (with_reducible assumption) | assumption)
            have q239 : x3_1 < (l0.length : Int) := of_decide_eq_true (by first | (with_reducible assumption) | assumption)
            obtain ⟨ad239, e239, hx239_0⟩ := Kd.at_int HR0.out x3_1 p239 q239
            cases e239
            replace p239 := eq_true p239
            replace q239 := eq_true q239
            go_wp2
            go_ret
            exact ⟨by first | rfl | (simp; done) | (simp [*]; done), by repeat (first | exact Drawn0.refl _ | apply Drawn0.step)⟩
          · rw [if_neg c4] at H
            have c4b0 : decide ((rd l0 x3_1) < (-2147483648)) = false := decide_eq_false c4
            clear c4
            by_cases c5 : (rd l0 x3_1) > 2147483647
            · rw [if_pos c5] at H
              have c5b0 : decide (2147483647 < (rd l0 x3_1)) = true := decide_eq_true c5
              clear c5
              obtain rfl := Option.some.inj H
              have p239 : 0 ≤ (x3_1 : Int) := of_decide_eq_true (by first | (with_reducible assumption) | assumption)
              have q239 : x3_1 < (l0.length : Int) := of_decide_eq_true (by first | (with_reducible assumption) | assumption)
              obtain ⟨ad239, e239, hx239_0⟩ := Kd.at_int HR0.out x3_1 p239 q239
              cases e239
              replace p239 := eq_true p239
              replace q239 := eq_true q239
              have p240 : 0 ≤ (x3_1 : Int) := of_decide_eq_true (by first | (with_reducible assumption) | assumption)
              have q240 : x3_1 < (l0.length : Int) := of_decide_eq_true (by first | (with_reducible assumption) | assumption)
              obtain ⟨ad240, e240, hx240_0⟩ := Kd.at_int HR0.out x3_1 p240 q240
              obtain rfl : ad239 = ad240 := (by injection e240)
              replace p240 := eq_true p240
              replace q240 := eq_true q240
              go_wp2
              go_ret
              exact ⟨by first | rfl | (simp; done) | (simp [*]; done), by repeat (first | exact Drawn0.refl _ | apply Drawn0.step)⟩
            · rw [if_neg c5] at H
              have c5b0 : decide (2147483647 < (rd l0 x3_1)) = false := decide_eq_false c5
              clear c5
              have H' := Aside0.mk H
              clear H
              have p239 : 0 ≤ (x3_1 : Int) := of_decide_eq_true (by first | (with_reducible assumption) | assumption)
              have q239 : x3_1 < (l0.length : Int) := of_decide_eq_true (by first | (with_reducible assumption) | assumption)
              obtain ⟨ad239, e239, hx239_0⟩ := Kd.at_int HR0.out x3_1 p239 q239
              cases e239
              replace p239 := eq_true p239
              replace q239 := eq_true q239
              have p240 : 0 ≤ (x3_1 : Int) := of_decide_eq_true (by first | (with_reducible assumption) | assumption)
              have q240 : x3_1 < (l0.length : Int) := of_decide_eq_true (by first | (with_reducible assumption) | assumption)
              obtain ⟨ad240, e240, hx240_0⟩ := Kd.at_int HR0.out x3_1 p240 q240
              obtain rfl : ad239 = ad240 := (by injection e240)
              replace p240 := eq_true p240
              replace q240 := eq_true q240
              go_wp2
              go_roundg k1
              case measure => have := HK1.out; omega
              case rel => exact ⟨(wrap64 (x3_1 + 1)), (by first | rfl | (simp; done) | (simp [*]; done)), H', ⟨by have := HK1.out; omega⟩, by repeat (first | exact Drawn0.refl _ | apply Drawn0.step)⟩
        · rw [if_neg c3] at H
          exact absurd H (by simp)
      · rw [if_neg c2] at H
        have c2b0 : decide (x3_1 < (l0.length : Int)) = false := decide_eq_false c2
        clear c2
        by_cases c6 : (l0.length : Int) ≥ 1
        · rw [if_pos c6] at H
          have c6b0 : decide (1 ≤ (l0.length : Int)) = true := decide_eq_true c6
          have c6b1 : decide (1 ≤ l0.length) = true := decide_eq_true (by omega)
          clear c6
          obtain rfl := Option.some.inj H
          go_wp2
          go_ret
          exact ⟨by first | rfl | (simp; done) | (simp [*]; done), by repeat (first | exact Drawn0.refl _ | apply Drawn0.step)⟩
        · rw [if_neg c6] at H
          have c6b0 : decide (1 ≤ (l0.length : Int)) = false := decide_eq_false c6
          have c6b1 : decide (1 ≤ l0.length) = false := decide_eq_false (by omega)
          clear c6
          obtain rfl := Option.some.inj H
          go_wp2
          go_ret
          exact ⟨by first | rfl | (simp; done) | (simp [*]; done), by repeat (first | exact Drawn0.refl _ | apply Drawn0.step)⟩
mutual
def ploverref05_Dist.j0 : Nat → List Int → List Int → Bool → Option (Int × Int)
  | 0, _, _, _ => none
  | k + 1, x0, x1, x22 => if x22 = true then (some (0, 50)) else (ploverref05_Dist.l0 k x0 x1 0 0)
def ploverref05_Dist.l0 : Nat → List Int → List Int → Int → Int → Option (Int × Int)
  | 0, _, _, _, _ => none
  | k + 1, x0, x1, x6, x7 => if x7 < (x0.length : Int) then (if 0 ≤ x7 then (if x7 < (x1.length : Int) then (if (rd x0 x7) > (rd x1 x7) then (ploverref05_Dist.l0 k x0 x1 (wrap64 ((wrap64 (x6 + (rd x0 x7))) - (rd x1 x7))) (wrap64 (x7 + 1))) else (ploverref05_Dist.l0 k x0 x1 (wrap64 ((wrap64 (x6 + (rd x1 x7))) - (rd x0 x7))) (wrap64 (x7 + 1)))) else (none)) else (none)) else (some (x6, 0))
end
def ploverref05_Dist.f (k : Nat) (l0 : List Int) (l1 : List Int) : Option (Int × Int) := (ploverref05_Is.f k l0).bind fun t241 => (if t241 = true then ((ploverref05_Is.f k l1).bind fun t242 => (if t242 = true then (ploverref05_Dist.j0 k l0 l1 ((l0.length : Int) != (l1.length : Int))) else (ploverref05_Dist.j0 k l0 l1 true))) else (ploverref05_Dist.j0 k l0 l1 true))
set_option maxHeartbeats 8000000 in
set_option maxRecDepth 100000 in
theorem ploverref05_Dist.calls (k : Nat) (A0 : Option Addr) (c0 : Nat) (l0 : List Int) (A1 : Option Addr) (c1 : Nat) (l1 : List Int) (r1 : Int) (r2 : Int) (w : World) (hr0 : Kd.C (Kd.int .i64) w A0 l0.length l0) (hc0 : l0.length ≤ c0) (hr1 : Kd.C (Kd.int .i64) w A1 l1.length l1) (hc1 : l1.length ≤ c1) (h : ploverref05_Dist.f k l0 l1 = some (r1, r2)) :
    Calls Try.prog 23 #[.slice A0 l0.length c0, .slice A1 l1.length c1] w fun e w' => e = .returned (.tuple #[.int .i64 r1, .int .i64 r2]) ∧ Drawn0 w w' := by
  have HR0 := Aside0.mk hr0
  have HC0 := Aside0.mk hc0
  clear hr0 hc0
  have HR1 := Aside0.mk hr1
  have HC1 := Aside0.mk hc1
  clear hr1 hc1
  have H : ((ploverref05_Is.f k l0).bind fun t241 => (if t241 = true then ((ploverref05_Is.f k l1).bind fun t242 => (if t242 = true then (ploverref05_Dist.j0 k l0 l1 ((l0.length : Int) != (l1.length : Int))) else (ploverref05_Dist.j0 k l0 l1 true))) else (ploverref05_Dist.j0 k l0 l1 true))) = some (r1, r2) := h
  clear h
  have HC3 := Aside0.mk H
  clear H
  go_enter Try.func23, Try.ntmps23
  go_upto_region 1 with (fail)
  repeat (go_quiet (fail); go_upto_region 1 with (fail))
  go_cut [22] (fun v22 wc => ∃ (kq : Nat) (x22_2 : Bool), v22 = .bool x22_2 ∧ Aside0 (ploverref05_Dist.j0 kq l0 l1 x22_2 = some (r1, r2)) ∧ Aside0 (kq ≤ k) ∧ Drawn0 w wc)
  case first =>
    have H := HC3.out
    clear HC3
    replace H := Option.bind_eq_some_iff.mp H
    obtain ⟨t241, A40, H⟩ := H
    replace H : (if t241 = true then ((ploverref05_Is.f k l1).bind fun t242 => (if t242 = true then (ploverref05_Dist.j0 k l0 l1 ((l0.length : Int) != (l1.length : Int))) else (ploverref05_Dist.j0 k l0 l1 true))) else (ploverref05_Dist.j0 k l0 l1 true)) = some (r1, r2) := H
    have A4 := Aside0.mk A40
    clear A40
    by_cases c5 : t241 = true
    · subst c5
      have H1 : ((ploverref05_Is.f k l1).bind fun t242 => (if t242 = true then (ploverref05_Dist.j0 k l0 l1 ((l0.length : Int) != (l1.length : Int))) else (ploverref05_Dist.j0 k l0 l1 true))) = some (r1, r2) := by rw [if_pos rfl] at H; exact H
      clear H
      have H := H1
      clear H1
      replace H := Option.bind_eq_some_iff.mp H
      obtain ⟨t242, A60, H⟩ := H
      replace H : (if t242 = true then (ploverref05_Dist.j0 k l0 l1 ((l0.length : Int) != (l1.length : Int))) else (ploverref05_Dist.j0 k l0 l1 true)) = some (r1, r2) := H
      have A6 := Aside0.mk A60
      clear A60
      by_cases c7 : t242 = true
      · subst c7
        have H1 : (ploverref05_Dist.j0 k l0 l1 ((l0.length : Int) != (l1.length : Int))) = some (r1, r2) := by rw [if_pos rfl] at H; exact H
        clear H
        have H := H1
        clear H1
        have H' := Aside0.mk H
        clear H
        go_wp2_with (first | (go_at_call 22; (with_reducible refine (ploverref05_Is.calls k _ _ l0 true _ ?side1 ?side2 A4.out).mono ?_); (case side1 => repeat (first | exact HR0.out | (with_reducible refine Kd.C_alloc ?_ _) | (with_reducible refine Kd.C_drewN ?_ _) | (with_reducible refine Kd.C_drew ?_))); (case side2 => exact HC0.out); rintro e w' ⟨rfl, ⟨nd, rfl⟩⟩; (try first | exact ⟨rfl, _, World.drewN_drewN _ _ _⟩ | exact ⟨rfl, _, Eq.trans (World.drewN_drewN _ _ _) (congrArg (World.drewN _) (Nat.add_assoc _ _ _))⟩)) | (go_at_call 22; (with_reducible refine (ploverref05_Is.calls k _ _ l1 true _ ?side1 ?side2 A6.out).mono ?_); (case side1 => repeat (first | exact HR1.out | (with_reducible refine Kd.C_alloc ?_ _) | (with_reducible refine Kd.C_drewN ?_ _) | (with_reducible refine Kd.C_drew ?_))); (case side2 => exact HC1.out); rintro e w' ⟨rfl, ⟨nd, rfl⟩⟩; (try first | exact ⟨rfl, _, World.drewN_drewN _ _ _⟩ | exact ⟨rfl, _, Eq.trans (World.drewN_drewN _ _ _) (congrArg (World.drewN _) (Nat.add_assoc _ _ _))⟩)))
        repeat (go_quiet (first | (go_at_call 22; (with_reducible refine (ploverref05_Is.calls k _ _ l0 true _ ?side1 ?side2 A4.out).mono ?_); (case side1 => repeat (first | exact HR0.out | (with_reducible refine Kd.C_alloc ?_ _) | (with_reducible refine Kd.C_drewN ?_ _) | (with_reducible refine Kd.C_drew ?_))); (case side2 => exact HC0.out); rintro e w' ⟨rfl, ⟨nd, rfl⟩⟩; (try first | exact ⟨rfl, _, World.drewN_drewN _ _ _⟩ | exact ⟨rfl, _, Eq.trans (World.drewN_drewN _ _ _) (congrArg (World.drewN _) (Nat.add_assoc _ _ _))⟩)) | (go_at_call 22; (with_reducible refine (ploverref05_Is.calls k _ _ l1 true _ ?side1 ?side2 A6.out).mono ?_); (case side1 => repeat (first | exact HR1.out | (with_reducible refine Kd.C_alloc ?_ _) | (with_reducible refine Kd.C_drewN ?_ _) | (with_reducible refine Kd.C_drew ?_))); (case side2 => exact HC1.out); rintro e w' ⟨rfl, ⟨nd, rfl⟩⟩; (try first | exact ⟨rfl, _, World.drewN_drewN _ _ _⟩ | exact ⟨rfl, _, Eq.trans (World.drewN_drewN _ _ _) (congrArg (World.drewN _) (Nat.add_assoc _ _ _))⟩))); try go_wp2_with (first | (go_at_call 22; (with_reducible refine (ploverref05_Is.calls k _ _ l0 true _ ?side1 ?side2 A4.out).mono ?_); (case side1 => repeat (first | exact HR0.out | (with_reducible refine Kd.C_alloc ?_ _) | (with_reducible refine Kd.C_drewN ?_ _) | (with_reducible refine Kd.C_drew ?_))); (case side2 => exact HC0.out); rintro e w' ⟨rfl, ⟨nd, rfl⟩⟩; (try first | exact ⟨rfl, _, World.drewN_drewN _ _ _⟩ | exact ⟨rfl, _, Eq.trans (World.drewN_drewN _ _ _) (congrArg (World.drewN _) (Nat.add_assoc _ _ _))⟩)) | (go_at_call 22; (with_reducible refine (ploverref05_Is.calls k _ _ l1 true _ ?side1 ?side2 A6.out).mono ?_); (case side1 => repeat (first | exact HR1.out | (with_reducible refine Kd.C_alloc ?_ _) | (with_reducible refine Kd.C_drewN ?_ _) | (with_reducible refine Kd.C_drew ?_))); (case side2 => exact HC1.out); rintro e w' ⟨rfl, ⟨nd, rfl⟩⟩; (try first | exact ⟨rfl, _, World.drewN_drewN _ _ _⟩ | exact ⟨rfl, _, Eq.trans (World.drewN_drewN _ _ _) (congrArg (World.drewN _) (Nat.add_assoc _ _ _))⟩))))
        go_meet
        case rel => exact ⟨_, (((l0.length : Int) != (l1.length : Int))), (by first | rfl | (simp; done) | (simp [*]; done)), H', ⟨by first | omega | exact Nat.le_refl _⟩, by repeat (first | exact Drawn0.refl _ | apply Drawn0.step)⟩
      · replace c7 := Bool.eq_false_iff.mpr c7
        subst c7
        have H1 : (ploverref05_Dist.j0 k l0 l1 true) = some (r1, r2) := by rw [if_neg (show ¬ (false = true) by decide)] at H; exact H
        clear H
        have H := H1
        clear H1
        have H' := Aside0.mk H
        clear H
        go_wp2_with (first | (go_at_call 22; (with_reducible refine (ploverref05_Is.calls k _ _ l0 true _ ?side1 ?side2 A4.out).mono ?_); (case side1 => repeat (first | exact HR0.out | (with_reducible refine Kd.C_alloc ?_ _) | (with_reducible refine Kd.C_drewN ?_ _) | (with_reducible refine Kd.C_drew ?_))); (case side2 => exact HC0.out); rintro e w' ⟨rfl, ⟨nd, rfl⟩⟩; (try first | exact ⟨rfl, _, World.drewN_drewN _ _ _⟩ | exact ⟨rfl, _, Eq.trans (World.drewN_drewN _ _ _) (congrArg (World.drewN _) (Nat.add_assoc _ _ _))⟩)) | (go_at_call 22; (with_reducible refine (ploverref05_Is.calls k _ _ l1 false _ ?side1 ?side2 A6.out).mono ?_); (case side1 => repeat (first | exact HR1.out | (with_reducible refine Kd.C_alloc ?_ _) | (with_reducible refine Kd.C_drewN ?_ _) | (with_reducible refine Kd.C_drew ?_))); (case side2 => exact HC1.out); rintro e w' ⟨rfl, ⟨nd, rfl⟩⟩; (try first | exact ⟨rfl, _, World.drewN_drewN _ _ _⟩ | exact ⟨rfl, _, Eq.trans (World.drewN_drewN _ _ _) (congrArg (World.drewN _) (Nat.add_assoc _ _ _))⟩)))
        repeat (go_quiet (first | (go_at_call 22; (with_reducible refine (ploverref05_Is.calls k _ _ l0 true _ ?side1 ?side2 A4.out).mono ?_); (case side1 => repeat (first | exact HR0.out | (with_reducible refine Kd.C_alloc ?_ _) | (with_reducible refine Kd.C_drewN ?_ _) | (with_reducible refine Kd.C_drew ?_))); (case side2 => exact HC0.out); rintro e w' ⟨rfl, ⟨nd, rfl⟩⟩; (try first | exact ⟨rfl, _, World.drewN_drewN _ _ _⟩ | exact ⟨rfl, _, Eq.trans (World.drewN_drewN _ _ _) (congrArg (World.drewN _) (Nat.add_assoc _ _ _))⟩)) | (go_at_call 22; (with_reducible refine (ploverref05_Is.calls k _ _ l1 false _ ?side1 ?side2 A6.out).mono ?_); (case side1 => repeat (first | exact HR1.out | (with_reducible refine Kd.C_alloc ?_ _) | (with_reducible refine Kd.C_drewN ?_ _) | (with_reducible refine Kd.C_drew ?_))); (case side2 => exact HC1.out); rintro e w' ⟨rfl, ⟨nd, rfl⟩⟩; (try first | exact ⟨rfl, _, World.drewN_drewN _ _ _⟩ | exact ⟨rfl, _, Eq.trans (World.drewN_drewN _ _ _) (congrArg (World.drewN _) (Nat.add_assoc _ _ _))⟩))); try go_wp2_with (first | (go_at_call 22; (with_reducible refine (ploverref05_Is.calls k _ _ l0 true _ ?side1 ?side2 A4.out).mono ?_); (case side1 => repeat (first | exact HR0.out | (with_reducible refine Kd.C_alloc ?_ _) | (with_reducible refine Kd.C_drewN ?_ _) | (with_reducible refine Kd.C_drew ?_))); (case side2 => exact HC0.out); rintro e w' ⟨rfl, ⟨nd, rfl⟩⟩; (try first | exact ⟨rfl, _, World.drewN_drewN _ _ _⟩ | exact ⟨rfl, _, Eq.trans (World.drewN_drewN _ _ _) (congrArg (World.drewN _) (Nat.add_assoc _ _ _))⟩)) | (go_at_call 22; (with_reducible refine (ploverref05_Is.calls k _ _ l1 false _ ?side1 ?side2 A6.out).mono ?_); (case side1 => repeat (first | exact HR1.out | (with_reducible refine Kd.C_alloc ?_ _) | (with_reducible refine Kd.C_drewN ?_ _) | (with_reducible refine Kd.C_drew ?_))); (case side2 => exact HC1.out); rintro e w' ⟨rfl, ⟨nd, rfl⟩⟩; (try first | exact ⟨rfl, _, World.drewN_drewN _ _ _⟩ | exact ⟨rfl, _, Eq.trans (World.drewN_drewN _ _ _) (congrArg (World.drewN _) (Nat.add_assoc _ _ _))⟩))))
        go_meet
        case rel => exact ⟨_, (true), (by first | rfl | (simp; done) | (simp [*]; done)), H', ⟨by first | omega | exact Nat.le_refl _⟩, by repeat (first | exact Drawn0.refl _ | apply Drawn0.step)⟩
    · replace c5 := Bool.eq_false_iff.mpr c5
      subst c5
      have H1 : (ploverref05_Dist.j0 k l0 l1 true) = some (r1, r2) := by rw [if_neg (show ¬ (false = true) by decide)] at H; exact H
      clear H
      have H := H1
      clear H1
      have H' := Aside0.mk H
      clear H
      go_wp2_with (first | (go_at_call 22; (with_reducible refine (ploverref05_Is.calls k _ _ l0 false _ ?side1 ?side2 A4.out).mono ?_); (case side1 => repeat (first | exact HR0.out | (with_reducible refine Kd.C_alloc ?_ _) | (with_reducible refine Kd.C_drewN ?_ _) | (with_reducible refine Kd.C_drew ?_))); (case side2 => exact HC0.out); rintro e w' ⟨rfl, ⟨nd, rfl⟩⟩; (try first | exact ⟨rfl, _, World.drewN_drewN _ _ _⟩ | exact ⟨rfl, _, Eq.trans (World.drewN_drewN _ _ _) (congrArg (World.drewN _) (Nat.add_assoc _ _ _))⟩)))
      repeat (go_quiet (first | (go_at_call 22; (with_reducible refine (ploverref05_Is.calls k _ _ l0 false _ ?side1 ?side2 A4.out).mono ?_); (case side1 => repeat (first | exact HR0.out | (with_reducible refine Kd.C_alloc ?_ _) | (with_reducible refine Kd.C_drewN ?_ _) | (with_reducible refine Kd.C_drew ?_))); (case side2 => exact HC0.out); rintro e w' ⟨rfl, ⟨nd, rfl⟩⟩; (try first | exact ⟨rfl, _, World.drewN_drewN _ _ _⟩ | exact ⟨rfl, _, Eq.trans (World.drewN_drewN _ _ _) (congrArg (World.drewN _) (Nat.add_assoc _ _ _))⟩))); try go_wp2_with (first | (go_at_call 22; (with_reducible refine (ploverref05_Is.calls k _ _ l0 false _ ?side1 ?side2 A4.out).mono ?_); (case side1 => repeat (first | exact HR0.out | (with_reducible refine Kd.C_alloc ?_ _) | (with_reducible refine Kd.C_drewN ?_ _) | (with_reducible refine Kd.C_drew ?_))); (case side2 => exact HC0.out); rintro e w' ⟨rfl, ⟨nd, rfl⟩⟩; (try first | exact ⟨rfl, _, World.drewN_drewN _ _ _⟩ | exact ⟨rfl, _, Eq.trans (World.drewN_drewN _ _ _) (congrArg (World.drewN _) (Nat.add_assoc _ _ _))⟩))))
      go_meet
      case rel => exact ⟨_, (true), (by first | rfl | (simp; done) | (simp [*]; done)), H', ⟨by first | omega | exact Nat.le_refl _⟩, by repeat (first | exact Drawn0.refl _ | apply Drawn0.step)⟩
  case rest =>
    clear HC3
    try clear c1
    try clear c2
    try clear p2
    try clear c5
    try clear c7
    obtain ⟨kq, x22_2, rfl, HA, HJ2, ⟨mc2, rfl⟩⟩ := hcut
    cases kq with
    | zero => exact absurd HA.out (by simp [ploverref05_Dist.j0])
    | succ kj2 =>
      have H := HA.out
      clear HA
      simp only [ploverref05_Dist.j0] at H
      by_cases c8 : x22_2 = true
      · subst c8
        have H1 : (some (0, 50)) = some (r1, r2) := by rw [if_pos rfl] at H; exact H
        clear H
        have H := H1
        clear H1
        simp only [Option.some.injEq, Prod.mk.injEq] at H
        obtain ⟨rfl, rfl⟩ := H
        go_wp2
        repeat (go_quiet (fail); try go_wp2)
        go_ret2
        exact ⟨by first | rfl | (simp; done) | (simp [*]; done), by repeat (first | exact Drawn0.refl _ | apply Drawn0.step)⟩
      · replace c8 := Bool.eq_false_iff.mpr c8
        subst c8
        have H1 : (ploverref05_Dist.l0 kj2 l0 l1 0 0) = some (r1, r2) := by rw [if_neg (show ¬ (false = true) by decide)] at H; exact H
        clear H
        have H := H1
        clear H1
        have H' := Aside0.mk H
        clear H
        go_wp2
        repeat (go_quiet (fail); try go_wp2)
        go_loopg [6, 7] kj2 (fun kq v6 v7 w' => ∃ (x6_2 : Int) (x7_2 : Int), v6 = .int .i64 x6_2 ∧ v7 = .int .i64 x7_2 ∧ Aside0 (ploverref05_Dist.l0 kq l0 l1 x6_2 x7_2 = some (r1, r2)) ∧ Aside0 (kq ≤ kj2) ∧ Drawn0 w w')
        case atStart => exact ⟨(0), (0), (by first | rfl | (simp; done) | (simp [*]; done)), (by first | rfl | (simp; done) | (simp [*]; done)), H', ⟨Nat.le_refl _⟩, by repeat (first | exact Drawn0.refl _ | apply Drawn0.step)⟩
        case round =>
          clear H'
          try clear c1
          try clear c2
          try clear p2
          try clear c5
          try clear c7
          try clear c8
          try clear p2
          obtain ⟨x6_2, x7_2, rfl, rfl, HA, HK2, ⟨m2, rfl⟩⟩ := hrel
          cases gk with
          | zero => exact absurd HA.out (by simp [ploverref05_Dist.l0])
          | succ k2 =>
            have H := HA.out
            clear HA
            simp only [ploverref05_Dist.l0] at H
            by_cases c9 : x7_2 < (l0.length : Int)
            · rw [if_pos c9] at H
              have c9b0 : decide (x7_2 < (l0.length : Int)) = true := decide_eq_true c9
              clear c9
              by_cases c10 : 0 ≤ x7_2
              · rw [if_pos c10] at H
                have c10b0 : decide (0 ≤ x7_2) = true := decide_eq_true c10
                clear c10
                by_cases c11 : x7_2 < (l1.length : Int)
                · rw [if_pos c11] at H
                  have c11b0 : decide (x7_2 < (l1.length : Int)) = true := decide_eq_true c11
                  clear c11
                  by_cases c12 : (rd l0 x7_2) > (rd l1 x7_2)
                  · rw [if_pos c12] at H
                    have c12b0 : decide ((rd l1 x7_2) < (rd l0 x7_2)) = true := decide_eq_true c12
                    clear c12
                    have H' := Aside0.mk H
                    clear H
                    have p243 : 0 ≤ (x7_2 : Int) := of_decide_eq_true (by first | (with_reducible assumption) | assumption)
                    have q243 : x7_2 < (l0.length : Int) := of_decide_eq_true (by first | (with_reducible assumption) | assumption)
                    obtain ⟨ad243, e243, hx243_0⟩ := Kd.at_int HR0.out x7_2 p243 q243
                    cases e243
                    replace p243 := eq_true p243
                    replace q243 := eq_true q243
                    have p244 : 0 ≤ (x7_2 : Int) := of_decide_eq_true (by first | (with_reducible assumption) | assumption)
                    have q244 : x7_2 < (l1.length : Int) := of_decide_eq_true (by first | (with_reducible assumption) | assumption)
                    obtain ⟨ad244, e244, hx244_0⟩ := Kd.at_int HR1.out x7_2 p244 q244
                    cases e244
                    replace p244 := eq_true p244
                    replace q244 := eq_true q244
                    have p245 : 0 ≤ (x7_2 : Int) := of_decide_eq_true (by first | (with_reducible assumption) | assumption)
                    have q245 : x7_2 < (l0.length : Int) := of_decide_eq_true (by first | (with_reducible assumption) | assumption)
                    obtain ⟨ad245, e245, hx245_0⟩ := Kd.at_int HR0.out x7_2 p245 q245
                    obtain rfl : ad243 = ad245 := (by injection e245)
                    replace p245 := eq_true p245
                    replace q245 := eq_true q245
                    have p246 : 0 ≤ (x7_2 : Int) := of_decide_eq_true (by first | (with_reducible assumption) | assumption)
                    have q246 : x7_2 < (l1.length : Int) := of_decide_eq_true (by first | (with_reducible assumption) | assumption)
                    obtain ⟨ad246, e246, hx246_0⟩ := Kd.at_int HR1.out x7_2 p246 q246
                    obtain rfl : ad244 = ad246 := (by injection e246)
                    replace p246 := eq_true p246
                    replace q246 := eq_true q246
                    go_wp2
                    repeat (go_quiet (fail); try go_wp2)
                    go_roundg k2
                    case measure => have := HJ2.out; have := HK2.out; omega
                    case rel => exact ⟨(wrap64 ((wrap64 (x6_2 + (rd l0 x7_2))) - (rd l1 x7_2))), (wrap64 (x7_2 + 1)), (by first | rfl | (simp; done) | (simp [*]; done)), (by first | rfl | (simp; done) | (simp [*]; done)), H', ⟨by have := HJ2.out; have := HK2.out; omega⟩, by repeat (first | exact Drawn0.refl _ | apply Drawn0.step)⟩
                  · rw [if_neg c12] at H
                    have c12b0 : decide ((rd l1 x7_2) < (rd l0 x7_2)) = false := decide_eq_false c12
                    clear c12
                    have H' := Aside0.mk H
                    clear H
                    have p243 : 0 ≤ (x7_2 : Int) := of_decide_eq_true (by first | (with_reducible assumption) | assumption)
                    have q243 : x7_2 < (l0.length : Int) := of_decide_eq_true (by first | (with_reducible assumption) | assumption)
                    obtain ⟨ad243, e243, hx243_0⟩ := Kd.at_int HR0.out x7_2 p243 q243
                    cases e243
                    replace p243 := eq_true p243
                    replace q243 := eq_true q243
                    have p244 : 0 ≤ (x7_2 : Int) := of_decide_eq_true (by first | (with_reducible assumption) | assumption)
                    have q244 : x7_2 < (l1.length : Int) := of_decide_eq_true (by first | (with_reducible assumption) | assumption)
                    obtain ⟨ad244, e244, hx244_0⟩ := Kd.at_int HR1.out x7_2 p244 q244
                    cases e244
                    replace p244 := eq_true p244
                    replace q244 := eq_true q244
                    have p247 : 0 ≤ (x7_2 : Int) := of_decide_eq_true (by first | (with_reducible assumption) | assumption)
                    have q247 : x7_2 < (l1.length : Int) := of_decide_eq_true (by first | (with_reducible assumption) | assumption)
                    obtain ⟨ad247, e247, hx247_0⟩ := Kd.at_int HR1.out x7_2 p247 q247
                    obtain rfl : ad244 = ad247 := (by injection e247)
                    replace p247 := eq_true p247
                    replace q247 := eq_true q247
                    have p248 : 0 ≤ (x7_2 : Int) := of_decide_eq_true (by first | (with_reducible assumption) | assumption)
                    have q248 : x7_2 < (l0.length : Int) := of_decide_eq_true (by first | (with_reducible assumption) | assumption)
                    obtain ⟨ad248, e248, hx248_0⟩ := Kd.at_int HR0.out x7_2 p248 q248
                    obtain rfl : ad243 = ad248 := (by injection e248)
                    replace p248 := eq_true p248
                    replace q248 := eq_true q248
                    go_wp2
                    repeat (go_quiet (fail); try go_wp2)
                    go_roundg k2
                    case measure => have := HJ2.out; have := HK2.out; omega
                    case rel => exact ⟨(wrap64 ((wrap64 (x6_2 + (rd l1 x7_2))) - (rd l0 x7_2))), (wrap64 (x7_2 + 1)), (by first | rfl | (simp; done) | (simp [*]; done)), (by first | rfl | (simp; done) | (simp [*]; done)), H', ⟨by have := HJ2.out; have := HK2.out; omega⟩, by repeat (first | exact Drawn0.refl _ | apply Drawn0.step)⟩
                · rw [if_neg c11] at H
                  exact absurd H (by simp)
              · rw [if_neg c10] at H
                exact absurd H (by simp)
            · rw [if_neg c9] at H
              have c9b0 : decide (x7_2 < (l0.length : Int)) = false := decide_eq_false c9
              clear c9
              simp only [Option.some.injEq, Prod.mk.injEq] at H
              obtain ⟨rfl, rfl⟩ := H
              go_wp2
              repeat (go_quiet (fail); try go_wp2)
              go_ret2
              exact ⟨by first | rfl | (simp; done) | (simp [*]; done), by repeat (first | exact Drawn0.refl _ | apply Drawn0.step)⟩
def ploverref05_Search.l0 : Nat → List (S46) → List Int → Int → List (S32) → Int → Option ((List (S32)) × Int)
  | 0, _, _, _, _, _ => none
  | k + 1, x0, x1, x2, x8, x9 => if x9 < (x0.length : Int) then (if 0 ≤ x9 then ((ploverref05_Dist.f k x1 ((rd_T46 x0 x9).f1)).bind fun bt251 => (if bt251.2 = 0 then (if x8.length < 8796093022208 then (ploverref05_Search.l0 k x0 x1 x2 (x8 ++ [(⟨(rd_T46 x0 x9).f0, bt251.1⟩ : S32)]) (wrap64 (x9 + 1))) else (none)) else (some (([] : List (S32)), bt251.2)))) else (none)) else (if x2 < 1 then (some (([] : List (S32)), 51)) else (if x2 > 64 then (some (([] : List (S32)), 51)) else ((ploverref05_top.f k x8 x2).bind fun t257 => (some (t257, 0)))))
def ploverref05_Search.f (k : Nat) (l0 : List (S46)) (l1 : List Int) (a2 : Int) : Option ((List (S32)) × Int) := (ploverref05_Is.f k l1).bind fun t249 => (if t249 = true then (ploverref05_Search.l0 k l0 l1 a2 ([] : List (S32)) 0) else (some (([] : List (S32)), 50)))
set_option maxHeartbeats 8000000 in
set_option maxRecDepth 100000 in
theorem ploverref05_Search.calls (k : Nat) (A0 : Option Addr) (c0 : Nat) (l0 : List (S46)) (A1 : Option Addr) (c1 : Nat) (l1 : List Int) (a2 : Int) (r1 : List (S32)) (r2 : Int) (w : World) (hr0 : Kd.C k46 w A0 l0.length l0) (hc0 : l0.length ≤ c0) (hr1 : Kd.C (Kd.int .i64) w A1 l1.length l1) (hc1 : l1.length ≤ c1) (h : ploverref05_Search.f k l0 l1 a2 = some (r1, r2)) :
    Calls Try.prog 15 #[.slice A0 l0.length c0, .slice A1 l1.length c1, .int .i64 a2] w fun e w' => ∃ v0_ : Value, e = .returned (.tuple #[v0_, .int .i64 r2]) ∧ Kd.R k32 32 w' w.heap.size (fun _ => True) v0_ r1 ∧ Below w.heap.size w w' := by
  have hu32 := Try.underlying32
  have HR0 := Aside0.mk hr0
  have HC0 := Aside0.mk hc0
  clear hr0 hc0
  have HR1 := Aside0.mk hr1
  have HC1 := Aside0.mk hc1
  clear hr1 hc1
  have HB := Aside0.mk (Below.refl w.heap.size w)
  have H : ((ploverref05_Is.f k l1).bind fun t249 => (if t249 = true then (ploverref05_Search.l0 k l0 l1 a2 ([] : List (S32)) 0) else (some (([] : List (S32)), 50)))) = some (r1, r2) := h
  clear h
  replace H := Option.bind_eq_some_iff.mp H
  obtain ⟨t249, A40, H⟩ := H
  replace H : (if t249 = true then (ploverref05_Search.l0 k l0 l1 a2 ([] : List (S32)) 0) else (some (([] : List (S32)), 50))) = some (r1, r2) := H
  have A4 := Aside0.mk A40
  clear A40
  by_cases c5 : t249 = true
  · subst c5
    have H1 : (ploverref05_Search.l0 k l0 l1 a2 ([] : List (S32)) 0) = some (r1, r2) := by rw [if_pos rfl] at H; exact H
    clear H
    have H := H1
    clear H1
    have H' := Aside0.mk H
    clear H
    go_enter Try.func15, Try.ntmps15
    go_wp2_with (first | ((with_reducible refine gate_callee (f := 22) rfl ?_); refine goesL_ (some 13) rfl rfl Try.func22 (by kernel_rfl) rfl #[.slice A1 l1.length c1] rfl (by (try simp only [List.map_toArray, List.map_cons, List.map_nil]); first | done | rfl | (simp only [List.length_drop, List.length_take]; rfl)) ?_; (with_reducible refine (ploverref05_Is.calls k _ _ l1 true _ ?side1 ?side2 A4.out).mono ?_); (case side1 => repeat (first | exact HR1.out | (with_reducible refine Kd.C_alloc ?_ _) | (with_reducible refine Kd.C_drewN ?_ _) | (with_reducible refine Kd.C_drew ?_))); (case side2 => exact HC1.out); rintro e w' ⟨rfl, ⟨nd, rfl⟩⟩; refine ⟨_, rfl, ?_⟩))
    go_loopg [8, 9] k (fun kq v8 v9 w' => ∃ (x8_1 : List (S32)) (x9_1 : Int), v9 = .int .i64 x9_1 ∧ Aside0 (ploverref05_Search.l0 kq l0 l1 a2 x8_1 x9_1 = some (r1, r2)) ∧ Aside0 (kq ≤ k) ∧ Aside0 (Kd.R k32 32 w' w.heap.size (fun _ => True) v8 x8_1) ∧ Aside0 (Below w.heap.size w w'))
    case atStart => exact ⟨(([] : List (S32))), (0), (by first | rfl | (simp; done) | (simp [*]; done)), H', ⟨Nat.le_refl _⟩, ⟨by first | exact Kd.R_nil _ _ _ _ _ | exact Kd.N_nil _ _ _ _ _ | exact Kd.V_nil _ _ _ _ _ | exact Kd.Q_nil _ _ _ _ _ | exact Kd.S_nil _ _ _ _ _⟩, ⟨by repeat (first | (with_reducible first | exact HB.out | apply below_alloc | apply pw_below_drewN | apply below_drew1) | exact HB.out)⟩⟩
    case round =>
      clear H'
      try clear c1
      try clear c2
      try clear p2
      try clear c5
      obtain ⟨x8_1, x9_1, rfl, HA, HK1, HO_8, HB⟩ := hrel
      cases gk with
      | zero => exact absurd HA.out (by simp [ploverref05_Search.l0])
      | succ k1 =>
        have H := HA.out
        clear HA
        simp only [ploverref05_Search.l0] at H
        by_cases c6 : x9_1 < (l0.length : Int)
        · rw [if_pos c6] at H
          have c6b0 : decide (x9_1 < (l0.length : Int)) = true := decide_eq_true c6
          clear c6
          by_cases c7 : 0 ≤ x9_1
          · rw [if_pos c7] at H
            have c7b0 : decide (0 ≤ x9_1) = true := decide_eq_true c7
            clear c7
            replace H := Option.bind_eq_some_iff.mp H
            obtain ⟨⟨t251, t252⟩, A80, H⟩ := H
            replace H : (if t252 = 0 then (if x8_1.length < 8796093022208 then (ploverref05_Search.l0 k1 l0 l1 a2 (x8_1 ++ [(⟨(rd_T46 l0 x9_1).f0, t251⟩ : S32)]) (wrap64 (x9_1 + 1))) else (none)) else (some (([] : List (S32)), t252))) = some (r1, r2) := H
            have A8 := Aside0.mk A80
            clear A80
            by_cases c9 : t252 = 0
            · rw [if_pos c9] at H
              have c9b0 : (t252 == 0) = true := beq_iff_eq.mpr c9
              have c9b1 : (t252 != 0) = false := bne_eq_false_iff_eq.mpr c9
              clear c9
              by_cases c10 : x8_1.length < 8796093022208
              · rw [if_pos c10] at H
                have LMc10 := Aside0.mk c10
                clear c10
                obtain ⟨y254, hy254⟩ : ∃ y_ : List (S32), y_ = (x8_1 ++ [(⟨(rd_T46 l0 x9_1).f0, t251⟩ : S32)]) := ⟨_, rfl⟩
                replace H : (ploverref05_Search.l0 k1 l0 l1 a2 y254 (wrap64 (x9_1 + 1))) = some (r1, r2) := by first | (rw [hy254]; with_reducible exact H) | (have H2_ := (Option.bind_some _ _).symm.trans H; rw [hy254]; with_reducible exact H2_) | (have H2_ := (Option.bind_some _ _).symm.trans H; with_reducible exact H2_) | with_reducible exact H | (rw [hy254]; exact H) | exact H
                have Ny254 := Aside0.mk hy254
                clear hy254
                have H' := Aside0.mk H
                clear H
                have p250 : 0 ≤ (x9_1 : Int) := of_decide_eq_true (by first | (with_reducible assumption) | assumption)
                have q250 : x9_1 < (l0.length : Int) := of_decide_eq_true (by first | (with_reducible assumption) | assumption)
                obtain ⟨ad250, A250_1, c250_1, e250, hx250_0, hx250_1, hl250_1, hi250_1⟩ := at_T46 HR0.out x9_1 p250 q250
                cases e250
                replace hx250_0 := (HB.out.cell (World.block_lt_of_cell? w _ hx250_0)).trans hx250_0
                replace hx250_1 := (HB.out.cell (World.block_lt_of_cell? w _ hx250_1)).trans hx250_1
                have HR250_1 := Aside0.mk hi250_1
                have HC250_1 := Aside0.mk hl250_1
                clear hi250_1 hl250_1
                replace p250 := eq_true p250
                replace q250 := eq_true q250
                go_wp2_with (first | ((with_reducible refine gate_callee (f := 23) rfl ?_); refine goesL_ (some 28) rfl rfl Try.func23 (by kernel_rfl) rfl #[.slice A1 l1.length c1, .slice A250_1 ((rd_T46 l0 x9_1).f1).length c250_1] rfl (by (try simp only [List.map_toArray, List.map_cons, List.map_nil]); first | done | rfl | (simp only [List.length_drop, List.length_take]; rfl)) ?_; (with_reducible refine (ploverref05_Dist.calls k1 _ _ l1 _ _ ((rd_T46 l0 x9_1).f1) t251 t252 _ ?side1 ?side2 ?side3 ?side4 A8.out).mono ?_); (case side1 => repeat (first | exact (Kd.C_below HR1.out HB.out) | (with_reducible refine Kd.C_alloc ?_ _) | (with_reducible refine Kd.C_drewN ?_ _) | (with_reducible refine Kd.C_drew ?_))); (case side2 => exact HC1.out); (case side3 => repeat (first | exact (Kd.C_below HR250_1.out HB.out) | (with_reducible refine Kd.C_alloc ?_ _) | (with_reducible refine Kd.C_drewN ?_ _) | (with_reducible refine Kd.C_drew ?_))); (case side4 => exact HC250_1.out); rintro e w' ⟨rfl, ⟨nd, rfl⟩⟩; refine ⟨_, rfl, ?_⟩; have p253 : 0 ≤ (x9_1 : Int) := of_decide_eq_true (by first | (with_reducible assumption) | assumption); have q253 : x9_1 < (l0.length : Int) := of_decide_eq_true (by first | (with_reducible assumption) | assumption); obtain ⟨ad253, A253_1, c253_1, e253, hx253_0, hx253_1, hl253_1, hi253_1⟩ := at_T46 HR0.out x9_1 p253 q253; obtain rfl : ad250 = ad253 := (by injection e253); replace hx253_0 := (HB.out.cell (World.block_lt_of_cell? w _ hx253_0)).trans hx253_0; replace hx253_1 := (HB.out.cell (World.block_lt_of_cell? w _ hx253_1)).trans hx253_1; have HR253_1 := Aside0.mk hi253_1; have HC253_1 := Aside0.mk hl253_1; clear hi253_1 hl253_1; replace p253 := eq_true p253; replace q253 := eq_true q253; have ea_ := Option.some.inj (hx250_1.symm.trans hx253_1); injection ea_ with ea_ en_ ec_; subst ea_; subst ec_; clear en_) | ((with_reducible refine gate_builtin (b := .append) (xs := #[.tmp 34, .tmp 42]) rfl ?_); at_builtin; refine Kd.R_append k32 (w0 := w) w.heap.size rfl (.tmp 34) (.tmp 42) 22 32 (.agg #[(.int .i64 0), (.int .i64 0)]) 16 rfl Try.underlying22 info32 rfl (by decide) (by omega) u8 x8_1 (⟨(rd_T46 l0 x9_1).f0, t251⟩ : S32) [.int .i64 ((rd_T46 l0 x9_1).f0), .int .i64 t251] (fun _ => True) (fun _ => False) rfl rfl ?aP (fun _ hk => hk.elim) ?aF ?aO ?aB ?aS ?aL ?_; (case aP => exact k32_mkM _ _ _ (⟨(rd_T46 l0 x9_1).f0, t251⟩ : S32)); (case aB => exact (by repeat (first | (with_reducible first | exact HB.out | apply below_alloc | apply pw_below_drewN | apply below_drew1) | exact HB.out))); (case aF => exact (fun _ _ => trivial)); (case aO => exact (by (with_reducible repeat (first | apply Kd.R_alloc | apply Kd.R_drewN | apply Kd.R_drew)); exact HO_8.out)); (case aS => exact (below_size (by repeat (first | (with_reducible first | exact HB.out | apply below_alloc | apply pw_below_drewN | apply below_drew1) | exact HB.out)))); (case aL => have := LMc10.out; omega); intro v255 w11 ho hb hg hat; rw [← Ny254.out] at ho; have n0_ := Aside0.mk (hb); have n1_ := Aside0.mk (ho); clear HB; clear HO_8; have HB := n0_; have HO256 := n1_; clear n0_ n1_; clear ho hb hg hat))
                go_roundg k1
                case measure => have := HK1.out; omega
                case rel => exact ⟨(y254), (wrap64 (x9_1 + 1)), (by first | rfl | (simp; done) | (simp [*]; done)), H', ⟨by have := HK1.out; omega⟩, ⟨by (with_reducible repeat (first | apply Kd.R_alloc | apply Kd.R_drewN | apply Kd.R_drew)); exact HO256.out⟩, ⟨by repeat (first | (with_reducible first | exact HB.out | apply below_alloc | apply pw_below_drewN | apply below_drew1) | exact HB.out)⟩⟩
              · rw [if_neg c10] at H
                exact absurd H (by simp)
            · rw [if_neg c9] at H
              have c9b0 : (t252 == 0) = false := beq_eq_false_iff_ne.mpr c9
              have c9b1 : (t252 != 0) = true := bne_iff_ne.mpr c9
              simp only [Option.some.injEq, Prod.mk.injEq] at H
              obtain ⟨rfl, rfl⟩ := H
              have p250 : 0 ≤ (x9_1 : Int) := of_decide_eq_true (by first | (with_reducible assumption) | assumption)
              have q250 : x9_1 < (l0.length : Int) := of_decide_eq_true (by first | (with_reducible assumption) | assumption)
              obtain ⟨ad250, A250_1, c250_1, e250, hx250_0, hx250_1, hl250_1, hi250_1⟩ := at_T46 HR0.out x9_1 p250 q250
              cases e250
              replace hx250_0 := (HB.out.cell (World.block_lt_of_cell? w _ hx250_0)).trans hx250_0
              replace hx250_1 := (HB.out.cell (World.block_lt_of_cell? w _ hx250_1)).trans hx250_1
              have HR250_1 := Aside0.mk hi250_1
              have HC250_1 := Aside0.mk hl250_1
              clear hi250_1 hl250_1
              replace p250 := eq_true p250
              replace q250 := eq_true q250
              go_wp2_with (first | ((with_reducible refine gate_callee (f := 23) rfl ?_); refine goesL_ (some 28) rfl rfl Try.func23 (by kernel_rfl) rfl #[.slice A1 l1.length c1, .slice A250_1 ((rd_T46 l0 x9_1).f1).length c250_1] rfl (by (try simp only [List.map_toArray, List.map_cons, List.map_nil]); first | done | rfl | (simp only [List.length_drop, List.length_take]; rfl)) ?_; (with_reducible refine (ploverref05_Dist.calls k1 _ _ l1 _ _ ((rd_T46 l0 x9_1).f1) t251 t252 _ ?side1 ?side2 ?side3 ?side4 A8.out).mono ?_); (case side1 => repeat (first | exact (Kd.C_below HR1.out HB.out) | (with_reducible refine Kd.C_alloc ?_ _) | (with_reducible refine Kd.C_drewN ?_ _) | (with_reducible refine Kd.C_drew ?_))); (case side2 => exact HC1.out); (case side3 => repeat (first | exact (Kd.C_below HR250_1.out HB.out) | (with_reducible refine Kd.C_alloc ?_ _) | (with_reducible refine Kd.C_drewN ?_ _) | (with_reducible refine Kd.C_drew ?_))); (case side4 => exact HC250_1.out); rintro e w' ⟨rfl, ⟨nd, rfl⟩⟩; refine ⟨_, rfl, ?_⟩))
              go_ret2
              exact ⟨_, by first | rfl | (simp [errW_none, errW_some] <;> rfl) | (simp [*, errW_none, errW_some] <;> rfl), by first | exact Kd.R_nil _ _ _ _ _ | exact Kd.N_nil _ _ _ _ _ | exact Kd.V_nil _ _ _ _ _ | exact Kd.Q_nil _ _ _ _ _ | exact Kd.S_nil _ _ _ _ _, by repeat (first | (with_reducible first | exact HB.out | apply below_alloc | apply pw_below_drewN | apply below_drew1) | exact HB.out)⟩
          · rw [if_neg c7] at H
            exact absurd H (by simp)
        · rw [if_neg c6] at H
          have c6b0 : decide (x9_1 < (l0.length : Int)) = false := decide_eq_false c6
          clear c6
          by_cases c12 : a2 < 1
          · rw [if_pos c12] at H
            have c12b0 : decide (a2 < 1) = true := decide_eq_true c12
            clear c12
            simp only [Option.some.injEq, Prod.mk.injEq] at H
            obtain ⟨rfl, rfl⟩ := H
            go_wp2
            go_ret2
            exact ⟨_, by first | rfl | (simp [errW_none, errW_some] <;> rfl) | (simp [*, errW_none, errW_some] <;> rfl), by first | exact Kd.R_nil _ _ _ _ _ | exact Kd.N_nil _ _ _ _ _ | exact Kd.V_nil _ _ _ _ _ | exact Kd.Q_nil _ _ _ _ _ | exact Kd.S_nil _ _ _ _ _, by repeat (first | (with_reducible first | exact HB.out | apply below_alloc | apply pw_below_drewN | apply below_drew1) | exact HB.out)⟩
          · rw [if_neg c12] at H
            have c12b0 : decide (a2 < 1) = false := decide_eq_false c12
            clear c12
            by_cases c13 : a2 > 64
            · rw [if_pos c13] at H
              have c13b0 : decide (64 < a2) = true := decide_eq_true c13
              clear c13
              simp only [Option.some.injEq, Prod.mk.injEq] at H
              obtain ⟨rfl, rfl⟩ := H
              go_wp2
              go_ret2
              exact ⟨_, by first | rfl | (simp [errW_none, errW_some] <;> rfl) | (simp [*, errW_none, errW_some] <;> rfl), by first | exact Kd.R_nil _ _ _ _ _ | exact Kd.N_nil _ _ _ _ _ | exact Kd.V_nil _ _ _ _ _ | exact Kd.Q_nil _ _ _ _ _ | exact Kd.S_nil _ _ _ _ _, by repeat (first | (with_reducible first | exact HB.out | apply below_alloc | apply pw_below_drewN | apply below_drew1) | exact HB.out)⟩
            · rw [if_neg c13] at H
              have c13b0 : decide (64 < a2) = false := decide_eq_false c13
              clear c13
              replace H := Option.bind_eq_some_iff.mp H
              obtain ⟨t257, A140, H⟩ := H
              replace H : (some (t257, 0)) = some (r1, r2) := H
              have A14 := Aside0.mk A140
              clear A140
              simp only [Option.some.injEq, Prod.mk.injEq] at H
              obtain ⟨rfl, rfl⟩ := H
              obtain ⟨Ao15, co15, eo15⟩ := Kd.R_slice HO_8.out
              subst eo15
              go_wp2_with (first | ((with_reducible refine gate_callee (f := 19) rfl ?_); refine goesL_ (some 52) rfl rfl Try.func19 (by kernel_rfl) rfl #[.slice Ao15 x8_1.length co15, .int .i64 a2] rfl (by (try simp only [List.map_toArray, List.map_cons, List.map_nil]); first | done | rfl | (simp only [List.length_drop, List.length_take]; rfl)) ?_; (with_reducible refine (ploverref05_top.calls k1 _ _ x8_1 a2 t257 _ ?side1 ?side2 A14.out).mono ?_); (case side1 => repeat (first | exact (Kd.R_reads' HO_8.out).2.2 | (with_reducible refine Kd.C_alloc ?_ _) | (with_reducible refine Kd.C_drewN ?_ _) | (with_reducible refine Kd.C_drew ?_))); (case side2 => exact (Kd.R_reads' HO_8.out).2.1); rintro e w16 ⟨v258, rfl, ho0, hb⟩; refine ⟨_, rfl, ?_⟩; have n0_ := Aside0.mk (Kd.R_elder' (by (with_reducible repeat (first | apply Kd.R_alloc | apply Kd.R_drewN | apply Kd.R_drew)); exact HO_8.out) (Kd.R_base ho0) hb); have n1_ := Aside0.mk (Kd.R_lower (Kd.R_new' ho0 (Kd.R_lt (by (with_reducible repeat (first | apply Kd.R_alloc | apply Kd.R_drewN | apply Kd.R_drew)); exact HO_8.out))) (below_size (by repeat (first | (with_reducible first | exact HB.out | apply below_alloc | apply pw_below_drewN | apply below_drew1) | exact HB.out)))); have n2_ := Aside0.mk (below_step (by repeat (first | (with_reducible first | exact HB.out | apply below_alloc | apply pw_below_drewN | apply below_drew1) | exact HB.out)) hb); clear HO_8; clear HB; have HO_8 := n0_; have HO259 := n1_; have HB := n2_; clear n0_ n1_ n2_; (try clear hb); (try clear hb2); (try clear hk); (try clear hi); (try clear ho0)))
              go_ret2
              exact ⟨_, by first | rfl | (simp [errW_none, errW_some] <;> rfl) | (simp [*, errW_none, errW_some] <;> rfl), by (with_reducible repeat (first | apply Kd.R_alloc | apply Kd.R_drewN | apply Kd.R_drew)); exact Kd.R_mono HO259.out (fun _ hk => trivial), by repeat (first | (with_reducible first | exact HB.out | apply below_alloc | apply pw_below_drewN | apply below_drew1) | exact HB.out)⟩
  · replace c5 := Bool.eq_false_iff.mpr c5
    subst c5
    have H1 : (some (([] : List (S32)), 50)) = some (r1, r2) := by rw [if_neg (show ¬ (false = true) by decide)] at H; exact H
    clear H
    have H := H1
    clear H1
    simp only [Option.some.injEq, Prod.mk.injEq] at H
    obtain ⟨rfl, rfl⟩ := H
    go_enter Try.func15, Try.ntmps15
    go_wp2_with (first | ((with_reducible refine gate_callee (f := 22) rfl ?_); refine goesL_ (some 13) rfl rfl Try.func22 (by kernel_rfl) rfl #[.slice A1 l1.length c1] rfl (by (try simp only [List.map_toArray, List.map_cons, List.map_nil]); first | done | rfl | (simp only [List.length_drop, List.length_take]; rfl)) ?_; (with_reducible refine (ploverref05_Is.calls k _ _ l1 false _ ?side1 ?side2 A4.out).mono ?_); (case side1 => repeat (first | exact HR1.out | (with_reducible refine Kd.C_alloc ?_ _) | (with_reducible refine Kd.C_drewN ?_ _) | (with_reducible refine Kd.C_drew ?_))); (case side2 => exact HC1.out); rintro e w' ⟨rfl, ⟨nd, rfl⟩⟩; refine ⟨_, rfl, ?_⟩))
    go_ret2
    exact ⟨_, by first | rfl | (simp [errW_none, errW_some] <;> rfl) | (simp [*, errW_none, errW_some] <;> rfl), by first | exact Kd.R_nil _ _ _ _ _ | exact Kd.N_nil _ _ _ _ _ | exact Kd.V_nil _ _ _ _ _ | exact Kd.Q_nil _ _ _ _ _ | exact Kd.S_nil _ _ _ _ _, by repeat (first | (with_reducible first | exact HB.out | apply below_alloc | apply pw_below_drewN | apply below_drew1) | exact HB.out)⟩
end Go.Proofs.Ytjcimklmlplagaa.P
namespace Go.Proofs
open Go.Shelf Go.RowKit Go.Lib
def Try.SlLaysF0_n6_ren : Go.Shelf.Ren := ⟨fun | 0 => 0 | 1 => 1 | 2 => 2 | 6 => 17 | 11 => 27 | 14 => 24 | 15 => 25 | 18 => 41 | 20 => 31 | 21 => 32 | 22 => 33 | 23 => 34 | 24 => 35 | 25 => 36 | 26 => 37 | 27 => 38 | 28 => 39 | 29 => 40 | 46 => 43 | 47 => 44 | 48 => 45 | 49 => 46 | 50 => 47 | 57 => 48 | 60 => 49 | 61 => 50 | 62 => 51 | 63 => 52 | 64 => 53 | 65 => 54 | 66 => 55 | 67 => 56 | 68 => 57 | 69 => 58 | 70 => 59 | 71 => 60 | 72 => 61 | 73 => 62 | 74 => 63 | 75 => 64 | n => n, fun | 0 => 0 | 1 => 1 | 2 => 2 | 3 => 3 | 4 => 4 | 5 => 5 | 6 => 6 | 7 => 7 | 8 => 8 | 9 => 9 | 10 => 10 | 11 => 11 | 12 => 12 | 13 => 13 | 14 => 14 | 15 => 15 | 16 => 16 | 17 => 17 | 18 => 18 | 19 => 19 | 20 => 20 | 21 => 21 | 22 => 22 | 23 => 40 | 24 => 32 | 25 => 41 | 27 => 36 | 29 => 53 | 37 => 49 | 38 => 50 | 39 => 51 | 42 => 54 | 44 => 57 | 45 => 58 | 46 => 59 | 47 => 60 | 48 => 61 | 49 => 62 | 50 => 63 | 51 => 64 | 52 => 65 | 53 => 66 | 54 => 67 | 55 => 68 | 66 => 70 | 67 => 71 | 68 => 72 | 69 => 73 | 70 => 74 | 71 => 75 | 76 => 76 | 77 => 77 | 78 => 78 | 81 => 79 | 82 => 80 | 83 => 81 | 84 => 82 | 85 => 83 | 86 => 84 | 87 => 85 | 88 => 86 | 89 => 87 | 90 => 88 | 91 => 89 | 92 => 90 | 93 => 91 | 94 => 92 | 95 => 93 | 96 => 94 | n => n, fun  | n => n⟩
theorem Try.SlLaysF0_n6 : SlLaysF0.n6 Try.prog Try.SlLaysF0_n6_ren := {
  mixed := by kernel_rfl,
  f6 := ⟨"slices.SortFunc[[]plover/api.Hit,plover/api.Hit]", by decide, Try.func17.trans (congrArg some (by kernel_rfl))⟩,
  f14 := ⟨"slices.pdqsortCmpFunc[plover/api.Hit]", by decide, Try.func24.trans (congrArg some (by kernel_rfl))⟩,
  f15 := Try.func25.trans (congrArg some (by kernel_rfl)),
  f20 := ⟨"slices.insertionSortCmpFunc[plover/api.Hit]", by decide, Try.func31.trans (congrArg some (by kernel_rfl))⟩,
  f21 := ⟨"slices.heapSortCmpFunc[plover/api.Hit]", by decide, Try.func32.trans (congrArg some (by kernel_rfl))⟩,
  f22 := ⟨"slices.breakPatternsCmpFunc[plover/api.Hit]", by decide, Try.func33.trans (congrArg some (by kernel_rfl))⟩,
  f23 := ⟨"slices.choosePivotCmpFunc[plover/api.Hit]", by decide, Try.func34.trans (congrArg some (by kernel_rfl))⟩,
  f24 := ⟨"slices.reverseRangeCmpFunc[plover/api.Hit]", by decide, Try.func35.trans (congrArg some (by kernel_rfl))⟩,
  f25 := ⟨"slices.partialInsertionSortCmpFunc[plover/api.Hit]", by decide, Try.func36.trans (congrArg some (by kernel_rfl))⟩,
  f26 := ⟨"slices.partitionEqualCmpFunc[plover/api.Hit]", by decide, Try.func37.trans (congrArg some (by kernel_rfl))⟩,
  f27 := ⟨"slices.partitionCmpFunc[plover/api.Hit]", by decide, Try.func38.trans (congrArg some (by kernel_rfl))⟩,
  f28 := Try.func39.trans (congrArg some (by kernel_rfl)),
  f29 := Try.func40.trans (congrArg some (by kernel_rfl)),
  f46 := ⟨"slices.siftDownCmpFunc[plover/api.Hit]", by decide, Try.func43.trans (congrArg some (by kernel_rfl))⟩,
  f47 := Try.func44.trans (congrArg some (by kernel_rfl)),
  f48 := Try.func45.trans (congrArg some (by kernel_rfl)),
  f49 := ⟨"slices.medianAdjacentCmpFunc[plover/api.Hit]", by decide, Try.func46.trans (congrArg some (by kernel_rfl))⟩,
  f50 := ⟨"slices.medianCmpFunc[plover/api.Hit]", by decide, Try.func47.trans (congrArg some (by kernel_rfl))⟩,
  f57 := ⟨"slices.order2CmpFunc[plover/api.Hit]", by decide, Try.func48.trans (congrArg some (by kernel_rfl))⟩,
  t0 := Try.underlying0,
  a0 := Try.isAgg0,
  z0 := Try.sizeOf0,
  v0 := Try.zeroValue0,
  t3 := Try.underlying3,
  a3 := Try.isAgg3,
  z3 := Try.sizeOf3,
  v3 := Try.zeroValue3,
  t4 := Try.underlying4,
  a4 := Try.isAgg4,
  z4 := Try.sizeOf4,
  v4 := Try.zeroValue4,
  t5 := Try.underlying5,
  a5 := Try.isAgg5,
  z5 := Try.sizeOf5,
  v5 := Try.zeroValue5,
  t9 := Try.underlying9,
  a9 := Try.isAgg9,
  z9 := Try.sizeOf9,
  v9 := Try.zeroValue9,
  t22 := Try.underlying22,
  a22 := Try.isAgg22,
  z22 := Try.sizeOf22,
  v22 := Try.zeroValue22,
  t25 := Try.underlying41,
  a25 := Try.isAgg41,
  z25 := Try.sizeOf41,
  v25 := Try.zeroValue41,
  t39 := Try.underlying51,
  a39 := Try.isAgg51,
  z39 := Try.sizeOf51,
  v39 := Try.zeroValue51,
  t45 := Try.underlying58,
  a45 := Try.isAgg58,
  z45 := Try.sizeOf58,
  v45 := Try.zeroValue58,
  t46 := Try.underlying59,
  a46 := Try.isAgg59,
  z46 := Try.sizeOf59,
  v46 := Try.zeroValue59,
  t50 := Try.underlying63,
  a50 := Try.isAgg63,
  z50 := Try.sizeOf63,
  v50 := Try.zeroValue63,
  t53 := Try.underlying66,
  a53 := Try.isAgg66,
  z53 := Try.sizeOf66,
  v53 := Try.zeroValue66,
  t55 := Try.underlying68,
  a55 := Try.isAgg68,
  z55 := Try.sizeOf68,
  v55 := Try.zeroValue68,
  t66 := Try.underlying70,
  a66 := Try.isAgg70,
  z66 := Try.sizeOf70,
  v66 := Try.zeroValue70,
  t70 := Try.underlying74,
  a70 := Try.isAgg74,
  z70 := Try.sizeOf74,
  v70 := Try.zeroValue74,
  t76 := Try.underlying76,
  a76 := Try.isAgg76,
  z76 := Try.sizeOf76,
  v76 := Try.zeroValue76,
  t77 := Try.underlying77,
  a77 := Try.isAgg77,
  z77 := Try.sizeOf77,
  v77 := Try.zeroValue77 }
def Try.SlLaysE0_n41_ren : Go.Shelf.Ren := ⟨fun | 0 => 0 | 1 => 1 | 2 => 2 | 41 => 16 | 42 => 16 | 64 => 25 | 78 => 39 | 79 => 40 | 89 => 44 | 90 => 45 | 98 => 49 | 99 => 50 | 100 => 51 | 101 => 52 | 102 => 53 | 103 => 54 | 104 => 55 | 105 => 56 | 106 => 57 | 107 => 58 | 108 => 59 | 109 => 60 | 110 => 61 | 111 => 62 | 112 => 63 | 113 => 64 | n => n, fun | 0 => 0 | 1 => 1 | 2 => 2 | 3 => 3 | 4 => 4 | 5 => 5 | 6 => 6 | 7 => 7 | 8 => 8 | 9 => 9 | 10 => 10 | 11 => 11 | 12 => 12 | 13 => 13 | 14 => 14 | 15 => 15 | 16 => 16 | 17 => 17 | 18 => 18 | 19 => 19 | 20 => 20 | 21 => 21 | 22 => 22 | 23 => 32 | 30 => 27 | 36 => 39 | 44 => 63 | 51 => 51 | 52 => 33 | 57 => 50 | 60 => 58 | 61 => 59 | 63 => 30 | 66 => 65 | 67 => 66 | 68 => 67 | 69 => 68 | 75 => 70 | 76 => 71 | 77 => 72 | 79 => 74 | 83 => 76 | 84 => 77 | 87 => 79 | 88 => 80 | 89 => 81 | 90 => 82 | 91 => 83 | 92 => 84 | 93 => 85 | 94 => 86 | 95 => 87 | 96 => 88 | 97 => 89 | 98 => 90 | 99 => 91 | 100 => 92 | 101 => 93 | 102 => 94 | n => n, fun  | n => n⟩
theorem Try.SlLaysE0_n41 : SlLaysE0.n41 Try.prog Try.SlLaysE0_n41_ren := {
  mixed := by kernel_rfl,
  f41 := ⟨"slices.Clone[[]plover/api.Hit,plover/api.Hit]", by decide, Try.func16.trans (congrArg some (by kernel_rfl))⟩,
  t4 := Try.underlying4,
  a4 := Try.isAgg4,
  z4 := Try.sizeOf4,
  v4 := Try.zeroValue4,
  t22 := Try.underlying22,
  a22 := Try.isAgg22,
  z22 := Try.sizeOf22,
  v22 := Try.zeroValue22 }
def Try.lays122_ren : Go.Shelf.Ren := ⟨fun | 0 => 0 | 1 => 1 | 2 => 2 | 122 => 27 | 125 => 25 | 128 => 39 | 129 => 40 | 215 => 41 | 329 => 44 | 330 => 45 | 347 => 49 | 348 => 50 | 349 => 51 | 350 => 52 | 351 => 53 | 352 => 54 | 353 => 55 | 354 => 56 | 355 => 57 | 356 => 58 | 357 => 59 | 358 => 60 | 359 => 61 | 360 => 62 | 361 => 63 | 366 => 64 | n => n, fun | 0 => 0 | 1 => 1 | 2 => 2 | 3 => 3 | 4 => 4 | 5 => 5 | 6 => 6 | 7 => 7 | 8 => 8 | 9 => 9 | 10 => 10 | 11 => 11 | 12 => 12 | 13 => 13 | 14 => 14 | 15 => 15 | 16 => 16 | 17 => 17 | 18 => 18 | 19 => 19 | 20 => 20 | 21 => 21 | 28 => 36 | 43 => 53 | 45 => 44 | 46 => 51 | 47 => 50 | 51 => 66 | 52 => 65 | 53 => 68 | 54 => 67 | 80 => 79 | 81 => 85 | 111 => 54 | 127 => 89 | 131 => 63 | 164 => 94 | 182 => 58 | 183 => 59 | 218 => 70 | 219 => 71 | 220 => 72 | 222 => 74 | 228 => 76 | 229 => 77 | 238 => 80 | 239 => 81 | 240 => 82 | 241 => 83 | 242 => 84 | 243 => 86 | 244 => 87 | 245 => 88 | 246 => 90 | 247 => 91 | 248 => 92 | 249 => 93 | n => n, fun  | n => n⟩
theorem Try.lays122 : Lays.n122 Try.prog Try.lays122_ren := {
  mixed := by kernel_rfl,
  f122 := Try.func27.trans (congrArg some (by kernel_rfl)),
  f215 := Try.func41.trans (congrArg some (by kernel_rfl)),
  t3 := Try.underlying3,
  a3 := Try.isAgg3,
  z3 := Try.sizeOf3,
  v3 := Try.zeroValue3,
  t4 := Try.underlying4,
  a4 := Try.isAgg4,
  z4 := Try.sizeOf4,
  v4 := Try.zeroValue4 }
end Go.Proofs
namespace Go.Proofs.Ytjcimklmlplagaa
open Go.RowKit
def Veil (p : Prop) : Prop := Unit → p
theorem Veil.out {p : Prop} (h : Veil p) : p := h ()
theorem veil {p : Prop} (h : p) : Veil p := fun _ => h
theorem ret_int {k : IntKind} {a b : Int} (h : a = b) : Ending.returned (.int k a) = .returned (.int k b) := by rw [h]
theorem ret_bool {a b : Bool} (h : a = b) : Ending.returned (.bool a) = .returned (.bool b) := by rw [h]
theorem i64_in {n : Int} (h0 : -9223372036854775808 ≤ n) (h1 : n ≤ 9223372036854775807) : IntKind.i64.wrap n = n := by rw [IntKind.wrap_i64]; omega
theorem and_mask_i64 (x : Int) (i : Nat) (hi : i ≤ 62) : bits .and .i64 x ((2 ^ i - 1 : Nat) : Int) = x % ((2 ^ i : Nat) : Int) := by
  have hp : 0 < 2 ^ i := Nat.two_pow_pos i
  have hle : 2 ^ i ≤ 2 ^ 62 := Nat.pow_le_pow_right (by decide) hi
  show IntKind.i64.wrap ((BitVec.ofInt 64 x &&& BitVec.ofInt 64 ((2 ^ i - 1 : Nat) : Int)).toNat : Int) = _
  rw [BitVec.toNat_and, BitVec.ofInt_natCast, BitVec.toNat_ofNat, Nat.mod_eq_of_lt (by omega), BitVec.toNat_ofInt, Nat.and_two_pow_sub_one_eq_mod]
  have hm := Int.emod_nonneg x (show (18446744073709551616 : Int) ≠ 0 by decide)
  have hd : ((2 ^ i : Nat) : Int) ∣ 18446744073709551616 := by
    have : (2 ^ i : Nat) ∣ 2 ^ 64 := Nat.pow_dvd_pow 2 (by omega)
    exact Int.natCast_dvd_natCast.2 this
  have e : (((x % 18446744073709551616).toNat % 2 ^ i : Nat) : Int) = x % ((2 ^ i : Nat) : Int) := by
    rw [Int.natCast_emod, Int.toNat_of_nonneg hm]
    exact Int.emod_emod_of_dvd x hd
  have e' : (((x % ((2 ^ 64 : Nat) : Int)).toNat % 2 ^ i : Nat) : Int) = x % ((2 ^ i : Nat) : Int) := e
  rw [e']
  have h0 := Int.emod_nonneg x (show ((2 ^ i : Nat) : Int) ≠ 0 by omega)
  have h1 := Int.emod_lt_of_pos x (show (0 : Int) < ((2 ^ i : Nat) : Int) by omega)
  exact i64_in (by omega) (by omega)
def Blk (w : World) (b : Nat) (c : Array Value) (t : TypeId) : Prop := w.heap[b]? = some (.cells c t (0, 0))
theorem Blk.lt {w : World} {b : Nat} {c : Array Value} {t : TypeId} (h : Blk w b c t) : b < w.heap.size := (Array.getElem?_eq_some_iff.1 h).1
theorem Blk.cell {w : World} {b : Nat} {c : Array Value} {t : TypeId} (h : Blk w b c t) (i : Nat) : w.cell? ⟨b, i, none⟩ = c[i]? := by
  unfold Blk at h
  simp [World.cell?, h]
theorem Blk.free {w : World} {b : Nat} {c : Array Value} {t : TypeId} (h : Blk w b c t) (i : Nat) : w.frozen? ⟨b, i, none⟩ = false := by
  unfold Blk at h
  simp [World.frozen?, h]
theorem Blk.new (w : World) (c : Array Value) (t : TypeId) : Blk (w.alloc (.cells c t)) w.heap.size c t := by
  show (w.heap.push _)[w.heap.size]? = _
  rw [Array.getElem?_push, if_pos rfl]
theorem Blk.alloc {w : World} {b : Nat} {c : Array Value} {t : TypeId} (h : Blk w b c t) (o : Obj) : Blk (w.alloc o) b c t := by
  have := h.lt
  unfold Blk at *
  rw [Below.heap_alloc _ _ _ this]; exact h
theorem Blk.drew {w : World} {b : Nat} {c : Array Value} {t : TypeId} (h : Blk w b c t) : Blk w.drew b c t := h
theorem Blk.set {w : World} {b : Nat} {c : Array Value} {t : TypeId} (h : Blk w b c t) (i : Nat) (v : Value) : Blk (w.setCell ⟨b, i, none⟩ v) b (c.setIfInBounds i v) t := by
  unfold Blk at *
  simp [World.setCell, Array.getElem?_modify, h]
theorem Blk.below {w w' : World} {B b : Nat} {c : Array Value} {t : TypeId} (h : Blk w b c t) (hb : Below B w w') (hB : b < B) : Blk w' b c t := by
  unfold Blk at *
  rw [hb.block b hB]; exact h
def BlkM (w : World) (b : Nat) (c : Array Value) (t : TypeId) (f : Nat × Nat) : Prop := w.heap[b]? = some (.cells c t f)
theorem BlkM.lt {w : World} {b : Nat} {c : Array Value} {t : TypeId} {f : Nat × Nat} (h : BlkM w b c t f) : b < w.heap.size := (Array.getElem?_eq_some_iff.1 h).1
theorem BlkM.cell {w : World} {b : Nat} {c : Array Value} {t : TypeId} {f : Nat × Nat} (h : BlkM w b c t f) (i : Nat) : w.cell? ⟨b, i, none⟩ = c[i]? := by
  unfold BlkM at h
  simp [World.cell?, h]
theorem BlkM.free {w : World} {b : Nat} {c : Array Value} {t : TypeId} {f : Nat × Nat} (h : BlkM w b c t f) {i : Nat} (hi : i < f.1) : w.frozen? ⟨b, i, none⟩ = false := by
  unfold BlkM at h
  simp [World.frozen?, h]
  omega
theorem BlkM.new (w : World) (c : Array Value) (t : TypeId) (f : Nat × Nat) : BlkM (w.alloc (.cells c t f)) w.heap.size c t f := by
  show (w.heap.push _)[w.heap.size]? = _
  rw [Array.getElem?_push, if_pos rfl]
theorem BlkM.alloc {w : World} {b : Nat} {c : Array Value} {t : TypeId} {f : Nat × Nat} (h : BlkM w b c t f) (o : Obj) : BlkM (w.alloc o) b c t f := by
  have := h.lt
  unfold BlkM at *
  rw [Below.heap_alloc _ _ _ this]; exact h
theorem BlkM.drew {w : World} {b : Nat} {c : Array Value} {t : TypeId} {f : Nat × Nat} (h : BlkM w b c t f) : BlkM w.drew b c t f := h
theorem BlkM.set {w : World} {b : Nat} {c : Array Value} {t : TypeId} {f : Nat × Nat} (h : BlkM w b c t f) (i : Nat) (v : Value) : BlkM (w.setCell ⟨b, i, none⟩ v) b (c.setIfInBounds i v) t f := by
  unfold BlkM at *
  simp [World.setCell, Array.getElem?_modify, h]
theorem BlkM.below {w w' : World} {B b : Nat} {c : Array Value} {t : TypeId} {f : Nat × Nat} (h : BlkM w b c t f) (hb : Below B w w') (hB : b < B) : BlkM w' b c t f := by
  unfold BlkM at *
  rw [hb.block b hB]; exact h
def Later (w : World) : Type := { v : World // Below w.heap.size w v }
instance (w : World) : Nonempty (Later w) := ⟨⟨w, Below.refl _ _⟩⟩
theorem Later.call {P : Program} {f : FuncId} {args : Array Value} {w : World} {v : Value} {x : Later w}
    (h : Calls P f args x.1 fun e w' => e = .returned v ∧ Below x.1.heap.size x.1 w') : Calls P f args x.1 fun e w' => e = .returned v ∧ ∃ y : Later w, w' = y.1 :=
  h.mono fun _ w' ⟨he, hb⟩ => ⟨he, ⟨w', x.2.trans (hb.mono x.2.size)⟩, rfl⟩
theorem Later.cell {w : World} (x : Later w) {p : Addr} (hp : p.block < w.heap.size) : x.1.cell? p = w.cell? p := x.2.cell hp
end Go.Proofs.Ytjcimklmlplagaa
namespace Go.Proofs.Ytjcimklmlplagaa.Giv
open Go.RowKit Go.Lib Go.Sort Go.Proofs.YtjcimklmlplagaaW.PrintWords Go.Proofs.YtjcimklmlplagaaW.PrintLast Go.Proofs.YtjcimklmlplagaaW.PrintMore
set_option linter.unusedVariables false
set_option linter.unusedSimpArgs false
def encH (x : P.S32) : List Value := [.int .i64 x.f0, .int .i64 x.f1]
def cfH (x y : P.S32) : Int := if Lib.compareInt x.f1 y.f1 = 0 then Lib.compareInt x.f0 y.f0 else Lib.compareInt x.f1 y.f1
theorem cell_new2 (W1 : World) (c : Array Value) (t : TypeId) (n : Nat) (hn : W1.heap.size = n) (i : Nat) : (W1.alloc (.cells c t)).cell? ⟨n, i, none⟩ = c[i]? := by
  subst hn
  exact (Blk.new W1 c t).cell i
set_option maxHeartbeats 1000000 in
theorem or_calls (b c : Nat) (x y z : Int) (w : World) (hz : (if x = 0 then y else x) = z) (h0 : w.cell? ⟨b, 0, none⟩ = some (.int .i64 x)) (h1 : w.cell? ⟨b, 1, none⟩ = some (.int .i64 y)) :
    Calls Try.prog 26 #[.slice (some ⟨b, 0, none⟩) 2 c] w fun e w' => e = .returned (.int .i64 z) ∧ w' = w := by
  by_cases hx : x = 0
  · subst hx
    rw [if_pos rfl] at hz
    subst hz
    by_cases hy : y = 0
    · subst hy
      go_enter Try.func26, Try.ntmps26
      go_wp2
      refine wp_loop_rounds 3 ?_
      rw [rounds_succ]
      go_wp2
      rw [rounds_succ]
      go_wp2
      rw [rounds_succ]
      go_wp2
      go_ret
      exact ⟨rfl, rfl⟩
    · have hy' : (y != 0) = true := by simpa using hy
      go_enter Try.func26, Try.ntmps26
      go_wp2
      refine wp_loop_rounds 3 ?_
      rw [rounds_succ]
      go_wp2
      rw [rounds_succ]
      go_wp2
      go_ret
      exact ⟨rfl, rfl⟩
  · have hx' : (x != 0) = true := by simpa using hx
    rw [if_neg hx] at hz
    subst hz
    go_enter Try.func26, Try.ntmps26
    go_wp2
    refine wp_loop_rounds 3 ?_
    rw [rounds_succ]
    go_wp2
    go_ret
    exact ⟨rfl, rfl⟩
theorem compare_calls (x y : Int) (w : World) : Calls Try.prog 27 #[.int .i64 x, .int .i64 y] w fun e w' => e = .returned (.int .i64 (Lib.compareInt x y)) ∧ w' = w :=
  Any.cmp_Compare_int Try.lays122 x y w
set_option maxHeartbeats 1000000 in
theorem order_calls (x y : P.S32) (W : World) : Calls Try.prog 18 #[.agg (encH x).toArray, .agg (encH y).toArray] W fun e w' => e = .returned (.int .i64 (cfH x y)) ∧ ∃ q os', w' = grow (W.drewN q) os' := by
  have H1 := Aside0.mk (fun W' => compare_calls x.f1 y.f1 W')
  have H0 := Aside0.mk (fun W' => compare_calls x.f0 y.f0 W')
  unfold cfH encH
  generalize Lib.compareInt x.f1 y.f1 = p at *
  generalize Lib.compareInt x.f0 y.f0 = q at *
  obtain ⟨z, hz⟩ : ∃ z, (if p = 0 then q else p) = z := ⟨_, rfl⟩
  rw [hz]
  have HZ := Aside0.mk hz
  clear hz
  obtain ⟨x0, x1⟩ := x
  obtain ⟨y0, y1⟩ := y
  go_enter Try.func18, Try.ntmps18
  go_wp2_with fail
  go_region_held3 (fun w' => w'.cell? ⟨W.heap.size, 0, none⟩ = some (.int .i64 x0) ∧ w'.cell? ⟨W.heap.size, 1, none⟩ = some (.int .i64 x1) ∧ w'.cell? ⟨W.heap.size + 1, 0, none⟩ = some (.int .i64 y0) ∧ w'.cell? ⟨W.heap.size + 1, 1, none⟩ = some (.int .i64 y1)) (go_keep) (first | (go_at_call 27; with_reducible refine (H1.out _).mono ?_; rintro e w' ⟨rfl, rfl⟩) | (go_at_call 27; with_reducible refine (H0.out _).mono ?_; rintro e w' ⟨rfl, rfl⟩) | (go_at_call 26; refine (or_calls _ _ p q z _ HZ.out (by simp only [World.cell?_drew]; rw [cell_new2 _ _ _ _ (by simp)]; rfl) (by simp only [World.cell?_drew]; rw [cell_new2 _ _ _ _ (by simp)]; rfl)).mono ?_; rintro e w' ⟨rfl, rfl⟩))
  go_wp2
  go_ret
  exact ⟨rfl, 1, _, by rw [alloc_eq_grow, alloc_eq_grow, alloc_eq_grow, grow_grow, grow_grow]; rfl⟩
end Go.Proofs.Ytjcimklmlplagaa.Giv
namespace Go.Proofs.Ytjcimklmlplagaa.TopT
set_option linter.unusedVariables false
set_option linter.unusedSimpArgs false
variable {α : Type} {key : α → Int} {lt : α → α → Bool}
structure Ord (lt : α → α → Bool) : Prop where
  irr : ∀ x, lt x x = false
  tr : ∀ x y z, lt x y = true → lt y z = true → lt x z = true
  tot : ∀ x y, lt x y = false → lt y x = false → x = y
def firsts (key : α → Int) : List α → List Int → List α
  | [], _ => []
  | x :: t, seen => if key x ∈ seen then firsts key t seen else x :: firsts key t (key x :: seen)
def le (lt : α → α → Bool) (x y : α) : Bool := !lt y x
def F (key : α → Int) (lt : α → α → Bool) (l : List α) (seen : List Int) : List α := firsts key (l.mergeSort (le lt)) seen
theorem Ord.asym (O : Ord lt) {x y : α} (h : lt x y = true) : lt y x = false := by
  cases h2 : lt y x with
  | false => rfl
  | true => have := O.tr x y x h h2; rw [O.irr] at this; cases this
theorem Ord.sorted (O : Ord lt) (l : List α) : (l.mergeSort (le lt)).Pairwise (fun a b => le lt a b = true) := by
  refine List.pairwise_mergeSort ?_ ?_ l
  · intro x y z h1 h2
    unfold le at *
    cases h3 : lt z x with
    | false => rfl
    | true =>
      exfalso
      cases h4 : lt y z with
      | true => rw [O.tr y z x h4 h3] at h1; cases h1
      | false =>
        cases h5 : lt z y with
        | true => rw [h5] at h2; cases h2
        | false => obtain rfl := O.tot y z h4 h5; rw [h3] at h1; cases h1
  · intro x y
    unfold le
    cases h : lt y x with
    | false => rfl
    | true => rw [O.asym h]; rfl
theorem firsts_step (key : α → Int) (s : List α) (seen : List Int) : firsts key s seen = (match s.find? (fun x => decide (key x ∉ seen)) with | none => [] | some h => h :: firsts key s (key h :: seen)) := by
  induction s generalizing seen with
  | nil => rfl
  | cons x t ih =>
    by_cases h : key x ∈ seen
    · rw [firsts, if_pos h, List.find?_cons_of_neg (by simpa using h), ih]
      cases hf : t.find? (fun x => decide (key x ∉ seen)) with
      | none => rfl
      | some y => simp only; rw [firsts, if_pos (List.mem_cons_of_mem _ h)]
    · rw [List.find?_cons_of_pos (by simpa using h)]
      simp only
      rw [firsts, if_neg h, firsts, if_pos (List.mem_cons_self ..)]
theorem firsts_congr (key : α → Int) (s : List α) (a b : List Int) (h : ∀ i, i ∈ a ↔ i ∈ b) : firsts key s a = firsts key s b := by
  induction s generalizing a b with
  | nil => rfl
  | cons x t ih =>
    rw [firsts, firsts]
    by_cases hx : key x ∈ a
    · rw [if_pos hx, if_pos ((h _).1 hx)]; exact ih a b h
    · rw [if_neg hx, if_neg (fun c => hx ((h _).2 c))]
      rw [ih (key x :: a) (key x :: b) (fun i => by simp only [List.mem_cons, h])]
structure Best (key : α → Int) (lt : α → α → Bool) (l : List α) (seen : List Int) (h : α) : Prop where
  mem : h ∈ l
  new : key h ∉ seen
  min : ∀ x ∈ l, key x ∉ seen → lt x h = false
theorem find_best (O : Ord lt) (l : List α) (seen : List Int) : (∃ h, (l.mergeSort (le lt)).find? (fun x => decide (key x ∉ seen)) = some h ∧ Best key lt l seen h) ∨ ((l.mergeSort (le lt)).find? (fun x => decide (key x ∉ seen)) = none ∧ ∀ x ∈ l, key x ∈ seen) := by
  have hp := List.mergeSort_perm l (le lt)
  have hs := O.sorted l
  generalize l.mergeSort (le lt) = s at hp hs
  cases hf : s.find? (fun x => decide (key x ∉ seen)) with
  | none =>
    refine Or.inr ⟨rfl, fun x hx => ?_⟩
    have := List.find?_eq_none.1 hf x (hp.mem_iff.2 hx)
    simpa using this
  | some h =>
    refine Or.inl ⟨h, rfl, hp.mem_iff.1 (List.mem_of_find?_eq_some hf), by simpa using List.find?_some hf, fun x hx hk => ?_⟩
    obtain ⟨_, l1, l2, he, hn⟩ := List.find?_eq_some_iff_append.1 hf
    have hx' : x ∈ s := hp.mem_iff.2 hx
    rw [he] at hx'
    rcases List.mem_append.1 hx' with h1 | h1
    · have := hn x h1; simp [hk] at this
    · rcases List.mem_cons.1 h1 with rfl | h2
      · exact O.irr _
      · rw [he] at hs
        have := (List.pairwise_cons.1 (List.pairwise_append.1 hs).2.1).1 x h2
        unfold le at this
        simpa using this
theorem Best.uniq (O : Ord lt) {l : List α} {seen : List Int} {a b : α} (ha : Best key lt l seen a) (hb : Best key lt l seen b) : a = b := O.tot a b (hb.min a ha.mem ha.new) (ha.min b hb.mem hb.new)
theorem F_cons (O : Ord lt) {l : List α} {seen : List Int} {h : α} (hb : Best key lt l seen h) : F key lt l seen = h :: F key lt l (key h :: seen) := by
  unfold F
  rw [firsts_step]
  rcases find_best (key := key) O l seen with ⟨h', e, hb'⟩ | ⟨_, hn⟩
  · rw [e, hb.uniq O hb']
  · exact absurd (hn h hb.mem) hb.new
theorem F_nil (O : Ord lt) {l : List α} {seen : List Int} (hn : ∀ x ∈ l, key x ∈ seen) : F key lt l seen = [] := by
  unfold F
  rw [firsts_step]
  rcases find_best (key := key) O l seen with ⟨h', _, hb'⟩ | ⟨e, _⟩
  · exact absurd (hn h' hb'.mem) hb'.new
  · rw [e]
theorem best_or (O : Ord lt) (l : List α) (seen : List Int) : (∃ h, Best key lt l seen h) ∨ ∀ x ∈ l, key x ∈ seen := by
  rcases find_best (key := key) O l seen with ⟨h', _, hb'⟩ | ⟨_, hn⟩
  · exact Or.inl ⟨h', hb'⟩
  · exact Or.inr hn
theorem F_congr (l : List α) (a b : List Int) (h : ∀ i, i ∈ a ↔ i ∈ b) : F key lt l a = F key lt l b := firsts_congr key _ a b h
theorem nodup_le {a b : List Int} (hn : a.Nodup) (hs : ∀ x ∈ a, x ∈ b) : a.length ≤ b.length := by
  induction a generalizing b with
  | nil => simp
  | cons x t ih =>
    rw [List.nodup_cons] at hn
    have hx := hs x (List.mem_cons_self ..)
    have := ih (b := b.erase x) hn.2 (fun y hy => by
      have hyx : y ≠ x := fun e => hn.1 (e ▸ hy)
      exact (List.mem_erase_of_ne hyx).2 (hs y (List.mem_cons_of_mem _ hy)))
    rw [List.length_erase_of_mem hx] at this
    have hp : 0 < b.length := List.length_pos_of_mem hx
    simp only [List.length_cons]; omega
theorem in_take (O : Ord lt) {a : List α} {seen : List Int} {h : α} (hb : Best key lt a seen h) (n : Nat) : ∀ s0 : List Int, s0.Nodup → (∀ x ∈ s0, x ∈ seen) → seen.length < s0.length + n → h ∈ (F key lt a s0).take n := by
  induction n with
  | zero => intro s0 hn hs hl; have := nodup_le hn hs; omega
  | succ n ih =>
    intro s0 hn hs hl
    have hk : key h ∉ s0 := fun c => hb.new (hs _ c)
    rcases best_or (key := key) O a s0 with ⟨x, hx⟩ | hx
    · rw [F_cons O hx, List.take_succ_cons]
      by_cases e : x = h
      · rw [e]; exact List.mem_cons_self ..
      · have h1 := hx.min h hb.mem hk
        have h2 : lt x h = true := by
          cases h2 : lt x h with
          | true => rfl
          | false => exact absurd (O.tot x h h2 h1) e
        have hxs : key x ∈ seen := by
          by_cases c : key x ∈ seen
          · exact c
          · have := hb.min x hx.mem c; rw [h2] at this; cases this
        refine List.mem_cons_of_mem _ (ih (key x :: s0) (List.nodup_cons.2 ⟨hx.new, hn⟩) (fun y hy => ?_) (by simp only [List.length_cons]; omega))
        rcases List.mem_cons.1 hy with rfl | hy
        · exact hxs
        · exact hs y hy
    · exact absurd (hx h hb.mem) hk
theorem F_mem (O : Ord lt) (l : List α) (seen : List Int) (x : α) (h : x ∈ F key lt l seen) : x ∈ l := by
  have : ∀ (s : List α) (seen : List Int), x ∈ firsts key s seen → x ∈ s := by
    intro s
    induction s with
    | nil => intro seen h; exact h
    | cons y t ih =>
      intro seen h
      rw [firsts] at h
      split at h
      · exact List.mem_cons_of_mem _ (ih _ h)
      · rcases List.mem_cons.1 h with rfl | h
        · exact List.mem_cons_self ..
        · exact List.mem_cons_of_mem _ (ih _ h)
  exact (List.mergeSort_perm l (le lt)).mem_iff.1 (this _ _ h)
theorem merges (O : Ord lt) (a b : List α) (n : Nat) : ∀ (m : Nat) (seen : List Int), seen.length + m ≤ n → (F key lt ((F key lt a []).take n ++ (F key lt b []).take n) seen).take m = (F key lt (a ++ b) seen).take m := by
  intro m
  induction m with
  | zero => intros; rfl
  | succ m ih =>
    intro seen hl
    have hsub : ∀ x ∈ (F key lt a []).take n ++ (F key lt b []).take n, x ∈ a ++ b := by
      intro x hx
      rcases List.mem_append.1 hx with h | h
      · exact List.mem_append_left _ (F_mem O _ _ _ (List.mem_of_mem_take h))
      · exact List.mem_append_right _ (F_mem O _ _ _ (List.mem_of_mem_take h))
    rcases best_or (key := key) O (a ++ b) seen with ⟨h, hb⟩ | hn
    · have hm : h ∈ (F key lt a []).take n ++ (F key lt b []).take n := by
        rcases List.mem_append.1 hb.mem with hx | hx
        · refine List.mem_append_left _ (in_take O (seen := seen) ⟨hx, hb.new, fun x hx => hb.min x (List.mem_append_left _ hx)⟩ n [] List.nodup_nil (fun x hx => by cases hx) (by simp only [List.length_nil]; omega))
        · refine List.mem_append_right _ (in_take O (seen := seen) ⟨hx, hb.new, fun x hx => hb.min x (List.mem_append_right _ hx)⟩ n [] List.nodup_nil (fun x hx => by cases hx) (by simp only [List.length_nil]; omega))
      have hb' : Best key lt ((F key lt a []).take n ++ (F key lt b []).take n) seen h := ⟨hm, hb.new, fun x hx => hb.min x (hsub x hx)⟩
      rw [F_cons O hb, F_cons O hb', List.take_succ_cons, List.take_succ_cons, ih _ (by simp only [List.length_cons]; omega)]
    · rw [F_nil O hn, F_nil O (fun x hx => hn x (hsub x hx))]
end Go.Proofs.Ytjcimklmlplagaa.TopT
namespace Go.Proofs.Ytjcimklmlplagaa.Giv
open Go.RowKit Go.Lib Go.Sort Go.Proofs.YtjcimklmlplagaaW.PrintWords Go.Proofs.YtjcimklmlplagaaW.PrintLast Go.Proofs.YtjcimklmlplagaaW.PrintMore
set_option linter.unusedVariables false
set_option linter.unusedSimpArgs false
instance : Inhabited P.S32 := ⟨P.z32⟩
theorem encH_len (x : P.S32) : (encH x).length = 2 := rfl
theorem encH_one (x : P.S32) : ∀ v ∈ encH x, v.oneCell' = true := by
  intro v hv
  unfold encH at hv
  simp at hv
  rcases hv with rfl | rfl <;> rfl
def flatH (l : List P.S32) : List Value := l.flatMap encH
theorem flatH_len (l : List P.S32) : (flatH l).length = l.length * 2 := by
  induction l with
  | nil => rfl
  | cons x t ih => unfold flatH at *; rw [List.flatMap_cons, List.length_append, ih, encH_len]; simp; omega
theorem flatH_get (l : List P.S32) (j i : Nat) (hi : i < 2) (p : P.S32) (h : l[j]? = some p) : (flatH l)[j * 2 + i]? = (encH p)[i]? := by
  induction l generalizing j with
  | nil => simp at h
  | cons x t ih =>
    unfold flatH at *
    rw [List.flatMap_cons]
    cases j with
    | zero =>
      obtain rfl : x = p := by simpa using h
      rw [List.getElem?_append_left (by rw [encH_len]; omega)]
      congr 1
      omega
    | succ j =>
      rw [List.getElem?_append_right (by rw [encH_len]; omega), encH_len, show (j + 1) * 2 + i - 2 = j * 2 + i by omega]
      exact ih j (by simpa using h)
theorem flatH_reps {w : World} {base : Nat} {ok : Nat → Prop} (l : List P.S32) : Reps (P.k32.M w base ok) 2 l (flatH l) := by
  refine ⟨flatH_len l, fun j p hp => ?_⟩
  have : ((flatH l).drop (j * 2)).take 2 = encH p := by
    apply List.ext_getElem?
    intro i
    by_cases hi : i < 2
    · rw [List.getElem?_take_of_lt hi, List.getElem?_drop, flatH_get l j i hi p hp]
    · rw [List.getElem?_eq_none (by rw [List.length_take]; omega), List.getElem?_eq_none (by rw [encH_len]; omega)]
  rw [this]
  exact P.k32_mkM w base ok p
theorem flatH_one (l : List P.S32) : ∀ v ∈ flatH l, v.oneCell' = true := by
  intro v hv
  unfold flatH at hv
  rw [List.mem_flatMap] at hv
  obtain ⟨x, _, hx⟩ := hv
  exact encH_one x v hx
theorem flat_cells {w : World} {A : Addr} {n : Nat} {l : List P.S32} (h : Kd.C P.k32 w (some A) n l) (j : Nat) (u : Value) (hu : (flatH l)[j]? = some u) : w.cell? (A.add j) = some u := by
  have hlt : j < l.length * 2 := by rw [← flatH_len]; exact (List.getElem?_eq_some_iff.1 hu).1
  obtain ⟨hn, _, hc⟩ := h
  obtain ⟨ad, e, hc⟩ := hc (by omega)
  obtain rfl := Option.some.inj e
  have hp : l[j / 2]? = some l[j / 2] := List.getElem?_eq_getElem (by omega)
  obtain ⟨c, hcl, hK, hcell⟩ := hc (j / 2) _ hp
  obtain rfl := P.k32_open hK
  have hj : j = j / 2 * 2 + j % 2 := by omega
  have e1 := flatH_get l (j / 2) (j % 2) (by omega) _ hp
  rw [← hj, hu] at e1
  have := hcell (j % 2) u e1.symm
  have hsz : P.k32.sz = 2 := rfl
  rw [hsz, ← hj] at this
  exact this
theorem ownH_of_R {w : World} {base : Nat} {ok : Nat → Prop} {v : Value} {l : List P.S32} (h : Kd.R P.k32 32 w base ok v l) : w.ownsRow base 32 2 v l.length (flatH l) := by
  obtain ⟨_, inner, ho, hr⟩ := h
  have : inner = flatH l := by
    apply List.ext_getElem?
    intro i
    by_cases hi : i < l.length * 2
    · have hp : l[i / 2]? = some l[i / 2] := List.getElem?_eq_getElem (by omega)
      have hm := P.k32_openM (hr.2 _ _ hp)
      have e1 := flatH_get l (i / 2) (i % 2) (by omega) _ hp
      have e2 : ((inner.drop (i / 2 * 2)).take 2)[i % 2]? = inner[i]? := by
        rw [List.getElem?_take_of_lt (by omega), List.getElem?_drop]
        congr 1
        omega
      have hsz : P.k32.sz = 2 := rfl
      rw [hsz] at hm
      rw [← e2, hm]
      rw [show i / 2 * 2 + i % 2 = i by omega] at e1
      exact e1.symm
    · have hl : inner.length = l.length * 2 := hr.1
      rw [List.getElem?_eq_none (by omega), List.getElem?_eq_none (by rw [flatH_len]; omega)]
  rw [this] at ho
  exact ho
theorem R_of_own {w : World} {base : Nat} {ok : Nat → Prop} {v : Value} {l : List P.S32} (h : w.ownsRow base 32 2 v l.length (flatH l)) (hok : ∀ k, v.ownBlock = some k → ok k) : Kd.R P.k32 32 w base ok v l :=
  ⟨hok, flatH l, h, flatH_reps l⟩
theorem info_hit : (Try.prog.info? 32).map (fun i => (i.zero, i.size, i.bytes)) = some (some (.agg #[.int .i64 0, .int .i64 0]), 2, 16) := by kernel_rfl
set_option maxHeartbeats 2000000 in
set_option maxRecDepth 100000 in
theorem clone_calls (A0 : Option Addr) (c0 : Nat) (l : List P.S32) (w : World) (hr : Kd.C P.k32 w A0 l.length l) (hl : l.length ≤ 1000) :
    Calls Try.prog 16 #[.slice A0 l.length c0] w fun e w' => ∃ v, e = .returned v ∧ Kd.R P.k32 32 w' w.heap.size (fun _ => True) v l ∧ Below w.heap.size w w' := by
  cases A0 with
  | none =>
    have h0 : l.length = 0 := by
      rcases Nat.eq_zero_or_pos l.length with h | h
      · exact h
      · obtain ⟨ad, e, _⟩ := hr.2.2 h; cases e
    obtain rfl := List.eq_nil_of_length_eq_zero h0
    have c : Calls Try.prog 16 #[.slice none 0 c0] w _ := AnyE.slices_Clone_nil Try.SlLaysE0_n41 0 c0 w
    refine c.mono ?_
    rintro e w' ⟨rfl, rfl⟩
    exact ⟨_, rfl, Kd.R_nil _ _ _ _ _, Below.refl _ _⟩
  | some ad =>
    have q22 : ∀ (w : World) (a : Option Addr) (n c n' c' : Nat), (binOp .eql 22 (.slice a n c) (.slice none n' c')).run Try.prog w = .ok (.bool a.isNone) w := fun w a n c n' c' => Lib.run_eql_slice_nil w _ _ a n c n' c' Try.underlying22
    have A : Aside (∀ j u, (flatH l)[j]? = some u → w.cell? (ad.add j) = some u) := fun j u h => flat_cells hr j u h
    obtain ⟨i0, hi, hz0, hz1, hz2⟩ := info_parts info_hit
    clear hr
    go_enter Try.func16, Try.ntmps16
    go_wp2_with (at_builtin; refine wpList_append_own _ rfl _ _ 22 rfl w.heap.size 32 i0 (.agg #[.int .i64 0, .int .i64 0]) 2 16 Try.underlying22 hi hz0 hz1 hz2 rfl (by decide) _ _ _ rfl (World.ownsRow_made w #[] 0 (Nat.le_refl _) (Nat.zero_le _) (by simp)) ad l.length c0 (flatH l) rfl ?qc1 ?qc2 ?qc3 ?qc4 ?qc5 ?qc6 ?_)
    case qc1 => exact flatH_len l
    case qc2 =>
      intro j u hj
      exact Lib.cell?_alloc_some _ (A.out j u hj)
    case qc3 => exact flatH_one l
    case qc4 => rw [Nat.zero_add]; unfold maxLen; omega
    case qc5 => rw [Nat.zero_add]; omega
    case qc6 => simp
    intro v' w1 hown hgrow hnil
    go_wp2
    go_ret
    refine ⟨v', rfl, R_of_own (by simpa using hown) (fun _ _ => trivial), ?_⟩
    exact ((Below.refl _ w).alloc (Nat.le_refl _) _).grown hgrow (by simp) (by intro k hk; simp [Value.ownBlock] at hk; omega)
theorem cmpInt_cases (a b : Int) : (a < b ∧ Lib.compareInt a b = -1) ∨ (a = b ∧ Lib.compareInt a b = 0) ∨ (b < a ∧ Lib.compareInt a b = 1) := by
  unfold Lib.compareInt
  by_cases h1 : a < b
  · simp [h1]
  · by_cases h2 : b < a
    · simp [h1, h2]
    · simp [h1, h2]; omega
def ltH (x y : P.S32) : Bool := decide (x.f1 < y.f1 ∨ x.f1 = y.f1 ∧ x.f0 < y.f0)
theorem ltOf_cfH (x y : P.S32) : ltOf cfH x y = ltH x y := by
  unfold ltOf cfH ltH
  rcases cmpInt_cases x.f1 y.f1 with ⟨h, e⟩ | ⟨h, e⟩ | ⟨h, e⟩ <;> rw [e]
  · simp [h]
  · rcases cmpInt_cases x.f0 y.f0 with ⟨h', e'⟩ | ⟨h', e'⟩ | ⟨h', e'⟩ <;> rw [e'] <;> simp [h] <;> omega
  · simp; omega
theorem ordH : TopT.Ord ltH where
  irr x := by unfold ltH; simp
  tr x y z h1 h2 := by unfold ltH at *; simp only [decide_eq_true_eq] at *; omega
  tot x y h1 h2 := by
    unfold ltH at *
    simp only [decide_eq_false_iff_not] at *
    obtain ⟨a, b⟩ := x
    obtain ⟨c, d⟩ := y
    simp only at h1 h2
    obtain rfl : a = c := by omega
    obtain rfl : b = d := by omega
    rfl
theorem swoH : SWO (ltOf cfH) where
  irrefl x := by rw [ltOf_cfH]; exact ordH.irr x
  trans x y z h1 h2 := by rw [ltOf_cfH] at *; exact ordH.tr x y z h1 h2
  ntrans x y z h1 h2 := by rw [ltOf_cfH] at *; unfold ltH at *; simp only [decide_eq_false_iff_not] at *; omega
theorem totH (x y : P.S32) (h1 : ltOf cfH x y = false) (h2 : ltOf cfH y x = false) : x = y := by
  rw [ltOf_cfH] at *; exact ordH.tot x y h1 h2
def sortH (l : List P.S32) : List P.S32 := l.mergeSort (TopT.le ltH)
theorem sortH_len (l : List P.S32) : (sortH l).length = l.length := List.length_mergeSort l
theorem cmpLays (blk off size : Nat) (w : World) : CmpLays Try.prog 18 #[] encH 2 cfH blk off size w :=
  fun _ _ _ _ x y => order_calls x y _
theorem flatK_toList (l : List P.S32) : (flatK encH 2 l.toArray).toList = flatH l := by
  apply List.ext_getElem?
  intro i
  by_cases hi : i < l.length * 2
  · have hp : l[i / 2]? = some l[i / 2] := List.getElem?_eq_getElem (by omega)
    have e1 := flatH_get l (i / 2) (i % 2) (by omega) _ hp
    rw [show i / 2 * 2 + i % 2 = i by omega] at e1
    rw [e1, Array.getElem?_toList]
    have hs : i < (flatK encH 2 l.toArray).size := by rw [size_flatK]; simpa using hi
    have e2 := get_flatK encH 2 l.toArray i (by simpa using hi)
    rw [getElem!_pos _ i hs] at e2
    rw [Array.getElem?_eq_getElem hs, e2]
    have e3 : l.toArray[i / 2]! = l[i / 2] := by rw [getElem!_pos _ _ (by simp; omega)]; simp
    rw [e3]
    have h2 : i % 2 < 2 := Nat.mod_lt _ (by decide)
    rw [getElem!_pos _ _ (by rw [encH_len]; exact h2), List.getElem?_eq_getElem (by rw [encH_len]; exact h2)]
  · rw [List.getElem?_eq_none (by rw [Array.length_toList, size_flatK]; simpa using hi), List.getElem?_eq_none (by rw [flatH_len]; omega)]
theorem holdsH {w : World} {base g cap : Nat} {l : List P.S32} (h : w.ownsRow base 32 2 (.slice (some ⟨g, 0, none⟩) l.length cap) l.length (flatH l)) : HoldsK encH 2 w g 0 l.toArray := by
  intro j hj
  rw [size_flatK] at hj
  have hj' : j < l.length * 2 := by simpa using hj
  obtain ⟨hl, h | ⟨g', cap', cur, e, _, hh, h1, h2, h3, h4⟩⟩ := h
  · exact absurd h.1 (by simp)
  · obtain ⟨⟨rfl⟩, _, rfl⟩ : g = g' ∧ True ∧ cap = cap' := by simpa using e
    have hs : j < (flatK encH 2 l.toArray).size := by rw [size_flatK]; simpa using hj'
    have e2 : (flatK encH 2 l.toArray)[j]! = (flatH l)[j]'(by rw [flatH_len]; exact hj') := by
      rw [getElem!_pos _ j hs, ← Array.getElem_toList]
      simp only [flatK_toList]
    have e3 : cur[j]? = some ((flatH l)[j]'(by rw [flatH_len]; exact hj')) := by
      have : (flatH l)[j]? = some ((flatH l)[j]'(by rw [flatH_len]; exact hj')) := List.getElem?_eq_getElem _
      rw [← this, ← h4, List.getElem?_take_of_lt hj', Array.getElem?_toList]
    constructor
    · rw [e2]; unfold World.cell?; simp only [hh, Nat.zero_add]; simpa using e3
    · unfold World.frozen?; simp only [hh]; simp
theorem sorted_world {w : World} {base g cap n : Nat} {l l' : List P.S32} {os : Array Obj} (h : w.ownsRow base 32 2 (.slice (some ⟨g, 0, none⟩) l.length cap) l.length (flatH l)) (hl : l'.length = l.length) :
    (sortWorldK encH 2 w g 0 n l'.toArray os).ownsRow base 32 2 (.slice (some ⟨g, 0, none⟩) l.length cap) l.length (flatH l') ∧ w.grownBy (sortWorldK encH 2 w g 0 n l'.toArray os) (some g) := by
  obtain ⟨hln, h | ⟨g', cap', cur, e, hg, hh, h1, h2, h3, h4⟩⟩ := h
  · exact absurd h.1 (by simp)
  obtain ⟨⟨rfl⟩, _, rfl⟩ : g = g' ∧ True ∧ cap = cap' := by simpa using e
  have hlt : g < w.heap.size := (Array.getElem?_eq_some_iff.1 hh).1
  have hsz : (putRowK encH 2 (Sort.ahead w n) g 0 l'.toArray).heap.size = w.heap.size := by simp [putRowK, putRow, mapBlock, Sort.ahead]
  have hb : ∀ k, k < w.heap.size → (sortWorldK encH 2 w g 0 n l'.toArray os).heap[k]? = (putRowK encH 2 (Sort.ahead w n) g 0 l'.toArray).heap[k]? := by
    intro k hk
    show ((putRowK encH 2 (Sort.ahead w n) g 0 l'.toArray).heap ++ os)[k]? = _
    rw [Array.getElem?_append_left (by rw [hsz]; exact hk)]
  have hother : ∀ k, k ≠ g → (putRowK encH 2 (Sort.ahead w n) g 0 l'.toArray).heap[k]? = w.heap[k]? := by
    intro k hk
    show ((Sort.ahead w n).heap.modify g _)[k]? = _
    rw [Array.getElem?_modify, if_neg (Ne.symm hk)]
    rfl
  have hrow : (putRowK encH 2 (Sort.ahead w n) g 0 l'.toArray).heap[g]? = some (.cells (putCells id 0 (flatK encH 2 l'.toArray) cur) 32 (0, 0)) := by
    show ((Sort.ahead w n).heap.modify g _)[g]? = _
    rw [Array.getElem?_modify, if_pos rfl]
    show (w.heap[g]?).map _ = _
    rw [hh]
    rfl
  refine ⟨⟨by rw [flatH_len, hl], .inr ⟨g, cap, putCells id 0 (flatK encH 2 l'.toArray) cur, rfl, hg, (hb g hlt).trans hrow, h1, h2, by simp [putCells, h3], ?_⟩⟩, rfl, rfl, rfl, ?_, ?_⟩
  · apply List.ext_getElem?
    intro i
    by_cases hi : i < l.length * 2
    · rw [List.getElem?_take_of_lt hi, Array.getElem?_toList]
      unfold putCells
      have hcs : i < cur.size := by rw [h3]; have := Nat.mul_le_mul_right 2 h1; omega
      rw [Array.getElem?_mapIdx, Array.getElem?_eq_getElem hcs, Option.map_some, if_pos ⟨Nat.zero_le _, by rw [size_flatK]; simp; omega⟩]
      have hs : i - 0 < (flatK encH 2 l'.toArray).size := by rw [size_flatK]; simp; omega
      rw [getElem!_pos (flatK encH 2 l'.toArray) (i - 0) hs, ← Array.getElem_toList]
      simp only [flatK_toList, Nat.sub_zero, id]
      exact (List.getElem?_eq_getElem _).symm
    · rw [List.getElem?_eq_none (by rw [List.length_take]; omega), List.getElem?_eq_none (by rw [flatH_len]; omega)]
  · show w.heap.size ≤ ((putRowK encH 2 (Sort.ahead w n) g 0 l'.toArray).heap ++ os).size
    rw [Array.size_append, hsz]; omega
  · intro k hk hne
    rw [hb k hk, hother k (fun e => hne (by rw [e]))]
theorem enters_order : ∀ args w, (callFunc 18 args).run Try.prog w = .ok (.enter 18 args) w := enters_of Try.func18 (by kernel_rfl) rfl
theorem sort_calls {base : Nat} (v : Value) (l : List P.S32) (w : World) (hR : Kd.R P.k32 32 w base (fun _ => True) v l) (hl : l.length ≤ 1000) :
    Calls Try.prog 17 #[v, .func (.func 18) #[] #[]] w fun e w' => e = .returned (.tuple #[]) ∧ Kd.R P.k32 32 w' base (fun _ => True) v (sortH l) ∧ w.grownBy w' v.ownBlock := by
  by_cases h0 : l = []
  · subst h0
    obtain ⟨A, c, rfl⟩ := Kd.R_slice hR
    have c : Calls Try.prog 17 #[.slice A 0 c, .func (.func 18) #[] #[]] w _ := AnyF.slices_SortFunc_none Try.SlLaysF0_n6 A c _ w
    refine c.mono ?_
    rintro e w' ⟨rfl, rfl⟩
    have e0 : sortH [] = [] := List.mergeSort_nil
    rw [e0]
    exact ⟨rfl, hR, World.grownBy.refl _ _⟩
  · obtain ⟨g, cap, rfl, _, hlt, _⟩ := Kd.R_form hR (List.length_pos_iff.2 h0)
    have ho := ownH_of_R hR
    have hH := holdsH ho
    have c : Calls Try.prog 17 #[.slice (some ⟨g, 0, none⟩) l.toArray.size cap, .func (.func 18) #[] #[]] w _ :=
      AnyQ.slices_SortFunc_total Try.SlLaysF0_n6 2 (fun w => by kernel_rfl) (fun w => by kernel_rfl) encH encH_len encH_one cfH swoH 18 #[] g 0 cap l.toArray w enters_order (cmpLays g 0 _ w) hH hlt (by simp; omega) totH
    refine c.mono ?_
    rintro e w' ⟨rfl, n, os, rfl⟩
    have e1 : (l.toArray.toList.mergeSort fun x y => !(ltOf cfH) y x) = sortH l := by
      unfold sortH TopT.le
      congr 1
      funext x y
      rw [ltOf_cfH]
    rw [e1]
    obtain ⟨h1, h2⟩ := sorted_world (n := n) (os := os) ho (sortH_len l)
    refine ⟨rfl, ?_, h2⟩
    have e2 : (sortH l).length = l.length := sortH_len l
    refine R_of_own (by rw [e2]; exact h1) (fun _ _ => trivial)
end Go.Proofs.Ytjcimklmlplagaa.Giv
namespace Go.Proofs.Ytjcimklmlplagaa.Sn
open Go.RowKit Go.Maps
set_option linter.unusedVariables false
set_option linter.unusedSimpArgs false
theorem law : Keyed Try.prog 3 := int_keyed Try.underlying3
def Seen (w : World) (B n : Nat) (S : List Int) : Prop := ∃ D : DataW Unit, w.ownsMap Try.prog 3 (plainElem Try.prog 4) B n D ∧ IsMap D ∧ ∀ i : Int, D.atKey (.int .i64 i) (.lit (.bool false)) = .lit (.bool (decide (i ∈ S)))
theorem plainElem_bool_inv {v : Value} {z : DataW Unit × List MemPlace} (h : plainElem Try.prog 4 v = some z) : ∃ x, v = .bool x ∧ z = (.lit (.bool x), []) := by
  unfold plainElem at h
  rw [Try.underlying4] at h
  cases v <;> simp_all
theorem zeroB (w : World) : (zeroValue 4).run Try.prog w = .ok (.bool false) w := by kernel_rfl
theorem Seen.made (w : World) : Seen (w.alloc (.map #[] 0)) w.heap.size 0 [] :=
  ⟨_, World.ownsMap_made w Try.prog 3 _, isMap_empty, fun i => by simp [DataW.atKey]⟩
theorem Seen.lt {w : World} {B n : Nat} {S : List Int} (h : Seen w B n S) : B < w.heap.size := by obtain ⟨D, h, _⟩ := h; exact h.lt
theorem Seen.kept {w w' : World} {B n : Nat} {S : List Int} {row : Option Nat} (h : Seen w B n S) (hg : w.grownBy w' row) (hne : some B ≠ row) : Seen w' B n S := by
  obtain ⟨D, h, h2⟩ := h
  exact ⟨D, h.kept hg hne, h2⟩
theorem Seen.alloc {w : World} {B n : Nat} {S : List Int} (h : Seen w B n S) (o : Obj) : Seen (w.alloc o) B n S := h.kept (World.grownBy_alloc w o none) (by simp)
theorem Seen.look {w : World} {B n : Nat} {S : List Int} (h : Seen w B n S) (i : Int) (hi : -9223372036854775808 ≤ i ∧ i ≤ 9223372036854775807) : (Instr.lookup 42 (.map (some B)) (.int .i64 i) false).run Try.prog w = .ok (.bool (decide (i ∈ S))) w := by
  obtain ⟨D, h, hm, hat⟩ := h
  obtain ⟨v, ps, hrun, hv⟩ := h.lookup law Try.underlying42 (zeroB w) (plainElem_bool Try.underlying4 false) (keyOf_int_mk Try.underlying3 (WalkArith.wf_i64 hi))
  obtain ⟨x, rfl, hx⟩ := plainElem_bool_inv hv
  rw [hat i] at hx
  simp only [Prod.mk.injEq, DataW.lit.injEq, Lit.bool.injEq] at hx
  rw [hrun, hx.1]
theorem Seen.put {w : World} {B n : Nat} {S : List Int} (h : Seen w B n S) (hn : n < maxLen) (i : Int) (hi : -9223372036854775808 ≤ i ∧ i ≤ 9223372036854775807) : ∃ w', (Instr.mapUpdate 42 (.map (some B)) (.int .i64 i) (.bool true)).run Try.prog w = .ok () w' ∧ Seen w' B (n + 1) (i :: S) ∧ w.grownBy w' (some B) := by
  obtain ⟨D, h, hm, hat⟩ := h
  have hk := keyOf_int_mk Try.underlying3 (WalkArith.wf_i64 hi)
  obtain ⟨w', hrun, hown, hg⟩ := h.update law Try.underlying42 hn hk (plainElem_bool Try.underlying4 true)
  refine ⟨w', hrun, ⟨_, hown, hm.put _ _, fun j => ?_⟩, hg⟩
  by_cases e : j = i
  · subst e
    rw [atKey_put_same hm (by simp [WideAt.IsKeyLit])]
    simp
  · rw [atKey_put_other (by simpa using e), hat j]
    simp [e]
section
variable {ops : Array Oper} {rest : List Oper} {o : Oper} {a : Act} {Q : Exit → Act → World → Prop}
theorem wpList_look {w : World} (hg : o.guard = none) (m x : Operand) (hop : o.op = Op.lookup 42 m x false) (B n : Nat) (S : List Int) (hm : a.eval m = .map (some B)) (h : Seen w B n S) (i : Int) (hx : a.eval x = .int .i64 i)
    (hi : -9223372036854775808 ≤ i ∧ i ≤ 9223372036854775807) (b : Bool) (hb : decide (i ∈ S) = b) (hK : wpList Try.prog ops Q rest (a.put o.dst (.bool b)) w) : wpList Try.prog ops Q (o :: rest) a w := by
  refine wpList_plain hg fun K' hK' => ?_
  have hrun := h.look i hi
  rw [hb] at hrun
  unfold Oper.wp
  simp [execOp, hop, hm, hx, hrun, Result.andThen]
  exact hK' _ _ hK
theorem wpList_put {w : World} (hg : o.guard = none) (m x v : Operand) (hop : o.op = Op.mapUpdate 42 m x v) (B n : Nat) (S : List Int) (hm : a.eval m = .map (some B)) (h : Seen w B n S) (hn : n < maxLen) (i : Int) (hx : a.eval x = .int .i64 i) (hv : a.eval v = .bool true)
    (hi : -9223372036854775808 ≤ i ∧ i ≤ 9223372036854775807) (hK : ∀ w', Seen w' B (n + 1) (i :: S) → w.grownBy w' (some B) → wpList Try.prog ops Q rest (a.put o.dst undef) w') : wpList Try.prog ops Q (o :: rest) a w := by
  refine wpList_plain hg fun K' hK' => ?_
  obtain ⟨w', hrun, h1, h2⟩ := h.put hn i hi
  unfold Oper.wp
  simp [execOp, hop, hm, hx, hv, hrun, Result.andThen]
  exact hK' _ _ (hK w' h1 h2)
end
theorem Seen.below {w w' : World} {B n : Nat} {S : List Int} (h : Seen w B n S) (hb : Below w.heap.size w w') : Seen w' B n S := by
  have hlt := h.lt
  exact h.kept (row := none) ⟨hb.os, hb.tape, hb.output, hb.size, fun k hk _ => hb.block k hk⟩ (by simp)
theorem Seen.mono {w : World} {B n n' : Nat} {S : List Int} (h : Seen w B n S) (hn : n ≤ n') : Seen w B n' S := by
  obtain ⟨D, h, h2⟩ := h
  exact ⟨D, h.mono hn, h2⟩
end Go.Proofs.Ytjcimklmlplagaa.Sn
namespace Go.Proofs.Ytjcimklmlplagaa.Giv
open Go.RowKit Go.Lib Go.Sort Go.Proofs.YtjcimklmlplagaaW.PrintWords Go.Proofs.YtjcimklmlplagaaW.PrintLast Go.Proofs.YtjcimklmlplagaaW.PrintMore
set_option linter.unusedVariables false
set_option linter.unusedSimpArgs false
def okH (x : P.S32) : Bool := decide (-9223372036854775808 ≤ x.f0 ∧ x.f0 ≤ 9223372036854775807)
def vec_Top.f (l : List P.S32) (k : Int) : Option (List P.S32 × Int) :=
  if k < 0 ∨ 64 < k then some ([], 51) else if l.length ≤ 1000 ∧ l.all okH = true then some ((TopT.F P.S32.f0 ltH l []).take k.toNat, 0) else none
def TopAt (l : List P.S32) (K j : Nat) (out : List P.S32) (S : List Int) : Prop :=
  out ++ (TopT.firsts P.S32.f0 ((sortH l).drop j) S).take (K - out.length) = (TopT.F P.S32.f0 ltH l []).take K ∧ out.length ≤ K
theorem TopAt.start (l : List P.S32) (K : Nat) : TopAt l K 0 [] [] := ⟨by simp [TopT.F, sortH], Nat.zero_le _⟩
theorem TopAt.full {l : List P.S32} {K j : Nat} {out : List P.S32} {S : List Int} (h : TopAt l K j out S) (hk : out.length = K) : out = (TopT.F P.S32.f0 ltH l []).take K := by
  rw [← h.1, hk, Nat.sub_self, List.take_zero, List.append_nil]
theorem TopAt.done {l : List P.S32} {K j : Nat} {out : List P.S32} {S : List Int} (h : TopAt l K j out S) (hj : (sortH l).length ≤ j) : out = (TopT.F P.S32.f0 ltH l []).take K := by
  rw [← h.1, List.drop_of_length_le hj]; simp [TopT.firsts]
theorem TopAt.pass {l : List P.S32} {K j : Nat} {out : List P.S32} {S : List Int} (h : TopAt l K j out S) (hj : j < (sortH l).length) (hs : ((sortH l)[j]).f0 ∈ S) : TopAt l K (j + 1) out S := by
  refine ⟨?_, h.2⟩
  rw [← h.1, List.drop_eq_getElem_cons hj, TopT.firsts, if_pos hs]
theorem TopAt.take {l : List P.S32} {K j : Nat} {out : List P.S32} {S : List Int} (h : TopAt l K j out S) (hj : j < (sortH l).length) (hs : ¬ ((sortH l)[j]).f0 ∈ S) (hk : out.length ≠ K) : TopAt l K (j + 1) (out ++ [(sortH l)[j]]) (((sortH l)[j]).f0 :: S) := by
  have hlt : out.length < K := by have := h.2; omega
  refine ⟨?_, by rw [List.length_append, List.length_singleton]; omega⟩
  rw [← h.1, List.drop_eq_getElem_cons hj, TopT.firsts, if_neg hs, List.length_append, List.length_singleton, show K - out.length = (K - (out.length + 1)) + 1 by omega, List.take_succ_cons, List.append_assoc]
  rfl
theorem mem_sortH {l : List P.S32} (h : l.all okH = true) (j : Nat) (hj : j < (sortH l).length) : -9223372036854775808 ≤ ((sortH l)[j]).f0 ∧ ((sortH l)[j]).f0 ≤ 9223372036854775807 := by
  have hm : (sortH l)[j] ∈ l := (List.mergeSort_perm l (TopT.le ltH)).mem_iff.1 (List.getElem_mem hj)
  have := List.all_eq_true.1 h _ hm
  unfold okH at this
  simpa using this
abbrev boxed (w : World) (x0 x1 : Int) : World := w.alloc (.cells #[.int .i64 x0, .int .i64 x1] 32)
theorem boxed_blk (w : World) (x0 x1 : Int) : (boxed w x0 x1).heap[w.heap.size]? = some (.cells #[.int .i64 x0, .int .i64 x1] 32 (0, 0)) := (MapKept.heap_alloc w _).1
theorem boxed_below (w : World) (x0 x1 : Int) : Below w.heap.size w (boxed w x0 x1) := (Below.refl _ _).alloc (Nat.le_refl _) _
theorem boxed_put {w w5 : World} {x0 x1 : Int} {B : Nat} (hg : (boxed w x0 x1).grownBy w5 (some B)) (hB : B < w.heap.size) : w.grownBy w5 (some B) ∧ w5.heap[w.heap.size]? = some (.cells #[.int .i64 x0, .int .i64 x1] 32 (0, 0)) ∧ w.heap.size < w5.heap.size := by
  have hb := boxed_below w x0 x1
  have hk := boxed_blk w x0 x1
  have hlt : w.heap.size < (boxed w x0 x1).heap.size := (Array.getElem?_eq_some_iff.1 hk).1
  refine ⟨⟨hg.os.trans hb.os, hg.tape.trans hb.tape, hg.output.trans hb.output, Nat.le_trans hb.size hg.size, fun k hk' hne => ?_⟩, ?_, Nat.lt_of_lt_of_le hlt hg.size⟩
  · rw [hg.block k (by omega) hne, hb.block k hk']
  · rw [hg.block _ hlt (fun e => by have := Option.some.inj e; omega)]; exact hk
set_option maxRecDepth 100000 in
set_option maxHeartbeats 4000000 in
theorem vec_Top.calls (A0 : Option Addr) (c0 : Nat) (l0 : List (P.S32)) (a1 : Int) (r1 : List (P.S32)) (r2 : Int) (w : World) (hr0 : Kd.C P.k32 w A0 l0.length l0) (hc0 : l0.length ≤ c0) (h : vec_Top.f l0 a1 = some (r1, r2)) :
    Calls Try.prog 9 #[.slice A0 l0.length c0, .int .i64 a1] w fun e w' => ∃ v0_ : Value, e = .returned (.tuple #[v0_, .int .i64 r2]) ∧ Kd.R P.k32 32 w' w.heap.size (fun _ => True) v0_ r1 ∧ Below w.heap.size w w' := by
  unfold vec_Top.f at h
  by_cases hk0 : a1 < 0
  · rw [if_pos (.inl hk0)] at h
    obtain ⟨rfl, rfl⟩ : [] = r1 ∧ 51 = r2 := by simpa using h
    clear h hr0
    go_enter Try.func9, Try.ntmps9
    go_wp2
    go_ret2
    exact ⟨_, rfl, Kd.R_nil _ _ _ _ _, Below.refl _ _⟩
  · by_cases hk1 : 64 < a1
    · rw [if_pos (.inr hk1)] at h
      obtain ⟨rfl, rfl⟩ : [] = r1 ∧ 51 = r2 := by simpa using h
      clear h hr0
      go_enter Try.func9, Try.ntmps9
      go_wp2
      go_ret2
      exact ⟨_, rfl, Kd.R_nil _ _ _ _ _, Below.refl _ _⟩
    · rw [if_neg (by omega)] at h
      by_cases hl : l0.length ≤ 1000 ∧ l0.all okH = true
      · rw [if_pos hl] at h
        obtain ⟨hl1, hl2⟩ := hl
        obtain ⟨K, rfl⟩ : ∃ K : Nat, a1 = K := ⟨a1.toNat, by omega⟩
        obtain ⟨hres, rfl⟩ : (TopT.F P.S32.f0 ltH l0 []).take K = r1 ∧ 0 = r2 := by simpa using h
        have HRes := Aside0.mk hres
        have HOk := Aside0.mk hl2
        have HC := Aside0.mk (fun W h => clone_calls A0 c0 l0 W h hl1)
        have HR := Aside0.mk hr0
        clear h hres hl2 hr0
        have hmm := @run_makeMap Try.prog
        go_enter Try.func9, Try.ntmps9
        go_wp2_with fail
        refine (HC.out _ HR.out).mono ?_
        rintro e w1 ⟨v1, rfl, hR1, hb1⟩
        have HS := Aside0.mk (sort_calls v1 l0 w1 hR1 hl1)
        have HB1 := Aside0.mk hb1
        have HR1 := Aside0.mk hR1
        clear hR1 hb1
        go_wp2_with fail
        refine HS.out.mono ?_
        rintro e w2 ⟨rfl, hR2, hg2⟩
        have hb2 : Below w.heap.size w w2 := HB1.out.grown hg2 HB1.out.size (fun k hk => Kd.R_base HR1.out k hk)
        have hsz2 := hb2.size
        have HB2 := Aside0.mk (hb2.alloc hsz2 (.map #[] 0))
        have hlen2 := sortH_len l0
        obtain ⟨A2, c2, hv⟩ := Kd.R_slice hR2
        rw [hlen2] at hv
        subst hv
        have HR2 := Aside0.mk (Kd.R_mono (ok' := fun k => k < w2.heap.size) (Kd.R_bound (Kd.R_alloc hR2 (.map #[] 0))) (fun k hk => by
          obtain ⟨_, _, h3, q, _, cells, hc⟩ := hk
          rcases Nat.lt_or_ge k w2.heap.size with h4 | h4
          · exact h4
          · exfalso
            have : k = w2.heap.size := by simp at h3; omega
            subst this
            rw [(MapKept.heap_alloc w2 _).1] at hc
            cases hc))
        have HSeen := Aside0.mk (Sn.Seen.made w2)
        clear HC HR HS HB1 HR1 hR2 hg2 hb2
        go_wp2_with fail
        go_loopw [8, 24] (fun v8 i wr => ∃ (j : Nat) (out : List P.S32) (S : List Int), i = .int .i64 j ∧ j ≤ l0.length ∧ out.length ≤ j ∧ Aside0 (Sn.Seen wr w2.heap.size j S) ∧ Aside0 (Kd.R P.k32 32 wr w.heap.size (fun k => k < w2.heap.size) (.slice A2 l0.length c2) (sortH l0)) ∧ Aside0 (Kd.R P.k32 32 wr w.heap.size (fun k => w2.heap.size < k) v8 out) ∧ Aside0 (Below w.heap.size w wr) ∧ Aside0 (TopAt l0 K j out S)) (fun _ i _ => l0.length - (intOf i).toNat)
        case atStart => exact ⟨0, [], [], rfl, by omega, by simp, HSeen, HR2, ⟨Kd.R_nil _ _ _ _ _⟩, HB2, ⟨TopAt.start l0 K⟩⟩
        case round =>
          obtain ⟨j, out, S, rfl, hj, hoj, HSn, HRs, HRo, HB, HT⟩ := hrel
          obtain ⟨Ao, co, rfl⟩ := Kd.R_slice HRo.out
          by_cases hlt : j < l0.length
          · have hjs : j < (sortH l0).length := by rw [hlen2]; exact hlt
            obtain ⟨A3, c3, e3, _, hC⟩ := Kd.R_reads HRs.out
            rw [hlen2] at e3
            cases e3
            have hC2 : Kd.C P.k32 wr A2 (sortH l0).length (sortH l0) := hC
            obtain ⟨ad, rfl, u0, u1⟩ := P.at_T32 hC2 (j : Int) (by omega) (by omega)
            have ex : P.rd_T32 (sortH l0) (j : Int) = (sortH l0)[j] := by unfold P.rd_T32; simp [hjs]
            rw [ex] at u0 u1
            rw [Int.toNat_natCast] at u0 u1
            have hmem := mem_sortH HOk.out j hjs
            have HTp := Aside0.mk (fun h => HT.out.pass hjs h)
            have HTt := Aside0.mk (fun h h' => HT.out.take hjs h h')
            generalize (sortH l0)[j] = x at *
            clear ex hC hC2
            obtain ⟨x0, x1⟩ := x
            simp only at u0 u1 hmem HTp HTt
            have hBlt := HSn.out.lt
            by_cases hfull : out.length = K
            · have hk2 : ((out.length : Int) == (K : Int)) = true := by rw [beq_iff_eq]; omega
              have HE := Aside0.mk ((HT.out.full hfull).trans HRes.out)
              clear HT HSn HRs HTp HTt hfull
              go_wp2
              go_ret2
              refine ⟨_, rfl, ?_, HB.out.trans ((boxed_below wr x0 x1).mono HB.out.size)⟩
              rw [← HE.out]
              exact Kd.R_mono (Kd.R_below HRo.out (boxed_below wr x0 x1)) (fun _ _ => trivial)
            · have hk2 : ((out.length : Int) == (K : Int)) = false := by rw [beq_eq_false_iff_ne]; omega
              have HF := Aside0.mk hfull
              clear hfull
              by_cases hs : x0 ∈ S
              · have HTn := Aside0.mk (HTp.out hs)
                have HsS := Aside0.mk hs
                clear hs HTp HTt
                go_wp2_with (at_lookup; refine Sn.wpList_look rfl (.tmp 32) (.tmp 34) rfl w2.heap.size j S rfl ?sS x0 rfl hmem true (by simpa using HsS.out) ?_; (case sS => exact HSn.out.below (boxed_below wr x0 x1)))
                go_roundw
                case rel => exact ⟨j + 1, out, S, by go_num, by omega, by omega, ⟨(HSn.out.below (boxed_below wr x0 x1)).mono (by omega)⟩, ⟨Kd.R_below HRs.out (boxed_below wr x0 x1)⟩, ⟨Kd.R_below HRo.out (boxed_below wr x0 x1)⟩, ⟨HB.out.trans ((boxed_below wr x0 x1).mono HB.out.size)⟩, HTn⟩
                case measure => simp [intOf]; omega
              · have HTn := Aside0.mk (HTt.out hs HF.out)
                have HsS := Aside0.mk hs
                clear hs HTp HTt
                go_wp2_with (first | (at_lookup; refine Sn.wpList_look rfl (.tmp 32) (.tmp 34) rfl w2.heap.size j S rfl ?sS x0 rfl hmem false (by simpa using HsS.out) ?_; (case sS => exact HSn.out.below (boxed_below wr x0 x1))) | (at_mapUpdate; refine Sn.wpList_put rfl (.tmp 37) (.tmp 39) (.const (.bool true)) rfl w2.heap.size j S rfl ?sS (by unfold maxLen; omega) x0 rfl rfl hmem ?_; (case sS => exact HSn.out.below (boxed_below wr x0 x1)); intro w5 hS5 hg5; obtain ⟨hg6, hbk6, hlt6⟩ := boxed_put hg5 hBlt; have HS5 := Aside0.mk hS5; have HR5 := Aside0.mk (Kd.R_grown HRs.out hg6 (fun k hk e => by have := Option.some.inj e; omega)); have HO5 := Aside0.mk (Kd.R_grown HRo.out hg6 (fun k hk e => by have := Option.some.inj e; omega)); have HB5 := Aside0.mk (HB.out.grown hg6 HB.out.size (fun k hk => by cases hk; omega)); have c50 := blk_cell hbk6 0; have c51 := blk_cell hbk6 1; have hsz5 := HB5.out.size; clear hS5 hg5 hg6 hbk6) | (at_builtin; refine Kd.R_append P.k32 (w0 := w) w.heap.size rfl (.tmp 40) (.tmp 42) 22 32 (.agg #[.int .i64 0, .int .i64 0]) 16 rfl Try.underlying22 info_hit rfl (by decide) (by omega) (.slice Ao out.length co) out (⟨x0, x1⟩ : P.S32) [.int .i64 x0, .int .i64 x1] (fun k => w2.heap.size < k) (fun _ => False) rfl rfl ?aP (fun _ hk => hk.elim) ?aF ?aO ?aB ?aS ?aL ?_; (case aP => exact P.k32_mkM _ _ _ _); (case aF => exact (fun k hk => by omega)); (case aO => exact HO5.out); (case aB => exact HB5.out); (case aS => exact hsz5); (case aL => omega); intro v9 w9 ho hb hg hat; have HO9 := Aside0.mk ho; have HB9 := Aside0.mk hb; have HG9 := Aside0.mk hg; clear ho hb hg hat))
                go_roundw
                case rel => exact ⟨j + 1, _, x0 :: S, by go_num, by omega, by rw [List.length_append, List.length_singleton]; omega, ⟨HS5.out.kept HG9.out (fun e => by have := HO5.out.1 _ e.symm; omega)⟩, ⟨Kd.R_grown HR5.out HG9.out (fun k hk e => by have := HO5.out.1 k e.symm; omega)⟩, HO9, HB9, HTn⟩
                case measure => simp [intOf]; omega
          · obtain rfl : j = l0.length := by omega
            have HE := Aside0.mk ((HT.out.done (by rw [hlen2]; omega)).trans HRes.out)
            clear HT HSn HRs
            go_wp2
            go_ret2
            refine ⟨_, rfl, ?_, HB.out⟩
            rw [← HE.out]
            exact Kd.R_mono HRo.out (fun _ _ => trivial)
      · rw [if_neg hl] at h
        cases h
end Go.Proofs.Ytjcimklmlplagaa.Giv
namespace Go.Proofs.Ytjcimklmlplagaa.Giv
open Go.RowKit Go.Proofs.YtjcimklmlplagaaW.PrintWords Go.Proofs.YtjcimklmlplagaaW.PrintLast Go.Proofs.YtjcimklmlplagaaW.PrintMore
set_option linter.unusedVariables false
set_option linter.unusedSimpArgs false
def oddN (x : Int) : Bool := decide (x < -2147483648) || decide (2147483647 < x)
def oddAt : List Int → Int
  | [] => -1
  | x :: l => if oddN x then 0 else if oddAt l < 0 then -1 else oddAt l + 1
theorem oddAt_hit : ∀ (xs : List Int) (k : Nat), (∀ i, i < k → oddN (xs.getD i 0) = false) → k < xs.length → oddN (xs.getD k 0) = true → oddAt xs = k
  | x :: l, 0, _, _, h => by simp [oddAt] at h ⊢; simp [h]
  | x :: l, k + 1, h0, h1, h => by
    have hx : oddN x = false := h0 0 (by omega)
    have ih := oddAt_hit l k (fun i hi => h0 (i + 1) (by omega)) (by simpa using h1) h
    simp [oddAt, hx, ih]
    omega
  | [], _, _, h, _ => by simp at h
theorem oddAt_none : ∀ (xs : List Int), (∀ i, i < xs.length → oddN (xs.getD i 0) = false) → oddAt xs = -1
  | [], _ => rfl
  | x :: l, h => by
    have hx : oddN x = false := h 0 (by simp)
    have ih := oddAt_none l (fun i hi => h (i + 1) (by simpa using hi))
    simp [oddAt, hx, ih]
theorem oddAt_any (xs : List Int) : decide (0 ≤ oddAt xs) = xs.any oddN := by
  induction xs with
  | nil => rfl
  | cons x l ih =>
    rw [List.any_cons, ← ih]
    by_cases h : oddN x = true
    · simp [oddAt, h]
    · by_cases h2 : oddAt l < 0
      · simp [oddAt, h, h2]
      · simp [oddAt, h, h2]; omega
def isV (xs : List Int) : Bool := decide (0 < xs.length) && (decide (xs.length ≤ 16) && !xs.any oddN)
theorem isV_spec {xs : List Int} (h : isV xs = true) : 0 < xs.length ∧ xs.length ≤ 16 ∧ ∀ x ∈ xs, -2147483648 ≤ x ∧ x ≤ 2147483647 := by
  simp [isV, oddN] at h
  obtain ⟨h1, h2, h3⟩ := h
  refine ⟨h1, h2, fun x hx => ?_⟩
  have := h3 x hx
  omega
set_option maxHeartbeats 400000 in
theorem odd_any (x : Int) (w : World) (b : Bool) (hb : oddN x = b) :
    Calls Try.prog 28 #[.int .i64 x] w fun e w' => e = .returned (.bool b) ∧ w = w' := by
  unfold oddN at hb
  by_cases h1 : x < -2147483648
  · obtain rfl : b = true := by rw [← hb]; simp [h1]
    clear hb
    go_enter Try.func28, Try.ntmps28
    go_wp2
    go_ret
    exact ⟨rfl, rfl⟩
  · by_cases h2 : 2147483647 < x
    · obtain rfl : b = true := by rw [← hb]; simp [h2]
      clear hb
      go_enter Try.func28, Try.ntmps28
      go_wp2
      go_ret
      exact ⟨rfl, rfl⟩
    · obtain rfl : b = false := by rw [← hb]; simp [h1, h2]
      clear hb
      go_enter Try.func28, Try.ntmps28
      go_wp2
      go_ret
      exact ⟨rfl, rfl⟩
set_option maxHeartbeats 400000 in
theorem indexFunc_any (ao : Option Addr) (xs : List Int) (cap : Nat) (w : World) (hx : (Kd.int .i64).C w ao xs.length xs) :
    Calls Try.prog 42 #[.slice ao xs.length cap, .func (.func 28) #[] #[]] w fun e w' => e = .returned (.int .i64 (oddAt xs)) ∧ w = w' := by
  have h8 : xs.length ≤ 9223372036854775807 := Kd.C_max hx
  go_enter Try.func42, Try.ntmps42
  go_wp2
  go_loop [5, 8] (fun _ i => ∃ k : Nat, k ≤ xs.length ∧ i = .int .i64 k ∧ Veil (∀ i, i < k → oddN (xs.getD i 0) = false)) (fun _ i => xs.length - (intOf i).toNat)
  case atStart => exact ⟨0, Nat.zero_le _, rfl, veil (fun i hi => by omega)⟩
  case round =>
    obtain ⟨k, hk, rfl, Hk⟩ := hrel
    by_cases hlt : k < xs.length
    · obtain ⟨ad, rfl, hcell⟩ := Kd.at_int hx (k : Int) (by omega) (by omega)
      have exk : rd xs (k : Int) = xs.getD k 0 := by unfold rd; rw [Int.toNat_natCast]
      rw [exk, Int.toNat_natCast] at hcell
      clear exk hx
      generalize hxk : xs.getD k 0 = x at *
      have Hx := veil hxk
      clear hxk
      by_cases ho : oddN x = true
      · have Ho := veil ho
        clear ho
        go_wp2_with fail
        refine (odd_any _ _ true Ho.out).mono ?_
        rintro e w' ⟨rfl, rfl⟩
        go_wp2
        go_ret
        exact ⟨ret_int (oddAt_hit xs k Hk.out hlt (by rw [Hx.out]; exact Ho.out)).symm, rfl⟩
      · have Ho : Veil (oddN x = false) := veil (by simpa using ho)
        clear ho
        go_wp2_with fail
        refine (odd_any _ _ false Ho.out).mono ?_
        rintro e w' ⟨rfl, rfl⟩
        go_wp2
        go_round
        case rel =>
          refine ⟨k + 1, by omega, by go_num, veil fun i hi => ?_⟩
          by_cases e : i = k
          · subst e; rw [Hx.out]; exact Ho.out
          · exact Hk.out i (by omega)
        case measure => simp [intOf]; omega
    · obtain rfl : k = xs.length := by omega
      clear hx
      go_wp2
      go_ret
      exact ⟨ret_int (oddAt_none xs Hk.out).symm, rfl⟩
set_option maxHeartbeats 400000 in
theorem containsFunc_any (ao : Option Addr) (xs : List Int) (cap : Nat) (w : World) (b : Bool) (hx : (Kd.int .i64).C w ao xs.length xs) (hb : xs.any oddN = b) :
    Calls Try.prog 29 #[.slice ao xs.length cap, .func (.func 28) #[] #[]] w fun e w' => e = .returned (.bool b) ∧ w = w' := by
  have Hx := veil hx
  have Hb := veil ((oddAt_any xs).trans hb)
  clear hx hb
  go_enter Try.func29, Try.ntmps29
  go_wp2_with fail
  refine (indexFunc_any _ _ _ _ Hx.out).mono ?_
  rintro e w' ⟨rfl, rfl⟩
  go_wp2
  go_ret
  exact ⟨ret_bool Hb.out, rfl⟩
theorem isV_some {xs : List Int} (h0 : 0 < xs.length) (h1 : xs.length ≤ 16) : isV xs = !xs.any oddN := by simp [isV, h0, h1]
theorem isV_none {xs : List Int} (h : xs.length = 0 ∨ 16 < xs.length) : isV xs = false := by
  rcases h with h | h
  · simp [isV, h]
  · simp [isV, show ¬ xs.length ≤ 16 by omega]
set_option maxHeartbeats 400000 in
theorem is_any (ao : Option Addr) (xs : List Int) (cap : Nat) (w : World) (b : Bool) (hx : (Kd.int .i64).C w ao xs.length xs) (hb : isV xs = b) :
    Calls Try.prog 20 #[.slice ao xs.length cap] w fun e w' => e = .returned (.bool b) ∧ w = w' := by
  have Hx := veil hx
  clear hx
  by_cases h0 : 0 < xs.length
  · by_cases h1 : xs.length ≤ 16
    · have Hb := veil ((isV_some h0 h1).symm.trans hb)
      clear hb
      go_enter Try.func20, Try.ntmps20
      go_wp2_with fail
      refine (containsFunc_any _ _ _ _ _ Hx.out rfl).mono ?_
      rintro e w' ⟨rfl, rfl⟩
      go_wp2
      go_ret
      exact ⟨ret_bool Hb.out, rfl⟩
    · obtain rfl : b = false := hb.symm.trans (isV_none (by omega))
      clear hb
      have h1' : 16 < xs.length := by omega
      go_enter Try.func20, Try.ntmps20
      go_wp2
      go_ret
      exact ⟨rfl, rfl⟩
  · obtain rfl : b = false := hb.symm.trans (isV_none (by omega))
    clear hb
    have h1' : xs.length = 0 := by omega
    go_enter Try.func20, Try.ntmps20
    go_wp2
    go_ret
    exact ⟨rfl, rfl⟩
def vec_is.f (l : List Int) : Option Bool := some (isV l)
theorem vec_is.calls (A0 : Option Addr) (c0 : Nat) (l0 : List Int) (r : Bool) (w : World) (hr0 : Kd.C (Kd.int .i64) w A0 l0.length l0) (hc0 : l0.length ≤ c0) (h : vec_is.f l0 = some r) :
    Calls Try.prog 20 #[.slice A0 l0.length c0] w fun e w' => e = .returned (.bool r) ∧ Drawn0 w w' :=
  (is_any A0 l0 c0 w r hr0 (Option.some.inj h)).mono fun _ _ ⟨he, hw⟩ => ⟨he, ⟨0, hw.symm⟩⟩
end Go.Proofs.Ytjcimklmlplagaa.Giv
