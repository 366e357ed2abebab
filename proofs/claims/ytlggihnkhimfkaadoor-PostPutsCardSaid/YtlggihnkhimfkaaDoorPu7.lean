/- Texts put together by prune.py: Px5, CrcM, CrcW, CrcX, GivJ, FrmT, FrmA, VecI. -/
import Derived.Test.YtlggihnkhimfkaaDoorProg
import Derived.WalkSpells
import Derived.WalkLawsBesides
import Derived.KernelRfl
import Derived.WalkKit
import Derived.Below
import Derived.OwnWalk
import Derived.Test.YtlggihnkhimfkaaDoorPu6
namespace Go.Proofs.YtlggihnkhimfkaaDoor.P
open Go.RowKit Go.Proofs.YtlggihnkhimfkaaDoorW.PrintWords Go.Proofs.YtlggihnkhimfkaaDoorW.PrintLast Go.Proofs.YtlggihnkhimfkaaDoorW.PrintMore
attribute [local go_sem] max2_int min2_int max_two min_two max_three min_three max_four min_four   -- for this text's walks alone
set_option linter.unusedVariables false
set_option linter.unusedSimpArgs false
mutual
def ploverref02_digits.l0 : Nat → Int → List Int → Int → Option (ByteArray)
  | 0, _, _, _ => none
  | k + 1, x0, x3, x4 => if x4 = 0 then (if x0 < 0 then (if x3.length < 140737488355328 then (ploverref02_digits.j1 k (x3 ++ [45])) else (none)) else (ploverref02_digits.j1 k x3)) else (if (Int.tmod x4 10) < 0 then (if x3.length < 140737488355328 then (ploverref02_digits.l0 k x0 (x3 ++ [(wrap64 (48 + (wrap64 (-(Int.tmod x4 10))))) % 256]) (wrap64 (Int.tdiv x4 10))) else (none)) else (if x3.length < 140737488355328 then (ploverref02_digits.l0 k x0 (x3 ++ [(wrap64 (48 + (Int.tmod x4 10))) % 256]) (wrap64 (Int.tdiv x4 10))) else (none)))
def ploverref02_digits.j1 : Nat → List Int → Option (ByteArray)
  | 0, _ => none
  | k + 1, x3 => ploverref02_digits.l1 k x3 ([] : List Int) (wrap64 ((x3.length : Int) - 1))
def ploverref02_digits.l1 : Nat → List Int → List Int → Int → Option (ByteArray)
  | 0, _, _, _ => none
  | k + 1, x3, x6, x7 => if x7 ≥ 0 then (if 0 ≤ x7 then (if x7 < (x3.length : Int) then (if x6.length < 140737488355328 then (ploverref02_digits.l1 k x3 (x6 ++ [rd x3 x7]) (wrap64 (x7 - 1))) else (none)) else (none)) else (none)) else (some (strOfNums x6))
end
def ploverref02_digits.f (k : Nat) (a0 : Int) : Option (ByteArray) := if a0 = 0 then (some (⟨#[48]⟩ : ByteArray)) else (ploverref02_digits.l0 k a0 ([] : List Int) a0)
set_option maxHeartbeats 8000000 in
set_option maxRecDepth 100000 in
theorem ploverref02_digits.calls (k : Nat) (a0 : Int) (r : ByteArray) (w : World) (h : ploverref02_digits.f k a0 = some r) :
  Calls Tryd.prog 57 #[.int .i64 a0] w fun e w' => e = .returned (.string r) ∧ Below w.heap.size w w' := by
 have HB := Aside0.mk (Below.refl w.heap.size w)
 have H : (if a0 = 0 then (some (⟨#[48]⟩ : ByteArray)) else (ploverref02_digits.l0 k a0 ([] : List Int) a0)) = some r := h
 clear h
 by_cases c2 : a0 = 0
 ·
  rw [if_pos c2] at H
  have c2b0 : (a0 == 0) = true := beq_iff_eq.mpr c2
  have c2b1 : (a0 != 0) = false := bne_eq_false_iff_eq.mpr c2
  clear c2
  obtain rfl := Option.some.inj H
  go_enter Tryd.func57, Tryd.ntmps57
  go_wp2
  go_ret
  exact ⟨by first | rfl | (simp [errW_none, errW_some] <;> rfl) | (simp [*, errW_none, errW_some] <;> rfl), by repeat (first | (with_reducible first | exact HB.out | apply below_alloc | apply pw_below_drewN | apply below_drew1) | exact HB.out)⟩
 ·
  rw [if_neg c2] at H
  have c2b0 : (a0 == 0) = false := beq_eq_false_iff_ne.mpr c2
  have c2b1 : (a0 != 0) = true := bne_iff_ne.mpr c2
  have H' := Aside0.mk H
  clear H
  go_enter Tryd.func57, Tryd.ntmps57
  go_wp2
  go_loopg [3, 4] k (fun kq v3 v4 w' => ∃ (x3_1 : List Int) (x4_1 : Int), v4 = .int .i64 x4_1 ∧ Aside0 (ploverref02_digits.l0 kq a0 x3_1 x4_1 = some r) ∧ Aside0 (kq ≤ k) ∧ Aside0 (Kd.R (Kd.int .u8) 5 w' w.heap.size (fun _ => True) v3 x3_1) ∧ Aside0 (Below w.heap.size w w'))
  case atStart => exact ⟨(([] : List Int)), (a0), (by first | rfl | (simp; done) | (simp [*]; done)), H', ⟨Nat.le_refl _⟩, ⟨by first | exact Kd.R_nil _ _ _ _ _ | exact Kd.N_nil _ _ _ _ _ | exact Kd.V_nil _ _ _ _ _ | exact Kd.Q_nil _ _ _ _ _ | exact Kd.S_nil _ _ _ _ _⟩, ⟨by repeat (first | (with_reducible first | exact HB.out | apply below_alloc | apply pw_below_drewN | apply below_drew1) | exact HB.out)⟩⟩
  case round =>
   clear H'
   try clear c2
   try clear c2b0
   try clear c2b1
   try clear p2
   obtain ⟨x3_1, x4_1, rfl, HA, HK1, HO_3, HB⟩ := hrel
   cases gk with
   | zero => exact absurd HA.out (by simp [ploverref02_digits.l0])
   | succ k1 =>
    have H := HA.out
    clear HA
    simp only [ploverref02_digits.l0] at H
    by_cases c3 : x4_1 = 0
    ·
     rw [if_pos c3] at H
     have c3b0 : (x4_1 == 0) = true := beq_iff_eq.mpr c3
     have c3b1 : (x4_1 != 0) = false := bne_eq_false_iff_eq.mpr c3
     clear c3
     have HC4 := Aside0.mk H
     clear H
     go_upto_if 28 with (fail)
     go_cut [3] (fun v3 wc => ∃ (kq : Nat) (x3_3 : List Int), Aside0 (ploverref02_digits.j1 kq x3_3 = some r) ∧ Aside0 (kq ≤ k1) ∧ Aside0 (Kd.R (Kd.int .u8) 5 wc w.heap.size (fun _ => True) v3 x3_3) ∧ Aside0 (Below w.heap.size w wc))
     case first =>
      have H := HC4.out
      clear HC4
      by_cases c5 : a0 < 0
      ·
       rw [if_pos c5] at H
       have c5b0 : decide (a0 < 0) = true := decide_eq_true c5
       clear c5
       (first | rw [c5b0] | (simp only [i64_w, i32_w]; rw [c5b0]) | skip)
       by_cases c6 : x3_1.length < 140737488355328
       ·
        rw [if_pos c6] at H
        have LMc6 := Aside0.mk c6
        clear c6
        obtain ⟨y130, hy130⟩ : ∃ y_ : List Int, y_ = (x3_1 ++ [45]) := ⟨_, rfl⟩
        replace H : (ploverref02_digits.j1 k1 y130) = some r := by first | (rw [hy130]; with_reducible exact H) | (have H2_ := (Option.bind_some _ _).symm.trans H; rw [hy130]; with_reducible exact H2_) | (have H2_ := (Option.bind_some _ _).symm.trans H; with_reducible exact H2_) | with_reducible exact H | (rw [hy130]; exact H) | exact H
        have Ny130 := Aside0.mk hy130
        clear hy130
        have H' := Aside0.mk H
        clear H
        go_wp2_with (first | ((with_reducible refine gate_builtin (b := .append) (xs := #[.tmp 29, .tmp 30]) rfl ?_); at_builtin; refine Kd.R_append (Kd.int .u8) (w0 := w) w.heap.size rfl (.tmp 29) (.tmp 30) 39 5 (.int .u8 0) 1 rfl Tryd.underlying39 info5 rfl (by decide) (by omega) u3 x3_1 45 [.int .u8 45] (fun _ => True) (fun _ => False) rfl rfl ?aP (fun _ hk => hk.elim) ?aF ?aO ?aB ?aS ?aL ?_; (case aP => exact rfl); (case aB => exact (by repeat (first | (with_reducible first | exact HB.out | apply below_alloc | apply pw_below_drewN | apply below_drew1) | exact HB.out))); (case aF => exact (fun _ _ => trivial)); (case aO => exact (by (with_reducible repeat (first | apply Kd.R_alloc | apply Kd.R_drewN | apply Kd.R_drew)); exact HO_3.out)); (case aS => exact (below_size (by repeat (first | (with_reducible first | exact HB.out | apply below_alloc | apply pw_below_drewN | apply below_drew1) | exact HB.out)))); (case aL => have := LMc6.out; omega); intro v131 w7 ho hb hg hat; rw [← Ny130.out] at ho; have n0_ := Aside0.mk (hb); have n1_ := Aside0.mk (ho); clear HB; clear HO_3; have HB := n0_; have HO132 := n1_; clear n0_ n1_; clear ho hb hg hat))
        go_meet
        case rel => exact ⟨_, (y130), H', ⟨by have := HK1.out; first | omega | exact Nat.le_refl _⟩, ⟨by (with_reducible repeat (first | apply Kd.R_alloc | apply Kd.R_drewN | apply Kd.R_drew)); exact HO132.out⟩, ⟨by repeat (first | (with_reducible first | exact HB.out | apply below_alloc | apply pw_below_drewN | apply below_drew1) | exact HB.out)⟩⟩
       ·
        rw [if_neg c6] at H
        exact absurd H (by simp)
      ·
       rw [if_neg c5] at H
       have c5b0 : decide (a0 < 0) = false := decide_eq_false c5
       clear c5
       (first | rw [c5b0] | (simp only [i64_w, i32_w]; rw [c5b0]) | skip)
       have H' := Aside0.mk H
       clear H
       go_wp2
       go_meet
       case rel => exact ⟨_, (x3_1), H', ⟨by have := HK1.out; first | omega | exact Nat.le_refl _⟩, ⟨by (with_reducible repeat (first | apply Kd.R_alloc | apply Kd.R_drewN | apply Kd.R_drew)); exact HO_3.out⟩, ⟨by repeat (first | (with_reducible first | exact HB.out | apply below_alloc | apply pw_below_drewN | apply below_drew1) | exact HB.out)⟩⟩
     case rest =>
      clear HC4
      try clear c2
      try clear c2b0
      try clear c2b1
      try clear p2
      try clear c3
      try clear c3b0
      try clear c3b1
      try clear c5
      try clear c5b0
      try clear c6
      try clear p2
      obtain ⟨kq, x3_3, HA, HJ3, HO_3, HB⟩ := hcut
      cases kq with
      | zero => exact absurd HA.out (by simp [ploverref02_digits.j1])
      | succ kj3 =>
       have H := HA.out
       clear HA
       simp only [ploverref02_digits.j1] at H
       have H' := Aside0.mk H
       clear H
       obtain ⟨Ao8, co8, eo8⟩ := Kd.R_slice HO_3.out
       subst eo8
       go_wp2
       go_loopg [6, 7] kj3 (fun kq v6 v7 w' => ∃ (x6_3 : List Int) (x7_3 : Int), v7 = .int .i64 x7_3 ∧ Aside0 (ploverref02_digits.l1 kq x3_3 x6_3 x7_3 = some r) ∧ Aside0 (kq ≤ kj3) ∧ Aside0 (Kd.R (Kd.int .u8) 5 w' w.heap.size (fun k_ => some k_ ≠ (v6 : Value).ownBlock) (.slice Ao8 x3_3.length co8) x3_3) ∧ Aside0 (Kd.R (Kd.int .u8) 5 w' w.heap.size (fun k_ => some k_ ≠ ((.slice Ao8 x3_3.length co8) : Value).ownBlock) v6 x6_3) ∧ Aside0 (Below w.heap.size w w'))
       case atStart => exact ⟨(([] : List Int)), (wrap64 ((x3_3.length : Int) - 1)), (by first | rfl | (simp; done) | (simp [*]; done)), H', ⟨Nat.le_refl _⟩, ⟨by (with_reducible repeat (first | apply Kd.R_alloc | apply Kd.R_drewN | apply Kd.R_drew)); exact Kd.R_mono HO_3.out (fun _ hk => (by simp [Value.ownBlock]))⟩, ⟨by first | exact Kd.R_nil _ _ _ _ _ | exact Kd.N_nil _ _ _ _ _ | exact Kd.V_nil _ _ _ _ _ | exact Kd.Q_nil _ _ _ _ _ | exact Kd.S_nil _ _ _ _ _⟩, ⟨by repeat (first | (with_reducible first | exact HB.out | apply below_alloc | apply pw_below_drewN | apply below_drew1) | exact HB.out)⟩⟩
       case round =>
        clear H'
        try clear c2
        try clear c2b0
        try clear c2b1
        try clear p2
        try clear c3
        try clear c3b0
        try clear c3b1
        try clear c5
        try clear c5b0
        try clear c6
        try clear p6
        try clear p2
        obtain ⟨x6_3, x7_3, rfl, HA, HK3, HO_3, HO_6, HB⟩ := hrel
        cases gk with
        | zero => exact absurd HA.out (by simp [ploverref02_digits.l1])
        | succ k3 =>
         have H := HA.out
         clear HA
         simp only [ploverref02_digits.l1] at H
         by_cases c9 : x7_3 ≥ 0
         ·
          rw [if_pos c9] at H
          have c9b0 : decide (0 ≤ x7_3) = true := decide_eq_true c9
          clear c9
          by_cases c10 : 0 ≤ x7_3
          ·
           rw [if_pos c10] at H
           have c10b0 : decide (0 ≤ x7_3) = true := decide_eq_true c10
           clear c10
           by_cases c11 : x7_3 < (x3_3.length : Int)
           ·
            rw [if_pos c11] at H
            have c11b0 : decide (x7_3 < (x3_3.length : Int)) = true := decide_eq_true c11
            clear c11
            by_cases c12 : x6_3.length < 140737488355328
            ·
             rw [if_pos c12] at H
             have LMc12 := Aside0.mk c12
             clear c12
             obtain ⟨y134, hy134⟩ : ∃ y_ : List Int, y_ = (x6_3 ++ [rd x3_3 x7_3]) := ⟨_, rfl⟩
             replace H : (ploverref02_digits.l1 k3 x3_3 y134 (wrap64 (x7_3 - 1))) = some r := by first | (rw [hy134]; with_reducible exact H) | (have H2_ := (Option.bind_some _ _).symm.trans H; rw [hy134]; with_reducible exact H2_) | (have H2_ := (Option.bind_some _ _).symm.trans H; with_reducible exact H2_) | with_reducible exact H | (rw [hy134]; exact H) | exact H
             have Ny134 := Aside0.mk hy134
             clear hy134
             have H' := Aside0.mk H
             clear H
             have p133 : 0 ≤ (x7_3 : Int) := of_decide_eq_true (by first | (with_reducible assumption) | assumption)
             have q133 : x7_3 < (x3_3.length : Int) := of_decide_eq_true (by first | (with_reducible assumption) | assumption)
             obtain ⟨ad133, e133, hx133_0⟩ := Kd.at_int (Kd.R_reads' HO_3.out).2.2 x7_3 p133 q133
             cases e133
             replace p133 := eq_true p133
             replace q133 := eq_true q133
             go_wp2_with (first | ((with_reducible refine gate_builtin (b := .append) (xs := #[.tmp 39, .tmp 44]) rfl ?_); at_builtin; refine Kd.R_append (Kd.int .u8) (w0 := w) w.heap.size rfl (.tmp 39) (.tmp 44) 39 5 (.int .u8 0) 1 rfl Tryd.underlying39 info5 rfl (by decide) (by omega) u6 x6_3 (rd x3_3 x7_3) [.int .u8 (rd x3_3 x7_3)] (fun k_ => some k_ ≠ (.slice (some ad133) x3_3.length co8 : Value).ownBlock) (fun _ => False) rfl rfl ?aP (fun _ hk => hk.elim) ?aF ?aO ?aB ?aS ?aL ?_; (case aP => exact rfl); (case aB => exact (by repeat (first | (with_reducible first | exact HB.out | apply below_alloc | apply pw_below_drewN | apply below_drew1) | exact HB.out))); (case aF => exact (fun k_ hk => Kd.fresh' (Kd.R_lt (by (with_reducible repeat (first | apply Kd.R_alloc | apply Kd.R_drewN | apply Kd.R_drew)); exact HO_3.out)) k_ hk)); (case aO => exact (by (with_reducible repeat (first | apply Kd.R_alloc | apply Kd.R_drewN | apply Kd.R_drew)); exact HO_6.out)); (case aS => exact (below_size (by repeat (first | (with_reducible first | exact HB.out | apply below_alloc | apply pw_below_drewN | apply below_drew1) | exact HB.out)))); (case aL => have := LMc12.out; omega); intro v135 w13 ho hb hg hat; rw [← Ny134.out] at ho; have n0_ := Aside0.mk (Kd.R_after (ok := (fun _ => True)) (by (with_reducible repeat (first | apply Kd.R_alloc | apply Kd.R_drewN | apply Kd.R_drew)); exact Kd.R_mono HO_3.out (fun _ hk => ⟨trivial, hk⟩)) hg hat); have n1_ := Aside0.mk (hb); have n2_ := Aside0.mk (ho); clear HO_3; clear HB; clear HO_6; have HO_3 := n0_; have HB := n1_; have HO136 := n2_; clear n0_ n1_ n2_; clear ho hb hg hat))
             go_roundg k3
             case measure => have := HK1.out; have := HJ3.out; have := HK3.out; omega
             case rel => exact ⟨(y134), (wrap64 (x7_3 - 1)), (by first | rfl | (simp; done) | (simp [*]; done)), H', ⟨by have := HK1.out; have := HJ3.out; have := HK3.out; omega⟩, ⟨by (with_reducible repeat (first | apply Kd.R_alloc | apply Kd.R_drewN | apply Kd.R_drew)); exact Kd.R_mono HO_3.out (fun _ hk => hk.2)⟩, ⟨by (with_reducible repeat (first | apply Kd.R_alloc | apply Kd.R_drewN | apply Kd.R_drew)); exact HO136.out⟩, ⟨by repeat (first | (with_reducible first | exact HB.out | apply below_alloc | apply pw_below_drewN | apply below_drew1) | exact HB.out)⟩⟩
            ·
             rw [if_neg c12] at H
             exact absurd H (by simp)
           ·
            rw [if_neg c11] at H
            exact absurd H (by simp)
          ·
           rw [if_neg c10] at H
           exact absurd H (by simp)
         ·
          rw [if_neg c9] at H
          have c9b0 : decide (0 ≤ x7_3) = false := decide_eq_false c9
          clear c9
          obtain rfl := Option.some.inj H
          have hcv14 := own_string (P := Tryd.prog) Tryd.underlying39 Tryd.underlying5 Tryd.underlying9 (Kd.own_of_R HO_6.out)
          go_wp2
          go_ret
          exact ⟨by first | rfl | (simp [errW_none, errW_some] <;> rfl) | (simp [*, errW_none, errW_some] <;> rfl), by repeat (first | (with_reducible first | exact HB.out | apply below_alloc | apply pw_below_drewN | apply below_drew1) | exact HB.out)⟩
    ·
     rw [if_neg c3] at H
     have c3b0 : (x4_1 == 0) = false := beq_eq_false_iff_ne.mpr c3
     have c3b1 : (x4_1 != 0) = true := bne_iff_ne.mpr c3
     by_cases c15 : (Int.tmod x4_1 10) < 0
     ·
      rw [if_pos c15] at H
      have c15b0 : decide ((Int.tmod x4_1 10) < 0) = true := decide_eq_true c15
      clear c15
      by_cases c16 : x3_1.length < 140737488355328
      ·
       rw [if_pos c16] at H
       have LMc16 := Aside0.mk c16
       clear c16
       obtain ⟨y124, hy124⟩ : ∃ y_ : List Int, y_ = (x3_1 ++ [(wrap64 (48 + (wrap64 (-(Int.tmod x4_1 10))))) % 256]) := ⟨_, rfl⟩
       replace H : (ploverref02_digits.l0 k1 a0 y124 (wrap64 (Int.tdiv x4_1 10))) = some r := by first | (rw [hy124]; with_reducible exact H) | (have H2_ := (Option.bind_some _ _).symm.trans H; rw [hy124]; with_reducible exact H2_) | (have H2_ := (Option.bind_some _ _).symm.trans H; with_reducible exact H2_) | with_reducible exact H | (rw [hy124]; exact H) | exact H
       have Ny124 := Aside0.mk hy124
       clear hy124
       have H' := Aside0.mk H
       clear H
       go_wp2_with (first | ((with_reducible refine gate_builtin (b := .append) (xs := #[.tmp 21, .tmp 25]) rfl ?_); at_builtin; refine Kd.R_append (Kd.int .u8) (w0 := w) w.heap.size rfl (.tmp 21) (.tmp 25) 39 5 (.int .u8 0) 1 rfl Tryd.underlying39 info5 rfl (by decide) (by omega) u3 x3_1 ((wrap64 (48 + (wrap64 (-(Int.tmod x4_1 10))))) % 256) [.int .u8 ((wrap64 (48 + (wrap64 (-(Int.tmod x4_1 10))))) % 256)] (fun _ => True) (fun _ => False) rfl rfl ?aP (fun _ hk => hk.elim) ?aF ?aO ?aB ?aS ?aL ?_; (case aP => exact rfl); (case aB => exact (by repeat (first | (with_reducible first | exact HB.out | apply below_alloc | apply pw_below_drewN | apply below_drew1) | exact HB.out))); (case aF => exact (fun _ _ => trivial)); (case aO => exact (by (with_reducible repeat (first | apply Kd.R_alloc | apply Kd.R_drewN | apply Kd.R_drew)); exact HO_3.out)); (case aS => exact (below_size (by repeat (first | (with_reducible first | exact HB.out | apply below_alloc | apply pw_below_drewN | apply below_drew1) | exact HB.out)))); (case aL => have := LMc16.out; omega); intro v125 w17 ho hb hg hat; rw [← Ny124.out] at ho; have n0_ := Aside0.mk (hb); have n1_ := Aside0.mk (ho); clear HB; clear HO_3; have HB := n0_; have HO126 := n1_; clear n0_ n1_; clear ho hb hg hat))
       go_roundg k1
       case measure => have := HK1.out; omega
       case rel => exact ⟨(y124), (wrap64 (Int.tdiv x4_1 10)), (by first | rfl | (simp; done) | (simp [*]; done)), H', ⟨by have := HK1.out; omega⟩, ⟨by (with_reducible repeat (first | apply Kd.R_alloc | apply Kd.R_drewN | apply Kd.R_drew)); exact HO126.out⟩, ⟨by repeat (first | (with_reducible first | exact HB.out | apply below_alloc | apply pw_below_drewN | apply below_drew1) | exact HB.out)⟩⟩
      ·
       rw [if_neg c16] at H
       exact absurd H (by simp)
     ·
      rw [if_neg c15] at H
      have c15b0 : decide ((Int.tmod x4_1 10) < 0) = false := decide_eq_false c15
      clear c15
      by_cases c18 : x3_1.length < 140737488355328
      ·
       rw [if_pos c18] at H
       have LMc18 := Aside0.mk c18
       clear c18
       obtain ⟨y127, hy127⟩ : ∃ y_ : List Int, y_ = (x3_1 ++ [(wrap64 (48 + (Int.tmod x4_1 10))) % 256]) := ⟨_, rfl⟩
       replace H : (ploverref02_digits.l0 k1 a0 y127 (wrap64 (Int.tdiv x4_1 10))) = some r := by first | (rw [hy127]; with_reducible exact H) | (have H2_ := (Option.bind_some _ _).symm.trans H; rw [hy127]; with_reducible exact H2_) | (have H2_ := (Option.bind_some _ _).symm.trans H; with_reducible exact H2_) | with_reducible exact H | (rw [hy127]; exact H) | exact H
       have Ny127 := Aside0.mk hy127
       clear hy127
       have H' := Aside0.mk H
       clear H
       go_wp2_with (first | ((with_reducible refine gate_builtin (b := .append) (xs := #[.tmp 21, .tmp 25]) rfl ?_); at_builtin; refine Kd.R_append (Kd.int .u8) (w0 := w) w.heap.size rfl (.tmp 21) (.tmp 25) 39 5 (.int .u8 0) 1 rfl Tryd.underlying39 info5 rfl (by decide) (by omega) u3 x3_1 ((wrap64 (48 + (Int.tmod x4_1 10))) % 256) [.int .u8 ((wrap64 (48 + (Int.tmod x4_1 10))) % 256)] (fun _ => True) (fun _ => False) rfl rfl ?aP (fun _ hk => hk.elim) ?aF ?aO ?aB ?aS ?aL ?_; (case aP => exact rfl); (case aB => exact (by repeat (first | (with_reducible first | exact HB.out | apply below_alloc | apply pw_below_drewN | apply below_drew1) | exact HB.out))); (case aF => exact (fun _ _ => trivial)); (case aO => exact (by (with_reducible repeat (first | apply Kd.R_alloc | apply Kd.R_drewN | apply Kd.R_drew)); exact HO_3.out)); (case aS => exact (below_size (by repeat (first | (with_reducible first | exact HB.out | apply below_alloc | apply pw_below_drewN | apply below_drew1) | exact HB.out)))); (case aL => have := LMc18.out; omega); intro v128 w19 ho hb hg hat; rw [← Ny127.out] at ho; have n0_ := Aside0.mk (hb); have n1_ := Aside0.mk (ho); clear HB; clear HO_3; have HB := n0_; have HO129 := n1_; clear n0_ n1_; clear ho hb hg hat))
       go_roundg k1
       case measure => have := HK1.out; omega
       case rel => exact ⟨(y127), (wrap64 (Int.tdiv x4_1 10)), (by first | rfl | (simp; done) | (simp [*]; done)), H', ⟨by have := HK1.out; omega⟩, ⟨by (with_reducible repeat (first | apply Kd.R_alloc | apply Kd.R_drewN | apply Kd.R_drew)); exact HO129.out⟩, ⟨by repeat (first | (with_reducible first | exact HB.out | apply below_alloc | apply pw_below_drewN | apply below_drew1) | exact HB.out)⟩⟩
      ·
       rw [if_neg c18] at H
       exact absurd H (by simp)
mutual
def ploverref02_bytes.l0 : Nat → List Int → Int → Int → Int → ByteArray → List (S49) → Option (ByteArray)
  | 0, _, _, _, _, _, _ => none
  | k + 1, x3, x4, x138000, x138001, x138002, x138003 => if x4 < (x138003.length : Int) then (if (x3.length : Int) ≤ 65536 then (if 0 ≤ x4 then ((ploverref02_bytes.f k ((rd_T49 x138003 x4).f0) ((rd_T49 x138003 x4).f1) ((rd_T49 x138003 x4).f2) ((rd_T49 x138003 x4).f3)).bind fun t144 => (if x3.length + t144.size < 140737488355328 then (ploverref02_bytes.l0 k (x3 ++ bytesOf t144) (wrap64 (x4 + 1)) x138000 x138001 x138002 x138003) else (none))) else (none)) else (if x3.length < 140737488355328 then (some (strOfNums (x3 ++ [101]))) else (none))) else (if x3.length < 140737488355328 then (some (strOfNums (x3 ++ [101]))) else (none))
def ploverref02_bytes.f : Nat → Int → Int → ByteArray → List (S49) → Option (ByteArray)
  | 0, _, _, _, _ => none
  | k + 1, a0_0, a0_1, a0_2, l0_3 => if a0_0 = 1 then ((ploverref02_digits.f k a0_1).bind fun t138 => (if 1 + t138.size ≤ 9223372036854775807 then (if ((⟨#[105]⟩ : ByteArray) ++ t138).size + 1 ≤ 9223372036854775807 then (some (((⟨#[105]⟩ : ByteArray) ++ t138) ++ (⟨#[101]⟩ : ByteArray))) else (none)) else (none))) else (if a0_0 = 2 then ((ploverref02_digits.f k (a0_2.size : Int)).bind fun t139 => (if t139.size + 1 ≤ 9223372036854775807 then (if (t139 ++ (⟨#[58]⟩ : ByteArray)).size + a0_2.size ≤ 9223372036854775807 then (some ((t139 ++ (⟨#[58]⟩ : ByteArray)) ++ a0_2)) else (none)) else (none))) else (ploverref02_bytes.l0 k (([108] : List Int)) 0 a0_0 a0_1 a0_2 l0_3))
end
def ploverref02_bytes.T5 : Bool × List (List Nat × List Nat) := (true, [([], []), ([0], [0]), ([1], [1]), ([2], [2]), ([3], [3]), ([], []), ([5], [5]), ([4, 6], [4, 6]), ([7, 3, 0, 1, 2, 3, 4, 5, 6, 7], [7])])
def ploverref02_bytes.B5 : List Nat := [0, 1, 3, 7, 15, 0, 32, 127, 255]
theorem ploverref02_bytes.tab5 : rtab .any (opsOf Tryd.f43 5) = ploverref02_bytes.T5 := by kernel_rfl
theorem ploverref02_bytes.bits5 : waitsOk ploverref02_bytes.T5.2 ploverref02_bytes.B5 = true := by kernel_rfl
set_option maxHeartbeats 8000000 in
set_option maxRecDepth 100000 in
theorem ploverref02_bytes.calls (k : Nat) : ∀ (a0_0 : Int) (a0_1 : Int) (a0_2 : ByteArray) (A0_3 : Option Addr) (c0_3 : Nat) (l0_3 : List (S49)) (r : ByteArray) (w : World) (hr0_3 : Kd.C k49 w A0_3 l0_3.length l0_3) (hc0_3 : l0_3.length ≤ c0_3) (h : ploverref02_bytes.f k a0_0 a0_1 a0_2 l0_3 = some r),
  Calls Tryd.prog 43 #[.agg #[.int .i64 a0_0, .int .i64 a0_1, .string a0_2, .slice A0_3 l0_3.length c0_3]] w fun e w' => e = .returned (.string r) ∧ Below w.heap.size w w' := by
 induction k using Nat.strongRecOn with
 | _ k ih =>
 intro a0_0 a0_1 a0_2 A0_3 c0_3 l0_3 r w hr0_3 hc0_3 h
 cases k with
 | zero => exact absurd h (by simp [ploverref02_bytes.f])
 | succ k =>
 simp only [ploverref02_bytes.f] at h
 have hu49 := Tryd.underlying49
 have HR0_3 := Aside0.mk hr0_3
 have HC0_3 := Aside0.mk hc0_3
 clear hr0_3 hc0_3
 have HB := Aside0.mk (Below.refl w.heap.size w)
 have H : (if a0_0 = 1 then ((ploverref02_digits.f k a0_1).bind fun t138 => (if 1 + t138.size ≤ 9223372036854775807 then (if ((⟨#[105]⟩ : ByteArray) ++ t138).size + 1 ≤ 9223372036854775807 then (some (((⟨#[105]⟩ : ByteArray) ++ t138) ++ (⟨#[101]⟩ : ByteArray))) else (none)) else (none))) else (if a0_0 = 2 then ((ploverref02_digits.f k (a0_2.size : Int)).bind fun t139 => (if t139.size + 1 ≤ 9223372036854775807 then (if (t139 ++ (⟨#[58]⟩ : ByteArray)).size + a0_2.size ≤ 9223372036854775807 then (some ((t139 ++ (⟨#[58]⟩ : ByteArray)) ++ a0_2)) else (none)) else (none))) else (ploverref02_bytes.l0 k (([108] : List Int)) 0 a0_0 a0_1 a0_2 l0_3))) = some r := h
 clear h
 by_cases c2 : a0_0 = 1
 ·
  rw [if_pos c2] at H
  have c2b0 : (a0_0 == 1) = true := beq_iff_eq.mpr c2
  have c2b1 : (a0_0 != 1) = false := bne_eq_false_iff_eq.mpr c2
  clear c2
  replace H := Option.bind_eq_some_iff.mp H
  obtain ⟨t138, A30, H⟩ := H
  replace H : (if 1 + t138.size ≤ 9223372036854775807 then (if ((⟨#[105]⟩ : ByteArray) ++ t138).size + 1 ≤ 9223372036854775807 then (some (((⟨#[105]⟩ : ByteArray) ++ t138) ++ (⟨#[101]⟩ : ByteArray))) else (none)) else (none)) = some r := H
  have A3 := Aside0.mk A30
  clear A30
  by_cases c4 : 1 + t138.size ≤ 9223372036854775807
  ·
   rw [if_pos c4] at H
   have c4b0 := eq_true c4
   have c4b1 : decide (1 + t138.size ≤ 9223372036854775807) = true := decide_eq_true c4
   try have c4b2 : (9223372036854775807 < 1 + t138.size) = False := eq_false (Nat.not_lt.2 c4)
   by_cases c5 : ((⟨#[105]⟩ : ByteArray) ++ t138).size + 1 ≤ 9223372036854775807
   ·
    rw [if_pos c5] at H
    have c5b0 := eq_true c5
    have c5b1 : decide (((⟨#[105]⟩ : ByteArray) ++ t138).size + 1 ≤ 9223372036854775807) = true := decide_eq_true c5
    try have c5b2 : (9223372036854775807 < ((⟨#[105]⟩ : ByteArray) ++ t138).size + 1) = False := eq_false (Nat.not_lt.2 c5)
    have c5b3 : 1 + t138.size + 1 ≤ 9223372036854775807 := by have h := c5; simp only [ByteArray.size_append] at h; exact h
    try have c5b4 : (9223372036854775807 < 1 + t138.size + 1) = False := eq_false (Nat.not_lt.2 c5b3)
    obtain rfl := Option.some.inj H
    go_enter Tryd.func43, Tryd.ntmps43
    go_wp2_with (first | ((with_reducible refine gate_dst (N := 1) rfl ?_); (try (refine gate_guard (by rfl) ?_; dsimp only)); refine box_event ?hg (N := 1) ?hd (cs := #[.int .i64 a0_0, .int .i64 a0_1, .string a0_2, .slice A0_3 l0_3.length c0_3]) (t := 49) ?hr ?_; (case hd => rfl); (case hg => rfl); (case hr => first | (go_simp; done) | (go_simp; rfl)); intro gb137 hg w6 hbox hb; have n0_ := Aside0.mk (below_step (by repeat (first | (with_reducible first | exact HB.out | apply below_alloc | apply pw_below_drewN | apply below_drew1) | exact HB.out)) hb); have n1_ := Aside0.mk (hbox); have n2_ := Aside0.mk ((by rw [hg]; exact (below_size (by repeat (first | (with_reducible first | exact HB.out | apply below_alloc | apply pw_below_drewN | apply below_drew1) | exact HB.out))) : w.heap.size ≤ gb137)); have n3_ := Aside0.mk ((by rw [hg]; exact (below_size (by repeat (first | (with_reducible first | exact HB.out | apply below_alloc | apply pw_below_drewN | apply below_drew1) | exact HB.out))) : w.heap.size ≤ gb137)); clear HB; have HB := n0_; have BK137 := n1_; have GW137 := n2_; have GE137 := n3_; clear n0_ n1_ n2_ n3_; clear hb hbox hg; have hcz7_0 : w6.cell? ⟨gb137, 0, none⟩ = some (.int .i64 a0_0) := (blk_cell BK137.out 0).trans rfl; have hcz7_1 : w6.cell? ⟨gb137, 1, none⟩ = some (.int .i64 a0_1) := (blk_cell BK137.out 1).trans rfl; have hcz7_2 : w6.cell? ⟨gb137, 2, none⟩ = some (.string a0_2) := (blk_cell BK137.out 2).trans rfl; have hcz7_3 : w6.cell? ⟨gb137, 3, none⟩ = some (.slice A0_3 l0_3.length c0_3) := (blk_cell BK137.out 3).trans rfl; have hfz7_0 := blk_frozen BK137.out 0; have hfz7_1 := blk_frozen BK137.out 1; have hfz7_2 := blk_frozen BK137.out 2; have hfz7_3 := blk_frozen BK137.out 3) | ((with_reducible refine gate_callee (f := 57) rfl ?_); refine goesL_ (some 11) rfl rfl Tryd.func57 (by kernel_rfl) rfl #[.int .i64 a0_1] rfl (by (try simp only [List.map_toArray, List.map_cons, List.map_nil]); first | done | rfl | (simp only [List.length_drop, List.length_take]; rfl)) ?_; (with_reducible refine (ploverref02_digits.calls k a0_1 t138 _ A3.out).mono ?_); rintro e w8 ⟨rfl, hb⟩; refine ⟨_, rfl, ?_⟩; have n0_ := Aside0.mk (blk_below (g := gb137) (o := .cells #[.int .i64 a0_0, .int .i64 a0_1, .string a0_2, .slice A0_3 l0_3.length c0_3] 49 (0, 0)) (by (with_reducible repeat (first | refine blk_drewN ?_ _ | refine blk_drew ?_ | refine blk_alloc ?_ _)); exact BK137.out) hb); have n1_ := Aside0.mk (below_step (by repeat (first | (with_reducible first | exact HB.out | apply below_alloc | apply pw_below_drewN | apply below_drew1 | refine below_set ?_ GE137.out) | exact HB.out)) hb); clear BK137; clear HB; have BK137 := n0_; have HB := n1_; clear n0_ n1_; (try clear hb); (try clear hb2); (try clear hk); (try clear hi)))
    go_ret
    exact ⟨by first | rfl | (simp [errW_none, errW_some] <;> rfl) | (simp [*, errW_none, errW_some] <;> rfl), by repeat (first | (with_reducible first | exact HB.out | apply below_alloc | apply pw_below_drewN | apply below_drew1 | refine below_set ?_ GE137.out) | exact HB.out)⟩
   ·
    rw [if_neg c5] at H
    exact absurd H (by simp)
  ·
   rw [if_neg c4] at H
   exact absurd H (by simp)
 ·
  rw [if_neg c2] at H
  have c2b0 : (a0_0 == 1) = false := beq_eq_false_iff_ne.mpr c2
  have c2b1 : (a0_0 != 1) = true := bne_iff_ne.mpr c2
  by_cases c9 : a0_0 = 2
  ·
   rw [if_pos c9] at H
   have c9b0 : (a0_0 == 2) = true := beq_iff_eq.mpr c9
   have c9b1 : (a0_0 != 2) = false := bne_eq_false_iff_eq.mpr c9
   clear c9
   replace H := Option.bind_eq_some_iff.mp H
   obtain ⟨t139, A100, H⟩ := H
   replace H : (if t139.size + 1 ≤ 9223372036854775807 then (if (t139 ++ (⟨#[58]⟩ : ByteArray)).size + a0_2.size ≤ 9223372036854775807 then (some ((t139 ++ (⟨#[58]⟩ : ByteArray)) ++ a0_2)) else (none)) else (none)) = some r := H
   have A10 := Aside0.mk A100
   clear A100
   by_cases c11 : t139.size + 1 ≤ 9223372036854775807
   ·
    rw [if_pos c11] at H
    have c11b0 := eq_true c11
    have c11b1 : decide (t139.size + 1 ≤ 9223372036854775807) = true := decide_eq_true c11
    try have c11b2 : (9223372036854775807 < t139.size + 1) = False := eq_false (Nat.not_lt.2 c11)
    by_cases c12 : (t139 ++ (⟨#[58]⟩ : ByteArray)).size + a0_2.size ≤ 9223372036854775807
    ·
     rw [if_pos c12] at H
     have c12b0 := eq_true c12
     have c12b1 : decide ((t139 ++ (⟨#[58]⟩ : ByteArray)).size + a0_2.size ≤ 9223372036854775807) = true := decide_eq_true c12
     try have c12b2 : (9223372036854775807 < (t139 ++ (⟨#[58]⟩ : ByteArray)).size + a0_2.size) = False := eq_false (Nat.not_lt.2 c12)
     have c12b3 : t139.size + 1 + a0_2.size ≤ 9223372036854775807 := by have h := c12; simp only [ByteArray.size_append] at h; exact h
     try have c12b4 : (9223372036854775807 < t139.size + 1 + a0_2.size) = False := eq_false (Nat.not_lt.2 c12b3)
     obtain rfl := Option.some.inj H
     go_enter Tryd.func43, Tryd.ntmps43
     try go_wp2_with (first | ((with_reducible refine gate_dst (N := 1) rfl ?_); (try (refine gate_guard (by rfl) ?_; dsimp only)); refine box_event ?hg (N := 1) ?hd (cs := #[.int .i64 a0_0, .int .i64 a0_1, .string a0_2, .slice A0_3 l0_3.length c0_3]) (t := 49) ?hr ?_; (case hd => rfl); (case hg => rfl); (case hr => first | (go_simp; done) | (go_simp; rfl)); intro gb137 hg w13 hbox hb; have n0_ := Aside0.mk (below_step (by repeat (first | (with_reducible first | exact HB.out | apply below_alloc | apply pw_below_drewN | apply below_drew1) | exact HB.out)) hb); have n1_ := Aside0.mk (hbox); have n2_ := Aside0.mk ((by rw [hg]; exact (below_size (by repeat (first | (with_reducible first | exact HB.out | apply below_alloc | apply pw_below_drewN | apply below_drew1) | exact HB.out))) : w.heap.size ≤ gb137)); have n3_ := Aside0.mk ((by rw [hg]; exact (below_size (by repeat (first | (with_reducible first | exact HB.out | apply below_alloc | apply pw_below_drewN | apply below_drew1) | exact HB.out))) : w.heap.size ≤ gb137)); clear HB; have HB := n0_; have BK137 := n1_; have GW137 := n2_; have GE137 := n3_; clear n0_ n1_ n2_ n3_; clear hb hbox hg; have hcz14_0 : w13.cell? ⟨gb137, 0, none⟩ = some (.int .i64 a0_0) := (blk_cell BK137.out 0).trans rfl; have hcz14_1 : w13.cell? ⟨gb137, 1, none⟩ = some (.int .i64 a0_1) := (blk_cell BK137.out 1).trans rfl; have hcz14_2 : w13.cell? ⟨gb137, 2, none⟩ = some (.string a0_2) := (blk_cell BK137.out 2).trans rfl; have hcz14_3 : w13.cell? ⟨gb137, 3, none⟩ = some (.slice A0_3 l0_3.length c0_3) := (blk_cell BK137.out 3).trans rfl; have hfz14_0 := blk_frozen BK137.out 0; have hfz14_1 := blk_frozen BK137.out 1; have hfz14_2 := blk_frozen BK137.out 2; have hfz14_3 := blk_frozen BK137.out 3))
     have n0_ := Aside0.mk (blk_drew BK137.out)
     have n1_ := Aside0.mk (below_drew1 HB.out)
     clear BK137
     clear HB
     have BK137 := n0_
     have HB := n1_
     clear n0_ n1_
     refine start_ (n := 9) (S := fun w' => w'.cell? ⟨gb137, 0, none⟩ = some (.int .i64 a0_0) ∧ w'.cell? ⟨gb137, 1, none⟩ = some (.int .i64 a0_1) ∧ w'.cell? ⟨gb137, 2, none⟩ = some (.string a0_2) ∧ w'.cell? ⟨gb137, 3, none⟩ = some (.slice A0_3 l0_3.length c0_3)) (ds := []) #[false, false, false, false, false, false, false, false, false] (by kernel_rfl) rfl rfl ⟨(blk_cell BK137.out 0).trans rfl, (blk_cell BK137.out 1).trans rfl, (blk_cell BK137.out 2).trans rfl, (blk_cell BK137.out 3).trans rfl⟩ (fun hHeld => ?_); refine with_tabW ploverref02_bytes.tab5 ploverref02_bytes.bits5 (fun HT_ HW_ => ?_)
     generalize w13.drew = w15 at BK137 HB hHeld ⊢
     refine pure_ (i := 0) (N := some 16) (v := ?_) (a' := ?_) #[true, false, false, false, false, false, false, false, false] rfl rfl (any_of HT_.out (by kernel_rfl)) (fun _ _ _ h => h) (Or.inl ⟨by rfl, ?_⟩) ?_ ?_
     rotate_left
     ·
      intro w'
      go_simp
      with_reducible rfl
     rotate_left
     ·
      simp only [Act.put, List.setIfInBounds_toArray, List.set_cons_zero, List.set_cons_succ, i64_w, i32_w]
      rfl
     refine pure_ (i := 5) (N := some 21) (v := ?_) (a' := ?_) #[true, false, false, false, false, true, false, false, false] rfl rfl (any_of HT_.out (by kernel_rfl)) (fun _ _ _ h => h) (Or.inl ⟨by rfl, ?_⟩) ?_ ?_
     rotate_left
     ·
      intro w'
      go_simp
      with_reducible rfl
     rotate_left
     ·
      simp only [Act.put, List.setIfInBounds_toArray, List.set_cons_zero, List.set_cons_succ, i64_w, i32_w]
      rfl
     refine take_ (i := 1) (N := some 17) (v := ?_) (a' := ?_) #[true, true, false, false, false, true, false, false, false] rfl rfl (take_ofW HT_.out HW_.out (by kernel_rfl)) (fun _ _ _ h => h) (Or.inl ⟨by rfl, ?_⟩) hHeld ?_ ?_
     rotate_left
     ·
      rintro w' ⟨s0, s1, s2, s3⟩
      go_simp
      with_reducible rfl
     rotate_left
     ·
      simp only [Act.put, List.setIfInBounds_toArray, List.set_cons_zero, List.set_cons_succ, i64_w, i32_w]
      rfl
     refine pure_ (i := 2) (N := some 18) (v := ?_) (a' := ?_) #[true, true, true, false, false, true, false, false, false] rfl rfl (any_of HT_.out (by kernel_rfl)) (fun _ _ _ h => h) (Or.inl ⟨by rfl, ?_⟩) ?_ ?_
     rotate_left
     ·
      intro w'
      go_simp
      with_reducible rfl
     rotate_left
     ·
      simp only [Act.put, List.setIfInBounds_toArray, List.set_cons_zero, List.set_cons_succ, i64_w, i32_w]
      rfl
     refine take_ (i := 6) (N := some 22) (v := ?_) (a' := ?_) #[true, true, true, false, false, true, true, false, false] rfl rfl (take_ofW HT_.out HW_.out (by kernel_rfl)) (fun _ _ _ h => h) (Or.inl ⟨by rfl, ?_⟩) hHeld ?_ ?_
     rotate_left
     ·
      rintro w' ⟨s0, s1, s2, s3⟩
      go_simp
      with_reducible rfl
     rotate_left
     ·
      simp only [Act.put, List.setIfInBounds_toArray, List.set_cons_zero, List.set_cons_succ, i64_w, i32_w]
      rfl
     refine one_ (i := 3) (N := some 19) #[true, true, true, true, false, true, true, false, false] rfl rfl (one_of HT_.out (by kernel_rfl)) (by decide) (fun K hK => ?_)
     refine goes_ Tryd.func57 (by kernel_rfl) rfl #[.int .i64 (a0_2.size : Int)] (by rfl) rfl rfl (by (try simp only [List.map_toArray, List.map_cons, List.map_nil]); first | done | rfl | (simp only [List.length_drop, List.length_take]; rfl)) ?_
     with_reducible refine (ploverref02_digits.calls k (a0_2.size : Int) t139 _ A10.out).mono ?_
     rintro e w16 ⟨rfl, hb⟩
     refine ⟨_, rfl, ?_⟩
     have n0_ := Aside0.mk (blk_below (g := gb137) (o := .cells #[.int .i64 a0_0, .int .i64 a0_1, .string a0_2, .slice A0_3 l0_3.length c0_3] 49 (0, 0)) (by (with_reducible repeat (first | refine blk_drewN ?_ _ | refine blk_drew ?_ | refine blk_alloc ?_ _)); exact BK137.out) hb)
     have n1_ := Aside0.mk (below_step (by repeat (first | (with_reducible first | exact HB.out | apply below_alloc | apply pw_below_drewN | apply below_drew1 | refine below_set ?_ GE137.out) | exact HB.out)) hb)
     clear BK137
     clear HB
     have BK137 := n0_
     have HB := n1_
     clear n0_ n1_
     (try clear hb)
     (try clear hb2)
     (try clear hk)
     (try clear hi)
     refine hK.out _ _ ⟨(blk_cell BK137.out 0).trans rfl, (blk_cell BK137.out 1).trans rfl, (blk_cell BK137.out 2).trans rfl, (blk_cell BK137.out 3).trans rfl⟩ (fun hHeld => ?_)
     clear hK K
     refine norm_ (a' := ?_) ?_ ?_
     rotate_left
     ·
      show Act.put _ (some 19) _ = _
      simp only [Act.put, List.setIfInBounds_toArray, List.set_cons_zero, List.set_cons_succ, i64_w, i32_w]
      rfl
     refine pure_ (i := 4) (N := some 20) (v := ?_) (a' := ?_) #[true, true, true, true, true, true, true, false, false] rfl rfl (any_of HT_.out (by kernel_rfl)) (fun _ _ _ h => h) (Or.inl ⟨by rfl, ?_⟩) ?_ ?_
     rotate_left
     ·
      intro w'
      go_simp
      with_reducible rfl
     rotate_left
     ·
      simp only [Act.put, List.setIfInBounds_toArray, List.set_cons_zero, List.set_cons_succ, i64_w, i32_w]
      rfl
     refine pure_ (i := 7) (N := some 23) (v := ?_) (a' := ?_) #[true, true, true, true, true, true, true, true, false] rfl rfl (any_of HT_.out (by kernel_rfl)) (fun _ _ _ h => h) (Or.inl ⟨by rfl, ?_⟩) ?_ ?_
     rotate_left
     ·
      intro w'
      go_simp
      with_reducible rfl
     rotate_left
     ·
      simp only [Act.put, List.setIfInBounds_toArray, List.set_cons_zero, List.set_cons_succ, i64_w, i32_w]
      rfl
     refine pure_ (i := 8) (N := some 2) (v := ?_) (a' := ?_) #[true, true, true, true, true, true, true, true, true] rfl rfl (any_of HT_.out (by kernel_rfl)) (fun _ _ _ h => h) (Or.inl ⟨by rfl, ?_⟩) ?_ ?_
     rotate_left
     ·
      intro w'
      go_simp
      with_reducible rfl
     rotate_left
     ·
      simp only [Act.put, List.setIfInBounds_toArray, List.set_cons_zero, List.set_cons_succ, i64_w, i32_w]
      rfl
     refine done_ (done_of HT_.out (by kernel_rfl)) ?_
     try go_wp2
     go_ret
     exact ⟨by first | rfl | (simp [errW_none, errW_some] <;> rfl) | (simp [*, errW_none, errW_some] <;> rfl), by repeat (first | (with_reducible first | exact HB.out | apply below_alloc | apply pw_below_drewN | apply below_drew1 | refine below_set ?_ GE137.out) | exact HB.out)⟩
    ·
     rw [if_neg c12] at H
     exact absurd H (by simp)
   ·
    rw [if_neg c11] at H
    exact absurd H (by simp)
  ·
   rw [if_neg c9] at H
   have c9b0 : (a0_0 == 2) = false := beq_eq_false_iff_ne.mpr c9
   have c9b1 : (a0_0 != 2) = true := bne_iff_ne.mpr c9
   obtain ⟨y140, hy140⟩ : ∃ y_ : List Int, y_ = (([108] : List Int)) := ⟨_, rfl⟩
   replace H : (ploverref02_bytes.l0 k y140 0 a0_0 a0_1 a0_2 l0_3) = some r := by first | (rw [hy140]; with_reducible exact H) | (have H2_ := (Option.bind_some _ _).symm.trans H; rw [hy140]; with_reducible exact H2_) | (have H2_ := (Option.bind_some _ _).symm.trans H; with_reducible exact H2_) | with_reducible exact H | (rw [hy140]; exact H) | exact H
   have Ny140 := Aside0.mk hy140
   clear hy140
   have H' := Aside0.mk H
   clear H
   go_enter Tryd.func43, Tryd.ntmps43
   go_wp2_with (first | ((with_reducible refine gate_dst (N := 1) rfl ?_); (try (refine gate_guard (by rfl) ?_; dsimp only)); refine box_event ?hg (N := 1) ?hd (cs := #[.int .i64 a0_0, .int .i64 a0_1, .string a0_2, .slice A0_3 l0_3.length c0_3]) (t := 49) ?hr ?_; (case hd => rfl); (case hg => rfl); (case hr => first | (go_simp; done) | (go_simp; rfl)); intro gb137 hg w17 hbox hb; have n0_ := Aside0.mk (below_step (by repeat (first | (with_reducible first | exact HB.out | apply below_alloc | apply pw_below_drewN | apply below_drew1) | exact HB.out)) hb); have n1_ := Aside0.mk (hbox); have n2_ := Aside0.mk ((by rw [hg]; exact (below_size (by repeat (first | (with_reducible first | exact HB.out | apply below_alloc | apply pw_below_drewN | apply below_drew1) | exact HB.out))) : w.heap.size ≤ gb137)); have n3_ := Aside0.mk ((by rw [hg]; exact (below_size (by repeat (first | (with_reducible first | exact HB.out | apply below_alloc | apply pw_below_drewN | apply below_drew1) | exact HB.out))) : w.heap.size ≤ gb137)); clear HB; have HB := n0_; have BK137 := n1_; have GW137 := n2_; have GE137 := n3_; clear n0_ n1_ n2_ n3_; clear hb hbox hg; have hcz18_0 : w17.cell? ⟨gb137, 0, none⟩ = some (.int .i64 a0_0) := (blk_cell BK137.out 0).trans rfl; have hcz18_1 : w17.cell? ⟨gb137, 1, none⟩ = some (.int .i64 a0_1) := (blk_cell BK137.out 1).trans rfl; have hcz18_2 : w17.cell? ⟨gb137, 2, none⟩ = some (.string a0_2) := (blk_cell BK137.out 2).trans rfl; have hcz18_3 : w17.cell? ⟨gb137, 3, none⟩ = some (.slice A0_3 l0_3.length c0_3) := (blk_cell BK137.out 3).trans rfl; have hfz18_0 := blk_frozen BK137.out 0; have hfz18_1 := blk_frozen BK137.out 1; have hfz18_2 := blk_frozen BK137.out 2; have hfz18_3 := blk_frozen BK137.out 3) | ((with_reducible refine gate_dst (N := 24) rfl ?_); (try (refine gate_guard (by rfl) ?_; dsimp only)); refine Kd.R_lit (Kd.int .u8) _ 5 ?hg (N := 24) ?hd (xs := ([108] : List Int)) (inner := [.int .u8 108]) (ok := fun _ => True) (okp := fun _ => True) ?hr ?hp (fun _ hk => hk) trivial (Below.refl _ _) (Nat.le_refl _) (by simp) ?_; (case hd => rfl); (case hg => rfl); (case hr => first | (go_simp; done) | (go_simp; rfl)); (case hp => exact (Reps.one (show Kd.M (Kd.int .u8) _ _ _ 108 [.int .u8 108] from rfl) (Reps.none _ _))); intro v141 w19 ho20 hb hg_ hnew_; clear hg_ hnew_; (first | rw [← Ny140.out] at ho20 | (simp only [Int.reduceToNat] at ho20; rw [← Ny140.out] at ho20)); have n0_ := Aside0.mk (Kd.R_lower ho20 (below_size (by repeat (first | (with_reducible first | exact HB.out | apply below_alloc | apply pw_below_drewN | apply below_drew1 | refine below_set ?_ GE137.out) | exact HB.out)))); have n1_ := Aside0.mk (blk_below (g := gb137) (o := .cells #[.int .i64 a0_0, .int .i64 a0_1, .string a0_2, .slice A0_3 l0_3.length c0_3] 49 (0, 0)) (by (with_reducible repeat (first | refine blk_drewN ?_ _ | refine blk_drew ?_ | refine blk_alloc ?_ _)); exact BK137.out) hb); have n2_ := Aside0.mk (below_step (by repeat (first | (with_reducible first | exact HB.out | apply below_alloc | apply pw_below_drewN | apply below_drew1 | refine below_set ?_ GE137.out) | exact HB.out)) hb); clear BK137; clear HB; have HO142 := n0_; have BK137 := n1_; have HB := n2_; clear n0_ n1_ n2_; clear hb ho20))
   go_loopg [3, 4] k (fun kq v3 v4 w' => ∃ (x3_1 : List Int) (x4_1 : Int), v4 = .int .i64 x4_1 ∧ Aside0 (ploverref02_bytes.l0 kq x3_1 x4_1 a0_0 a0_1 a0_2 l0_3 = some r) ∧ Aside0 (kq ≤ k) ∧ Aside0 (Kd.R (Kd.int .u8) 5 w' w.heap.size (fun _ => True) v3 x3_1) ∧ Aside0 (w'.heap[gb137]? = some (.cells #[.int .i64 a0_0, .int .i64 a0_1, .string a0_2, (.slice A0_3 l0_3.length c0_3)] 49 (0, 0))) ∧ Aside0 (Below w.heap.size w w'))
   case atStart => exact ⟨(y140), (0), (by first | rfl | (simp; done) | (simp [*]; done)), H', ⟨Nat.le_refl _⟩, ⟨by (with_reducible repeat (first | apply Kd.R_alloc | apply Kd.R_drewN | apply Kd.R_drew)); exact HO142.out⟩, ⟨by (with_reducible repeat (first | refine blk_drewN ?_ _ | refine blk_drew ?_ | refine blk_alloc ?_ _)); exact BK137.out⟩, ⟨by repeat (first | (with_reducible first | exact HB.out | apply below_alloc | apply pw_below_drewN | apply below_drew1 | refine below_set ?_ GE137.out) | exact HB.out)⟩⟩
   case round =>
    clear H'
    try clear c1
    try clear c2
    try clear c2b0
    try clear c2b1
    try clear p2
    try clear c4
    try clear c4b0
    try clear c4b1
    try clear c4b2
    try clear c5
    try clear c5b0
    try clear c5b1
    try clear c5b2
    try clear c9
    try clear c9b0
    try clear c9b1
    try clear c11
    try clear c11b0
    try clear c11b1
    try clear c11b2
    try clear c12
    try clear c12b0
    try clear c12b1
    try clear c12b2
    try clear hcz14_0
    try clear hcz14_1
    try clear hcz14_2
    try clear hcz14_3
    try clear hcz18_0
    try clear hcz18_1
    try clear hcz18_2
    try clear hcz18_3
    try clear hcz7_0
    try clear hcz7_1
    try clear hcz7_2
    try clear hcz7_3
    try clear hfz14_0
    try clear hfz14_1
    try clear hfz14_2
    try clear hfz14_3
    try clear hfz18_0
    try clear hfz18_1
    try clear hfz18_2
    try clear hfz18_3
    try clear hfz7_0
    try clear hfz7_1
    try clear hfz7_2
    try clear hfz7_3
    obtain ⟨x3_1, x4_1, rfl, HA, HK1, HO_3, BK137, HB⟩ := hrel
    cases gk with
    | zero => exact absurd HA.out (by simp [ploverref02_bytes.l0])
    | succ k1 =>
     have H := HA.out
     clear HA
     simp only [ploverref02_bytes.l0] at H
     by_cases c21 : x4_1 < (l0_3.length : Int)
     ·
      rw [if_pos c21] at H
      have c21b0 : decide (x4_1 < (l0_3.length : Int)) = true := decide_eq_true c21
      clear c21
      by_cases c22 : (x3_1.length : Int) ≤ 65536
      ·
       rw [if_pos c22] at H
       have c22b0 : decide ((x3_1.length : Int) ≤ 65536) = true := decide_eq_true c22
       have c22b1 : decide (x3_1.length ≤ 65536) = true := decide_eq_true (by omega)
       clear c22
       by_cases c23 : 0 ≤ x4_1
       ·
        rw [if_pos c23] at H
        have c23b0 : decide (0 ≤ x4_1) = true := decide_eq_true c23
        clear c23
        replace H := Option.bind_eq_some_iff.mp H
        obtain ⟨t144, A240, H⟩ := H
        replace H : (if x3_1.length + t144.size < 140737488355328 then (ploverref02_bytes.l0 k1 (x3_1 ++ bytesOf t144) (wrap64 (x4_1 + 1)) a0_0 a0_1 a0_2 l0_3) else (none)) = some r := H
        have A24 := Aside0.mk A240
        clear A240
        by_cases c25 : x3_1.length + t144.size < 140737488355328
        ·
         rw [if_pos c25] at H
         have LMc25 := Aside0.mk c25
         clear c25
         obtain ⟨y145, hy145⟩ : ∃ y_ : List Int, y_ = (x3_1 ++ bytesOf t144) := ⟨_, rfl⟩
         replace H : (ploverref02_bytes.l0 k1 y145 (wrap64 (x4_1 + 1)) a0_0 a0_1 a0_2 l0_3) = some r := by first | (rw [hy145]; with_reducible exact H) | (have H2_ := (Option.bind_some _ _).symm.trans H; rw [hy145]; with_reducible exact H2_) | (have H2_ := (Option.bind_some _ _).symm.trans H; with_reducible exact H2_) | with_reducible exact H | (rw [hy145]; exact H) | exact H
         have Ny145 := Aside0.mk hy145
         clear hy145
         have H' := Aside0.mk H
         clear H
         have hcz26_0 : wr.cell? ⟨gb137, 0, none⟩ = some (.int .i64 a0_0) := (blk_cell BK137.out 0).trans rfl
         have hcz26_1 : wr.cell? ⟨gb137, 1, none⟩ = some (.int .i64 a0_1) := (blk_cell BK137.out 1).trans rfl
         have hcz26_2 : wr.cell? ⟨gb137, 2, none⟩ = some (.string a0_2) := (blk_cell BK137.out 2).trans rfl
         have hcz26_3 : wr.cell? ⟨gb137, 3, none⟩ = some (.slice A0_3 l0_3.length c0_3) := (blk_cell BK137.out 3).trans rfl
         have hfz26_0 := blk_frozen BK137.out 0
         have hfz26_1 := blk_frozen BK137.out 1
         have hfz26_2 := blk_frozen BK137.out 2
         have hfz26_3 := blk_frozen BK137.out 3
         obtain ⟨Ao27, co27, eo27⟩ := Kd.R_slice HO_3.out
         subst eo27
         have p143 : 0 ≤ (x4_1 : Int) := of_decide_eq_true (by first | (with_reducible assumption) | assumption)
         have q143 : x4_1 < (l0_3.length : Int) := of_decide_eq_true (by first | (with_reducible assumption) | assumption)
         obtain ⟨ad143, A143_3, c143_3, e143, hx143_0, hx143_1, hx143_2, hx143_3, hl143_3, hi143_3⟩ := at_T49 HR0_3.out x4_1 p143 q143
         cases e143
         replace hx143_0 := (HB.out.cell (World.block_lt_of_cell? w _ hx143_0)).trans hx143_0
         replace hx143_1 := (HB.out.cell (World.block_lt_of_cell? w _ hx143_1)).trans hx143_1
         replace hx143_2 := (HB.out.cell (World.block_lt_of_cell? w _ hx143_2)).trans hx143_2
         replace hx143_3 := (HB.out.cell (World.block_lt_of_cell? w _ hx143_3)).trans hx143_3
         have HR143_3 := Aside0.mk hi143_3
         have HC143_3 := Aside0.mk hl143_3
         clear hi143_3 hl143_3
         replace p143 := eq_true p143
         replace q143 := eq_true q143
         go_wp2_with (first | ((with_reducible refine gate_callee (f := 43) rfl ?_); refine goesL_ (some 43) rfl rfl Tryd.func43 (by kernel_rfl) rfl #[.agg #[.int .i64 ((rd_T49 l0_3 x4_1).f0), .int .i64 ((rd_T49 l0_3 x4_1).f1), .string ((rd_T49 l0_3 x4_1).f2), .slice A143_3 ((rd_T49 l0_3 x4_1).f3).length c143_3]] rfl (by (try simp only [List.map_toArray, List.map_cons, List.map_nil]); first | done | rfl | (simp only [List.length_drop, List.length_take]; rfl)) ?_; (with_reducible refine (ih k1 (by have := HK1.out; omega) ((rd_T49 l0_3 x4_1).f0) ((rd_T49 l0_3 x4_1).f1) ((rd_T49 l0_3 x4_1).f2) _ _ ((rd_T49 l0_3 x4_1).f3) t144 _ ?side1 ?side2 A24.out).mono ?_); (case side1 => repeat (first | exact (Kd.C_below HR143_3.out HB.out) | (with_reducible refine Kd.C_alloc ?_ _) | (with_reducible refine Kd.C_drewN ?_ _) | (with_reducible refine Kd.C_drew ?_))); (case side2 => exact HC143_3.out); rintro e w28 ⟨rfl, hb⟩; refine ⟨_, rfl, ?_⟩; have n0_ := Aside0.mk (Kd.R_below (by (with_reducible repeat (first | apply Kd.R_alloc | apply Kd.R_drewN | apply Kd.R_drew)); exact HO_3.out) hb); have n1_ := Aside0.mk (blk_below (g := gb137) (o := .cells #[.int .i64 a0_0, .int .i64 a0_1, .string a0_2, .slice (some ad143) l0_3.length c0_3] 49 (0, 0)) (by (with_reducible repeat (first | refine blk_drewN ?_ _ | refine blk_drew ?_ | refine blk_alloc ?_ _)); exact BK137.out) hb); have n2_ := Aside0.mk (below_step (by repeat (first | (with_reducible first | exact HB.out | apply below_alloc | apply pw_below_drewN | apply below_drew1 | refine below_set ?_ GE137.out) | exact HB.out)) hb); clear HO_3; clear BK137; clear HB; have HO_3 := n0_; have BK137 := n1_; have HB := n2_; clear n0_ n1_ n2_; (try clear hb); (try clear hb2); (try clear hk); (try clear hi)) | (at_builtin; refine print_append_str (w0 := w) w.heap.size rfl (.tmp 37) _ 39 9 5 rfl Tryd.underlying39 Tryd.underlying9 info5 (.slice Ao27 x3_1.length co27) x3_1 t144 rfl rfl ?aO ?aB ?aS ?aL ?_; (case aB => exact (by repeat (first | (with_reducible first | exact HB.out | apply below_alloc | apply pw_below_drewN | apply below_drew1 | refine below_set ?_ GE137.out) | exact HB.out))); (case aO => exact (Kd.own_of_R (by (with_reducible repeat (first | apply Kd.R_alloc | apply Kd.R_drewN | apply Kd.R_drew)); exact HO_3.out))); (case aS => exact (below_size (by repeat (first | (with_reducible first | exact HB.out | apply below_alloc | apply pw_below_drewN | apply below_drew1 | refine below_set ?_ GE137.out) | exact HB.out)))); (case aL => have := LMc25.out; omega); intro v146 w29 ho0 hb hg; have ho := Kd.R_of_own (h1 := fun _ => rfl) (ok := fun _ => True) ho0 (fun _ _ => trivial); clear ho0; have hat := True.intro; rw [← Ny145.out] at ho; change Kd.R (Kd.int .u8) 5 w29 w.heap.size (fun _ => True) v146 y145 at ho; have n0_ := Aside0.mk (blk_grown (g := gb137) (o := .cells #[.int .i64 a0_0, .int .i64 a0_1, .string a0_2, .slice (some ad143) l0_3.length c0_3] 49 (0, 0)) (by (with_reducible repeat (first | refine blk_drewN ?_ _ | refine blk_drew ?_ | refine blk_alloc ?_ _)); exact BK137.out) hg (Kd.R_ne HO_3.out BK137.out (by decide))); have n1_ := Aside0.mk (hb); have n2_ := Aside0.mk (ho); clear BK137; clear HB; clear HO_3; have BK137 := n0_; have HB := n1_; have HO147 := n2_; clear n0_ n1_ n2_; clear ho hb hg hat))
         go_roundg k1
         case measure => have := HK1.out; omega
         case rel => exact ⟨(y145), (wrap64 (x4_1 + 1)), (by first | rfl | (simp; done) | (simp [*]; done)), H', ⟨by have := HK1.out; omega⟩, ⟨by (with_reducible repeat (first | apply Kd.R_alloc | apply Kd.R_drewN | apply Kd.R_drew)); exact HO147.out⟩, ⟨by (with_reducible repeat (first | refine blk_drewN ?_ _ | refine blk_drew ?_ | refine blk_alloc ?_ _)); exact BK137.out⟩, ⟨by repeat (first | (with_reducible first | exact HB.out | apply below_alloc | apply pw_below_drewN | apply below_drew1 | refine below_set ?_ GE137.out) | exact HB.out)⟩⟩
        ·
         rw [if_neg c25] at H
         exact absurd H (by simp)
       ·
        rw [if_neg c23] at H
        exact absurd H (by simp)
      ·
       rw [if_neg c22] at H
       have c22b0 : decide ((x3_1.length : Int) ≤ 65536) = false := decide_eq_false c22
       have c22b1 : decide (x3_1.length ≤ 65536) = false := decide_eq_false (by omega)
       clear c22
       by_cases c30 : x3_1.length < 140737488355328
       ·
        rw [if_pos c30] at H
        have LMc30 := Aside0.mk c30
        clear c30
        obtain ⟨y148, hy148⟩ : ∃ y_ : List Int, y_ = (x3_1 ++ [101]) := ⟨_, rfl⟩
        replace H : (some (strOfNums y148)) = some r := by first | (rw [hy148]; with_reducible exact H) | (have H2_ := (Option.bind_some _ _).symm.trans H; rw [hy148]; with_reducible exact H2_) | (have H2_ := (Option.bind_some _ _).symm.trans H; with_reducible exact H2_) | with_reducible exact H | (rw [hy148]; exact H) | exact H
        have Ny148 := Aside0.mk hy148
        clear hy148
        obtain rfl := Option.some.inj H
        have hcz31_0 : wr.cell? ⟨gb137, 0, none⟩ = some (.int .i64 a0_0) := (blk_cell BK137.out 0).trans rfl
        have hcz31_1 : wr.cell? ⟨gb137, 1, none⟩ = some (.int .i64 a0_1) := (blk_cell BK137.out 1).trans rfl
        have hcz31_2 : wr.cell? ⟨gb137, 2, none⟩ = some (.string a0_2) := (blk_cell BK137.out 2).trans rfl
        have hcz31_3 : wr.cell? ⟨gb137, 3, none⟩ = some (.slice A0_3 l0_3.length c0_3) := (blk_cell BK137.out 3).trans rfl
        have hfz31_0 := blk_frozen BK137.out 0
        have hfz31_1 := blk_frozen BK137.out 1
        have hfz31_2 := blk_frozen BK137.out 2
        have hfz31_3 := blk_frozen BK137.out 3
        obtain ⟨Ao32, co32, eo32⟩ := Kd.R_slice HO_3.out
        subst eo32
        go_wp2_with (first | ((with_reducible refine gate_builtin (b := .append) (xs := #[.tmp 45, .tmp 46]) rfl ?_); (try (refine gate_guard (by rfl) ?_; dsimp only)); at_builtin; refine Kd.R_append (Kd.int .u8) (w0 := w) w.heap.size rfl (.tmp 45) (.tmp 46) 39 5 (.int .u8 0) 1 rfl Tryd.underlying39 info5 rfl (by decide) (by omega) (.slice Ao32 x3_1.length co32) x3_1 101 [.int .u8 101] (fun _ => True) (fun _ => False) rfl rfl ?aP (fun _ hk => hk.elim) ?aF ?aO ?aB ?aS ?aL ?_; (case aP => exact rfl); (case aB => exact (by repeat (first | (with_reducible first | exact HB.out | apply below_alloc | apply pw_below_drewN | apply below_drew1 | refine below_set ?_ GE137.out) | exact HB.out))); (case aF => exact (fun _ _ => trivial)); (case aO => exact (by (with_reducible repeat (first | apply Kd.R_alloc | apply Kd.R_drewN | apply Kd.R_drew)); exact HO_3.out)); (case aS => exact (below_size (by repeat (first | (with_reducible first | exact HB.out | apply below_alloc | apply pw_below_drewN | apply below_drew1 | refine below_set ?_ GE137.out) | exact HB.out)))); (case aL => have := LMc30.out; omega); intro v149 w33 ho hb hg hat; rw [← Ny148.out] at ho; have n0_ := Aside0.mk (blk_grown (g := gb137) (o := .cells #[.int .i64 a0_0, .int .i64 a0_1, .string a0_2, .slice A0_3 l0_3.length c0_3] 49 (0, 0)) (by (with_reducible repeat (first | refine blk_drewN ?_ _ | refine blk_drew ?_ | refine blk_alloc ?_ _)); exact BK137.out) hg (Kd.R_ne HO_3.out BK137.out (by decide))); have n1_ := Aside0.mk (hb); have n2_ := Aside0.mk (ho); clear BK137; clear HB; clear HO_3; have BK137 := n0_; have HB := n1_; have HO150 := n2_; clear n0_ n1_ n2_; clear ho hb hg hat; have hcv34 := own_string (P := Tryd.prog) Tryd.underlying39 Tryd.underlying5 Tryd.underlying9 (Kd.own_of_R HO150.out)))
        go_ret
        exact ⟨by first | rfl | (simp [errW_none, errW_some] <;> rfl) | (simp [*, errW_none, errW_some] <;> rfl), by repeat (first | (with_reducible first | exact HB.out | apply below_alloc | apply pw_below_drewN | apply below_drew1 | refine below_set ?_ GE137.out) | exact HB.out)⟩
       ·
        rw [if_neg c30] at H
        exact absurd H (by simp)
     ·
      rw [if_neg c21] at H
      have c21b0 : decide (x4_1 < (l0_3.length : Int)) = false := decide_eq_false c21
      clear c21
      by_cases c35 : x3_1.length < 140737488355328
      ·
       rw [if_pos c35] at H
       have LMc35 := Aside0.mk c35
       clear c35
       obtain ⟨y151, hy151⟩ : ∃ y_ : List Int, y_ = (x3_1 ++ [101]) := ⟨_, rfl⟩
       replace H : (some (strOfNums y151)) = some r := by first | (rw [hy151]; with_reducible exact H) | (have H2_ := (Option.bind_some _ _).symm.trans H; rw [hy151]; with_reducible exact H2_) | (have H2_ := (Option.bind_some _ _).symm.trans H; with_reducible exact H2_) | with_reducible exact H | (rw [hy151]; exact H) | exact H
       have Ny151 := Aside0.mk hy151
       clear hy151
       obtain rfl := Option.some.inj H
       have hcz36_0 : wr.cell? ⟨gb137, 0, none⟩ = some (.int .i64 a0_0) := (blk_cell BK137.out 0).trans rfl
       have hcz36_1 : wr.cell? ⟨gb137, 1, none⟩ = some (.int .i64 a0_1) := (blk_cell BK137.out 1).trans rfl
       have hcz36_2 : wr.cell? ⟨gb137, 2, none⟩ = some (.string a0_2) := (blk_cell BK137.out 2).trans rfl
       have hcz36_3 : wr.cell? ⟨gb137, 3, none⟩ = some (.slice A0_3 l0_3.length c0_3) := (blk_cell BK137.out 3).trans rfl
       have hfz36_0 := blk_frozen BK137.out 0
       have hfz36_1 := blk_frozen BK137.out 1
       have hfz36_2 := blk_frozen BK137.out 2
       have hfz36_3 := blk_frozen BK137.out 3
       go_wp2_with (first | ((with_reducible refine gate_builtin (b := .append) (xs := #[.tmp 45, .tmp 46]) rfl ?_); (try (refine gate_guard (by rfl) ?_; dsimp only)); at_builtin; refine Kd.R_append (Kd.int .u8) (w0 := w) w.heap.size rfl (.tmp 45) (.tmp 46) 39 5 (.int .u8 0) 1 rfl Tryd.underlying39 info5 rfl (by decide) (by omega) u3 x3_1 101 [.int .u8 101] (fun _ => True) (fun _ => False) rfl rfl ?aP (fun _ hk => hk.elim) ?aF ?aO ?aB ?aS ?aL ?_; (case aP => exact rfl); (case aB => exact (by repeat (first | (with_reducible first | exact HB.out | apply below_alloc | apply pw_below_drewN | apply below_drew1 | refine below_set ?_ GE137.out) | exact HB.out))); (case aF => exact (fun _ _ => trivial)); (case aO => exact (by (with_reducible repeat (first | apply Kd.R_alloc | apply Kd.R_drewN | apply Kd.R_drew)); exact HO_3.out)); (case aS => exact (below_size (by repeat (first | (with_reducible first | exact HB.out | apply below_alloc | apply pw_below_drewN | apply below_drew1 | refine below_set ?_ GE137.out) | exact HB.out)))); (case aL => have := LMc35.out; omega); intro v152 w37 ho hb hg hat; rw [← Ny151.out] at ho; have n0_ := Aside0.mk (blk_grown (g := gb137) (o := .cells #[.int .i64 a0_0, .int .i64 a0_1, .string a0_2, .slice A0_3 l0_3.length c0_3] 49 (0, 0)) (by (with_reducible repeat (first | refine blk_drewN ?_ _ | refine blk_drew ?_ | refine blk_alloc ?_ _)); exact BK137.out) hg (Kd.R_ne HO_3.out BK137.out (by decide))); have n1_ := Aside0.mk (hb); have n2_ := Aside0.mk (ho); clear BK137; clear HB; clear HO_3; have BK137 := n0_; have HB := n1_; have HO153 := n2_; clear n0_ n1_ n2_; clear ho hb hg hat; have hcv38 := own_string (P := Tryd.prog) Tryd.underlying39 Tryd.underlying5 Tryd.underlying9 (Kd.own_of_R HO153.out)))
       go_ret
       exact ⟨by first | rfl | (simp [errW_none, errW_some] <;> rfl) | (simp [*, errW_none, errW_some] <;> rfl), by repeat (first | (with_reducible first | exact HB.out | apply below_alloc | apply pw_below_drewN | apply below_drew1 | refine below_set ?_ GE137.out) | exact HB.out)⟩
      ·
       rw [if_neg c35] at H
       exact absurd H (by simp)
def ploverref02_Put.f (k : Nat) (a0_0 : Int) (a0_1 : Int) (a0_2 : ByteArray) (l0_3 : List (S49)) : Option (ByteArray × Int) := (ploverref02_kinds.f k a0_0 a0_1 a0_2 l0_3).bind fun t155 => (if t155 = true then ((ploverref02_deep.f k a0_0 a0_1 a0_2 l0_3).bind fun t156 => (if t156 > 8 then (some ((⟨#[]⟩ : ByteArray), 22)) else ((ploverref02_bytes.f k a0_0 a0_1 a0_2 l0_3).bind fun t157 => (if (t157.size : Int) > 65536 then (some ((⟨#[]⟩ : ByteArray), 23)) else (some (t157, 0)))))) else (some ((⟨#[]⟩ : ByteArray), 1)))
set_option maxHeartbeats 8000000 in
set_option maxRecDepth 100000 in
theorem ploverref02_Put.calls (k : Nat) (a0_0 : Int) (a0_1 : Int) (a0_2 : ByteArray) (A0_3 : Option Addr) (c0_3 : Nat) (l0_3 : List (S49)) (r1 : ByteArray) (r2 : Int) (w : World) (hr0_3 : Kd.C k49 w A0_3 l0_3.length l0_3) (hc0_3 : l0_3.length ≤ c0_3) (h : ploverref02_Put.f k a0_0 a0_1 a0_2 l0_3 = some (r1, r2)) :
  Calls Tryd.prog 23 #[.agg #[.int .i64 a0_0, .int .i64 a0_1, .string a0_2, .slice A0_3 l0_3.length c0_3]] w fun e w' => e = .returned (.tuple #[.string r1, .int .i64 r2]) ∧ Below w.heap.size w w' := by
 have hu49 := Tryd.underlying49
 have HR0_3 := Aside0.mk hr0_3
 have HC0_3 := Aside0.mk hc0_3
 clear hr0_3 hc0_3
 have HB := Aside0.mk (Below.refl w.heap.size w)
 have H : ((ploverref02_kinds.f k a0_0 a0_1 a0_2 l0_3).bind fun t155 => (if t155 = true then ((ploverref02_deep.f k a0_0 a0_1 a0_2 l0_3).bind fun t156 => (if t156 > 8 then (some ((⟨#[]⟩ : ByteArray), 22)) else ((ploverref02_bytes.f k a0_0 a0_1 a0_2 l0_3).bind fun t157 => (if (t157.size : Int) > 65536 then (some ((⟨#[]⟩ : ByteArray), 23)) else (some (t157, 0)))))) else (some ((⟨#[]⟩ : ByteArray), 1)))) = some (r1, r2) := h
 clear h
 replace H := Option.bind_eq_some_iff.mp H
 obtain ⟨t155, A20, H⟩ := H
 replace H : (if t155 = true then ((ploverref02_deep.f k a0_0 a0_1 a0_2 l0_3).bind fun t156 => (if t156 > 8 then (some ((⟨#[]⟩ : ByteArray), 22)) else ((ploverref02_bytes.f k a0_0 a0_1 a0_2 l0_3).bind fun t157 => (if (t157.size : Int) > 65536 then (some ((⟨#[]⟩ : ByteArray), 23)) else (some (t157, 0)))))) else (some ((⟨#[]⟩ : ByteArray), 1))) = some (r1, r2) := H
 have A2 := Aside0.mk A20
 clear A20
 by_cases c3 : t155 = true
 ·
  subst c3
  have H1 : ((ploverref02_deep.f k a0_0 a0_1 a0_2 l0_3).bind fun t156 => (if t156 > 8 then (some ((⟨#[]⟩ : ByteArray), 22)) else ((ploverref02_bytes.f k a0_0 a0_1 a0_2 l0_3).bind fun t157 => (if (t157.size : Int) > 65536 then (some ((⟨#[]⟩ : ByteArray), 23)) else (some (t157, 0)))))) = some (r1, r2) := by rw [if_pos rfl] at H; exact H
  clear H
  have H := H1
  clear H1
  replace H := Option.bind_eq_some_iff.mp H
  obtain ⟨t156, A40, H⟩ := H
  replace H : (if t156 > 8 then (some ((⟨#[]⟩ : ByteArray), 22)) else ((ploverref02_bytes.f k a0_0 a0_1 a0_2 l0_3).bind fun t157 => (if (t157.size : Int) > 65536 then (some ((⟨#[]⟩ : ByteArray), 23)) else (some (t157, 0))))) = some (r1, r2) := H
  have A4 := Aside0.mk A40
  clear A40
  by_cases c5 : t156 > 8
  ·
   rw [if_pos c5] at H
   have c5b0 : decide (8 < t156) = true := decide_eq_true c5
   clear c5
   simp only [Option.some.injEq, Prod.mk.injEq] at H
   obtain ⟨rfl, rfl⟩ := H
   go_enter Tryd.func23, Tryd.ntmps23
   go_wp2_with (first | ((with_reducible refine gate_dst (N := 1) rfl ?_); refine box_event ?hg (N := 1) ?hd (cs := #[.int .i64 a0_0, .int .i64 a0_1, .string a0_2, .slice A0_3 l0_3.length c0_3]) (t := 49) ?hr ?_; (case hd => rfl); (case hg => rfl); (case hr => first | (go_simp; done) | (go_simp; rfl)); intro gb154 hg w6 hbox hb; have n0_ := Aside0.mk (below_step (by repeat (first | (with_reducible first | exact HB.out | apply below_alloc | apply pw_below_drewN | apply below_drew1) | exact HB.out)) hb); have n1_ := Aside0.mk (hbox); have n2_ := Aside0.mk ((by rw [hg]; exact (below_size (by repeat (first | (with_reducible first | exact HB.out | apply below_alloc | apply pw_below_drewN | apply below_drew1) | exact HB.out))) : w.heap.size ≤ gb154)); have n3_ := Aside0.mk ((by rw [hg]; exact (below_size (by repeat (first | (with_reducible first | exact HB.out | apply below_alloc | apply pw_below_drewN | apply below_drew1) | exact HB.out))) : w.heap.size ≤ gb154)); clear HB; have HB := n0_; have BK154 := n1_; have GW154 := n2_; have GE154 := n3_; clear n0_ n1_ n2_ n3_; clear hb hbox hg; have hcz7_0 : w6.cell? ⟨gb154, 0, none⟩ = some (.int .i64 a0_0) := (blk_cell BK154.out 0).trans rfl; have hcz7_1 : w6.cell? ⟨gb154, 1, none⟩ = some (.int .i64 a0_1) := (blk_cell BK154.out 1).trans rfl; have hcz7_2 : w6.cell? ⟨gb154, 2, none⟩ = some (.string a0_2) := (blk_cell BK154.out 2).trans rfl; have hcz7_3 : w6.cell? ⟨gb154, 3, none⟩ = some (.slice A0_3 l0_3.length c0_3) := (blk_cell BK154.out 3).trans rfl; have hfz7_0 := blk_frozen BK154.out 0; have hfz7_1 := blk_frozen BK154.out 1; have hfz7_2 := blk_frozen BK154.out 2; have hfz7_3 := blk_frozen BK154.out 3) | ((with_reducible refine gate_callee (f := 41) rfl ?_); refine goesL_ (some 6) rfl rfl Tryd.func41 (by kernel_rfl) rfl #[.agg #[.int .i64 a0_0, .int .i64 a0_1, .string a0_2, .slice A0_3 l0_3.length c0_3]] rfl (by (try simp only [List.map_toArray, List.map_cons, List.map_nil]); first | done | rfl | (simp only [List.length_drop, List.length_take]; rfl)) ?_; (with_reducible refine (ploverref02_kinds.calls k a0_0 a0_1 a0_2 _ _ l0_3 true _ ?side1 ?side2 A2.out).mono ?_); (case side1 => repeat (first | exact (Kd.C_below HR0_3.out HB.out) | (with_reducible refine Kd.C_alloc ?_ _) | (with_reducible refine Kd.C_drewN ?_ _) | (with_reducible refine Kd.C_drew ?_))); (case side2 => exact HC0_3.out); rintro e w8 ⟨rfl, hb⟩; refine ⟨_, rfl, ?_⟩; have n0_ := Aside0.mk (blk_below (g := gb154) (o := .cells #[.int .i64 a0_0, .int .i64 a0_1, .string a0_2, .slice A0_3 l0_3.length c0_3] 49 (0, 0)) (by (with_reducible repeat (first | refine blk_drewN ?_ _ | refine blk_drew ?_ | refine blk_alloc ?_ _)); exact BK154.out) hb); have n1_ := Aside0.mk (below_step (by repeat (first | (with_reducible first | exact HB.out | apply below_alloc | apply pw_below_drewN | apply below_drew1 | refine below_set ?_ GE154.out) | exact HB.out)) hb); clear BK154; clear HB; have BK154 := n0_; have HB := n1_; clear n0_ n1_; (try clear hb); (try clear hb2); (try clear hk); (try clear hi); have hcz9_0 : w8.cell? ⟨gb154, 0, none⟩ = some (.int .i64 a0_0) := (blk_cell BK154.out 0).trans rfl; have hcz9_1 : w8.cell? ⟨gb154, 1, none⟩ = some (.int .i64 a0_1) := (blk_cell BK154.out 1).trans rfl; have hcz9_2 : w8.cell? ⟨gb154, 2, none⟩ = some (.string a0_2) := (blk_cell BK154.out 2).trans rfl; have hcz9_3 : w8.cell? ⟨gb154, 3, none⟩ = some (.slice A0_3 l0_3.length c0_3) := (blk_cell BK154.out 3).trans rfl; have hfz9_0 := blk_frozen BK154.out 0; have hfz9_1 := blk_frozen BK154.out 1; have hfz9_2 := blk_frozen BK154.out 2; have hfz9_3 := blk_frozen BK154.out 3) | ((with_reducible refine gate_callee (f := 42) rfl ?_); refine goesL_ (some 9) rfl rfl Tryd.func42 (by kernel_rfl) rfl #[.agg #[.int .i64 a0_0, .int .i64 a0_1, .string a0_2, .slice A0_3 l0_3.length c0_3]] rfl (by (try simp only [List.map_toArray, List.map_cons, List.map_nil]); first | done | rfl | (simp only [List.length_drop, List.length_take]; rfl)) ?_; (with_reducible refine (ploverref02_deep.calls k a0_0 a0_1 a0_2 _ _ l0_3 t156 _ ?side1 ?side2 A4.out).mono ?_); (case side1 => repeat (first | exact (Kd.C_below HR0_3.out HB.out) | (with_reducible refine Kd.C_alloc ?_ _) | (with_reducible refine Kd.C_drewN ?_ _) | (with_reducible refine Kd.C_drew ?_))); (case side2 => exact HC0_3.out); rintro e w10 ⟨rfl, hb⟩; refine ⟨_, rfl, ?_⟩; have n0_ := Aside0.mk (blk_below (g := gb154) (o := .cells #[.int .i64 a0_0, .int .i64 a0_1, .string a0_2, .slice A0_3 l0_3.length c0_3] 49 (0, 0)) (by (with_reducible repeat (first | refine blk_drewN ?_ _ | refine blk_drew ?_ | refine blk_alloc ?_ _)); exact BK154.out) hb); have n1_ := Aside0.mk (below_step (by repeat (first | (with_reducible first | exact HB.out | apply below_alloc | apply pw_below_drewN | apply below_drew1 | refine below_set ?_ GE154.out) | exact HB.out)) hb); clear BK154; clear HB; have BK154 := n0_; have HB := n1_; clear n0_ n1_; (try clear hb); (try clear hb2); (try clear hk); (try clear hi)))
   go_ret2
   exact ⟨by first | rfl | (simp [errW_none, errW_some] <;> rfl) | (simp [*, errW_none, errW_some] <;> rfl), by repeat (first | (with_reducible first | exact HB.out | apply below_alloc | apply pw_below_drewN | apply below_drew1 | refine below_set ?_ GE154.out) | exact HB.out)⟩
  ·
   rw [if_neg c5] at H
   have c5b0 : decide (8 < t156) = false := decide_eq_false c5
   clear c5
   replace H := Option.bind_eq_some_iff.mp H
   obtain ⟨t157, A110, H⟩ := H
   replace H : (if (t157.size : Int) > 65536 then (some ((⟨#[]⟩ : ByteArray), 23)) else (some (t157, 0))) = some (r1, r2) := H
   have A11 := Aside0.mk A110
   clear A110
   by_cases c12 : (t157.size : Int) > 65536
   ·
    rw [if_pos c12] at H
    have c12b0 : decide (65536 < (t157.size : Int)) = true := decide_eq_true c12
    have c12b1 : decide (65536 < t157.size) = true := decide_eq_true (by omega)
    clear c12
    simp only [Option.some.injEq, Prod.mk.injEq] at H
    obtain ⟨rfl, rfl⟩ := H
    go_enter Tryd.func23, Tryd.ntmps23
    go_wp2_with (first | ((with_reducible refine gate_dst (N := 1) rfl ?_); refine box_event ?hg (N := 1) ?hd (cs := #[.int .i64 a0_0, .int .i64 a0_1, .string a0_2, .slice A0_3 l0_3.length c0_3]) (t := 49) ?hr ?_; (case hd => rfl); (case hg => rfl); (case hr => first | (go_simp; done) | (go_simp; rfl)); intro gb154 hg w13 hbox hb; have n0_ := Aside0.mk (below_step (by repeat (first | (with_reducible first | exact HB.out | apply below_alloc | apply pw_below_drewN | apply below_drew1) | exact HB.out)) hb); have n1_ := Aside0.mk (hbox); have n2_ := Aside0.mk ((by rw [hg]; exact (below_size (by repeat (first | (with_reducible first | exact HB.out | apply below_alloc | apply pw_below_drewN | apply below_drew1) | exact HB.out))) : w.heap.size ≤ gb154)); have n3_ := Aside0.mk ((by rw [hg]; exact (below_size (by repeat (first | (with_reducible first | exact HB.out | apply below_alloc | apply pw_below_drewN | apply below_drew1) | exact HB.out))) : w.heap.size ≤ gb154)); clear HB; have HB := n0_; have BK154 := n1_; have GW154 := n2_; have GE154 := n3_; clear n0_ n1_ n2_ n3_; clear hb hbox hg; have hcz14_0 : w13.cell? ⟨gb154, 0, none⟩ = some (.int .i64 a0_0) := (blk_cell BK154.out 0).trans rfl; have hcz14_1 : w13.cell? ⟨gb154, 1, none⟩ = some (.int .i64 a0_1) := (blk_cell BK154.out 1).trans rfl; have hcz14_2 : w13.cell? ⟨gb154, 2, none⟩ = some (.string a0_2) := (blk_cell BK154.out 2).trans rfl; have hcz14_3 : w13.cell? ⟨gb154, 3, none⟩ = some (.slice A0_3 l0_3.length c0_3) := (blk_cell BK154.out 3).trans rfl; have hfz14_0 := blk_frozen BK154.out 0; have hfz14_1 := blk_frozen BK154.out 1; have hfz14_2 := blk_frozen BK154.out 2; have hfz14_3 := blk_frozen BK154.out 3) | ((with_reducible refine gate_callee (f := 41) rfl ?_); refine goesL_ (some 6) rfl rfl Tryd.func41 (by kernel_rfl) rfl #[.agg #[.int .i64 a0_0, .int .i64 a0_1, .string a0_2, .slice A0_3 l0_3.length c0_3]] rfl (by (try simp only [List.map_toArray, List.map_cons, List.map_nil]); first | done | rfl | (simp only [List.length_drop, List.length_take]; rfl)) ?_; (with_reducible refine (ploverref02_kinds.calls k a0_0 a0_1 a0_2 _ _ l0_3 true _ ?side1 ?side2 A2.out).mono ?_); (case side1 => repeat (first | exact (Kd.C_below HR0_3.out HB.out) | (with_reducible refine Kd.C_alloc ?_ _) | (with_reducible refine Kd.C_drewN ?_ _) | (with_reducible refine Kd.C_drew ?_))); (case side2 => exact HC0_3.out); rintro e w15 ⟨rfl, hb⟩; refine ⟨_, rfl, ?_⟩; have n0_ := Aside0.mk (blk_below (g := gb154) (o := .cells #[.int .i64 a0_0, .int .i64 a0_1, .string a0_2, .slice A0_3 l0_3.length c0_3] 49 (0, 0)) (by (with_reducible repeat (first | refine blk_drewN ?_ _ | refine blk_drew ?_ | refine blk_alloc ?_ _)); exact BK154.out) hb); have n1_ := Aside0.mk (below_step (by repeat (first | (with_reducible first | exact HB.out | apply below_alloc | apply pw_below_drewN | apply below_drew1 | refine below_set ?_ GE154.out) | exact HB.out)) hb); clear BK154; clear HB; have BK154 := n0_; have HB := n1_; clear n0_ n1_; (try clear hb); (try clear hb2); (try clear hk); (try clear hi); have hcz16_0 : w15.cell? ⟨gb154, 0, none⟩ = some (.int .i64 a0_0) := (blk_cell BK154.out 0).trans rfl; have hcz16_1 : w15.cell? ⟨gb154, 1, none⟩ = some (.int .i64 a0_1) := (blk_cell BK154.out 1).trans rfl; have hcz16_2 : w15.cell? ⟨gb154, 2, none⟩ = some (.string a0_2) := (blk_cell BK154.out 2).trans rfl; have hcz16_3 : w15.cell? ⟨gb154, 3, none⟩ = some (.slice A0_3 l0_3.length c0_3) := (blk_cell BK154.out 3).trans rfl; have hfz16_0 := blk_frozen BK154.out 0; have hfz16_1 := blk_frozen BK154.out 1; have hfz16_2 := blk_frozen BK154.out 2; have hfz16_3 := blk_frozen BK154.out 3) | ((with_reducible refine gate_callee (f := 42) rfl ?_); refine goesL_ (some 9) rfl rfl Tryd.func42 (by kernel_rfl) rfl #[.agg #[.int .i64 a0_0, .int .i64 a0_1, .string a0_2, .slice A0_3 l0_3.length c0_3]] rfl (by (try simp only [List.map_toArray, List.map_cons, List.map_nil]); first | done | rfl | (simp only [List.length_drop, List.length_take]; rfl)) ?_; (with_reducible refine (ploverref02_deep.calls k a0_0 a0_1 a0_2 _ _ l0_3 t156 _ ?side1 ?side2 A4.out).mono ?_); (case side1 => repeat (first | exact (Kd.C_below HR0_3.out HB.out) | (with_reducible refine Kd.C_alloc ?_ _) | (with_reducible refine Kd.C_drewN ?_ _) | (with_reducible refine Kd.C_drew ?_))); (case side2 => exact HC0_3.out); rintro e w17 ⟨rfl, hb⟩; refine ⟨_, rfl, ?_⟩; have n0_ := Aside0.mk (blk_below (g := gb154) (o := .cells #[.int .i64 a0_0, .int .i64 a0_1, .string a0_2, .slice A0_3 l0_3.length c0_3] 49 (0, 0)) (by (with_reducible repeat (first | refine blk_drewN ?_ _ | refine blk_drew ?_ | refine blk_alloc ?_ _)); exact BK154.out) hb); have n1_ := Aside0.mk (below_step (by repeat (first | (with_reducible first | exact HB.out | apply below_alloc | apply pw_below_drewN | apply below_drew1 | refine below_set ?_ GE154.out) | exact HB.out)) hb); clear BK154; clear HB; have BK154 := n0_; have HB := n1_; clear n0_ n1_; (try clear hb); (try clear hb2); (try clear hk); (try clear hi); have hcz18_0 : w17.cell? ⟨gb154, 0, none⟩ = some (.int .i64 a0_0) := (blk_cell BK154.out 0).trans rfl; have hcz18_1 : w17.cell? ⟨gb154, 1, none⟩ = some (.int .i64 a0_1) := (blk_cell BK154.out 1).trans rfl; have hcz18_2 : w17.cell? ⟨gb154, 2, none⟩ = some (.string a0_2) := (blk_cell BK154.out 2).trans rfl; have hcz18_3 : w17.cell? ⟨gb154, 3, none⟩ = some (.slice A0_3 l0_3.length c0_3) := (blk_cell BK154.out 3).trans rfl; have hfz18_0 := blk_frozen BK154.out 0; have hfz18_1 := blk_frozen BK154.out 1; have hfz18_2 := blk_frozen BK154.out 2; have hfz18_3 := blk_frozen BK154.out 3) | ((with_reducible refine gate_callee (f := 43) rfl ?_); refine goesL_ (some 12) rfl rfl Tryd.func43 (by kernel_rfl) rfl #[.agg #[.int .i64 a0_0, .int .i64 a0_1, .string a0_2, .slice A0_3 l0_3.length c0_3]] rfl (by (try simp only [List.map_toArray, List.map_cons, List.map_nil]); first | done | rfl | (simp only [List.length_drop, List.length_take]; rfl)) ?_; (with_reducible refine (ploverref02_bytes.calls k a0_0 a0_1 a0_2 _ _ l0_3 t157 _ ?side1 ?side2 A11.out).mono ?_); (case side1 => repeat (first | exact (Kd.C_below HR0_3.out HB.out) | (with_reducible refine Kd.C_alloc ?_ _) | (with_reducible refine Kd.C_drewN ?_ _) | (with_reducible refine Kd.C_drew ?_))); (case side2 => exact HC0_3.out); rintro e w19 ⟨rfl, hb⟩; refine ⟨_, rfl, ?_⟩; have n0_ := Aside0.mk (blk_below (g := gb154) (o := .cells #[.int .i64 a0_0, .int .i64 a0_1, .string a0_2, .slice A0_3 l0_3.length c0_3] 49 (0, 0)) (by (with_reducible repeat (first | refine blk_drewN ?_ _ | refine blk_drew ?_ | refine blk_alloc ?_ _)); exact BK154.out) hb); have n1_ := Aside0.mk (below_step (by repeat (first | (with_reducible first | exact HB.out | apply below_alloc | apply pw_below_drewN | apply below_drew1 | refine below_set ?_ GE154.out) | exact HB.out)) hb); clear BK154; clear HB; have BK154 := n0_; have HB := n1_; clear n0_ n1_; (try clear hb); (try clear hb2); (try clear hk); (try clear hi)))
    go_ret2
    exact ⟨by first | rfl | (simp [errW_none, errW_some] <;> rfl) | (simp [*, errW_none, errW_some] <;> rfl), by repeat (first | (with_reducible first | exact HB.out | apply below_alloc | apply pw_below_drewN | apply below_drew1 | refine below_set ?_ GE154.out) | exact HB.out)⟩
   ·
    rw [if_neg c12] at H
    have c12b0 : decide (65536 < (t157.size : Int)) = false := decide_eq_false c12
    have c12b1 : decide (65536 < t157.size) = false := decide_eq_false (by omega)
    clear c12
    simp only [Option.some.injEq, Prod.mk.injEq] at H
    obtain ⟨rfl, rfl⟩ := H
    go_enter Tryd.func23, Tryd.ntmps23
    go_wp2_with (first | ((with_reducible refine gate_dst (N := 1) rfl ?_); refine box_event ?hg (N := 1) ?hd (cs := #[.int .i64 a0_0, .int .i64 a0_1, .string a0_2, .slice A0_3 l0_3.length c0_3]) (t := 49) ?hr ?_; (case hd => rfl); (case hg => rfl); (case hr => first | (go_simp; done) | (go_simp; rfl)); intro gb154 hg w20 hbox hb; have n0_ := Aside0.mk (below_step (by repeat (first | (with_reducible first | exact HB.out | apply below_alloc | apply pw_below_drewN | apply below_drew1) | exact HB.out)) hb); have n1_ := Aside0.mk (hbox); have n2_ := Aside0.mk ((by rw [hg]; exact (below_size (by repeat (first | (with_reducible first | exact HB.out | apply below_alloc | apply pw_below_drewN | apply below_drew1) | exact HB.out))) : w.heap.size ≤ gb154)); have n3_ := Aside0.mk ((by rw [hg]; exact (below_size (by repeat (first | (with_reducible first | exact HB.out | apply below_alloc | apply pw_below_drewN | apply below_drew1) | exact HB.out))) : w.heap.size ≤ gb154)); clear HB; have HB := n0_; have BK154 := n1_; have GW154 := n2_; have GE154 := n3_; clear n0_ n1_ n2_ n3_; clear hb hbox hg; have hcz21_0 : w20.cell? ⟨gb154, 0, none⟩ = some (.int .i64 a0_0) := (blk_cell BK154.out 0).trans rfl; have hcz21_1 : w20.cell? ⟨gb154, 1, none⟩ = some (.int .i64 a0_1) := (blk_cell BK154.out 1).trans rfl; have hcz21_2 : w20.cell? ⟨gb154, 2, none⟩ = some (.string a0_2) := (blk_cell BK154.out 2).trans rfl; have hcz21_3 : w20.cell? ⟨gb154, 3, none⟩ = some (.slice A0_3 l0_3.length c0_3) := (blk_cell BK154.out 3).trans rfl; have hfz21_0 := blk_frozen BK154.out 0; have hfz21_1 := blk_frozen BK154.out 1; have hfz21_2 := blk_frozen BK154.out 2; have hfz21_3 := blk_frozen BK154.out 3) | ((with_reducible refine gate_callee (f := 41) rfl ?_); refine goesL_ (some 6) rfl rfl Tryd.func41 (by kernel_rfl) rfl #[.agg #[.int .i64 a0_0, .int .i64 a0_1, .string a0_2, .slice A0_3 l0_3.length c0_3]] rfl (by (try simp only [List.map_toArray, List.map_cons, List.map_nil]); first | done | rfl | (simp only [List.length_drop, List.length_take]; rfl)) ?_; (with_reducible refine (ploverref02_kinds.calls k a0_0 a0_1 a0_2 _ _ l0_3 true _ ?side1 ?side2 A2.out).mono ?_); (case side1 => repeat (first | exact (Kd.C_below HR0_3.out HB.out) | (with_reducible refine Kd.C_alloc ?_ _) | (with_reducible refine Kd.C_drewN ?_ _) | (with_reducible refine Kd.C_drew ?_))); (case side2 => exact HC0_3.out); rintro e w22 ⟨rfl, hb⟩; refine ⟨_, rfl, ?_⟩; have n0_ := Aside0.mk (blk_below (g := gb154) (o := .cells #[.int .i64 a0_0, .int .i64 a0_1, .string a0_2, .slice A0_3 l0_3.length c0_3] 49 (0, 0)) (by (with_reducible repeat (first | refine blk_drewN ?_ _ | refine blk_drew ?_ | refine blk_alloc ?_ _)); exact BK154.out) hb); have n1_ := Aside0.mk (below_step (by repeat (first | (with_reducible first | exact HB.out | apply below_alloc | apply pw_below_drewN | apply below_drew1 | refine below_set ?_ GE154.out) | exact HB.out)) hb); clear BK154; clear HB; have BK154 := n0_; have HB := n1_; clear n0_ n1_; (try clear hb); (try clear hb2); (try clear hk); (try clear hi); have hcz23_0 : w22.cell? ⟨gb154, 0, none⟩ = some (.int .i64 a0_0) := (blk_cell BK154.out 0).trans rfl; have hcz23_1 : w22.cell? ⟨gb154, 1, none⟩ = some (.int .i64 a0_1) := (blk_cell BK154.out 1).trans rfl; have hcz23_2 : w22.cell? ⟨gb154, 2, none⟩ = some (.string a0_2) := (blk_cell BK154.out 2).trans rfl; have hcz23_3 : w22.cell? ⟨gb154, 3, none⟩ = some (.slice A0_3 l0_3.length c0_3) := (blk_cell BK154.out 3).trans rfl; have hfz23_0 := blk_frozen BK154.out 0; have hfz23_1 := blk_frozen BK154.out 1; have hfz23_2 := blk_frozen BK154.out 2; have hfz23_3 := blk_frozen BK154.out 3) | ((with_reducible refine gate_callee (f := 42) rfl ?_); refine goesL_ (some 9) rfl rfl Tryd.func42 (by kernel_rfl) rfl #[.agg #[.int .i64 a0_0, .int .i64 a0_1, .string a0_2, .slice A0_3 l0_3.length c0_3]] rfl (by (try simp only [List.map_toArray, List.map_cons, List.map_nil]); first | done | rfl | (simp only [List.length_drop, List.length_take]; rfl)) ?_; (with_reducible refine (ploverref02_deep.calls k a0_0 a0_1 a0_2 _ _ l0_3 t156 _ ?side1 ?side2 A4.out).mono ?_); (case side1 => repeat (first | exact (Kd.C_below HR0_3.out HB.out) | (with_reducible refine Kd.C_alloc ?_ _) | (with_reducible refine Kd.C_drewN ?_ _) | (with_reducible refine Kd.C_drew ?_))); (case side2 => exact HC0_3.out); rintro e w24 ⟨rfl, hb⟩; refine ⟨_, rfl, ?_⟩; have n0_ := Aside0.mk (blk_below (g := gb154) (o := .cells #[.int .i64 a0_0, .int .i64 a0_1, .string a0_2, .slice A0_3 l0_3.length c0_3] 49 (0, 0)) (by (with_reducible repeat (first | refine blk_drewN ?_ _ | refine blk_drew ?_ | refine blk_alloc ?_ _)); exact BK154.out) hb); have n1_ := Aside0.mk (below_step (by repeat (first | (with_reducible first | exact HB.out | apply below_alloc | apply pw_below_drewN | apply below_drew1 | refine below_set ?_ GE154.out) | exact HB.out)) hb); clear BK154; clear HB; have BK154 := n0_; have HB := n1_; clear n0_ n1_; (try clear hb); (try clear hb2); (try clear hk); (try clear hi); have hcz25_0 : w24.cell? ⟨gb154, 0, none⟩ = some (.int .i64 a0_0) := (blk_cell BK154.out 0).trans rfl; have hcz25_1 : w24.cell? ⟨gb154, 1, none⟩ = some (.int .i64 a0_1) := (blk_cell BK154.out 1).trans rfl; have hcz25_2 : w24.cell? ⟨gb154, 2, none⟩ = some (.string a0_2) := (blk_cell BK154.out 2).trans rfl; have hcz25_3 : w24.cell? ⟨gb154, 3, none⟩ = some (.slice A0_3 l0_3.length c0_3) := (blk_cell BK154.out 3).trans rfl; have hfz25_0 := blk_frozen BK154.out 0; have hfz25_1 := blk_frozen BK154.out 1; have hfz25_2 := blk_frozen BK154.out 2; have hfz25_3 := blk_frozen BK154.out 3) | ((with_reducible refine gate_callee (f := 43) rfl ?_); refine goesL_ (some 12) rfl rfl Tryd.func43 (by kernel_rfl) rfl #[.agg #[.int .i64 a0_0, .int .i64 a0_1, .string a0_2, .slice A0_3 l0_3.length c0_3]] rfl (by (try simp only [List.map_toArray, List.map_cons, List.map_nil]); first | done | rfl | (simp only [List.length_drop, List.length_take]; rfl)) ?_; (with_reducible refine (ploverref02_bytes.calls k a0_0 a0_1 a0_2 _ _ l0_3 t157 _ ?side1 ?side2 A11.out).mono ?_); (case side1 => repeat (first | exact (Kd.C_below HR0_3.out HB.out) | (with_reducible refine Kd.C_alloc ?_ _) | (with_reducible refine Kd.C_drewN ?_ _) | (with_reducible refine Kd.C_drew ?_))); (case side2 => exact HC0_3.out); rintro e w26 ⟨rfl, hb⟩; refine ⟨_, rfl, ?_⟩; have n0_ := Aside0.mk (blk_below (g := gb154) (o := .cells #[.int .i64 a0_0, .int .i64 a0_1, .string a0_2, .slice A0_3 l0_3.length c0_3] 49 (0, 0)) (by (with_reducible repeat (first | refine blk_drewN ?_ _ | refine blk_drew ?_ | refine blk_alloc ?_ _)); exact BK154.out) hb); have n1_ := Aside0.mk (below_step (by repeat (first | (with_reducible first | exact HB.out | apply below_alloc | apply pw_below_drewN | apply below_drew1 | refine below_set ?_ GE154.out) | exact HB.out)) hb); clear BK154; clear HB; have BK154 := n0_; have HB := n1_; clear n0_ n1_; (try clear hb); (try clear hb2); (try clear hk); (try clear hi)))
    go_ret2
    exact ⟨by first | rfl | (simp [errW_none, errW_some] <;> rfl) | (simp [*, errW_none, errW_some] <;> rfl), by repeat (first | (with_reducible first | exact HB.out | apply below_alloc | apply pw_below_drewN | apply below_drew1 | refine below_set ?_ GE154.out) | exact HB.out)⟩
 ·
  replace c3 := Bool.eq_false_iff.mpr c3
  subst c3
  have H1 : (some ((⟨#[]⟩ : ByteArray), 1)) = some (r1, r2) := by rw [if_neg (show ¬ (false = true) by decide)] at H; exact H
  clear H
  have H := H1
  clear H1
  simp only [Option.some.injEq, Prod.mk.injEq] at H
  obtain ⟨rfl, rfl⟩ := H
  go_enter Tryd.func23, Tryd.ntmps23
  go_wp2_with (first | ((with_reducible refine gate_dst (N := 1) rfl ?_); refine box_event ?hg (N := 1) ?hd (cs := #[.int .i64 a0_0, .int .i64 a0_1, .string a0_2, .slice A0_3 l0_3.length c0_3]) (t := 49) ?hr ?_; (case hd => rfl); (case hg => rfl); (case hr => first | (go_simp; done) | (go_simp; rfl)); intro gb154 hg w27 hbox hb; have n0_ := Aside0.mk (below_step (by repeat (first | (with_reducible first | exact HB.out | apply below_alloc | apply pw_below_drewN | apply below_drew1) | exact HB.out)) hb); have n1_ := Aside0.mk (hbox); have n2_ := Aside0.mk ((by rw [hg]; exact (below_size (by repeat (first | (with_reducible first | exact HB.out | apply below_alloc | apply pw_below_drewN | apply below_drew1) | exact HB.out))) : w.heap.size ≤ gb154)); have n3_ := Aside0.mk ((by rw [hg]; exact (below_size (by repeat (first | (with_reducible first | exact HB.out | apply below_alloc | apply pw_below_drewN | apply below_drew1) | exact HB.out))) : w.heap.size ≤ gb154)); clear HB; have HB := n0_; have BK154 := n1_; have GW154 := n2_; have GE154 := n3_; clear n0_ n1_ n2_ n3_; clear hb hbox hg; have hcz28_0 : w27.cell? ⟨gb154, 0, none⟩ = some (.int .i64 a0_0) := (blk_cell BK154.out 0).trans rfl; have hcz28_1 : w27.cell? ⟨gb154, 1, none⟩ = some (.int .i64 a0_1) := (blk_cell BK154.out 1).trans rfl; have hcz28_2 : w27.cell? ⟨gb154, 2, none⟩ = some (.string a0_2) := (blk_cell BK154.out 2).trans rfl; have hcz28_3 : w27.cell? ⟨gb154, 3, none⟩ = some (.slice A0_3 l0_3.length c0_3) := (blk_cell BK154.out 3).trans rfl; have hfz28_0 := blk_frozen BK154.out 0; have hfz28_1 := blk_frozen BK154.out 1; have hfz28_2 := blk_frozen BK154.out 2; have hfz28_3 := blk_frozen BK154.out 3) | ((with_reducible refine gate_callee (f := 41) rfl ?_); refine goesL_ (some 6) rfl rfl Tryd.func41 (by kernel_rfl) rfl #[.agg #[.int .i64 a0_0, .int .i64 a0_1, .string a0_2, .slice A0_3 l0_3.length c0_3]] rfl (by (try simp only [List.map_toArray, List.map_cons, List.map_nil]); first | done | rfl | (simp only [List.length_drop, List.length_take]; rfl)) ?_; (with_reducible refine (ploverref02_kinds.calls k a0_0 a0_1 a0_2 _ _ l0_3 false _ ?side1 ?side2 A2.out).mono ?_); (case side1 => repeat (first | exact (Kd.C_below HR0_3.out HB.out) | (with_reducible refine Kd.C_alloc ?_ _) | (with_reducible refine Kd.C_drewN ?_ _) | (with_reducible refine Kd.C_drew ?_))); (case side2 => exact HC0_3.out); rintro e w29 ⟨rfl, hb⟩; refine ⟨_, rfl, ?_⟩; have n0_ := Aside0.mk (blk_below (g := gb154) (o := .cells #[.int .i64 a0_0, .int .i64 a0_1, .string a0_2, .slice A0_3 l0_3.length c0_3] 49 (0, 0)) (by (with_reducible repeat (first | refine blk_drewN ?_ _ | refine blk_drew ?_ | refine blk_alloc ?_ _)); exact BK154.out) hb); have n1_ := Aside0.mk (below_step (by repeat (first | (with_reducible first | exact HB.out | apply below_alloc | apply pw_below_drewN | apply below_drew1 | refine below_set ?_ GE154.out) | exact HB.out)) hb); clear BK154; clear HB; have BK154 := n0_; have HB := n1_; clear n0_ n1_; (try clear hb); (try clear hb2); (try clear hk); (try clear hi)))
  go_ret2
  exact ⟨by first | rfl | (simp [errW_none, errW_some] <;> rfl) | (simp [*, errW_none, errW_some] <;> rfl), by repeat (first | (with_reducible first | exact HB.out | apply below_alloc | apply pw_below_drewN | apply below_drew1 | refine below_set ?_ GE154.out) | exact HB.out)⟩
end Go.Proofs.YtlggihnkhimfkaaDoor.P
namespace Go.Proofs.YtlggihnkhimfkaaDoor
def crcBit (n : Nat) : Nat := if 2 * n < 16777216 then 2 * n else (2 * n) ^^^ 25578747
def crcBits : Nat → Nat → Nat
  | 0, n => n
  | k + 1, n => crcBit (crcBits k n)
def crcByte (n : Nat) (c : UInt8) : Nat := crcBits 8 (n ^^^ (c.toNat * 65536))
def crcSum (l : List UInt8) : Nat := l.foldl crcByte 11994318
theorem xor_lt24 {a b : Nat} (ha : a < 2 ^ 25) (hb : b < 2 ^ 25) (ha' : a.testBit 24 = true) (hb' : b.testBit 24 = true) : a ^^^ b < 2 ^ 24 := by
  refine Nat.lt_pow_two_of_testBit _ fun i hi => ?_
  rw [Nat.testBit_xor]
  by_cases e : i = 24
  · subst e; rw [ha', hb']; rfl
  · have h : 2 ^ 25 ≤ 2 ^ i := Nat.pow_le_pow_right (by decide) (by omega)
    rw [Nat.testBit_lt_two_pow (Nat.lt_of_lt_of_le ha h), Nat.testBit_lt_two_pow (Nat.lt_of_lt_of_le hb h)]; rfl
theorem bit24 {a : Nat} (ha : a < 2 ^ 25) (h : 2 ^ 24 ≤ a) : a.testBit 24 = true := by
  rw [Nat.testBit_eq_decide_div_mod_eq]
  have : a / 2 ^ 24 = 1 := by omega
  simp [this]
theorem crcBit_lt {n : Nat} (h : n < 16777216) : crcBit n < 16777216 := by
  unfold crcBit
  split
  · assumption
  · exact xor_lt24 (by omega) (by decide) (bit24 (by omega) (by omega)) (by decide)
theorem crcBits_lt (k : Nat) {n : Nat} (h : n < 16777216) : crcBits k n < 16777216 := by
  induction k with
  | zero => exact h
  | succ k ih => exact crcBit_lt ih
theorem crcXor_lt {n : Nat} (h : n < 16777216) (c : UInt8) : n ^^^ (c.toNat * 65536) < 16777216 := by
  have hc := c.toNat_lt
  exact Nat.xor_lt_two_pow (n := 24) (by omega) (by omega)
theorem crcByte_lt {n : Nat} (h : n < 16777216) (c : UInt8) : crcByte n c < 16777216 := by unfold crcByte; exact crcBits_lt 8 (crcXor_lt h c)
theorem crcFold_lt (l : List UInt8) : ∀ {n : Nat}, n < 16777216 → l.foldl crcByte n < 16777216 := by
  induction l with
  | nil => intro n h; exact h
  | cons c l ih => intro n h; rw [List.foldl_cons]; exact ih (crcByte_lt h c)
theorem crcSum_lt (l : List UInt8) : crcSum l < 16777216 := by unfold crcSum; exact crcFold_lt l (by omega)
theorem crcSum_snoc (l : List UInt8) (c : UInt8) : crcSum (l ++ [c]) = crcByte (crcSum l) c := by simp [crcSum]
theorem crcSum_take0 (l : List UInt8) : (11994318 : Int) = ((crcSum (l.take 0) : Nat) : Int) := by rw [List.take_zero]; simp [crcSum]
theorem crcBits_add (a b n : Nat) : crcBits (a + b) n = crcBits a (crcBits b n) := by
  induction a with
  | zero => rw [Nat.zero_add]; rfl
  | succ a ih => rw [Nat.succ_add, crcBits, crcBits, ih]
theorem crcBit_eq {n : Nat} (h : n < 2 ^ 24) : crcBit n = (2 * n) ^^^ (if n.testBit 23 then 25578747 else 0) := by
  have e : n.testBit 23 = decide (2 ^ 23 ≤ n) := by
    rw [Nat.testBit_eq_decide_div_mod_eq]
    by_cases h2 : 2 ^ 23 ≤ n
    · have : n / 2 ^ 23 = 1 := by omega
      simp [this, h2]
    · have : n / 2 ^ 23 = 0 := by omega
      simp [this, h2]
  unfold crcBit
  by_cases h2 : 2 ^ 23 ≤ n
  · rw [if_neg (by omega), e]; simp [h2]
  · rw [if_pos (by omega), e]; simp [h2]
theorem two_xor (a b : Nat) : 2 * (a ^^^ b) = (2 * a) ^^^ (2 * b) := by
  apply Nat.eq_of_testBit_eq
  intro i
  rw [Nat.testBit_xor]
  cases i with
  | zero => simp
  | succ i => rw [Nat.mul_comm 2, Nat.mul_comm 2, Nat.mul_comm 2]; simp [Nat.testBit_succ]
theorem crcBit_xor {a b : Nat} (ha : a < 2 ^ 24) (hb : b < 2 ^ 24) : crcBit (a ^^^ b) = crcBit a ^^^ crcBit b := by
  rw [crcBit_eq ha, crcBit_eq hb, crcBit_eq (Nat.xor_lt_two_pow ha hb), two_xor, Nat.testBit_xor]
  cases h1 : a.testBit 23 <;> cases h2 : b.testBit 23 <;> simp
  · rw [Nat.xor_assoc]
  · rw [Nat.xor_assoc, Nat.xor_assoc, Nat.xor_comm (2 * b)]
  · rw [Nat.xor_assoc, Nat.xor_comm (2 * b) 25578747, ← Nat.xor_assoc 25578747, Nat.xor_self, Nat.zero_xor]
theorem crcBits_xor (k : Nat) {a b : Nat} (ha : a < 2 ^ 24) (hb : b < 2 ^ 24) : crcBits k (a ^^^ b) = crcBits k a ^^^ crcBits k b := by
  induction k with
  | zero => rfl
  | succ k ih => rw [crcBits, crcBits, crcBits, ih, crcBit_xor (crcBits_lt k ha) (crcBits_lt k hb)]
theorem crcBits_low (k : Nat) : ∀ {n : Nat}, n * 2 ^ k < 16777216 → crcBits k n = n * 2 ^ k := by
  induction k with
  | zero => intro n _; simp [crcBits]
  | succ k ih =>
    intro n h
    have e : n * 2 ^ (k + 1) = 2 * (n * 2 ^ k) := by rw [Nat.pow_succ, ← Nat.mul_assoc, Nat.mul_comm]
    rw [e] at h ⊢
    rw [crcBits, ih (by omega), crcBit, if_pos h]
theorem crcFour {n : Nat} (h : n < 16777216) : crcBits 4 n = (n * 16 % 16777216) ^^^ crcBits 4 (n / 1048576 * 1048576) := by
  have e : n = (n % 1048576) ^^^ (n / 1048576 * 1048576) := by
    have h1 : n = 2 ^ 20 * (n / 1048576) + n % 1048576 := by omega
    have h2 := Nat.two_pow_add_eq_or_of_lt (show n % 1048576 < 2 ^ 20 by omega) (n / 1048576)
    apply Nat.eq_of_testBit_eq
    intro i
    have h3 : n / 1048576 * 1048576 = 2 ^ 20 * (n / 1048576) := by omega
    rw [Nat.testBit_xor, h3, Nat.testBit_two_pow_mul]
    have h4 : n % 1048576 = n % 2 ^ 20 := rfl
    have h5 : n / 1048576 = n / 2 ^ 20 := rfl
    rw [h4, h5, Nat.testBit_mod_two_pow, Nat.testBit_div_two_pow]
    by_cases h6 : i < 20
    · simp [h6, show ¬ 20 ≤ i by omega]
    · have h7 : i - 20 + 20 = i := by omega
      simp [h6, show 20 ≤ i by omega, h7]
  have hlo : crcBits 4 (n % 1048576) = n * 16 % 16777216 := by rw [crcBits_low 4 (by omega)]; omega
  calc crcBits 4 n = crcBits 4 ((n % 1048576) ^^^ (n / 1048576 * 1048576)) := by rw [← e]
    _ = crcBits 4 (n % 1048576) ^^^ crcBits 4 (n / 1048576 * 1048576) := crcBits_xor 4 (by omega) (by omega)
    _ = _ := by rw [hlo]
open Go.RowKit
theorem crc_in (n : Nat) (c : UInt8) (h : n < 16777216) :
    bits .xor .i64 (n : Int) (wrap64 (wrap64 (c.toNat : Int) * 65536)) = ((n ^^^ (c.toNat * 65536) : Nat) : Int) := by
  have hc := c.toNat_lt
  have e : wrap64 (wrap64 (c.toNat : Int) * 65536) = ((c.toNat * 65536 : Nat) : Int) := by unfold wrap64; omega
  rw [e]
  exact xor_i64 _ _ (by omega) (by omega)
theorem crcBit_yes {n : Nat} (h : n < 16777216) (h2 : 16777216 ≤ 2 * (n : Int)) : bits .xor .i64 (2 * (n : Int)) 25578747 = (crcBit n : Nat) := by
  have := xor_i64 (2 * n) 25578747 (by omega) (by decide)
  rw [crcBit, if_neg (by omega), ← this]
  rfl
theorem crcBit_no {n : Nat} (h2 : 2 * (n : Int) < 16777216) : 2 * (n : Int) = (crcBit n : Nat) := by
  rw [crcBit, if_pos (by omega)]; omega
theorem crcBits_yes {x : Int} {j m : Nat} (hx : ((crcBits j m : Nat) : Int) = x) (h : x < 16777216) (h2 : 16777216 ≤ 2 * x) : bits .xor .i64 (2 * x) 25578747 = (crcBits (j + 1) m : Nat) := by
  subst hx; rw [crcBits]; exact crcBit_yes (by omega) h2
theorem crcBits_no {x : Int} {j m : Nat} (hx : ((crcBits j m : Nat) : Int) = x) (h2 : 2 * x < 16777216) : 2 * x = (crcBits (j + 1) m : Nat) := by
  subst hx; rw [crcBits]; exact crcBit_no h2
def lefAt (k i : Nat) : Value := .int .i64 (if i < k then ((crcBits 4 (i * 1048576) : Nat) : Int) else 0)
def lefArr (k : Nat) : Array Value := ((List.range 16).map (lefAt k)).toArray
theorem lefArr_zero : lefArr 0 = #[.int .i64 0, .int .i64 0, .int .i64 0, .int .i64 0, .int .i64 0, .int .i64 0, .int .i64 0, .int .i64 0, .int .i64 0, .int .i64 0, .int .i64 0, .int .i64 0, .int .i64 0, .int .i64 0, .int .i64 0, .int .i64 0] := by simp [lefArr, lefAt, List.range, List.range.loop]
theorem lefArr_size (k : Nat) : (lefArr k).size = 16 := by simp [lefArr]
theorem lefArr_set (k : Nat) : (lefArr k).setIfInBounds k (.int .i64 ((crcBits 4 (k * 1048576) : Nat) : Int)) = lefArr (k + 1) := by
  apply Array.ext
  · simp [lefArr]
  · intro i h1 h2
    rw [Array.getElem_setIfInBounds (by simpa using h1)]
    split
    · subst i; simp [lefArr, lefAt]
    · rename_i hne
      simp [lefArr, lefAt]
      by_cases h : i < k
      · rw [if_pos h, if_pos (by omega)]
      · rw [if_neg h, if_neg (by omega)]
theorem lefArr_all : lefArr 16 = #[.int .i64 0, .int .i64 8801531, .int .i64 9098509, .int .i64 825846, .int .i64 9692897, .int .i64 1419802, .int .i64 1651692, .int .i64 10452759, .int .i64 10584377, .int .i64 2608578, .int .i64 2839604, .int .i64 11344079, .int .i64 3303384, .int .i64 11807523, .int .i64 12104405, .int .i64 4128302] := by kernel_rfl
theorem lefArr_at (i : Nat) (h : i < 16) : (lefArr 16)[i]? = some (.int .i64 ((crcBits 4 (i * 1048576) : Nat) : Int)) := by
  simp [lefArr, lefAt, h]
theorem lef_yes {x : Int} {j m : Nat} (hx : ((crcBits j m : Nat) : Int) = x) (h : x < 16777216) (h2 : 16777215 < x * 2) : bits .xor .i64 (bits .and .i64 (x * 2) 16777215) 8801531 = (crcBits (j + 1) m : Nat) := by
  subst hx
  have hm := and_mask_i64 (((crcBits j m : Nat) : Int) * 2) 24 (by decide)
  have e2 : (((2 ^ 24 - 1 : Nat)) : Int) = 16777215 := by decide +kernel
  have e3 : (((2 ^ 24 : Nat)) : Int) = 16777216 := by decide +kernel
  rw [e2, e3] at hm
  rw [hm, crcBits, crcBit, if_neg (by omega)]
  have e4 : ((crcBits j m : Nat) : Int) * 2 % 16777216 = ((2 * crcBits j m - 16777216 : Nat) : Int) := by omega
  rw [e4]
  have e5 : (8801531 : Int) = ((8801531 : Nat) : Int) := by decide +kernel
  rw [e5, xor_i64 _ _ (by omega) (by decide)]
  have key : (2 * crcBits j m - 16777216) ^^^ 8801531 = (2 * crcBits j m) ^^^ 25578747 := by
    have h3 : 2 * crcBits j m = 2 ^ 24 * 1 + (2 * crcBits j m - 16777216) := by omega
    have h4 : 25578747 = 2 ^ 24 * 1 + 8801531 := by decide +kernel
    rw [h4]
    generalize hd : 2 * crcBits j m - 16777216 = d at *
    rw [h3, Nat.two_pow_add_eq_or_of_lt (by omega) 1, Nat.two_pow_add_eq_or_of_lt (by decide) 1]
    have hd2 : d < 2 ^ 24 := by omega
    apply Nat.eq_of_testBit_eq
    intro i
    simp only [Nat.testBit_xor, Nat.testBit_or]
    by_cases e : i = 24
    · subst e
      rw [Nat.testBit_lt_two_pow hd2]
      decide +kernel
    · have hz : (2 ^ 24 * 1).testBit i = false := by rw [Nat.mul_one, Nat.testBit_two_pow]; simp; omega
      rw [hz, Bool.false_or, Bool.false_or]
  rw [key]
theorem lef_no {x : Int} {j m : Nat} (hx : ((crcBits j m : Nat) : Int) = x) (h2 : x * 2 ≤ 16777215) : x * 2 = (crcBits (j + 1) m : Nat) := by
  subst hx; rw [crcBits, crcBit, if_pos (by omega)]; omega
set_option maxHeartbeats 400000 in
theorem lefts_any (w : World) :
  Calls Tryd.prog 56 #[] w fun e w' => e = .returned (.agg (lefArr 16)) ∧ Below w.heap.size w w' := by
 go_enter Tryd.func56, Tryd.ntmps56
 go_wp2
 rw [← lefArr_zero]
 go_loopw [2, 3, 4] (fun _ _ i wr => ∃ k : Nat, k ≤ 16 ∧ i = .int .i64 k ∧ wr = (w.alloc (Obj.cells (lefArr 0) 95)).alloc (Obj.cells (lefArr k) 95)) (fun _ _ i _ => 16 - (Go.RowKit.intOf i).toNat)
 case atStart => exact ⟨0, by omega, rfl, rfl⟩
 case round =>
  obtain ⟨k, hk, rfl, rfl⟩ := hrel
  by_cases hlt : k < 16
  ·
   have hk2 : (0 : Int) ≤ k := by omega
   have hk3 : decide ((k : Int) < 16) = true := by simp; omega
   go_wp2
   go_loop [3, 9] (fun n i => ∃ j : Nat, j ≤ 4 ∧ i = .int .i64 j ∧ n = .int .i64 (crcBits j (k * 1048576) : Nat)) (fun _ i => 4 - (Go.RowKit.intOf i).toNat)
   case atStart => exact ⟨0, by omega, rfl, val_int (by rw [crcBits]; omega)⟩
   case round =>
    obtain ⟨j, hj, rfl, rfl⟩ := hrel
    have hb : (crcBits j (k * 1048576) : Int) < 16777216 := by have := crcBits_lt j (show k * 1048576 < 16777216 by omega); omega
    have hb0 : 0 ≤ (crcBits j (k * 1048576) : Int) := by omega
    generalize hx : ((crcBits j (k * 1048576) : Nat) : Int) = x at *
    have Hx := veil hx
    clear hx
    by_cases hj4 : j < 4
    ·
     go_wp2
     ·
      go_round
      case rel => exact ⟨j + 1, by omega, by go_num, val_int (lef_yes Hx.out hb (by assumption))⟩
      case measure => simp [Go.RowKit.intOf]; omega
     ·
      go_round
      case rel => exact ⟨j + 1, by omega, by go_num, val_int (lef_no Hx.out (by assumption))⟩
      case measure => simp [Go.RowKit.intOf]; omega
    ·
     obtain rfl : j = 4 := by omega
     have hsz := lefArr_size k
     have hce : (lefArr k)[k]? = some (.int .i64 0) := by simp [lefArr, lefAt, hlt]
     go_wp2
     go_roundw
     case rel =>
      refine ⟨k + 1, by omega, by go_num, ?_⟩
      rw [← lefArr_set, Hx.out]
     case measure => simp [Go.RowKit.intOf]; omega
  ·
   obtain rfl : k = 16 := by omega
   rw [lefArr_all, lefArr_zero]
   go_wp2
   exact bodyPost_ret (v := .agg (lefArr 16)) (by rw [lefArr_all]; simp [results, Tryd.results56, go_sem]) rfl ⟨rfl, ((Below.refl _ _).alloc (Nat.le_refl _) _).alloc (by simp) _⟩
theorem crcBits_four {x : Int} {j m : Nat} (hx : ((crcBits (4 * j) m : Nat) : Int) = x) (h0 : 0 ≤ x) (h : x < 16777216) :
    bits .xor .i64 (bits .and .i64 (x * 16) 16777215) ((crcBits 4 ((x / 1048576).toNat * 1048576) : Nat) : Int) = ((crcBits (4 * (j + 1)) m : Nat) : Int) := by
  have hn : crcBits (4 * j) m < 16777216 := by omega
  have e1 : crcBits (4 * (j + 1)) m = crcBits 4 (crcBits (4 * j) m) := by rw [← crcBits_add]; congr 1; omega
  rw [e1, crcFour hn]
  generalize crcBits (4 * j) m = n at *
  subst hx
  have hm := and_mask_i64 ((n : Int) * 16) 24 (by decide)
  have e2 : (((2 ^ 24 - 1 : Nat)) : Int) = 16777215 := by decide +kernel
  have e3 : (((2 ^ 24 : Nat)) : Int) = 16777216 := by decide +kernel
  rw [e2, e3] at hm
  rw [hm]
  have e4 : (n : Int) * 16 % 16777216 = ((n * 16 % 16777216 : Nat) : Int) := by omega
  have e5 : ((n : Int) / 1048576).toNat = n / 1048576 := by omega
  rw [e4, e5]
  have h6 : crcBits 4 (n / 1048576 * 1048576) < 16777216 := crcBits_lt 4 (by omega)
  exact xor_i64 _ _ (by omega) (by omega)
set_option maxHeartbeats 1000000 in
theorem codeSum_any (s : ByteArray) (w : World) (hs : s.size ≤ 140737488351232) :
  Calls Tryd.prog 39 #[.string s] w fun e w' => e = .returned (.int .i64 (crcSum s.data.toList : Nat)) ∧ Below w.heap.size w w' := by
 go_enter Tryd.func39, Tryd.ntmps39
 go_wp2_with fail
 refine (lefts_any _).mono ?_
 rintro e w1 ⟨rfl, hb1⟩
 rw [lefArr_all]
 go_wp2
 rw [← lefArr_all]
 generalize harr : lefArr 16 = arr at *
 have Harr := veil harr
 clear harr
 go_loop [4, 9] (fun n i => ∃ k : Nat, k ≤ s.size ∧ i = .int .i64 k ∧ n = .int .i64 (crcSum (s.data.toList.take k) : Nat)) (fun _ i => s.size - (Go.RowKit.intOf i).toNat)
 case atStart => exact ⟨0, Nat.zero_le _, rfl, val_int (crcSum_take0 _)⟩
 case round =>
  obtain ⟨k, hk, rfl, rfl⟩ := hrel
  by_cases hlt : k < s.size
  ·
   have H : Veil (((crcByte (crcSum (s.data.toList.take k)) s[k] : Nat) : Int) = ((crcSum (s.data.toList.take (k + 1)) : Nat) : Int)) := veil (by rw [take_snoc s k hlt, crcSum_snoc])
   obtain ⟨m, hm, hin, Hm⟩ : ∃ m : Nat, m < 16777216 ∧ bits .xor .i64 ((crcSum (s.data.toList.take k) : Nat) : Int) (wrap64 (wrap64 (s[k].toNat : Int) * 65536)) = (m : Int) ∧ Veil (crcByte (crcSum (s.data.toList.take k)) s[k] = crcBits 8 m) :=
    ⟨_, crcXor_lt (crcSum_lt _) s[k], crc_in _ s[k] (crcSum_lt _), veil rfl⟩
   have Hm1 := veil hm
   clear hm
   go_wp2
   clear hin
   go_loop [4, 19] (fun n i => ∃ j : Nat, j ≤ 2 ∧ i = .int .i64 j ∧ n = .int .i64 (crcBits (4 * j) m : Nat)) (fun _ i => 2 - (Go.RowKit.intOf i).toNat)
   case atStart => exact ⟨0, by omega, rfl, rfl⟩
   case round =>
    obtain ⟨j, hj, rfl, rfl⟩ := hrel
    have hb : (crcBits (4 * j) m : Int) < 16777216 := by have := crcBits_lt (4 * j) Hm1.out; omega
    have hb0 : 0 ≤ (crcBits (4 * j) m : Int) := by omega
    generalize hx : ((crcBits (4 * j) m : Nat) : Int) = x at *
    have Hx := veil hx
    clear hx
    by_cases hj2 : j < 2
    ·
     have hq : (x / 1048576).toNat < 16 := by omega
     have hq0 : 0 ≤ x / 1048576 := by omega
     have hq1 : x / 1048576 < 16 := by omega
     obtain ⟨y, hy, Hy⟩ : ∃ y : Int, arr[(x / 1048576).toNat]? = some (.int .i64 y) ∧ Veil (((crcBits 4 ((x / 1048576).toNat * 1048576) : Nat) : Int) = y) := ⟨_, by rw [← Harr.out]; exact lefArr_at _ hq, veil rfl⟩
     go_wp2
     go_round
     case rel => exact ⟨j + 1, by omega, by go_num, val_int (by rw [← Hy.out]; exact crcBits_four Hx.out hb0 hb)⟩
     case measure => simp [Go.RowKit.intOf]; omega
    ·
     obtain rfl : j = 2 := by omega
     go_wp2
     go_round
     case rel => exact ⟨k + 1, by omega, by go_num, val_int (by rw [← H.out, Hm.out, ← Hx.out])⟩
     case measure => simp [Go.RowKit.intOf]; omega
  ·
   go_wp2
   go_ret
   exact ⟨ret_int (by rw [List.take_of_length_le (by simp; omega)]), hb1.alloc hb1.size _⟩
end Go.Proofs.YtlggihnkhimfkaaDoor
namespace Go.Proofs.YtlggihnkhimfkaaDoor.Giv
open Go.RowKit Go.Lib Go.Proofs.YtlggihnkhimfkaaDoor.Hx
def crc_Hex.f (n : Int) : Option (ByteArray × Int) := if -9223372036854775808 ≤ n ∧ n ≤ 9223372036854775807 then some (hexF n) else none
theorem crc_Hex.calls (a0 : Int) (r1 : ByteArray) (r2 : Int) (w : World) (hL : LaidW w) (h : crc_Hex.f a0 = some (r1, r2)) :
    Calls Tryd.prog 38 #[.int .i64 a0] w fun e w' => e = .returned (.tuple #[.string r1, .int .i64 r2]) ∧ Below w.heap.size w w' := by
  unfold crc_Hex.f at h
  split at h
  · rename_i hr
    have e := Option.some.inj h
    have c := hex_calls a0 w hr.1 hr.2 hL.2.1
    rw [e] at c
    exact c
  · cases h
def crc_Sum.f (s : ByteArray) : Option Int := if s.size ≤ 140737488351232 then some ((crcSum s.data.toList : Nat) : Int) else none
theorem crc_Sum.calls (a0 : ByteArray) (r : Int) (w : World) (h : crc_Sum.f a0 = some r) :
    Calls Tryd.prog 39 #[.string a0] w fun e w' => e = .returned (.int .i64 r) ∧ Below w.heap.size w w' := by
  unfold crc_Sum.f at h
  split at h
  · rename_i hs
    obtain rfl := Option.some.inj h
    exact codeSum_any a0 w hs
  · cases h
open Go.RowKit Go.Lib Go.Proofs.YtlggihnkhimfkaaDoor.Hx Go.Proofs.YtlggihnkhimfkaaDoorW.PrintWords
set_option linter.unusedVariables false
set_option linter.unusedSimpArgs false
def nothing : ByteArray := ⟨#[]⟩
def restT (rest : ByteArray) (n c : Int) : ByteArray × Int × Int :=
  if (rest.size : Int) ≤ n then (nothing, 0, 21) else if bt rest n ≠ 10 then (nothing, 0, 40) else if ((crcSum (rest.extract 0 n.toNat).data.toList : Nat) : Int) ≠ c then (nothing, 0, 41) else (rest.extract 0 n.toNat, 13 + n + 1, 0)
def takeF (s : ByteArray) : ByteArray × Int × Int :=
  if s.size < 13 then (nothing, 0, 21) else
  if (unhexF (s.extract 0 6)).2 = 0 ∧ (unhexF (s.extract 6 12)).2 = 0 ∧ (unhexF (s.extract 0 6)).1 ≤ 262144 ∧ bt s 12 = 124 then restT (s.extract 13 s.size) (unhexF (s.extract 0 6)).1 (unhexF (s.extract 6 12)).1 else (nothing, 0, 40)
theorem unhex_cases (t : ByteArray) : unhexF t = (0, 1) ∨ ∃ N : Nat, N < 16777216 ∧ unhexF t = ((N : Int), 0) := by
  unfold unhexF
  by_cases h : t.size = 6
  · rw [if_pos h]
    cases hx : hexFold 0 t.data.toList with
    | none => exact .inl rfl
    | some N => exact .inr ⟨N, (fold_hexL _ (by rw [list_size]; exact h) N hx).1, rfl⟩
  · rw [if_neg h]; exact .inl rfl
set_option maxHeartbeats 4000000 in
set_option maxRecDepth 100000 in
theorem frmTake_calls (s : ByteArray) (hs : s.size ≤ 140737488351232) (w : World) (hL : LaidW w) :
  Calls Tryd.prog 59 #[.string s] w fun e w' => e = .returned (.tuple #[.string (takeF s).1, .int .i64 (takeF s).2.1, .int .i64 (takeF s).2.2]) ∧ Below w.heap.size w w' := by
 by_cases h13 : s.size < 13
 ·
  have hT : takeF s = (nothing, 0, 21) := by unfold takeF; rw [if_pos h13]
  rw [hT]
  clear hT
  go_enter Tryd.func59, Tryd.ntmps59
  go_wp2
  go_ret3
  exact ⟨rfl, Below.refl _ _⟩
 ·
  have h13' : 13 ≤ s.size := by omega
  have H1 := veil (unhex_calls (s.extract 0 6) (by rw [ByteArray.size_extract]; omega) w hL.2.1 hL.2.2.1 hL.2.2.2)
  have H2 := veil (fun W (hW : LaidW W) => unhex_calls (s.extract 6 12) (by rw [ByteArray.size_extract]; omega) W hW.2.1 hW.2.2.1 hW.2.2.2)
  have HT := veil (show takeF s = if (unhexF (s.extract 0 6)).2 = 0 ∧ (unhexF (s.extract 6 12)).2 = 0 ∧ (unhexF (s.extract 0 6)).1 ≤ 262144 ∧ bt s 12 = 124 then restT (s.extract 13 s.size) (unhexF (s.extract 0 6)).1 (unhexF (s.extract 6 12)).1 else (nothing, 0, 40) by unfold takeF; rw [if_neg h13])
  have HL := veil hL
  clear hL h13
  have c1 := unhex_cases (s.extract 0 6)
  have c2 := unhex_cases (s.extract 6 12)
  generalize unhexF (s.extract 0 6) = u1 at *
  generalize unhexF (s.extract 6 12) = u2 at *
  have hb12 : bt s 12 = ((s[12]'(by omega)).toNat : Int) := (bt_at s 12 (by simp; omega)).symm
  rcases c1 with rfl | ⟨n, hn, rfl⟩
  ·
   have hT := veil (show takeF s = (nothing, 0, 40) by rw [HT.out, if_neg (fun h => absurd h.1 (by decide))])
   clear HT
   go_enter Tryd.func59, Tryd.ntmps59
   go_wp2_with fail
   refine H1.out.mono ?_
   rintro e w1 ⟨rfl, hb⟩
   go_wp2_with fail
   refine (H2.out _ (HL.out.below hb)).mono ?_
   rintro e w2 ⟨rfl, hb2⟩
   clear c2
   go_wp2
   go_ret3
   exact ⟨by rw [hT.out]; rfl, hb.trans (hb2.mono hb.size)⟩
  ·
   rcases c2 with rfl | ⟨c, hc, rfl⟩
   ·
    have hT := veil (show takeF s = (nothing, 0, 40) by rw [HT.out, if_neg (fun h => absurd h.2.1 (by decide))])
    clear HT
    go_enter Tryd.func59, Tryd.ntmps59
    go_wp2_with fail
    refine H1.out.mono ?_
    rintro e w1 ⟨rfl, hb⟩
    go_wp2_with fail
    refine (H2.out _ (HL.out.below hb)).mono ?_
    rintro e w2 ⟨rfl, hb2⟩
    go_wp2
    go_ret3
    exact ⟨by rw [hT.out]; rfl, hb.trans (hb2.mono hb.size)⟩
   ·
    by_cases hok : (n : Int) ≤ 262144 ∧ bt s 12 = 124
    ·
     have hT := veil (show takeF s = restT (s.extract 13 s.size) (n : Int) (c : Int) by rw [HT.out, if_pos ⟨rfl, rfl, hok.1, hok.2⟩])
     obtain ⟨ok1, ok2⟩ := hok
     rw [hb12] at ok2
     have ok3 : (((s[12]'(by omega)).toNat : Int) != 124) = false := by rw [ok2]; rfl
     have hS := veil (fun (x : ByteArray) (hx : x.size ≤ 140737488351232) W => codeSum_any x W hx)
     have hrs : (s.extract 13 s.size).size = s.size - 13 := by rw [ByteArray.size_extract]; omega
     clear HT hb12
     by_cases hlen : (s.size : Int) - 13 ≤ n
     ·
      have hT' := veil (show takeF s = (nothing, 0, 21) by rw [hT.out]; unfold restT; rw [if_pos (by rw [hrs]; omega)])
      clear hrs hT
      go_enter Tryd.func59, Tryd.ntmps59
      go_wp2_with fail
      refine H1.out.mono ?_
      rintro e w1 ⟨rfl, hb⟩
      go_wp2_with fail
      refine (H2.out _ (HL.out.below hb)).mono ?_
      rintro e w2 ⟨rfl, hb2⟩
      go_wp2
      go_ret3
      exact ⟨by rw [hT'.out]; rfl, hb.trans (hb2.mono hb.size)⟩
     ·
      have hn1 : (n : Int) < (s.size : Int) - 13 := by omega
      have hlt : n < (s.extract 13 s.size).size := by rw [hrs]; omega
      have hnl : ¬ (((s.extract 13 s.size).size : Int) ≤ (n : Int)) := by rw [hrs]; omega
      have hnz : ((n : Int).toNat) = n := by omega
      have hbn : bt (s.extract 13 s.size) (n : Int) = (((s.extract 13 s.size)[n]'hlt).toNat : Int) := by rw [← bt_at _ (n : Int) (by rw [hrs]; omega)]; rfl
      by_cases hend : bt (s.extract 13 s.size) (n : Int) = 10
      ·
       have hS2 := veil (hS.out ((s.extract 13 s.size).extract 0 n) (by rw [ByteArray.size_extract]; omega))
       by_cases hsum : ((crcSum ((s.extract 13 s.size).extract 0 n).data.toList : Nat) : Int) = (c : Int)
       ·
        have hT' := veil (show takeF s = ((s.extract 13 s.size).extract 0 n, 13 + (n : Int) + 1, 0) by rw [hT.out]; unfold restT; rw [if_neg hnl, if_neg (by rw [hend]; simp), hnz, if_neg (by rw [hsum]; simp)])
        rw [hbn] at hend
        have hend' : ((((s.extract 13 s.size)[n]'hlt).toNat : Int) != 10) = false := by rw [hend]; rfl
        have hsum' : ((((crcSum ((s.extract 13 s.size).extract 0 n).data.toList : Nat) : Int)) != (c : Int)) = false := by rw [hsum]; simp
        clear hT hS hnl hnz hbn hlen hsum
        go_enter Tryd.func59, Tryd.ntmps59
        go_wp2_with fail
        refine H1.out.mono ?_
        rintro e w1 ⟨rfl, hb⟩
        go_wp2_with fail
        refine (H2.out _ (HL.out.below hb)).mono ?_
        rintro e w2 ⟨rfl, hb2⟩
        go_wp2_with fail
        refine (hS2.out _).mono ?_
        rintro e w3 ⟨rfl, hb3⟩
        generalize ((crcSum ((s.extract 13 s.size).extract 0 n).data.toList : Nat) : Int) = z at *
        go_wp2
        go_ret3
        exact ⟨by rw [hT'.out]; rfl, (hb.trans (hb2.mono hb.size)).trans (hb3.mono (Nat.le_trans hb.size hb2.size))⟩
       ·
        have hT' := veil (show takeF s = (nothing, 0, 41) by rw [hT.out]; unfold restT; rw [if_neg hnl, if_neg (by rw [hend]; simp), hnz, if_pos hsum])
        rw [hbn] at hend
        have hend' : ((((s.extract 13 s.size)[n]'hlt).toNat : Int) != 10) = false := by rw [hend]; rfl
        have hsum' : ((((crcSum ((s.extract 13 s.size).extract 0 n).data.toList : Nat) : Int)) != (c : Int)) = true := by simpa using hsum
        clear hT hS hnl hnz hbn hlen hsum
        go_enter Tryd.func59, Tryd.ntmps59
        go_wp2_with fail
        refine H1.out.mono ?_
        rintro e w1 ⟨rfl, hb⟩
        go_wp2_with fail
        refine (H2.out _ (HL.out.below hb)).mono ?_
        rintro e w2 ⟨rfl, hb2⟩
        go_wp2_with fail
        refine (hS2.out _).mono ?_
        rintro e w3 ⟨rfl, hb3⟩
        generalize ((crcSum ((s.extract 13 s.size).extract 0 n).data.toList : Nat) : Int) = z at *
        go_wp2
        go_ret3
        exact ⟨by rw [hT'.out]; rfl, (hb.trans (hb2.mono hb.size)).trans (hb3.mono (Nat.le_trans hb.size hb2.size))⟩
      ·
       have hT' := veil (show takeF s = (nothing, 0, 40) by rw [hT.out]; unfold restT; rw [if_neg hnl, if_pos hend])
       rw [hbn] at hend
       have hend' : ((((s.extract 13 s.size)[n]'hlt).toNat : Int) != 10) = true := by simpa using hend
       clear hT hS hnl hnz hbn hlen hend
       go_enter Tryd.func59, Tryd.ntmps59
       go_wp2_with fail
       refine H1.out.mono ?_
       rintro e w1 ⟨rfl, hb⟩
       go_wp2_with fail
       refine (H2.out _ (HL.out.below hb)).mono ?_
       rintro e w2 ⟨rfl, hb2⟩
       go_wp2
       go_ret3
       exact ⟨by rw [hT'.out]; rfl, hb.trans (hb2.mono hb.size)⟩
    ·
     have hT := veil (show takeF s = (nothing, 0, 40) by rw [HT.out, if_neg (fun h => hok ⟨h.2.2.1, h.2.2.2⟩)])
     rw [hb12] at hok
     clear HT hb12
     by_cases h1 : (n : Int) ≤ 262144
     ·
      have h2 : (((s[12]'(by omega)).toNat : Int) != 124) = true := by rw [bne_iff_ne]; exact fun h => hok ⟨h1, h⟩
      clear hok
      go_enter Tryd.func59, Tryd.ntmps59
      go_wp2_with fail
      refine H1.out.mono ?_
      rintro e w1 ⟨rfl, hb⟩
      go_wp2_with fail
      refine (H2.out _ (HL.out.below hb)).mono ?_
      rintro e w2 ⟨rfl, hb2⟩
      go_wp2
      go_ret3
      exact ⟨by rw [hT.out]; rfl, hb.trans (hb2.mono hb.size)⟩
     ·
      have h1' : 262144 < (n : Int) := by omega
      clear hok h1
      go_enter Tryd.func59, Tryd.ntmps59
      go_wp2_with fail
      refine H1.out.mono ?_
      rintro e w1 ⟨rfl, hb⟩
      go_wp2_with fail
      refine (H2.out _ (HL.out.below hb)).mono ?_
      rintro e w2 ⟨rfl, hb2⟩
      go_wp2
      go_ret3
      exact ⟨by rw [hT.out]; rfl, hb.trans (hb2.mono hb.size)⟩
def frame_Take.f (s : ByteArray) : Option (ByteArray × Int × Int) := if s.size ≤ 140737488351232 then some (takeF s) else none
open Go.RowKit Go.Lib Go.Proofs.YtlggihnkhimfkaaDoor.Hx Go.Proofs.YtlggihnkhimfkaaDoorW.PrintWords Go.Proofs.YtlggihnkhimfkaaDoorW.PrintLast Go.Proofs.YtlggihnkhimfkaaDoorW.PrintMore
theorem restT_used {rest : ByteArray} {n c : Int} (hn : 0 ≤ n) (h : (restT rest n c).2.2 = 0) : n < rest.size ∧ restT rest n c = (rest.extract 0 n.toNat, 13 + n + 1, 0) ∧ bt rest n = 10 ∧ ((crcSum (rest.extract 0 n.toNat).data.toList : Nat) : Int) = c := by
  unfold restT at h ⊢
  split at h
  · cases h
  · rename_i h1
    split at h
    · cases h
    · rename_i h2
      split at h
      · cases h
      · rename_i h3
        rw [if_neg h1, if_neg h2, if_neg h3]
        exact ⟨by omega, rfl, by simpa using h2, by simpa using h3⟩
theorem takeF_used {s : ByteArray} (h : (takeF s).2.2 = 0) : 14 ≤ (takeF s).2.1 ∧ (takeF s).2.1 ≤ s.size := by
  unfold takeF at h ⊢
  split at h
  · cases h
  · rename_i h13
    rw [if_neg h13]
    split at h
    · rename_i hc
      rw [if_pos hc]
      have hn : 0 ≤ (unhexF (s.extract 0 6)).1 := by
        rcases unhex_cases (s.extract 0 6) with e | ⟨N, _, e⟩ <;> rw [e] <;> simp
      obtain ⟨h1, h2, _, _⟩ := restT_used hn h
      rw [ByteArray.size_extract] at h1
      rw [h2]
      show 14 ≤ 13 + (unhexF (s.extract 0 6)).1 + 1 ∧ 13 + (unhexF (s.extract 0 6)).1 + 1 ≤ s.size
      omega
    · cases h
def allF : Nat → ByteArray → Nat → List ByteArray × Nat
  | 0, _, at_ => ([], at_)
  | k + 1, s, at_ => if at_ < s.size then (if (takeF (s.extract at_ s.size)).2.2 = 0 then ((takeF (s.extract at_ s.size)).1 :: (allF k s (at_ + (takeF (s.extract at_ s.size)).2.1.toNat)).1, (allF k s (at_ + (takeF (s.extract at_ s.size)).2.1.toNat)).2) else ([], at_)) else ([], at_)
theorem allF_more : ∀ (k : Nat) (s : ByteArray) (at_ : Nat), s.size ≤ k + at_ → ∀ m, k ≤ m → allF m s at_ = allF k s at_
  | 0, s, at_, h, m, _ => by
    cases m with
    | zero => rfl
    | succ m => unfold allF; rw [if_neg (by omega)]
  | k + 1, s, at_, h, m, hm => by
    obtain ⟨m, rfl⟩ : ∃ j, m = j + 1 := ⟨m - 1, by omega⟩
    unfold allF
    by_cases c : at_ < s.size
    · rw [if_pos c, if_pos c]
      by_cases c2 : (takeF (s.extract at_ s.size)).2.2 = 0
      · rw [if_pos c2, if_pos c2]
        have := takeF_used c2
        rw [allF_more k s _ (by omega) m (by omega)]
      · rw [if_neg c2, if_neg c2]
    · rw [if_neg c, if_neg c]
def allS (s : ByteArray) (at_ : Nat) : List ByteArray × Nat := allF s.size s at_
theorem allS_end {s : ByteArray} {a : Nat} (h : ¬ a < s.size) : allS s a = ([], a) := by
  unfold allS
  cases hs : s.size with
  | zero => rfl
  | succ m => unfold allF; rw [if_neg h]
theorem allS_bad {s : ByteArray} {a : Nat} (h : (takeF (s.extract a s.size)).2.2 ≠ 0) : allS s a = ([], a) := by
  by_cases c : a < s.size
  · unfold allS
    obtain ⟨m, hm⟩ : ∃ m, s.size = m + 1 := ⟨s.size - 1, by omega⟩
    rw [hm]
    unfold allF
    rw [if_pos c, if_neg h]
  · exact allS_end c
theorem allS_step {s : ByteArray} {a : Nat} (c : a < s.size) (h : (takeF (s.extract a s.size)).2.2 = 0) :
    allS s a = ((takeF (s.extract a s.size)).1 :: (allS s (a + (takeF (s.extract a s.size)).2.1.toNat)).1, (allS s (a + (takeF (s.extract a s.size)).2.1.toNat)).2) := by
  have hu := takeF_used h
  unfold allS
  obtain ⟨m, hm⟩ : ∃ m, s.size = m + 1 := ⟨s.size - 1, by omega⟩
  have e : allF s.size s (a + (takeF (s.extract a s.size)).2.1.toNat) = allF m s (a + (takeF (s.extract a s.size)).2.1.toNat) := allF_more m s _ (by omega) _ (by omega)
  rw [e]
  conv => lhs; rw [hm]; unfold allF
  rw [if_pos c, if_pos h]
theorem allS_le (s : ByteArray) : ∀ (d a : Nat), s.size - a ≤ d → a ≤ s.size → a ≤ (allS s a).2 ∧ (allS s a).2 ≤ s.size ∧ (allS s a).1.length + a ≤ s.size
  | 0, a, h, h2 => by rw [allS_end (by omega)]; simp; omega
  | d + 1, a, h, h2 => by
    by_cases c : a < s.size
    · by_cases c2 : (takeF (s.extract a s.size)).2.2 = 0
      · have hu := takeF_used c2
        have hz : (s.extract a s.size).size = s.size - a := by rw [ByteArray.size_extract]; omega
        rw [hz] at hu
        have := allS_le s d (a + (takeF (s.extract a s.size)).2.1.toNat) (by omega) (by omega)
        rw [allS_step c c2]
        simp only [List.length_cons]
        omega
      · rw [allS_bad c2]; simp; omega
    · rw [allS_end c]; simp; omega
theorem info_str : (Tryd.prog.info? 9).map (fun i => (i.zero, i.size, i.bytes)) = some (some (.string ⟨#[]⟩), 1, 16) := by kernel_rfl
def Slot (w0 wr : World) (B : Nat) (L : List ByteArray) : Prop :=
  ∃ v, wr.heap[B]? = some (.cells #[v] 61 (0, 0)) ∧ Kd.R Kd.string 9 wr B (fun k => k ≠ B) v L ∧ Below B w0 wr ∧ B < wr.heap.size ∧ ∃ A n c, v = .slice A n c
theorem Slot.below {w0 wr w' : World} {B : Nat} {L : List ByteArray} (h : Slot w0 wr B L) (hb : Below wr.heap.size wr w') : Slot w0 w' B L := by
  obtain ⟨v, h1, h2, h3, h4, h5⟩ := h
  refine ⟨v, (hb.block B h4).trans h1, Kd.R_grown h2 (grown_of_below hb none) (fun k _ => by simp), h3.trans (hb.mono (Nat.le_of_lt h4)), Nat.lt_of_lt_of_le h4 hb.size, h5⟩
set_option maxHeartbeats 4000000 in
set_option maxRecDepth 100000 in
theorem tell_calls (t : ByteArray) (w0 : World) (B : Nat) (L : List ByteArray) (wr : World) (hl : L.length ≤ 1000000) (hS : Slot w0 wr B L) :
    Calls Tryd.prog 50 #[.string t, .pointer (some ⟨B, 0, none⟩)] wr fun e w' => e = .returned (.tuple #[]) ∧ Slot w0 w' B (L ++ [t]) := by
  obtain ⟨v, h1, h2, h3, h4, -⟩ := hS
  have hcell : wr.cell? ⟨B, 0, none⟩ = some v := by simp [World.cell?, h1]
  have hvb : some B ≠ v.ownBlock := fun c => h2.1 B c.symm rfl
  have H1 := Aside0.mk h1
  have H2 := Aside0.mk h2
  have H3 := Aside0.mk h3
  have H4 := Aside0.mk h4
  have HV := Aside0.mk hvb
  clear h1 h2 h3 h4 hvb
  go_enter Tryd.func50, Tryd.ntmps50
  go_wp2_with (at_builtin; refine Kd.R_append Kd.string (w0 := w0) B rfl (.tmp 3) (.tmp 5) 61 9 (.string ⟨#[]⟩) 16 rfl Tryd.underlying61 info_str rfl (by decide) (by omega) v L t [.string t] (fun k_ => k_ ≠ B) (fun _ => False) rfl rfl ?aP (fun _ hk => hk.elim) ?aF ?aO ?aB ?aS ?aL ?_; (case aP => exact rfl); (case aF => exact (fun k hk => by have := H4.out; omega)); (case aO => exact H2.out); (case aB => exact H3.out); (case aS => exact Nat.le_of_lt H4.out); (case aL => omega); intro v9 w9 ho hb hg hat; obtain ⟨ad9, c9, rfl⟩ := Kd.R_slice1 ho (by simp); have HO9 := Aside0.mk ho; have HB9 := Aside0.mk hb; have HG9 := Aside0.mk hg; clear ho hb hg hat; have hc9 : w9.cell? ⟨B, 0, none⟩ = some v := (by have h := blk_grown H1.out HG9.out HV.out; simp [World.cell?, h]); have hf9 : w9.frozen? ⟨B, 0, none⟩ = false := (by have h := blk_grown H1.out HG9.out HV.out; simp [World.frozen?, h]))
  refine bodyPost_end (results_none rfl _ _ _) rfl ?_
  exact ⟨rfl, _, blk_set (blk_grown H1.out HG9.out HV.out) 0 _, (by have h9 := HO9.out; rw [show (L ++ [t]).length = L.length + 1 by simp] at h9; exact Kd.R_far h9 (fun k hk => hk) _), HB9.out.setCell (Nat.le_refl _) _, by rw [World.size_setCell]; exact Nat.lt_of_lt_of_le H4.out HG9.out.size, _, _, _, rfl⟩
set_option maxHeartbeats 4000000 in
set_option maxRecDepth 100000 in
theorem each_calls (s : ByteArray) (hs : s.size ≤ 1000000) (w0 : World) (w : World) (hS : Slot w0 w w0.heap.size []) (hL : LaidW w0) :
  Calls Tryd.prog 49 #[.string s, .func (.func 50) #[] #[.pointer (some ⟨w0.heap.size, 0, none⟩)]] w fun e w' => e = .returned (.int .i64 ((allS s 0).2 : Int)) ∧ Slot w0 w' w0.heap.size (allS s 0).1 := by
 have hsum := allS_le s s.size 0 (by omega) (by omega)
 have H0 := Aside0.mk hS
 have HL := Aside0.mk hL
 have HT := Aside0.mk (fun t (ht : t.size ≤ 140737488351232) W hW => frmTake_calls t ht W hW)
 have HC := Aside0.mk (fun t L W (hl : L.length ≤ 1000000) (hW : Slot w0 W w0.heap.size L) => tell_calls t w0 w0.heap.size L W hl hW)
 clear hS hL
 generalize hX : allS s 0 = X at *
 have HX := Aside0.mk hX
 have hX2 := hsum.2.1
 have hX3 := hsum.2.2
 clear hX hsum
 go_enter Tryd.func49, Tryd.ntmps49
 go_wp2_with fail
 go_loopw [5] (fun i wr => ∃ (a : Nat) (L : List ByteArray), i = .int .i64 a ∧ a ≤ s.size ∧ Slot w0 wr w0.heap.size L ∧ X = (L ++ (allS s a).1, (allS s a).2)) (fun i _ => s.size - (RowKit.intOf i).toNat)
 case atStart => exact ⟨0, [], rfl, by omega, H0.out, by rw [← HX.out]; rfl⟩
 case round =>
  obtain ⟨a, L, rfl, ha, hS, hx⟩ := hrel
  have HS := Aside0.mk hS
  have HX' := Aside0.mk hx
  clear hS hx
  by_cases hlt : a < s.size
  ·
   have hz : (s.extract a s.size).size = s.size - a := by rw [ByteArray.size_extract]; omega
   by_cases hok : (takeF (s.extract a s.size)).2.2 = 0
   ·
    have hu := takeF_used hok
    rw [hz] at hu
    have HTk := Aside0.mk (HT.out (s.extract a s.size) (by omega) wr (LaidW.below HL.out (let ⟨_, _, _, h3, _⟩ := HS.out; h3)))
    obtain ⟨n, hn⟩ : ∃ n : Nat, (takeF (s.extract a s.size)).2.1 = (n : Int) := ⟨(takeF (s.extract a s.size)).2.1.toNat, by omega⟩
    have hstep := Aside0.mk (show allS s a = ((takeF (s.extract a s.size)).1 :: (allS s (a + n)).1, (allS s (a + n)).2) from by rw [allS_step hlt hok, hn, Int.toNat_natCast])
    have HLn : Aside0 (L.length ≤ 1000000) := Aside0.mk (by have h := congrArg (fun x => x.1.length) HX'.out; simp only [List.length_append] at h; omega)
    rw [hn] at hu
    have hk : (n : Int) ≤ (s.size : Int) - (a : Int) := by omega
    obtain ⟨hu1, hu2⟩ := hu
    clear hz
    go_wp2_with fail
    refine HTk.out.mono ?_
    rw [hok, hn] at *
    rintro e w1 ⟨rfl, hb1⟩
    generalize (takeF (s.extract a s.size)).1 = t at *
    clear hok hn
    go_wp2_with fail
    refine (HC.out t L _ HLn.out (HS.out.below hb1)).mono ?_
    rintro e w2 ⟨rfl, hS2⟩
    go_wp2
    go_roundw
    case rel =>
     refine ⟨a + n, L ++ [t], by go_num, by omega, hS2, ?_⟩
     rw [HX'.out, hstep.out]
     simp
    case measure => simp [RowKit.intOf]; omega
   ·
    have hbad : ((takeF (s.extract a s.size)).2.2 != 0) = true := by simpa using hok
    have HTk := Aside0.mk (HT.out (s.extract a s.size) (by omega) wr (LaidW.below HL.out (let ⟨_, _, _, h3, _⟩ := HS.out; h3)))
    have HE := Aside0.mk (allS_bad hok)
    clear hz hok
    generalize takeF (s.extract a s.size) = u at *
    go_wp2_with fail
    refine HTk.out.mono ?_
    rintro e w1 ⟨rfl, hb1⟩
    obtain ⟨u1, u2, u3⟩ := u
    simp only at hbad
    go_wp2
    go_ret
    rw [HX'.out, HE.out]
    exact ⟨rfl, by rw [List.append_nil]; exact HS.out.below hb1⟩
  ·
   obtain rfl : a = s.size := by omega
   go_wp2
   go_ret
   rw [HX'.out, allS_end (by omega)]
   exact ⟨rfl, by rw [List.append_nil]; exact HS.out⟩
theorem results_slot {fn : Func} {p u : Tmp} (h : fn.results = #[.cell p 61, .tmp u]) (tmps : Array Value) (w : World) (g : Nat) (v : Value)
    (hp : tmps.getD p undef = .pointer (some ⟨g, 0, none⟩)) (hg : w.cell? ⟨g, 0, none⟩ = some v) :
    (results fn tmps).run Tryd.prog w = .ok (.tuple #[v, tmps.getD u undef]) w := by
  have hp' : tmps[p]?.getD undef = .pointer (some ⟨g, 0, none⟩) := by simpa using hp
  have hl : (loadVar 61 ⟨g, 0, none⟩).run Tryd.prog w = .ok v w := by
    simp [loadVar, run_underlying Tryd.underlying61, hg]
    try go_simp
  simp [results, h, hp', asAddr, hl]
set_option maxHeartbeats 4000000 in
set_option maxRecDepth 100000 in
theorem all_calls (s : ByteArray) (hs : s.size ≤ 1000000) (w : World) (hL : LaidW w) :
    Calls Tryd.prog 30 #[.string s] w fun e w' => ∃ v0_ : Value, e = .returned (.tuple #[v0_, .int .i64 ((allS s 0).2 : Int)]) ∧ Kd.R Kd.string 9 w' w.heap.size (fun _ => True) v0_ (allS s 0).1 ∧ Below w.heap.size w w' := by
  have HE := Aside0.mk (each_calls s hs w (w.alloc (.cells #[.slice none 0 0] 61)) ⟨_, by show (w.heap.push _)[w.heap.size]? = _; rw [Array.getElem?_push, if_pos rfl], Kd.R_nil _ _ _ _ _, (Below.refl _ _).alloc (Nat.le_refl _) _, by simp, _, _, _, rfl⟩ hL)
  clear hL
  generalize allS s 0 = X at *
  go_enter Tryd.func30, Tryd.ntmps30
  go_wp2_with fail
  refine HE.out.mono ?_
  rintro e w1 ⟨rfl, v, h1, h2, h3, h4, A, n, c, rfl⟩
  have hcell : w1.cell? ⟨w.heap.size, 0, none⟩ = some (.slice A n c) := by simp [World.cell?, h1]
  have hfree : w1.frozen? ⟨w.heap.size, 0, none⟩ = false := by simp [World.frozen?, h1]
  have H1 := Aside0.mk h1
  have H2 := Aside0.mk h2
  have H3 := Aside0.mk h3
  clear h1 h2 h3 h4
  go_wp2
  refine bodyPost_ret (results_slot rfl _ _ w.heap.size (.slice A n c) rfl (by simp [World.cell?, blk_set H1.out 0 (.slice A n c)])) rfl ?_
  exact ⟨_, rfl, Kd.R_mono (Kd.R_far H2.out (fun k hk => hk) _) (fun _ _ => trivial), H3.out.setCell (Nat.le_refl _) _⟩
def frame_All.f (s : ByteArray) : Option (List ByteArray × Int) := if s.size ≤ 1000000 then some ((allS s 0).1, ((allS s 0).2 : Int)) else none
theorem frame_All.calls (a0 : ByteArray) (r1 : List ByteArray) (r2 : Int) (w : World) (hL : LaidW w) (h : frame_All.f a0 = some (r1, r2)) :
    Calls Tryd.prog 30 #[.string a0] w fun e w' => ∃ v0_ : Value, e = .returned (.tuple #[v0_, .int .i64 r2]) ∧ Kd.R Kd.string 9 w' w.heap.size (fun _ => True) v0_ r1 ∧ Below w.heap.size w w' := by
  unfold frame_All.f at h
  split at h
  · rename_i hr
    obtain ⟨rfl, rfl⟩ : (allS a0 0).1 = r1 ∧ ((allS a0 0).2 : Int) = r2 := by simpa using h
    exact all_calls a0 hr w hL
  · cases h
open Go.RowKit Go.Proofs.YtlggihnkhimfkaaDoorW.PrintWords Go.Proofs.YtlggihnkhimfkaaDoorW.PrintLast Go.Proofs.YtlggihnkhimfkaaDoorW.PrintMore
def oddN (x : Int) : Bool := decide (x < -2147483648) || decide (2147483647 < x)
def oddAt : List Int → Int
  | [] => -1
  | x :: l => if oddN x then 0 else if oddAt l < 0 then -1 else oddAt l + 1
theorem oddAt_hit : ∀ (xs : List Int) (k : Nat), (∀ i, i < k → oddN (xs.getD i 0) = false) → k < xs.length → oddN (xs.getD k 0) = true → oddAt xs = k
  | x :: l, 0, _, _, h => by simp [oddAt] at h ⊢; simp [h]
  | x :: l, k + 1, h0, h1, h => by
    have hx : oddN x = false := h0 0 (by omega)
    have ih := oddAt_hit l k (fun i hi => h0 (i + 1) (by omega)) (by simpa using h1) h
    simp [oddAt, hx, ih]
    omega
  | [], _, _, h, _ => by simp at h
theorem oddAt_none : ∀ (xs : List Int), (∀ i, i < xs.length → oddN (xs.getD i 0) = false) → oddAt xs = -1
  | [], _ => rfl
  | x :: l, h => by
    have hx : oddN x = false := h 0 (by simp)
    have ih := oddAt_none l (fun i hi => h (i + 1) (by simpa using hi))
    simp [oddAt, hx, ih]
theorem oddAt_any (xs : List Int) : decide (0 ≤ oddAt xs) = xs.any oddN := by
  induction xs with
  | nil => rfl
  | cons x l ih =>
    rw [List.any_cons, ← ih]
    by_cases h : oddN x = true
    · simp [oddAt, h]
    · by_cases h2 : oddAt l < 0
      · simp [oddAt, h, h2]
      · simp [oddAt, h, h2]; omega
def isV (xs : List Int) : Bool := decide (0 < xs.length) && (decide (xs.length ≤ 16) && !xs.any oddN)
theorem isV_spec {xs : List Int} (h : isV xs = true) : 0 < xs.length ∧ xs.length ≤ 16 ∧ ∀ x ∈ xs, -2147483648 ≤ x ∧ x ≤ 2147483647 := by
  simp [isV, oddN] at h
  obtain ⟨h1, h2, h3⟩ := h
  refine ⟨h1, h2, fun x hx => ?_⟩
  have := h3 x hx
  omega
set_option maxHeartbeats 400000 in
theorem odd_any (x : Int) (w : World) (b : Bool) (hb : oddN x = b) :
    Calls Tryd.prog 58 #[.int .i64 x] w fun e w' => e = .returned (.bool b) ∧ w = w' := by
  unfold oddN at hb
  by_cases h1 : x < -2147483648
  · obtain rfl : b = true := by rw [← hb]; simp [h1]
    clear hb
    go_enter Tryd.func58, Tryd.ntmps58
    go_wp2
    go_ret
    exact ⟨rfl, rfl⟩
  · by_cases h2 : 2147483647 < x
    · obtain rfl : b = true := by rw [← hb]; simp [h2]
      clear hb
      go_enter Tryd.func58, Tryd.ntmps58
      go_wp2
      go_ret
      exact ⟨rfl, rfl⟩
    · obtain rfl : b = false := by rw [← hb]; simp [h1, h2]
      clear hb
      go_enter Tryd.func58, Tryd.ntmps58
      go_wp2
      go_ret
      exact ⟨rfl, rfl⟩
set_option maxHeartbeats 400000 in
theorem indexFunc_any (ao : Option Addr) (xs : List Int) (cap : Nat) (w : World) (hx : (Kd.int .i64).C w ao xs.length xs) :
  Calls Tryd.prog 46 #[.slice ao xs.length cap, .func (.func 58) #[] #[]] w fun e w' => e = .returned (.int .i64 (oddAt xs)) ∧ w = w' := by
 have h8 : xs.length ≤ 9223372036854775807 := Kd.C_max hx
 go_enter Tryd.func46, Tryd.ntmps46
 go_wp2
 go_loop [5, 8] (fun _ i => ∃ k : Nat, k ≤ xs.length ∧ i = .int .i64 k ∧ Veil (∀ i, i < k → oddN (xs.getD i 0) = false)) (fun _ i => xs.length - (Go.RowKit.intOf i).toNat)
 case atStart => exact ⟨0, Nat.zero_le _, rfl, veil (fun i hi => by omega)⟩
 case round =>
  obtain ⟨k, hk, rfl, Hk⟩ := hrel
  by_cases hlt : k < xs.length
  ·
   obtain ⟨ad, rfl, hcell⟩ := Kd.at_int hx (k : Int) (by omega) (by omega)
   have exk : rd xs (k : Int) = xs.getD k 0 := by unfold rd; rw [Int.toNat_natCast]
   rw [exk, Int.toNat_natCast] at hcell
   clear exk hx
   generalize hxk : xs.getD k 0 = x at *
   have Hx := veil hxk
   clear hxk
   by_cases ho : oddN x = true
   ·
    have Ho := veil ho
    clear ho
    go_wp2_with fail
    refine (odd_any _ _ true Ho.out).mono ?_
    rintro e w' ⟨rfl, rfl⟩
    go_wp2
    go_ret
    exact ⟨ret_int (oddAt_hit xs k Hk.out hlt (by rw [Hx.out]; exact Ho.out)).symm, rfl⟩
   ·
    have Ho : Veil (oddN x = false) := veil (by simpa using ho)
    clear ho
    go_wp2_with fail
    refine (odd_any _ _ false Ho.out).mono ?_
    rintro e w' ⟨rfl, rfl⟩
    go_wp2
    go_round
    case rel =>
     refine ⟨k + 1, by omega, by go_num, veil fun i hi => ?_⟩
     by_cases e : i = k
     ·
      subst e; rw [Hx.out]; exact Ho.out
     ·
      exact Hk.out i (by omega)
    case measure => simp [Go.RowKit.intOf]; omega
  ·
   obtain rfl : k = xs.length := by omega
   clear hx
   go_wp2
   go_ret
   exact ⟨ret_int (oddAt_none xs Hk.out).symm, rfl⟩
set_option maxHeartbeats 400000 in
theorem containsFunc_any (ao : Option Addr) (xs : List Int) (cap : Nat) (w : World) (b : Bool) (hx : (Kd.int .i64).C w ao xs.length xs) (hb : xs.any oddN = b) :
    Calls Tryd.prog 27 #[.slice ao xs.length cap, .func (.func 58) #[] #[]] w fun e w' => e = .returned (.bool b) ∧ w = w' := by
  have Hx := veil hx
  have Hb := veil ((oddAt_any xs).trans hb)
  clear hx hb
  go_enter Tryd.func27, Tryd.ntmps27
  go_wp2_with fail
  refine (indexFunc_any _ _ _ _ Hx.out).mono ?_
  rintro e w' ⟨rfl, rfl⟩
  go_wp2
  go_ret
  exact ⟨ret_bool Hb.out, rfl⟩
theorem isV_some {xs : List Int} (h0 : 0 < xs.length) (h1 : xs.length ≤ 16) : isV xs = !xs.any oddN := by simp [isV, h0, h1]
theorem isV_none {xs : List Int} (h : xs.length = 0 ∨ 16 < xs.length) : isV xs = false := by
  rcases h with h | h
  · simp [isV, h]
  · simp [isV, show ¬ xs.length ≤ 16 by omega]
set_option maxHeartbeats 400000 in
theorem is_any (ao : Option Addr) (xs : List Int) (cap : Nat) (w : World) (b : Bool) (hx : (Kd.int .i64).C w ao xs.length xs) (hb : isV xs = b) :
    Calls Tryd.prog 47 #[.slice ao xs.length cap] w fun e w' => e = .returned (.bool b) ∧ w = w' := by
  have Hx := veil hx
  clear hx
  by_cases h0 : 0 < xs.length
  · by_cases h1 : xs.length ≤ 16
    · have Hb := veil ((isV_some h0 h1).symm.trans hb)
      clear hb
      go_enter Tryd.func47, Tryd.ntmps47
      go_wp2_with fail
      refine (containsFunc_any _ _ _ _ _ Hx.out rfl).mono ?_
      rintro e w' ⟨rfl, rfl⟩
      go_wp2
      go_ret
      exact ⟨ret_bool Hb.out, rfl⟩
    · obtain rfl : b = false := hb.symm.trans (isV_none (by omega))
      clear hb
      have h1' : 16 < xs.length := by omega
      go_enter Tryd.func47, Tryd.ntmps47
      go_wp2
      go_ret
      exact ⟨rfl, rfl⟩
  · obtain rfl : b = false := hb.symm.trans (isV_none (by omega))
    clear hb
    have h1' : xs.length = 0 := by omega
    go_enter Tryd.func47, Tryd.ntmps47
    go_wp2
    go_ret
    exact ⟨rfl, rfl⟩
set_option maxHeartbeats 400000 in
theorem check_any (ao : Option Addr) (xs : List Int) (cap : Nat) (d : Int) (w : World) (c : Int) (hx : (Kd.int .i64).C w ao xs.length xs) (hc : (if isV xs = true ∧ (xs.length : Int) = d then 0 else 50) = c) :
  Calls Tryd.prog 28 #[.slice ao xs.length cap, .int .i64 d] w fun e w' => e = .returned (.int .i64 c) ∧ w = w' := by
 have Hx := veil hx
 clear hx
 by_cases h0 : isV xs = true
 ·
  have H0 := veil h0
  by_cases h1 : (xs.length : Int) = d
  ·
   obtain rfl : c = 0 := by rw [← hc, if_pos ⟨h0, h1⟩]
   have h1' : ((xs.length : Int) != d) = false := by simpa using h1
   clear hc h1 h0
   go_enter Tryd.func28, Tryd.ntmps28
   go_wp2_with fail
   refine (is_any _ _ _ _ true Hx.out H0.out).mono ?_
   rintro e w' ⟨rfl, rfl⟩
   go_wp2
   go_ret
   exact ⟨rfl, rfl⟩
  ·
   obtain rfl : c = 50 := by rw [← hc, if_neg (fun h => h1 h.2)]
   have h1' : ((xs.length : Int) != d) = true := by simpa using h1
   clear hc h1 h0
   go_enter Tryd.func28, Tryd.ntmps28
   go_wp2_with fail
   refine (is_any _ _ _ _ true Hx.out H0.out).mono ?_
   rintro e w' ⟨rfl, rfl⟩
   go_wp2
   go_ret
   exact ⟨rfl, rfl⟩
 ·
  obtain rfl : c = 50 := by rw [← hc, if_neg (fun h => h0 h.1)]
  have H0 : Veil (isV xs = false) := veil (by simpa using h0)
  clear hc h0
  go_enter Tryd.func28, Tryd.ntmps28
  go_wp2_with fail
  refine (is_any _ _ _ _ false Hx.out H0.out).mono ?_
  rintro e w' ⟨rfl, rfl⟩
  go_wp2
  go_ret
  exact ⟨rfl, rfl⟩
end Go.Proofs.YtlggihnkhimfkaaDoor.Giv
