/- Texts put together by prune.py: Px10, BncC. -/
import Derived.Test.YtlggihnkhimfkaaDoorPu2
namespace Go.Proofs.YtlggihnkhimfkaaDoor.P
open Go.RowKit Go.Proofs.YtlggihnkhimfkaaDoorW.PrintWords Go.Proofs.YtlggihnkhimfkaaDoorW.PrintLast Go.Proofs.YtlggihnkhimfkaaDoorW.PrintMore
attribute [local go_sem] max2_int min2_int max_two min_two max_three min_three max_four min_four   -- for this text's walks alone
set_option linter.unusedVariables false
set_option linter.unusedSimpArgs false
mutual
def benc_check.j0 : Nat → Int → Int → Bool → Int → Int → ByteArray → List (S49) → Option (Int)
  | 0, _, _, _, _, _, _, _ => none
  | k + 1, x1, x10, x11, x387000, x387001, x387002, x387003 => if x11 = true then (some 0) else (if x10 = 3 then (if x1 ≥ 8 then (benc_check.j1 k x1 22 x387000 x387001 x387002 x387003) else (benc_check.j1 k x1 0 x387000 x387001 x387002 x387003)) else (some 1))
def benc_check.j1 : Nat → Int → Int → Int → Int → ByteArray → List (S49) → Option (Int)
  | 0, _, _, _, _, _, _ => none
  | k + 1, x1, x5, x387000, x387001, x387002, x387003 => benc_check.l0 k x1 x5 x387003 (x387003.length : Int) 0
def benc_check.l0 : Nat → Int → Int → List (S49) → Int → Int → Option (Int)
  | 0, _, _, _, _, _ => none
  | k + 1, x1, x5, x19, x20, x21 => if x21 < x20 then (if 0 ≤ x21 then (if x21 < (x19.length : Int) then ((benc_check.f k ((rd_T49 x19 x21).f0) ((rd_T49 x19 x21).f1) ((rd_T49 x19 x21).f2) ((rd_T49 x19 x21).f3) (wrap64 (x1 + 1))).bind fun t389 => (if t389 = 1 then (some t389) else (if t389 = 22 then (benc_check.l0 k x1 t389 x19 x20 (wrap64 (x21 + 1))) else (benc_check.l0 k x1 x5 x19 x20 (wrap64 (x21 + 1)))))) else (none)) else (none)) else (some x5)
def benc_check.f : Nat → Int → Int → ByteArray → List (S49) → Int → Option (Int)
  | 0, _, _, _, _, _ => none
  | k + 1, a0_0, a0_1, a0_2, l0_3, a1 => if a0_0 = 1 then (benc_check.j0 k a1 a0_0 (a0_0 == 1) a0_0 a0_1 a0_2 l0_3) else (benc_check.j0 k a1 a0_0 (a0_0 == 2) a0_0 a0_1 a0_2 l0_3)
end
set_option maxHeartbeats 8000000 in
set_option maxRecDepth 100000 in
theorem benc_check.calls (k : Nat) : ∀ (a0_0 : Int) (a0_1 : Int) (a0_2 : ByteArray) (A0_3 : Option Addr) (c0_3 : Nat) (l0_3 : List (S49)) (a1 : Int) (r : Int) (w : World) (hr0_3 : Kd.C k49 w A0_3 l0_3.length l0_3) (hc0_3 : l0_3.length ≤ c0_3) (h : benc_check.f k a0_0 a0_1 a0_2 l0_3 a1 = some r),
  Calls Tryd.prog 34 #[.agg #[.int .i64 a0_0, .int .i64 a0_1, .string a0_2, .slice A0_3 l0_3.length c0_3], .int .i64 a1] w fun e w' => e = .returned (.int .i64 r) ∧ Below w.heap.size w w' := by
 induction k using Nat.strongRecOn with
 | _ k ih =>
 intro a0_0 a0_1 a0_2 A0_3 c0_3 l0_3 a1 r w hr0_3 hc0_3 h
 cases k with
 | zero => exact absurd h (by simp [benc_check.f])
 | succ k =>
 simp only [benc_check.f] at h
 have hu49 := Tryd.underlying49
 have HR0_3 := Aside0.mk hr0_3
 have HC0_3 := Aside0.mk hc0_3
 clear hr0_3 hc0_3
 have HB := Aside0.mk (Below.refl w.heap.size w)
 have H : (if a0_0 = 1 then (benc_check.j0 k a1 a0_0 (a0_0 == 1) a0_0 a0_1 a0_2 l0_3) else (benc_check.j0 k a1 a0_0 (a0_0 == 2) a0_0 a0_1 a0_2 l0_3)) = some r := h
 clear h
 have HC3 := Aside0.mk H
 clear H
 go_enter Tryd.func34, Tryd.ntmps34
 go_upto_if 11 with (first | ((with_reducible refine gate_dst (N := 2) rfl ?_); refine box_event ?hg (N := 2) ?hd (cs := #[.int .i64 a0_0, .int .i64 a0_1, .string a0_2, .slice A0_3 l0_3.length c0_3]) (t := 49) ?hr ?_; (case hd => rfl); (case hg => rfl); (case hr => first | (go_simp; done) | (go_simp; rfl)); intro gb386 hg w4 hbox hb; have n0_ := Aside0.mk (below_step (by repeat (first | (with_reducible first | exact HB.out | apply below_alloc | apply pw_below_drewN | apply below_drew1) | exact HB.out)) hb); have n1_ := Aside0.mk (hbox); have n2_ := Aside0.mk ((by rw [hg]; exact (below_size (by repeat (first | (with_reducible first | exact HB.out | apply below_alloc | apply pw_below_drewN | apply below_drew1) | exact HB.out))) : w.heap.size ≤ gb386)); have n3_ := Aside0.mk ((by rw [hg]; exact (below_size (by repeat (first | (with_reducible first | exact HB.out | apply below_alloc | apply pw_below_drewN | apply below_drew1) | exact HB.out))) : w.heap.size ≤ gb386)); clear HB; have HB := n0_; have BK386 := n1_; have GW386 := n2_; have GE386 := n3_; clear n0_ n1_ n2_ n3_; clear hb hbox hg; have hcz5_0 : w4.cell? ⟨gb386, 0, none⟩ = some (.int .i64 a0_0) := (blk_cell BK386.out 0).trans rfl; have hcz5_1 : w4.cell? ⟨gb386, 1, none⟩ = some (.int .i64 a0_1) := (blk_cell BK386.out 1).trans rfl; have hcz5_2 : w4.cell? ⟨gb386, 2, none⟩ = some (.string a0_2) := (blk_cell BK386.out 2).trans rfl; have hcz5_3 : w4.cell? ⟨gb386, 3, none⟩ = some (.slice A0_3 l0_3.length c0_3) := (blk_cell BK386.out 3).trans rfl; have hfz5_0 := blk_frozen BK386.out 0; have hfz5_1 := blk_frozen BK386.out 1; have hfz5_2 := blk_frozen BK386.out 2; have hfz5_3 := blk_frozen BK386.out 3))
 (try simp only [Act.put, List.setIfInBounds_toArray, List.set_cons_zero, List.set_cons_succ])
 go_cut [11] (fun v11 wc => ∃ (kq : Nat) (x11_2 : Bool), v11 = .bool x11_2 ∧ Aside0 (benc_check.j0 kq a1 a0_0 x11_2 a0_0 a0_1 a0_2 l0_3 = some r) ∧ Aside0 (kq ≤ k) ∧ Aside0 (wc.heap[gb386]? = some (.cells #[.int .i64 a0_0, .int .i64 a0_1, .string a0_2, (.slice A0_3 l0_3.length c0_3)] 49 (0, 0))) ∧ Aside0 (Below w.heap.size w wc))
 case first =>
  have H := HC3.out
  clear HC3
  by_cases c6 : a0_0 = 1
  ·
   rw [if_pos c6] at H
   have c6b0 : (a0_0 == 1) = true := beq_iff_eq.mpr c6
   have c6b1 : (a0_0 != 1) = false := bne_eq_false_iff_eq.mpr c6
   clear c6
   (first | rw [c6b0] | (simp only [i64_w, i32_w]; rw [c6b0]) | skip)
   have H' := Aside0.mk H
   clear H
   go_wp2
   go_meet
   case rel => exact ⟨_, ((a0_0 == 1)), (by first | rfl | (simp; done) | (simp [*]; done)), H', ⟨by first | omega | exact Nat.le_refl _⟩, ⟨by (with_reducible repeat (first | refine blk_drewN ?_ _ | refine blk_drew ?_ | refine blk_alloc ?_ _)); exact BK386.out⟩, ⟨by repeat (first | (with_reducible first | exact HB.out | apply below_alloc | apply pw_below_drewN | apply below_drew1 | refine below_set ?_ GE386.out) | exact HB.out)⟩⟩
  ·
   rw [if_neg c6] at H
   have c6b0 : (a0_0 == 1) = false := beq_eq_false_iff_ne.mpr c6
   have c6b1 : (a0_0 != 1) = true := bne_iff_ne.mpr c6
   (first | rw [c6b0] | (simp only [i64_w, i32_w]; rw [c6b0]) | skip)
   have H' := Aside0.mk H
   clear H
   go_wp2
   go_meet
   case rel => exact ⟨_, ((a0_0 == 2)), (by first | rfl | (simp; done) | (simp [*]; done)), H', ⟨by first | omega | exact Nat.le_refl _⟩, ⟨by (with_reducible repeat (first | refine blk_drewN ?_ _ | refine blk_drew ?_ | refine blk_alloc ?_ _)); exact BK386.out⟩, ⟨by repeat (first | (with_reducible first | exact HB.out | apply below_alloc | apply pw_below_drewN | apply below_drew1 | refine below_set ?_ GE386.out) | exact HB.out)⟩⟩
 case rest =>
  clear HC3
  try clear p2
  try clear c3
  try clear c6
  try clear c6b0
  try clear c6b1
  try clear hcz5_0
  try clear hcz5_1
  try clear hcz5_2
  try clear hcz5_3
  try clear hfz5_0
  try clear hfz5_1
  try clear hfz5_2
  try clear hfz5_3
  obtain ⟨kq, x11_2, rfl, HA, HJ2, BK386, HB⟩ := hcut
  cases kq with
  | zero => exact absurd HA.out (by simp [benc_check.j0])
  | succ kj2 =>
   have H := HA.out
   clear HA
   simp only [benc_check.j0] at H
   by_cases c7 : x11_2 = true
   ·
    subst c7
    have H1 : (some 0) = some r := by rw [if_pos rfl] at H; exact H
    clear H
    have H := H1
    clear H1
    obtain rfl := Option.some.inj H
    go_wp2
    go_ret
    exact ⟨by first | rfl | (simp [errW_none, errW_some] <;> rfl) | (simp [*, errW_none, errW_some] <;> rfl), by repeat (first | (with_reducible first | exact HB.out | apply below_alloc | apply pw_below_drewN | apply below_drew1 | refine below_set ?_ GE386.out) | exact HB.out)⟩
   ·
    replace c7 := Bool.eq_false_iff.mpr c7
    subst c7
    have H1 : (if a0_0 = 3 then (if a1 ≥ 8 then (benc_check.j1 kj2 a1 22 a0_0 a0_1 a0_2 l0_3) else (benc_check.j1 kj2 a1 0 a0_0 a0_1 a0_2 l0_3)) else (some 1)) = some r := by rw [if_neg (show ¬ (false = true) by decide)] at H; exact H
    clear H
    have H := H1
    clear H1
    by_cases c8 : a0_0 = 3
    ·
     rw [if_pos c8] at H
     have c8b0 : (a0_0 == 3) = true := beq_iff_eq.mpr c8
     have c8b1 : (a0_0 != 3) = false := bne_eq_false_iff_eq.mpr c8
     clear c8
     have HC9 := Aside0.mk H
     clear H
     go_upto_if 17 with (fail)
     go_cut [5] (fun v5 wc => ∃ (kq : Nat) (x5_8 : Int), v5 = .int .i64 x5_8 ∧ Aside0 (benc_check.j1 kq a1 x5_8 a0_0 a0_1 a0_2 l0_3 = some r) ∧ Aside0 (kq ≤ kj2) ∧ Aside0 (wc.heap[gb386]? = some (.cells #[.int .i64 a0_0, .int .i64 a0_1, .string a0_2, (.slice A0_3 l0_3.length c0_3)] 49 (0, 0))) ∧ Aside0 (Below w.heap.size w wc))
     case first =>
      have H := HC9.out
      clear HC9
      by_cases c10 : a1 ≥ 8
      ·
       rw [if_pos c10] at H
       have c10b0 : decide (8 ≤ a1) = true := decide_eq_true c10
       clear c10
       (first | rw [c10b0] | (simp only [i64_w, i32_w]; rw [c10b0]) | skip)
       have H' := Aside0.mk H
       clear H
       go_wp2
       go_meet
       case rel => exact ⟨_, (22), (by first | rfl | (simp; done) | (simp [*]; done)), H', ⟨by have := HJ2.out; first | omega | exact Nat.le_refl _⟩, ⟨by (with_reducible repeat (first | refine blk_drewN ?_ _ | refine blk_drew ?_ | refine blk_alloc ?_ _)); exact BK386.out⟩, ⟨by repeat (first | (with_reducible first | exact HB.out | apply below_alloc | apply pw_below_drewN | apply below_drew1 | refine below_set ?_ GE386.out) | exact HB.out)⟩⟩
      ·
       rw [if_neg c10] at H
       have c10b0 : decide (8 ≤ a1) = false := decide_eq_false c10
       clear c10
       (first | rw [c10b0] | (simp only [i64_w, i32_w]; rw [c10b0]) | skip)
       have H' := Aside0.mk H
       clear H
       go_wp2
       go_meet
       case rel => exact ⟨_, (0), (by first | rfl | (simp; done) | (simp [*]; done)), H', ⟨by have := HJ2.out; first | omega | exact Nat.le_refl _⟩, ⟨by (with_reducible repeat (first | refine blk_drewN ?_ _ | refine blk_drew ?_ | refine blk_alloc ?_ _)); exact BK386.out⟩, ⟨by repeat (first | (with_reducible first | exact HB.out | apply below_alloc | apply pw_below_drewN | apply below_drew1 | refine below_set ?_ GE386.out) | exact HB.out)⟩⟩
     case rest =>
      clear HC9
      try clear c1
      try clear p2
      try clear c3
      try clear c6
      try clear c6b0
      try clear c6b1
      try clear c7
      try clear c8
      try clear c8b0
      try clear c8b1
      try clear c10
      try clear c10b0
      try clear hcz5_0
      try clear hcz5_1
      try clear hcz5_2
      try clear hcz5_3
      try clear hfz5_0
      try clear hfz5_1
      try clear hfz5_2
      try clear hfz5_3
      try clear p2
      obtain ⟨kq, x5_8, rfl, HA, HJ8, BK386, HB⟩ := hcut
      cases kq with
      | zero => exact absurd HA.out (by simp [benc_check.j1])
      | succ kj8 =>
       have H := HA.out
       clear HA
       simp only [benc_check.j1] at H
       have H' := Aside0.mk H
       clear H
       have hcz11_0 : wc.cell? ⟨gb386, 0, none⟩ = some (.int .i64 a0_0) := (blk_cell BK386.out 0).trans rfl
       have hcz11_1 : wc.cell? ⟨gb386, 1, none⟩ = some (.int .i64 a0_1) := (blk_cell BK386.out 1).trans rfl
       have hcz11_2 : wc.cell? ⟨gb386, 2, none⟩ = some (.string a0_2) := (blk_cell BK386.out 2).trans rfl
       have hcz11_3 : wc.cell? ⟨gb386, 3, none⟩ = some (.slice A0_3 l0_3.length c0_3) := (blk_cell BK386.out 3).trans rfl
       have hfz11_0 := blk_frozen BK386.out 0
       have hfz11_1 := blk_frozen BK386.out 1
       have hfz11_2 := blk_frozen BK386.out 2
       have hfz11_3 := blk_frozen BK386.out 3
       go_wp2
       go_loopg [5, 21] kj8 (fun kq v5 v21 w' => ∃ (x5_3 : Int) (x21_3 : Int), v5 = .int .i64 x5_3 ∧ v21 = .int .i64 x21_3 ∧ Aside0 (benc_check.l0 kq a1 x5_3 l0_3 (l0_3.length : Int) x21_3 = some r) ∧ Aside0 (kq ≤ kj8) ∧ Aside0 (w'.heap[gb386]? = some (.cells #[.int .i64 a0_0, .int .i64 a0_1, .string a0_2, (.slice A0_3 l0_3.length c0_3)] 49 (0, 0))) ∧ Aside0 (Below w.heap.size w w'))
       case atStart => exact ⟨(x5_8), (0), (by first | rfl | (simp; done) | (simp [*]; done)), (by first | rfl | (simp; done) | (simp [*]; done)), H', ⟨Nat.le_refl _⟩, ⟨by (with_reducible repeat (first | refine blk_drewN ?_ _ | refine blk_drew ?_ | refine blk_alloc ?_ _)); exact BK386.out⟩, ⟨by repeat (first | (with_reducible first | exact HB.out | apply below_alloc | apply pw_below_drewN | apply below_drew1 | refine below_set ?_ GE386.out) | exact HB.out)⟩⟩
       case round =>
        clear H'
        try clear c1
        try clear p2
        try clear c3
        try clear c6
        try clear c6b0
        try clear c6b1
        try clear c7
        try clear c8
        try clear c8b0
        try clear c8b1
        try clear c10
        try clear c10b0
        try clear hcz11_0
        try clear hcz11_1
        try clear hcz11_2
        try clear hcz11_3
        try clear hcz5_0
        try clear hcz5_1
        try clear hcz5_2
        try clear hcz5_3
        try clear hfz11_0
        try clear hfz11_1
        try clear hfz11_2
        try clear hfz11_3
        try clear hfz5_0
        try clear hfz5_1
        try clear hfz5_2
        try clear hfz5_3
        try clear p2
        obtain ⟨x5_3, x21_3, rfl, rfl, HA, HK3, BK386, HB⟩ := hrel
        cases gk with
        | zero => exact absurd HA.out (by simp [benc_check.l0])
        | succ k3 =>
         have H := HA.out
         clear HA
         simp only [benc_check.l0] at H
         by_cases c12 : x21_3 < (l0_3.length : Int)
         ·
          rw [if_pos c12] at H
          have c12b0 : decide (x21_3 < (l0_3.length : Int)) = true := decide_eq_true c12
          clear c12
          by_cases c13 : 0 ≤ x21_3
          ·
           rw [if_pos c13] at H
           have c13b0 : decide (0 ≤ x21_3) = true := decide_eq_true c13
           clear c13
           by_cases c14 : x21_3 < (l0_3.length : Int)
           ·
            rw [if_pos c14] at H
            have c14b0 : decide (x21_3 < (l0_3.length : Int)) = true := decide_eq_true c14
            clear c14
            replace H := Option.bind_eq_some_iff.mp H
            obtain ⟨t389, A150, H⟩ := H
            replace H : (if t389 = 1 then (some t389) else (if t389 = 22 then (benc_check.l0 k3 a1 t389 l0_3 (l0_3.length : Int) (wrap64 (x21_3 + 1))) else (benc_check.l0 k3 a1 x5_3 l0_3 (l0_3.length : Int) (wrap64 (x21_3 + 1))))) = some r := H
            have A15 := Aside0.mk A150
            clear A150
            by_cases c16 : t389 = 1
            ·
             rw [if_pos c16] at H
             have c16b0 : (t389 == 1) = true := beq_iff_eq.mpr c16
             have c16b1 : (t389 != 1) = false := bne_eq_false_iff_eq.mpr c16
             clear c16
             obtain rfl := Option.some.inj H
             have p387 : 0 ≤ (x21_3 : Int) := of_decide_eq_true (by first | (with_reducible assumption) | assumption)
             have q387 : x21_3 < (l0_3.length : Int) := of_decide_eq_true (by first | (with_reducible assumption) | assumption)
             obtain ⟨ad387, A387_3, c387_3, e387, hx387_0, hx387_1, hx387_2, hx387_3, hl387_3, hi387_3⟩ := at_T49 HR0_3.out x21_3 p387 q387
             cases e387
             replace hx387_0 := (HB.out.cell (World.block_lt_of_cell? w _ hx387_0)).trans hx387_0
             replace hx387_1 := (HB.out.cell (World.block_lt_of_cell? w _ hx387_1)).trans hx387_1
             replace hx387_2 := (HB.out.cell (World.block_lt_of_cell? w _ hx387_2)).trans hx387_2
             replace hx387_3 := (HB.out.cell (World.block_lt_of_cell? w _ hx387_3)).trans hx387_3
             have HR387_3 := Aside0.mk hi387_3
             have HC387_3 := Aside0.mk hl387_3
             clear hi387_3 hl387_3
             replace p387 := eq_true p387
             replace q387 := eq_true q387
             go_wp2_with (first | ((with_reducible refine gate_dst (N := 7) rfl ?_); refine box_event ?hg (N := 7) ?hd (cs := #[.int .i64 0, .int .i64 0, .string (⟨#[]⟩ : ByteArray), .slice none 0 0]) (t := 49) ?hr ?_; (case hd => rfl); (case hg => rfl); (case hr => first | (go_simp; done) | (go_simp; rfl)); intro gb388 hg w17 hbox hb; have n0_ := Aside0.mk (blk_below (g := gb386) (o := .cells #[.int .i64 a0_0, .int .i64 a0_1, .string a0_2, .slice (some ad387) l0_3.length c0_3] 49 (0, 0)) (by (with_reducible repeat (first | refine blk_drewN ?_ _ | refine blk_drew ?_ | refine blk_alloc ?_ _)); exact BK386.out) hb); have n1_ := Aside0.mk (below_step (by repeat (first | (with_reducible first | exact HB.out | apply below_alloc | apply pw_below_drewN | apply below_drew1 | refine below_set ?_ GE386.out) | exact HB.out)) hb); have n2_ := Aside0.mk (hbox); have n3_ := Aside0.mk ((by rw [hg]; exact (below_size (by repeat (first | (with_reducible first | exact HB.out | apply below_alloc | apply pw_below_drewN | apply below_drew1 | refine below_set ?_ GE386.out) | exact HB.out))) : w.heap.size ≤ gb388)); have n4_ := Aside0.mk ((by rw [hg]; exact (below_size (by repeat (first | (with_reducible first | exact HB.out | apply below_alloc | apply pw_below_drewN | apply below_drew1 | refine below_set ?_ GE386.out) | exact HB.out))) : w.heap.size ≤ gb388)); have n5_ := Aside0.mk ((by rw [hg]; exact Nat.ne_of_lt (blk_lt (g := gb386) (o := .cells #[.int .i64 a0_0, .int .i64 a0_1, .string a0_2, .slice (some ad387) l0_3.length c0_3] 49 (0, 0)) (by (with_reducible repeat (first | refine blk_drewN ?_ _ | refine blk_drew ?_ | refine blk_alloc ?_ _)); exact BK386.out)) : gb386 ≠ gb388)); have n6_ := Aside0.mk ((by rw [hg]; exact Nat.ne_of_gt (blk_lt (g := gb386) (o := .cells #[.int .i64 a0_0, .int .i64 a0_1, .string a0_2, .slice (some ad387) l0_3.length c0_3] 49 (0, 0)) (by (with_reducible repeat (first | refine blk_drewN ?_ _ | refine blk_drew ?_ | refine blk_alloc ?_ _)); exact BK386.out)) : gb388 ≠ gb386)); clear BK386; clear HB; have BK386 := n0_; have HB := n1_; have BK388 := n2_; have GW388 := n3_; have GE388 := n4_; have NB386_388 := n5_; have NB388_386 := n6_; clear n0_ n1_ n2_ n3_ n4_ n5_ n6_; clear hb hbox hg; have hnb18 := NB388_386.out; have hnc18 := NB386_388.out; have hcz19_0 : w17.cell? ⟨gb388, 0, none⟩ = some (.int .i64 0) := (blk_cell BK388.out 0).trans rfl; have hcz19_1 : w17.cell? ⟨gb388, 1, none⟩ = some (.int .i64 0) := (blk_cell BK388.out 1).trans rfl; have hcz19_2 : w17.cell? ⟨gb388, 2, none⟩ = some (.string (⟨#[]⟩ : ByteArray)) := (blk_cell BK388.out 2).trans rfl; have hcz19_3 : w17.cell? ⟨gb388, 3, none⟩ = some (.slice none 0 0) := (blk_cell BK388.out 3).trans rfl; have hfz19_0 := blk_frozen BK388.out 0; have hfz19_1 := blk_frozen BK388.out 1; have hfz19_2 := blk_frozen BK388.out 2; have hfz19_3 := blk_frozen BK388.out 3) | ((with_reducible refine gate_callee (f := 34) rfl ?_); refine goesL_ (some 28) rfl rfl Tryd.func34 (by kernel_rfl) rfl #[.agg #[.int .i64 ((rd_T49 l0_3 x21_3).f0), .int .i64 ((rd_T49 l0_3 x21_3).f1), .string ((rd_T49 l0_3 x21_3).f2), .slice A387_3 ((rd_T49 l0_3 x21_3).f3).length c387_3], .int .i64 (wrap64 (a1 + 1))] rfl (by (try simp only [List.map_toArray, List.map_cons, List.map_nil]); first | done | rfl | (simp only [List.length_drop, List.length_take]; rfl)) ?_; (with_reducible refine (ih k3 (by have := HJ2.out; have := HJ8.out; have := HK3.out; omega) ((rd_T49 l0_3 x21_3).f0) ((rd_T49 l0_3 x21_3).f1) ((rd_T49 l0_3 x21_3).f2) _ _ ((rd_T49 l0_3 x21_3).f3) (wrap64 (a1 + 1)) t389 _ ?side1 ?side2 A15.out).mono ?_); (case side1 => exact Kd.C_below HR387_3.out (by repeat (first | (with_reducible first | exact HB.out | apply below_alloc | apply pw_below_drewN | apply below_drew1 | refine below_set ?_ GE386.out | refine below_set ?_ GE388.out) | exact HB.out))); (case side2 => exact HC387_3.out); rintro e w20 ⟨rfl, hb⟩; refine ⟨_, rfl, ?_⟩; have n0_ := Aside0.mk (blk_below (g := gb386) (o := .cells #[.int .i64 a0_0, .int .i64 a0_1, .string a0_2, .slice (some ad387) l0_3.length c0_3] 49 (0, 0)) (by (with_reducible repeat (first | refine blk_drewN ?_ _ | refine blk_drew ?_ | refine blk_alloc ?_ _)); refine blk_far ?_ NB386_388.out _; (with_reducible repeat (first | refine blk_drewN ?_ _ | refine blk_drew ?_ | refine blk_alloc ?_ _)); refine blk_far ?_ NB386_388.out _; (with_reducible repeat (first | refine blk_drewN ?_ _ | refine blk_drew ?_ | refine blk_alloc ?_ _)); refine blk_far ?_ NB386_388.out _; (with_reducible repeat (first | refine blk_drewN ?_ _ | refine blk_drew ?_ | refine blk_alloc ?_ _)); refine blk_far ?_ NB386_388.out _; (with_reducible repeat (first | refine blk_drewN ?_ _ | refine blk_drew ?_ | refine blk_alloc ?_ _)); exact BK386.out) hb); have n1_ := Aside0.mk (blk_below (g := gb388) (o := .cells #[.int .i64 ((rd_T49 l0_3 x21_3).f0), .int .i64 ((rd_T49 l0_3 x21_3).f1), .string ((rd_T49 l0_3 x21_3).f2), .slice A387_3 ((rd_T49 l0_3 x21_3).f3).length c387_3] 49 (0, 0)) (by (with_reducible repeat (first | refine blk_drewN ?_ _ | refine blk_drew ?_ | refine blk_alloc ?_ _)); refine blk_put (cs := #[.int .i64 ((rd_T49 l0_3 x21_3).f0), .int .i64 ((rd_T49 l0_3 x21_3).f1), .string ((rd_T49 l0_3 x21_3).f2), .slice none 0 0]) ?_ 3 _ rfl; (with_reducible repeat (first | refine blk_drewN ?_ _ | refine blk_drew ?_ | refine blk_alloc ?_ _)); refine blk_put (cs := #[.int .i64 ((rd_T49 l0_3 x21_3).f0), .int .i64 ((rd_T49 l0_3 x21_3).f1), .string (⟨#[]⟩ : ByteArray), .slice none 0 0]) ?_ 2 _ rfl; (with_reducible repeat (first | refine blk_drewN ?_ _ | refine blk_drew ?_ | refine blk_alloc ?_ _)); refine blk_put (cs := #[.int .i64 ((rd_T49 l0_3 x21_3).f0), .int .i64 0, .string (⟨#[]⟩ : ByteArray), .slice none 0 0]) ?_ 1 _ rfl; (with_reducible repeat (first | refine blk_drewN ?_ _ | refine blk_drew ?_ | refine blk_alloc ?_ _)); refine blk_put (cs := #[.int .i64 0, .int .i64 0, .string (⟨#[]⟩ : ByteArray), .slice none 0 0]) ?_ 0 _ rfl; (with_reducible repeat (first | refine blk_drewN ?_ _ | refine blk_drew ?_ | refine blk_alloc ?_ _)); exact BK388.out) hb); have n2_ := Aside0.mk (below_step (by repeat (first | (with_reducible first | exact HB.out | apply below_alloc | apply pw_below_drewN | apply below_drew1 | refine below_set ?_ GE386.out | refine below_set ?_ GE388.out) | exact HB.out)) hb); clear BK386; clear BK388; clear HB; have BK386 := n0_; have BK388 := n1_; have HB := n2_; clear n0_ n1_ n2_; (try clear hb); (try clear hb2); (try clear hk); (try clear hi)))
             go_ret
             exact ⟨by first | rfl | (simp [errW_none, errW_some] <;> rfl) | (simp [*, errW_none, errW_some] <;> rfl), by repeat (first | (with_reducible first | exact HB.out | apply below_alloc | apply pw_below_drewN | apply below_drew1 | refine below_set ?_ GE386.out | refine below_set ?_ GE388.out) | exact HB.out)⟩
            ·
             rw [if_neg c16] at H
             have c16b0 : (t389 == 1) = false := beq_eq_false_iff_ne.mpr c16
             have c16b1 : (t389 != 1) = true := bne_iff_ne.mpr c16
             by_cases c21 : t389 = 22
             ·
              rw [if_pos c21] at H
              have c21b0 : (t389 == 22) = true := beq_iff_eq.mpr c21
              have c21b1 : (t389 != 22) = false := bne_eq_false_iff_eq.mpr c21
              clear c21
              have H' := Aside0.mk H
              clear H
              have p387 : 0 ≤ (x21_3 : Int) := of_decide_eq_true (by first | (with_reducible assumption) | assumption)
              have q387 : x21_3 < (l0_3.length : Int) := of_decide_eq_true (by first | (with_reducible assumption) | assumption)
              obtain ⟨ad387, A387_3, c387_3, e387, hx387_0, hx387_1, hx387_2, hx387_3, hl387_3, hi387_3⟩ := at_T49 HR0_3.out x21_3 p387 q387
              cases e387
              replace hx387_0 := (HB.out.cell (World.block_lt_of_cell? w _ hx387_0)).trans hx387_0
              replace hx387_1 := (HB.out.cell (World.block_lt_of_cell? w _ hx387_1)).trans hx387_1
              replace hx387_2 := (HB.out.cell (World.block_lt_of_cell? w _ hx387_2)).trans hx387_2
              replace hx387_3 := (HB.out.cell (World.block_lt_of_cell? w _ hx387_3)).trans hx387_3
              have HR387_3 := Aside0.mk hi387_3
              have HC387_3 := Aside0.mk hl387_3
              clear hi387_3 hl387_3
              replace p387 := eq_true p387
              replace q387 := eq_true q387
              go_wp2_with (first | ((with_reducible refine gate_dst (N := 7) rfl ?_); refine box_event ?hg (N := 7) ?hd (cs := #[.int .i64 0, .int .i64 0, .string (⟨#[]⟩ : ByteArray), .slice none 0 0]) (t := 49) ?hr ?_; (case hd => rfl); (case hg => rfl); (case hr => first | (go_simp; done) | (go_simp; rfl)); intro gb388 hg w22 hbox hb; have n0_ := Aside0.mk (blk_below (g := gb386) (o := .cells #[.int .i64 a0_0, .int .i64 a0_1, .string a0_2, .slice (some ad387) l0_3.length c0_3] 49 (0, 0)) (by (with_reducible repeat (first | refine blk_drewN ?_ _ | refine blk_drew ?_ | refine blk_alloc ?_ _)); exact BK386.out) hb); have n1_ := Aside0.mk (below_step (by repeat (first | (with_reducible first | exact HB.out | apply below_alloc | apply pw_below_drewN | apply below_drew1 | refine below_set ?_ GE386.out) | exact HB.out)) hb); have n2_ := Aside0.mk (hbox); have n3_ := Aside0.mk ((by rw [hg]; exact (below_size (by repeat (first | (with_reducible first | exact HB.out | apply below_alloc | apply pw_below_drewN | apply below_drew1 | refine below_set ?_ GE386.out) | exact HB.out))) : w.heap.size ≤ gb388)); have n4_ := Aside0.mk ((by rw [hg]; exact (below_size (by repeat (first | (with_reducible first | exact HB.out | apply below_alloc | apply pw_below_drewN | apply below_drew1 | refine below_set ?_ GE386.out) | exact HB.out))) : w.heap.size ≤ gb388)); have n5_ := Aside0.mk ((by rw [hg]; exact Nat.ne_of_lt (blk_lt (g := gb386) (o := .cells #[.int .i64 a0_0, .int .i64 a0_1, .string a0_2, .slice (some ad387) l0_3.length c0_3] 49 (0, 0)) (by (with_reducible repeat (first | refine blk_drewN ?_ _ | refine blk_drew ?_ | refine blk_alloc ?_ _)); exact BK386.out)) : gb386 ≠ gb388)); have n6_ := Aside0.mk ((by rw [hg]; exact Nat.ne_of_gt (blk_lt (g := gb386) (o := .cells #[.int .i64 a0_0, .int .i64 a0_1, .string a0_2, .slice (some ad387) l0_3.length c0_3] 49 (0, 0)) (by (with_reducible repeat (first | refine blk_drewN ?_ _ | refine blk_drew ?_ | refine blk_alloc ?_ _)); exact BK386.out)) : gb388 ≠ gb386)); clear BK386; clear HB; have BK386 := n0_; have HB := n1_; have BK388 := n2_; have GW388 := n3_; have GE388 := n4_; have NB386_388 := n5_; have NB388_386 := n6_; clear n0_ n1_ n2_ n3_ n4_ n5_ n6_; clear hb hbox hg; have hnb23 := NB388_386.out; have hnc23 := NB386_388.out; have hcz24_0 : w22.cell? ⟨gb388, 0, none⟩ = some (.int .i64 0) := (blk_cell BK388.out 0).trans rfl; have hcz24_1 : w22.cell? ⟨gb388, 1, none⟩ = some (.int .i64 0) := (blk_cell BK388.out 1).trans rfl; have hcz24_2 : w22.cell? ⟨gb388, 2, none⟩ = some (.string (⟨#[]⟩ : ByteArray)) := (blk_cell BK388.out 2).trans rfl; have hcz24_3 : w22.cell? ⟨gb388, 3, none⟩ = some (.slice none 0 0) := (blk_cell BK388.out 3).trans rfl; have hfz24_0 := blk_frozen BK388.out 0; have hfz24_1 := blk_frozen BK388.out 1; have hfz24_2 := blk_frozen BK388.out 2; have hfz24_3 := blk_frozen BK388.out 3) | ((with_reducible refine gate_callee (f := 34) rfl ?_); refine goesL_ (some 28) rfl rfl Tryd.func34 (by kernel_rfl) rfl #[.agg #[.int .i64 ((rd_T49 l0_3 x21_3).f0), .int .i64 ((rd_T49 l0_3 x21_3).f1), .string ((rd_T49 l0_3 x21_3).f2), .slice A387_3 ((rd_T49 l0_3 x21_3).f3).length c387_3], .int .i64 (wrap64 (a1 + 1))] rfl (by (try simp only [List.map_toArray, List.map_cons, List.map_nil]); first | done | rfl | (simp only [List.length_drop, List.length_take]; rfl)) ?_; (with_reducible refine (ih k3 (by have := HJ2.out; have := HJ8.out; have := HK3.out; omega) ((rd_T49 l0_3 x21_3).f0) ((rd_T49 l0_3 x21_3).f1) ((rd_T49 l0_3 x21_3).f2) _ _ ((rd_T49 l0_3 x21_3).f3) (wrap64 (a1 + 1)) t389 _ ?side1 ?side2 A15.out).mono ?_); (case side1 => exact Kd.C_below HR387_3.out (by repeat (first | (with_reducible first | exact HB.out | apply below_alloc | apply pw_below_drewN | apply below_drew1 | refine below_set ?_ GE386.out | refine below_set ?_ GE388.out) | exact HB.out))); (case side2 => exact HC387_3.out); rintro e w25 ⟨rfl, hb⟩; refine ⟨_, rfl, ?_⟩; have n0_ := Aside0.mk (blk_below (g := gb386) (o := .cells #[.int .i64 a0_0, .int .i64 a0_1, .string a0_2, .slice (some ad387) l0_3.length c0_3] 49 (0, 0)) (by (with_reducible repeat (first | refine blk_drewN ?_ _ | refine blk_drew ?_ | refine blk_alloc ?_ _)); refine blk_far ?_ NB386_388.out _; (with_reducible repeat (first | refine blk_drewN ?_ _ | refine blk_drew ?_ | refine blk_alloc ?_ _)); refine blk_far ?_ NB386_388.out _; (with_reducible repeat (first | refine blk_drewN ?_ _ | refine blk_drew ?_ | refine blk_alloc ?_ _)); refine blk_far ?_ NB386_388.out _; (with_reducible repeat (first | refine blk_drewN ?_ _ | refine blk_drew ?_ | refine blk_alloc ?_ _)); refine blk_far ?_ NB386_388.out _; (with_reducible repeat (first | refine blk_drewN ?_ _ | refine blk_drew ?_ | refine blk_alloc ?_ _)); exact BK386.out) hb); have n1_ := Aside0.mk (blk_below (g := gb388) (o := .cells #[.int .i64 ((rd_T49 l0_3 x21_3).f0), .int .i64 ((rd_T49 l0_3 x21_3).f1), .string ((rd_T49 l0_3 x21_3).f2), .slice A387_3 ((rd_T49 l0_3 x21_3).f3).length c387_3] 49 (0, 0)) (by (with_reducible repeat (first | refine blk_drewN ?_ _ | refine blk_drew ?_ | refine blk_alloc ?_ _)); refine blk_put (cs := #[.int .i64 ((rd_T49 l0_3 x21_3).f0), .int .i64 ((rd_T49 l0_3 x21_3).f1), .string ((rd_T49 l0_3 x21_3).f2), .slice none 0 0]) ?_ 3 _ rfl; (with_reducible repeat (first | refine blk_drewN ?_ _ | refine blk_drew ?_ | refine blk_alloc ?_ _)); refine blk_put (cs := #[.int .i64 ((rd_T49 l0_3 x21_3).f0), .int .i64 ((rd_T49 l0_3 x21_3).f1), .string (⟨#[]⟩ : ByteArray), .slice none 0 0]) ?_ 2 _ rfl; (with_reducible repeat (first | refine blk_drewN ?_ _ | refine blk_drew ?_ | refine blk_alloc ?_ _)); refine blk_put (cs := #[.int .i64 ((rd_T49 l0_3 x21_3).f0), .int .i64 0, .string (⟨#[]⟩ : ByteArray), .slice none 0 0]) ?_ 1 _ rfl; (with_reducible repeat (first | refine blk_drewN ?_ _ | refine blk_drew ?_ | refine blk_alloc ?_ _)); refine blk_put (cs := #[.int .i64 0, .int .i64 0, .string (⟨#[]⟩ : ByteArray), .slice none 0 0]) ?_ 0 _ rfl; (with_reducible repeat (first | refine blk_drewN ?_ _ | refine blk_drew ?_ | refine blk_alloc ?_ _)); exact BK388.out) hb); have n2_ := Aside0.mk (below_step (by repeat (first | (with_reducible first | exact HB.out | apply below_alloc | apply pw_below_drewN | apply below_drew1 | refine below_set ?_ GE386.out | refine below_set ?_ GE388.out) | exact HB.out)) hb); clear BK386; clear BK388; clear HB; have BK386 := n0_; have BK388 := n1_; have HB := n2_; clear n0_ n1_ n2_; (try clear hb); (try clear hb2); (try clear hk); (try clear hi)))
              go_roundg k3
              case measure => have := HJ2.out; have := HJ8.out; have := HK3.out; omega
              case rel => exact ⟨(t389), (wrap64 (x21_3 + 1)), (by first | rfl | (simp; done) | (simp [*]; done)), (by first | rfl | (simp; done) | (simp [*]; done)), H', ⟨by have := HJ2.out; have := HJ8.out; have := HK3.out; omega⟩, ⟨by (with_reducible repeat (first | refine blk_drewN ?_ _ | refine blk_drew ?_ | refine blk_alloc ?_ _)); exact BK386.out⟩, ⟨by repeat (first | (with_reducible first | exact HB.out | apply below_alloc | apply pw_below_drewN | apply below_drew1 | refine below_set ?_ GE386.out | refine below_set ?_ GE388.out) | exact HB.out)⟩⟩
             ·
              rw [if_neg c21] at H
              have c21b0 : (t389 == 22) = false := beq_eq_false_iff_ne.mpr c21
              have c21b1 : (t389 != 22) = true := bne_iff_ne.mpr c21
              have H' := Aside0.mk H
              clear H
              have p387 : 0 ≤ (x21_3 : Int) := of_decide_eq_true (by first | (with_reducible assumption) | assumption)
              have q387 : x21_3 < (l0_3.length : Int) := of_decide_eq_true (by first | (with_reducible assumption) | assumption)
              obtain ⟨ad387, A387_3, c387_3, e387, hx387_0, hx387_1, hx387_2, hx387_3, hl387_3, hi387_3⟩ := at_T49 HR0_3.out x21_3 p387 q387
              cases e387
              replace hx387_0 := (HB.out.cell (World.block_lt_of_cell? w _ hx387_0)).trans hx387_0
              replace hx387_1 := (HB.out.cell (World.block_lt_of_cell? w _ hx387_1)).trans hx387_1
              replace hx387_2 := (HB.out.cell (World.block_lt_of_cell? w _ hx387_2)).trans hx387_2
              replace hx387_3 := (HB.out.cell (World.block_lt_of_cell? w _ hx387_3)).trans hx387_3
              have HR387_3 := Aside0.mk hi387_3
              have HC387_3 := Aside0.mk hl387_3
              clear hi387_3 hl387_3
              replace p387 := eq_true p387
              replace q387 := eq_true q387
              go_wp2_with (first | ((with_reducible refine gate_dst (N := 7) rfl ?_); refine box_event ?hg (N := 7) ?hd (cs := #[.int .i64 0, .int .i64 0, .string (⟨#[]⟩ : ByteArray), .slice none 0 0]) (t := 49) ?hr ?_; (case hd => rfl); (case hg => rfl); (case hr => first | (go_simp; done) | (go_simp; rfl)); intro gb388 hg w26 hbox hb; have n0_ := Aside0.mk (blk_below (g := gb386) (o := .cells #[.int .i64 a0_0, .int .i64 a0_1, .string a0_2, .slice (some ad387) l0_3.length c0_3] 49 (0, 0)) (by (with_reducible repeat (first | refine blk_drewN ?_ _ | refine blk_drew ?_ | refine blk_alloc ?_ _)); exact BK386.out) hb); have n1_ := Aside0.mk (below_step (by repeat (first | (with_reducible first | exact HB.out | apply below_alloc | apply pw_below_drewN | apply below_drew1 | refine below_set ?_ GE386.out) | exact HB.out)) hb); have n2_ := Aside0.mk (hbox); have n3_ := Aside0.mk ((by rw [hg]; exact (below_size (by repeat (first | (with_reducible first | exact HB.out | apply below_alloc | apply pw_below_drewN | apply below_drew1 | refine below_set ?_ GE386.out) | exact HB.out))) : w.heap.size ≤ gb388)); have n4_ := Aside0.mk ((by rw [hg]; exact (below_size (by repeat (first | (with_reducible first | exact HB.out | apply below_alloc | apply pw_below_drewN | apply below_drew1 | refine below_set ?_ GE386.out) | exact HB.out))) : w.heap.size ≤ gb388)); have n5_ := Aside0.mk ((by rw [hg]; exact Nat.ne_of_lt (blk_lt (g := gb386) (o := .cells #[.int .i64 a0_0, .int .i64 a0_1, .string a0_2, .slice (some ad387) l0_3.length c0_3] 49 (0, 0)) (by (with_reducible repeat (first | refine blk_drewN ?_ _ | refine blk_drew ?_ | refine blk_alloc ?_ _)); exact BK386.out)) : gb386 ≠ gb388)); have n6_ := Aside0.mk ((by rw [hg]; exact Nat.ne_of_gt (blk_lt (g := gb386) (o := .cells #[.int .i64 a0_0, .int .i64 a0_1, .string a0_2, .slice (some ad387) l0_3.length c0_3] 49 (0, 0)) (by (with_reducible repeat (first | refine blk_drewN ?_ _ | refine blk_drew ?_ | refine blk_alloc ?_ _)); exact BK386.out)) : gb388 ≠ gb386)); clear BK386; clear HB; have BK386 := n0_; have HB := n1_; have BK388 := n2_; have GW388 := n3_; have GE388 := n4_; have NB386_388 := n5_; have NB388_386 := n6_; clear n0_ n1_ n2_ n3_ n4_ n5_ n6_; clear hb hbox hg; have hnb27 := NB388_386.out; have hnc27 := NB386_388.out; have hcz28_0 : w26.cell? ⟨gb388, 0, none⟩ = some (.int .i64 0) := (blk_cell BK388.out 0).trans rfl; have hcz28_1 : w26.cell? ⟨gb388, 1, none⟩ = some (.int .i64 0) := (blk_cell BK388.out 1).trans rfl; have hcz28_2 : w26.cell? ⟨gb388, 2, none⟩ = some (.string (⟨#[]⟩ : ByteArray)) := (blk_cell BK388.out 2).trans rfl; have hcz28_3 : w26.cell? ⟨gb388, 3, none⟩ = some (.slice none 0 0) := (blk_cell BK388.out 3).trans rfl; have hfz28_0 := blk_frozen BK388.out 0; have hfz28_1 := blk_frozen BK388.out 1; have hfz28_2 := blk_frozen BK388.out 2; have hfz28_3 := blk_frozen BK388.out 3) | ((with_reducible refine gate_callee (f := 34) rfl ?_); refine goesL_ (some 28) rfl rfl Tryd.func34 (by kernel_rfl) rfl #[.agg #[.int .i64 ((rd_T49 l0_3 x21_3).f0), .int .i64 ((rd_T49 l0_3 x21_3).f1), .string ((rd_T49 l0_3 x21_3).f2), .slice A387_3 ((rd_T49 l0_3 x21_3).f3).length c387_3], .int .i64 (wrap64 (a1 + 1))] rfl (by (try simp only [List.map_toArray, List.map_cons, List.map_nil]); first | done | rfl | (simp only [List.length_drop, List.length_take]; rfl)) ?_; (with_reducible refine (ih k3 (by have := HJ2.out; have := HJ8.out; have := HK3.out; omega) ((rd_T49 l0_3 x21_3).f0) ((rd_T49 l0_3 x21_3).f1) ((rd_T49 l0_3 x21_3).f2) _ _ ((rd_T49 l0_3 x21_3).f3) (wrap64 (a1 + 1)) t389 _ ?side1 ?side2 A15.out).mono ?_); (case side1 => exact Kd.C_below HR387_3.out (by repeat (first | (with_reducible first | exact HB.out | apply below_alloc | apply pw_below_drewN | apply below_drew1 | refine below_set ?_ GE386.out | refine below_set ?_ GE388.out) | exact HB.out))); (case side2 => exact HC387_3.out); rintro e w29 ⟨rfl, hb⟩; refine ⟨_, rfl, ?_⟩; have n0_ := Aside0.mk (blk_below (g := gb386) (o := .cells #[.int .i64 a0_0, .int .i64 a0_1, .string a0_2, .slice (some ad387) l0_3.length c0_3] 49 (0, 0)) (by (with_reducible repeat (first | refine blk_drewN ?_ _ | refine blk_drew ?_ | refine blk_alloc ?_ _)); refine blk_far ?_ NB386_388.out _; (with_reducible repeat (first | refine blk_drewN ?_ _ | refine blk_drew ?_ | refine blk_alloc ?_ _)); refine blk_far ?_ NB386_388.out _; (with_reducible repeat (first | refine blk_drewN ?_ _ | refine blk_drew ?_ | refine blk_alloc ?_ _)); refine blk_far ?_ NB386_388.out _; (with_reducible repeat (first | refine blk_drewN ?_ _ | refine blk_drew ?_ | refine blk_alloc ?_ _)); refine blk_far ?_ NB386_388.out _; (with_reducible repeat (first | refine blk_drewN ?_ _ | refine blk_drew ?_ | refine blk_alloc ?_ _)); exact BK386.out) hb); have n1_ := Aside0.mk (blk_below (g := gb388) (o := .cells #[.int .i64 ((rd_T49 l0_3 x21_3).f0), .int .i64 ((rd_T49 l0_3 x21_3).f1), .string ((rd_T49 l0_3 x21_3).f2), .slice A387_3 ((rd_T49 l0_3 x21_3).f3).length c387_3] 49 (0, 0)) (by (with_reducible repeat (first | refine blk_drewN ?_ _ | refine blk_drew ?_ | refine blk_alloc ?_ _)); refine blk_put (cs := #[.int .i64 ((rd_T49 l0_3 x21_3).f0), .int .i64 ((rd_T49 l0_3 x21_3).f1), .string ((rd_T49 l0_3 x21_3).f2), .slice none 0 0]) ?_ 3 _ rfl; (with_reducible repeat (first | refine blk_drewN ?_ _ | refine blk_drew ?_ | refine blk_alloc ?_ _)); refine blk_put (cs := #[.int .i64 ((rd_T49 l0_3 x21_3).f0), .int .i64 ((rd_T49 l0_3 x21_3).f1), .string (⟨#[]⟩ : ByteArray), .slice none 0 0]) ?_ 2 _ rfl; (with_reducible repeat (first | refine blk_drewN ?_ _ | refine blk_drew ?_ | refine blk_alloc ?_ _)); refine blk_put (cs := #[.int .i64 ((rd_T49 l0_3 x21_3).f0), .int .i64 0, .string (⟨#[]⟩ : ByteArray), .slice none 0 0]) ?_ 1 _ rfl; (with_reducible repeat (first | refine blk_drewN ?_ _ | refine blk_drew ?_ | refine blk_alloc ?_ _)); refine blk_put (cs := #[.int .i64 0, .int .i64 0, .string (⟨#[]⟩ : ByteArray), .slice none 0 0]) ?_ 0 _ rfl; (with_reducible repeat (first | refine blk_drewN ?_ _ | refine blk_drew ?_ | refine blk_alloc ?_ _)); exact BK388.out) hb); have n2_ := Aside0.mk (below_step (by repeat (first | (with_reducible first | exact HB.out | apply below_alloc | apply pw_below_drewN | apply below_drew1 | refine below_set ?_ GE386.out | refine below_set ?_ GE388.out) | exact HB.out)) hb); clear BK386; clear BK388; clear HB; have BK386 := n0_; have BK388 := n1_; have HB := n2_; clear n0_ n1_ n2_; (try clear hb); (try clear hb2); (try clear hk); (try clear hi)))
              go_roundg k3
              case measure => have := HJ2.out; have := HJ8.out; have := HK3.out; omega
              case rel => exact ⟨(x5_3), (wrap64 (x21_3 + 1)), (by first | rfl | (simp; done) | (simp [*]; done)), (by first | rfl | (simp; done) | (simp [*]; done)), H', ⟨by have := HJ2.out; have := HJ8.out; have := HK3.out; omega⟩, ⟨by (with_reducible repeat (first | refine blk_drewN ?_ _ | refine blk_drew ?_ | refine blk_alloc ?_ _)); exact BK386.out⟩, ⟨by repeat (first | (with_reducible first | exact HB.out | apply below_alloc | apply pw_below_drewN | apply below_drew1 | refine below_set ?_ GE386.out | refine below_set ?_ GE388.out) | exact HB.out)⟩⟩
           ·
            rw [if_neg c14] at H
            exact absurd H (by simp)
          ·
           rw [if_neg c13] at H
           exact absurd H (by simp)
         ·
          rw [if_neg c12] at H
          have c12b0 : decide (x21_3 < (l0_3.length : Int)) = false := decide_eq_false c12
          clear c12
          obtain rfl := Option.some.inj H
          go_wp2
          go_ret
          exact ⟨by first | rfl | (simp [errW_none, errW_some] <;> rfl) | (simp [*, errW_none, errW_some] <;> rfl), by repeat (first | (with_reducible first | exact HB.out | apply below_alloc | apply pw_below_drewN | apply below_drew1 | refine below_set ?_ GE386.out) | exact HB.out)⟩
    ·
     rw [if_neg c8] at H
     have c8b0 : (a0_0 == 3) = false := beq_eq_false_iff_ne.mpr c8
     have c8b1 : (a0_0 != 3) = true := bne_iff_ne.mpr c8
     obtain rfl := Option.some.inj H
     go_wp2
     go_ret
     exact ⟨by first | rfl | (simp [errW_none, errW_some] <;> rfl) | (simp [*, errW_none, errW_some] <;> rfl), by repeat (first | (with_reducible first | exact HB.out | apply below_alloc | apply pw_below_drewN | apply below_drew1 | refine below_set ?_ GE386.out) | exact HB.out)⟩
def IsS102 (w0 W : World) (g : Nat) (f0 : ByteArray) (f1 : Int) (f2 : Int) : Prop := W.heap[g]? = some (.cells #[.string f0, .int .i64 f1, .int .i64 f2] 102 (0, 0)) ∧ w0.heap.size ≤ g
theorem IsS102.grown {w0 W : World} {g : Nat} {f0 : ByteArray} {f1 : Int} {f2 : Int} {W1 : World} {row : Option Nat} (h : IsS102 w0 W g f0 f1 f2) (hw : W.grownBy W1 row) (hne : some g ≠ row) : IsS102 w0 W1 g f0 f1 f2 := by
  obtain ⟨hb, hg⟩ := h
  exact ⟨blk_grown hb hw hne, hg⟩
theorem IsS102.kept {w0 W : World} {g : Nat} {f0 : ByteArray} {f1 : Int} {f2 : Int} {W1 : World} {S : Nat → Prop} (h : IsS102 w0 W g f0 f1 f2) (hk : Kept W W1 S) (hne : ¬ S g) : IsS102 w0 W1 g f0 f1 f2 := by
  obtain ⟨hb, hg⟩ := h
  exact ⟨blk_kept hb hk hne, hg⟩
theorem IsS102.below {w0 W : World} {g : Nat} {f0 : ByteArray} {f1 : Int} {f2 : Int} {W1 : World} (h : IsS102 w0 W g f0 f1 f2) (hw : Below W.heap.size W W1) : IsS102 w0 W1 g f0 f1 f2 := h.grown (grown_of_below hw none) (by simp)
theorem IsS102.alloc {w0 W : World} {g : Nat} {f0 : ByteArray} {f1 : Int} {f2 : Int} (h : IsS102 w0 W g f0 f1 f2) (o : Obj) : IsS102 w0 (W.alloc o) g f0 f1 f2 := h.below (below_alloc (Below.refl _ _) o)
theorem IsS102.drewN {w0 W : World} {g : Nat} {f0 : ByteArray} {f1 : Int} {f2 : Int} (h : IsS102 w0 W g f0 f1 f2) (m : Nat) : IsS102 w0 (W.drewN m) g f0 f1 f2 := h
theorem IsS102.drew {w0 W : World} {g : Nat} {f0 : ByteArray} {f1 : Int} {f2 : Int} (h : IsS102 w0 W g f0 f1 f2) : IsS102 w0 W.drew g f0 f1 f2 := h
theorem IsS102.at_ {w0 W : World} {g : Nat} {f0 : ByteArray} {f1 : Int} {f2 : Int} {w' : World} {m : Nat} (hq : W.drewN m = w') (h : IsS102 w0 W g f0 f1 f2) : IsS102 w0 w' g f0 f1 f2 := by subst hq; exact IsS102.drewN h m
theorem IsS102.apart {w0 W : World} {g : Nat} {f0 : ByteArray} {f1 : Int} {f2 : Int} {α : Type} {d : Kd α} {e : Nat} {base : Nat} {ok : Nat → Prop} {v : Value} {xs : List α} (h : IsS102 w0 W g f0 f1 f2) (ho : d.R e W base ok v xs) (ht : ∀ q, q ∈ e :: d.E → q ≠ 102) : d.R e W base (fun k => ok k ∧ k ≠ g) v xs := by
  obtain ⟨hb, hg⟩ := h
  exact Kd.R_types ho hb ht
theorem IsS102.own_ne {w0 W : World} {g : Nat} {f0 : ByteArray} {f1 : Int} {f2 : Int} {α : Type} {d : Kd α} {e : Nat} {base : Nat} {ok : Nat → Prop} {v : Value} {xs : List α} (h : IsS102 w0 W g f0 f1 f2) (ho : d.R e W base ok v xs) (ht : e ≠ 102) : some g ≠ v.ownBlock := by
  obtain ⟨hb, hg⟩ := h
  exact Kd.R_ne ho hb ht
theorem IsS102.lt {w0 W : World} {g : Nat} {f0 : ByteArray} {f1 : Int} {f2 : Int} (h : IsS102 w0 W g f0 f1 f2) : g < W.heap.size := by
  obtain ⟨hb, hg⟩ := h
  exact blk_lt hb
theorem IsS102.ge {w0 W : World} {g : Nat} {f0 : ByteArray} {f1 : Int} {f2 : Int} (h : IsS102 w0 W g f0 f1 f2) : w0.heap.size ≤ g := by
  obtain ⟨hb, hg⟩ := h
  exact hg
theorem cellS102_0 {W : World} {g : Nat} {f0 : ByteArray} {f1 : Int} {f2 : Int} (h : W.heap[g]? = some (.cells #[.string f0, .int .i64 f1, .int .i64 f2] 102 (0, 0))) : W.cell? ⟨g, 0, none⟩ = some (.string f0) := (blk_cell h 0).trans rfl
theorem IsS102.set_0 {w0 W : World} {g : Nat} {f0 : ByteArray} {f1 : Int} {f2 : Int} (h : IsS102 w0 W g f0 f1 f2) (x : ByteArray) : IsS102 w0 (W.setCell ⟨g, 0, none⟩ (.string x)) g x f1 f2 := by
  obtain ⟨hb, hg⟩ := h
  exact ⟨by simpa using blk_set hb 0 (.string x), hg⟩
theorem cellS102_1 {W : World} {g : Nat} {f0 : ByteArray} {f1 : Int} {f2 : Int} (h : W.heap[g]? = some (.cells #[.string f0, .int .i64 f1, .int .i64 f2] 102 (0, 0))) : W.cell? ⟨g, 1, none⟩ = some (.int .i64 f1) := (blk_cell h 1).trans rfl
theorem IsS102.set_1 {w0 W : World} {g : Nat} {f0 : ByteArray} {f1 : Int} {f2 : Int} (h : IsS102 w0 W g f0 f1 f2) (x : Int) : IsS102 w0 (W.setCell ⟨g, 1, none⟩ (.int .i64 x)) g f0 x f2 := by
  obtain ⟨hb, hg⟩ := h
  exact ⟨by simpa using blk_set hb 1 (.int .i64 x), hg⟩
theorem cellS102_2 {W : World} {g : Nat} {f0 : ByteArray} {f1 : Int} {f2 : Int} (h : W.heap[g]? = some (.cells #[.string f0, .int .i64 f1, .int .i64 f2] 102 (0, 0))) : W.cell? ⟨g, 2, none⟩ = some (.int .i64 f2) := (blk_cell h 2).trans rfl
theorem IsS102.set_2 {w0 W : World} {g : Nat} {f0 : ByteArray} {f1 : Int} {f2 : Int} (h : IsS102 w0 W g f0 f1 f2) (x : Int) : IsS102 w0 (W.setCell ⟨g, 2, none⟩ (.int .i64 x)) g f0 f1 x := by
  obtain ⟨hb, hg⟩ := h
  exact ⟨by simpa using blk_set hb 2 (.int .i64 x), hg⟩
theorem IsS102.new (w0 W : World) (f0 : ByteArray) (f1 : Int) (f2 : Int) (hB : Below w0.heap.size w0 W) : IsS102 w0 (W.alloc (.cells #[.string f0, .int .i64 f1, .int .i64 f2] 102)) W.heap.size f0 f1 f2 := ⟨by simpa using heap_alloc_new W _, hB.size⟩
def benc_reader_fail.f (s0_0 : ByteArray) (s0_1 : Int) (s0_2 : Int) (a1 : Int) : Option (ByteArray × Int × Int) := if s0_2 = 0 then (some (s0_0, s0_1, a1)) else (some (s0_0, s0_1, s0_2))
set_option maxHeartbeats 8000000 in
set_option maxRecDepth 100000 in
theorem benc_reader_fail.calls (g : Nat) (s0_0 : ByteArray) (s0_1 : Int) (s0_2 : Int) (a1 : Int) (r1 : ByteArray) (r2 : Int) (r3 : Int) (w0 w : World) (hI : IsS102 w0 w g s0_0 s0_1 s0_2) (hB : Below w0.heap.size w0 w) (h : benc_reader_fail.f s0_0 s0_1 s0_2 a1 = some (r1, r2, r3)) :
  Calls Tryd.prog 68 #[.pointer (some ⟨g, 0, none⟩), .int .i64 a1] w fun e w' => e = .returned (.tuple #[]) ∧ IsS102 w0 w' g r1 r2 r3 ∧ Below w0.heap.size w0 w' ∧ KeepBut w w' g none := by
 have HI0 := Aside0.mk hI
 have HK := Aside0.mk (KeepBut.refl w g none)
 have HL := Aside0.mk hB.size
 clear hI
 have HW0 := Aside0.mk hB.size
 have HB := Aside0.mk hB
 clear hB
 have H : (if s0_2 = 0 then (some (s0_0, s0_1, a1)) else (some (s0_0, s0_1, s0_2))) = some (r1, r2, r3) := h
 clear h
 by_cases c3 : s0_2 = 0
 ·
  rw [if_pos c3] at H
  have c3b0 : (s0_2 == 0) = true := beq_iff_eq.mpr c3
  have c3b1 : (s0_2 != 0) = false := bne_eq_false_iff_eq.mpr c3
  clear c3
  simp only [Option.some.injEq, Prod.mk.injEq] at H
  obtain ⟨rfl, rfl, rfl⟩ := H
  obtain ⟨HGz4, hgz4⟩ := HI0.out
  have hcz4_0 := cellS102_0 HGz4
  have hcz4_1 := cellS102_1 HGz4
  have hcz4_2 := cellS102_2 HGz4
  have hfz4_0 := blk_frozen HGz4 0
  have hfz4_1 := blk_frozen HGz4 1
  have hfz4_2 := blk_frozen HGz4 2
  clear HGz4 hgz4
  go_enter Tryd.func68, Tryd.ntmps68
  go_wp2
  first | go_end0 | ((try simp only [Exit.inBlock, Exit.then]); refine bodyPost_ret (results_none rfl _ _ _) rfl ?_)
  exact ⟨by first | rfl | (simp [errW_none, errW_some] <;> rfl) | (simp [*, errW_none, errW_some] <;> rfl), by repeat (first | (with_reducible first | exact HI0.out | apply IsS102.alloc | apply IsS102.drewN | apply IsS102.drew | apply IsS102.set_0 | apply IsS102.set_1 | apply IsS102.set_2) | exact HI0.out), by repeat (first | (with_reducible first | exact HB.out | apply below_alloc | apply pw_below_drewN | apply below_drew1 | refine below_set ?_ (IsS102.ge HI0.out)) | exact HB.out), by repeat (first | (with_reducible first | exact HK.out | apply KeepBut.set_ | apply keep_drewN | apply keep_drew | apply keep_alloc) | exact HK.out)⟩
 ·
  rw [if_neg c3] at H
  have c3b0 : (s0_2 == 0) = false := beq_eq_false_iff_ne.mpr c3
  have c3b1 : (s0_2 != 0) = true := bne_iff_ne.mpr c3
  simp only [Option.some.injEq, Prod.mk.injEq] at H
  obtain ⟨rfl, rfl, rfl⟩ := H
  obtain ⟨HGz5, hgz5⟩ := HI0.out
  have hcz5_0 := cellS102_0 HGz5
  have hcz5_1 := cellS102_1 HGz5
  have hcz5_2 := cellS102_2 HGz5
  have hfz5_0 := blk_frozen HGz5 0
  have hfz5_1 := blk_frozen HGz5 1
  have hfz5_2 := blk_frozen HGz5 2
  clear HGz5 hgz5
  go_enter Tryd.func68, Tryd.ntmps68
  go_wp2
  first | go_end0 | ((try simp only [Exit.inBlock, Exit.then]); refine bodyPost_ret (results_none rfl _ _ _) rfl ?_)
  exact ⟨by first | rfl | (simp [errW_none, errW_some] <;> rfl) | (simp [*, errW_none, errW_some] <;> rfl), by repeat (first | (with_reducible first | exact HI0.out | apply IsS102.alloc | apply IsS102.drewN | apply IsS102.drew | apply IsS102.set_0 | apply IsS102.set_1 | apply IsS102.set_2) | exact HI0.out), by repeat (first | (with_reducible first | exact HB.out | apply below_alloc | apply pw_below_drewN | apply below_drew1 | refine below_set ?_ (IsS102.ge HI0.out)) | exact HB.out), by repeat (first | (with_reducible first | exact HK.out | apply KeepBut.set_ | apply keep_drewN | apply keep_drew | apply keep_alloc) | exact HK.out)⟩
def benc_reader_next.f (s0_0 : ByteArray) (s0_1 : Int) (s0_2 : Int) : Option (Int × ByteArray × Int × Int) := if s0_1 = (s0_0.size : Int) then ((benc_reader_fail.f s0_0 s0_1 s0_2 21).bind fun bt390 => (some (0, bt390.1, bt390.2.1, bt390.2.2))) else (if 0 ≤ s0_1 then (if s0_1 < (s0_0.size : Int) then (some (bt s0_0 s0_1, s0_0, s0_1, s0_2)) else (none)) else (none))
set_option maxHeartbeats 8000000 in
set_option maxRecDepth 100000 in
theorem benc_reader_next.calls (g : Nat) (s0_0 : ByteArray) (s0_1 : Int) (s0_2 : Int) (r1 : Int) (r2 : ByteArray) (r3 : Int) (r4 : Int) (w0 w : World) (hI : IsS102 w0 w g s0_0 s0_1 s0_2) (hB : Below w0.heap.size w0 w) (h : benc_reader_next.f s0_0 s0_1 s0_2 = some (r1, r2, r3, r4)) :
  Calls Tryd.prog 66 #[.pointer (some ⟨g, 0, none⟩)] w fun e w' => e = .returned (.int .u8 r1) ∧ IsS102 w0 w' g r2 r3 r4 ∧ Below w0.heap.size w0 w' ∧ KeepBut w w' g none := by
 have HI0 := Aside0.mk hI
 have HK := Aside0.mk (KeepBut.refl w g none)
 have HL := Aside0.mk hB.size
 clear hI
 have HW0 := Aside0.mk hB.size
 have HB := Aside0.mk hB
 clear hB
 have H : (if s0_1 = (s0_0.size : Int) then ((benc_reader_fail.f s0_0 s0_1 s0_2 21).bind fun bt390 => (some (0, bt390.1, bt390.2.1, bt390.2.2))) else (if 0 ≤ s0_1 then (if s0_1 < (s0_0.size : Int) then (some (bt s0_0 s0_1, s0_0, s0_1, s0_2)) else (none)) else (none))) = some (r1, r2, r3, r4) := h
 clear h
 by_cases c2 : s0_1 = (s0_0.size : Int)
 ·
  rw [if_pos c2] at H
  have c2b0 : (s0_1 == (s0_0.size : Int)) = true := beq_iff_eq.mpr c2
  have c2b1 : (s0_1 != (s0_0.size : Int)) = false := bne_eq_false_iff_eq.mpr c2
  clear c2
  replace H := Option.bind_eq_some_iff.mp H
  obtain ⟨⟨t390, t391, t392⟩, A30, H⟩ := H
  replace H : (some (0, t390, t391, t392)) = some (r1, r2, r3, r4) := H
  have A3 := Aside0.mk A30
  clear A30
  simp only [Option.some.injEq, Prod.mk.injEq] at H
  obtain ⟨rfl, rfl, rfl, rfl⟩ := H
  obtain ⟨HGz4, hgz4⟩ := HI0.out
  have hcz4_0 := cellS102_0 HGz4
  have hcz4_1 := cellS102_1 HGz4
  have hcz4_2 := cellS102_2 HGz4
  have hfz4_0 := blk_frozen HGz4 0
  have hfz4_1 := blk_frozen HGz4 1
  have hfz4_2 := blk_frozen HGz4 2
  clear HGz4 hgz4
  go_enter Tryd.func66, Tryd.ntmps66
  go_wp2_with (first | (go_at_call 68; (with_reducible refine (benc_reader_fail.calls g s0_0 s0_1 s0_2 21 t390 t391 t392 w0 _ ?side1 ?side2 A3.out).mono ?_); (case side1 => repeat (first | (with_reducible first | exact HI0.out | apply IsS102.alloc | apply IsS102.drewN | apply IsS102.drew | apply IsS102.set_0 | apply IsS102.set_1 | apply IsS102.set_2) | exact HI0.out)); (case side2 => repeat (first | (with_reducible first | exact HB.out | apply below_alloc | apply pw_below_drewN | apply below_drew1 | refine below_set ?_ (IsS102.ge HI0.out)) | exact HB.out)); rintro e w5 ⟨rfl, hi, hb, hk⟩; have n0_ := Aside0.mk (KeepBut.trans (by repeat (first | (with_reducible first | exact HK.out | apply KeepBut.set_ | apply keep_drewN | apply keep_drew | apply keep_alloc) | exact HK.out)) hk (.inl rfl)); have n1_ := Aside0.mk (hb); have n2_ := Aside0.mk (hi); clear HK; clear HB; clear HI0; have HK := n0_; have HB := n1_; have HI0 := n2_; clear n0_ n1_ n2_; (try clear hb); (try clear hb2); (try clear hk); (try clear hi)))
  repeat (go_quiet (first | (go_at_call 68; (with_reducible refine (benc_reader_fail.calls g s0_0 s0_1 s0_2 21 t390 t391 t392 w0 _ ?side1 ?side2 A3.out).mono ?_); (case side1 => repeat (first | (with_reducible first | exact HI0.out | apply IsS102.alloc | apply IsS102.drewN | apply IsS102.drew | apply IsS102.set_0 | apply IsS102.set_1 | apply IsS102.set_2) | exact HI0.out)); (case side2 => repeat (first | (with_reducible first | exact HB.out | apply below_alloc | apply pw_below_drewN | apply below_drew1 | refine below_set ?_ (IsS102.ge HI0.out)) | exact HB.out)); rintro e w5 ⟨rfl, hi, hb, hk⟩; have n0_ := Aside0.mk (KeepBut.trans (by repeat (first | (with_reducible first | exact HK.out | apply KeepBut.set_ | apply keep_drewN | apply keep_drew | apply keep_alloc) | exact HK.out)) hk (.inl rfl)); have n1_ := Aside0.mk (hb); have n2_ := Aside0.mk (hi); clear HK; clear HB; clear HI0; have HK := n0_; have HB := n1_; have HI0 := n2_; clear n0_ n1_ n2_; (try clear hb); (try clear hb2); (try clear hk); (try clear hi))); try go_wp2_with (first | (go_at_call 68; (with_reducible refine (benc_reader_fail.calls g s0_0 s0_1 s0_2 21 t390 t391 t392 w0 _ ?side1 ?side2 A3.out).mono ?_); (case side1 => repeat (first | (with_reducible first | exact HI0.out | apply IsS102.alloc | apply IsS102.drewN | apply IsS102.drew | apply IsS102.set_0 | apply IsS102.set_1 | apply IsS102.set_2) | exact HI0.out)); (case side2 => repeat (first | (with_reducible first | exact HB.out | apply below_alloc | apply pw_below_drewN | apply below_drew1 | refine below_set ?_ (IsS102.ge HI0.out)) | exact HB.out)); rintro e w5 ⟨rfl, hi, hb, hk⟩; have n0_ := Aside0.mk (KeepBut.trans (by repeat (first | (with_reducible first | exact HK.out | apply KeepBut.set_ | apply keep_drewN | apply keep_drew | apply keep_alloc) | exact HK.out)) hk (.inl rfl)); have n1_ := Aside0.mk (hb); have n2_ := Aside0.mk (hi); clear HK; clear HB; clear HI0; have HK := n0_; have HB := n1_; have HI0 := n2_; clear n0_ n1_ n2_; (try clear hb); (try clear hb2); (try clear hk); (try clear hi))))
  go_ret
  exact ⟨by first | rfl | (simp [errW_none, errW_some] <;> rfl) | (simp [*, errW_none, errW_some] <;> rfl), by repeat (first | (with_reducible first | exact HI0.out | apply IsS102.alloc | apply IsS102.drewN | apply IsS102.drew | apply IsS102.set_0 | apply IsS102.set_1 | apply IsS102.set_2) | exact HI0.out), by repeat (first | (with_reducible first | exact HB.out | apply below_alloc | apply pw_below_drewN | apply below_drew1 | refine below_set ?_ (IsS102.ge HI0.out)) | exact HB.out), by repeat (first | (with_reducible first | exact HK.out | apply KeepBut.set_ | apply keep_drewN | apply keep_drew | apply keep_alloc) | exact HK.out)⟩
 ·
  rw [if_neg c2] at H
  have c2b0 : (s0_1 == (s0_0.size : Int)) = false := beq_eq_false_iff_ne.mpr c2
  have c2b1 : (s0_1 != (s0_0.size : Int)) = true := bne_iff_ne.mpr c2
  by_cases c6 : 0 ≤ s0_1
  ·
   rw [if_pos c6] at H
   have c6b0 : decide (0 ≤ s0_1) = true := decide_eq_true c6
   clear c6
   by_cases c7 : s0_1 < (s0_0.size : Int)
   ·
    rw [if_pos c7] at H
    have c7b0 : decide (s0_1 < (s0_0.size : Int)) = true := decide_eq_true c7
    clear c7
    simp only [Option.some.injEq, Prod.mk.injEq] at H
    obtain ⟨rfl, rfl, rfl, rfl⟩ := H
    obtain ⟨HGz9, hgz9⟩ := HI0.out
    have hcz9_0 := cellS102_0 HGz9
    have hcz9_1 := cellS102_1 HGz9
    have hcz9_2 := cellS102_2 HGz9
    have hfz9_0 := blk_frozen HGz9 0
    have hfz9_1 := blk_frozen HGz9 1
    have hfz9_2 := blk_frozen HGz9 2
    clear HGz9 hgz9
    have p8 : 0 ≤ (s0_1 : Int) := of_decide_eq_true (by first | (with_reducible assumption) | assumption)
    have q8 : s0_1 < (s0_0.size : Int) := of_decide_eq_true (by first | (with_reducible assumption) | assumption)
    have hx8 := bt_at s0_0 s0_1
    replace p8 := eq_true p8
    replace q8 := eq_true q8
    go_enter Tryd.func66, Tryd.ntmps66
    go_wp2
    repeat (go_quiet (fail); try go_wp2)
    go_ret
    exact ⟨by first | rfl | (simp [errW_none, errW_some] <;> rfl) | (simp [*, errW_none, errW_some] <;> rfl), by repeat (first | (with_reducible first | exact HI0.out | apply IsS102.alloc | apply IsS102.drewN | apply IsS102.drew | apply IsS102.set_0 | apply IsS102.set_1 | apply IsS102.set_2) | exact HI0.out), by repeat (first | (with_reducible first | exact HB.out | apply below_alloc | apply pw_below_drewN | apply below_drew1 | refine below_set ?_ (IsS102.ge HI0.out)) | exact HB.out), by repeat (first | (with_reducible first | exact HK.out | apply KeepBut.set_ | apply keep_drewN | apply keep_drew | apply keep_alloc) | exact HK.out)⟩
   ·
    rw [if_neg c7] at H
    exact absurd H (by simp)
  ·
   rw [if_neg c6] at H
   exact absurd H (by simp)
end Go.Proofs.YtlggihnkhimfkaaDoor.P
namespace Go.Proofs.YtlggihnkhimfkaaDoor.Giv
open Go.RowKit Go.Lib Go.Sort Go.Proofs.YtlggihnkhimfkaaDoorW.PrintWords Go.Proofs.YtlggihnkhimfkaaDoorW.PrintLast Go.Proofs.YtlggihnkhimfkaaDoorW.PrintMore
set_option linter.unusedVariables false
set_option linter.unusedSimpArgs false
theorem w64 {n : Int} (h0 : -9223372036854775808 ≤ n) (h1 : n ≤ 9223372036854775807) : wrap64 n = n := by unfold wrap64; omega
theorem Ev.to {α : Type} {g : Nat → Option α} {r r' : α} (h : Ev g r) (e : r = r') : Ev g r' := e ▸ h
theorem rd_at (L : List V) (i : Nat) (h : i < L.length) : P.rd_T49 L (i : Int) = L[i] := by
  unfold P.rd_T49
  rw [Int.toNat_natCast, List.getD_eq_getElem?_getD, List.getElem?_eq_getElem h, Option.getD_some]
theorem check_ev (n : Nat) : ∀ (v : V) (w : Nat), wt v ≤ n → w + wt v ≤ 4611686018427387904 → Ev (fun k => P.benc_check.f k v.f0 v.f1 v.f2 v.f3 (w : Int)) (chk v w) := by
 induction n with
 | zero => intro v w h; have := wt_eq v; omega
 | succ n ih =>
  intro v w hn hw
  have hz := wt_eq v
  have loop : ∀ (d : Nat) (i : Nat) (o : Int), v.f3.length - i ≤ d → i ≤ v.f3.length → Ev (fun k => P.benc_check.l0 k (w : Int) o v.f3 (v.f3.length : Int) (i : Int)) (chks o w (v.f3.drop i)) := by
   have hll := wts_len v.f3
   intro d
   induction d with
   | zero =>
    intro i o hd hi
    rw [List.drop_of_length_le (by omega), chks_nil]
    refine Ev.step (f := fun _ => some o) (fun k => ?_) (Ev.now _)
    simp only [P.benc_check.l0]
    rw [if_neg (by omega)]
   | succ d ihd =>
    intro i o hd hi
    by_cases hlt : i < v.f3.length
    ·
     rw [List.drop_eq_getElem_cons hlt, chks_cons]
     have hm := wt_mem (List.getElem_mem hlt)
     have hx := ih v.f3[i] (w + 1) (by omega) (by omega)
     have hn1 := ihd (i + 1) o (by omega) (by omega)
     have hn2 := ihd (i + 1) 22 (by omega) (by omega)
     refine Ev.step (f := fun k => (P.benc_check.f k v.f3[i].f0 v.f3[i].f1 v.f3[i].f2 v.f3[i].f3 ((w + 1 : Nat) : Int)).bind fun t => if t = 1 then some t else if t = 22 then P.benc_check.l0 k (w : Int) t v.f3 (v.f3.length : Int) ((i + 1 : Nat) : Int) else P.benc_check.l0 k (w : Int) o v.f3 (v.f3.length : Int) ((i + 1 : Nat) : Int)) (fun k => ?_) ?_
     ·
      simp only [P.benc_check.l0]
      rw [if_pos (by omega), if_pos (by omega), if_pos (by omega), rd_at _ _ hlt, w64 (n := (w : Int) + 1) (by omega) (by omega), w64 (n := (i : Int) + 1) (by omega) (by omega)]
      rfl
     ·
      refine Ev.bind hx ?_
      generalize chk v.f3[i] (w + 1) = t
      by_cases c1 : t = 1
      ·
       rw [if_pos c1]
       refine Ev.congr (fun k => if_pos c1) ?_
       rw [c1]
       exact Ev.now _
      ·
       rw [if_neg c1]
       refine Ev.congr (fun k => if_neg c1) ?_
       by_cases c2 : t = 22
       ·
        rw [if_pos c2]
        refine Ev.congr (fun k => if_pos c2) ?_
        rw [c2]
        exact hn2
       ·
        rw [if_neg c2]
        exact Ev.congr (fun k => if_neg c2) hn1
    ·
     rw [List.drop_of_length_le (by omega), chks_nil]
     refine Ev.step (f := fun _ => some o) (fun k => ?_) (Ev.now _)
     simp only [P.benc_check.l0]
     rw [if_neg (by omega)]
  rw [chk_eq]
  by_cases c1 : v.f0 = 1
  ·
   rw [if_pos c1]
   refine Ev.step (f := fun k => P.benc_check.j0 k (w : Int) v.f0 true v.f0 v.f1 v.f2 v.f3) (fun k => ?_) ?_
   ·
    simp only [P.benc_check.f]
    rw [if_pos c1, c1]
    rfl
   ·
    refine Ev.step (f := fun _ => some 0) (fun k => ?_) (Ev.now _)
    simp only [P.benc_check.j0]
    rfl
  ·
   rw [if_neg c1]
   by_cases c2 : v.f0 = 2
   ·
    rw [if_pos c2]
    refine Ev.step (f := fun k => P.benc_check.j0 k (w : Int) v.f0 true v.f0 v.f1 v.f2 v.f3) (fun k => ?_) ?_
    ·
     simp only [P.benc_check.f]
     rw [if_neg c1, c2]
     rfl
    ·
     refine Ev.step (f := fun _ => some 0) (fun k => ?_) (Ev.now _)
     simp only [P.benc_check.j0]
     rfl
   ·
    rw [if_neg c2]
    refine Ev.step (f := fun k => P.benc_check.j0 k (w : Int) v.f0 false v.f0 v.f1 v.f2 v.f3) (fun k => ?_) ?_
    ·
     simp only [P.benc_check.f]
     rw [if_neg c1, beq_eq_false_iff_ne.2 c2]
    ·
     by_cases c3 : v.f0 = 3
     ·
      rw [if_pos c3]
      by_cases c4 : 8 ≤ w
      ·
       rw [if_pos c4]
       refine Ev.step (f := fun k => P.benc_check.j1 k (w : Int) 22 v.f0 v.f1 v.f2 v.f3) (fun k => ?_) ?_
       ·
        simp only [P.benc_check.j0]
        rw [if_neg (by decide), if_pos c3, if_pos (by omega)]
       ·
        refine Ev.step (f := fun k => P.benc_check.l0 k (w : Int) 22 v.f3 (v.f3.length : Int) ((0 : Nat) : Int)) (fun k => ?_) (loop _ 0 22 (Nat.le_refl _) (Nat.zero_le _))
        simp only [P.benc_check.j1]
        rfl
      ·
       rw [if_neg c4]
       refine Ev.step (f := fun k => P.benc_check.j1 k (w : Int) 0 v.f0 v.f1 v.f2 v.f3) (fun k => ?_) ?_
       ·
        simp only [P.benc_check.j0]
        rw [if_neg (by decide), if_pos c3, if_neg (by omega)]
       ·
        refine Ev.step (f := fun k => P.benc_check.l0 k (w : Int) 0 v.f3 (v.f3.length : Int) ((0 : Nat) : Int)) (fun k => ?_) (loop _ 0 0 (Nat.le_refl _) (Nat.zero_le _))
        simp only [P.benc_check.j1]
        rfl
     ·
      rw [if_neg c3]
      refine Ev.step (f := fun _ => some 1) (fun k => ?_) (Ev.now _)
      simp only [P.benc_check.j0]
      rw [if_neg (by decide), if_neg c3]
theorem check_calls (v : V) (A : Option Addr) (c : Nat) (w : World) (hw : wt v ≤ 70368744177664) (hC : Kd.C P.k49 w A v.f3.length v.f3) (hc : v.f3.length ≤ c) :
    Calls Tryd.prog 34 #[.agg #[.int .i64 v.f0, .int .i64 v.f1, .string v.f2, .slice A v.f3.length c], .int .i64 0] w fun e w' => e = .returned (.int .i64 (chk v 0)) ∧ Below w.heap.size w w' := by
  obtain ⟨k, hk⟩ := Ev.rounds (check_ev (wt v) v 0 (Nat.le_refl _) (by omega))
  exact P.benc_check.calls k v.f0 v.f1 v.f2 A c v.f3 0 _ w hC hc hk
def fitV (v : V) : Bool := okV v && decide (wt v ≤ 70368744177664)
set_option maxHeartbeats 4000000 in
set_option maxRecDepth 100000 in
theorem Put_calls (v : V) (A : Option Addr) (c : Nat) (w : World) (hf : fitV v = true) (hL : LaidW w) (hC : Kd.C P.k49 w A v.f3.length v.f3) (hc : v.f3.length ≤ c) :
  Calls Tryd.prog 18 #[.agg #[.int .i64 v.f0, .int .i64 v.f1, .string v.f2, .slice A v.f3.length c]] w fun e w' => e = .returned (.tuple #[.string (putM v).1, .int .i64 (putM v).2]) ∧ Below w.heap.size w w' := by
 obtain ⟨ho, hw⟩ : okV v = true ∧ wt v ≤ 70368744177664 := by unfold fitV at hf; simpa using hf
 have HCk := Aside0.mk (fun w' hb => check_calls v A c w' hw (Kd.C_below hC hb) hc)
 by_cases hk : chk v 0 = 0
 ·
  have HK := Aside0.mk hk
  have HP := Aside0.mk (fun (B b : Nat) (w' : World) h1 h2 h3 => put_calls (wt v) v A c [] w w' B b (Nat.le_refl _) ho (by simp; omega) hL hC hc h1 h2 h3)
  have hle := putc_le v [] ho
  have hsp := putc_spec v []
  rw [List.nil_append] at hsp
  have HSP := Aside0.mk hsp
  have HM := Aside0.mk (show putM v = if (enc v).length ≤ 65536 then (⟨(enc v).toArray⟩, 0) else (⟨#[]⟩, 23) by unfold putM; rw [if_pos hk])
  clear hk hsp hC hL
  generalize putc [] v = l at *
  by_cases hl : 65536 < l.length
  ·
   have hl0 : decide ((65536 : Int) < (l.length : Int)) = true := decide_eq_true (by omega)
   have HM2 := Aside0.mk (show putM v = (⟨#[]⟩, 23) by
    rw [HM.out, if_neg]
    intro h
    have := HSP.out.1 h
    rw [this] at hl
    omega)
   go_enter Tryd.func18, Tryd.ntmps18
   go_wp2_with fail
   refine (HCk.out _ ((Below.refl _ _).alloc (Nat.le_refl _) _)).mono ?_
   rw [HK.out]
   rintro e w1 ⟨rfl, hb1⟩
   have bk := blk_below (blk_new w (.cells #[.int .i64 v.f0, .int .i64 v.f1, .string v.f2, .slice A v.f3.length c] 49)) hb1
   have hc0 : (w1.alloc (.cells #[.pointer none, .slice none 0 0] 71)).cell? ⟨w.heap.size, 0, none⟩ = some (.int .i64 v.f0) := (blk_cell (blk_alloc bk _) 0).trans rfl
   have hc1 : (w1.alloc (.cells #[.pointer none, .slice none 0 0] 71)).cell? ⟨w.heap.size, 1, none⟩ = some (.int .i64 v.f1) := (blk_cell (blk_alloc bk _) 1).trans rfl
   have hc2 : (w1.alloc (.cells #[.pointer none, .slice none 0 0] 71)).cell? ⟨w.heap.size, 2, none⟩ = some (.string v.f2) := (blk_cell (blk_alloc bk _) 2).trans rfl
   have hc3 : (w1.alloc (.cells #[.pointer none, .slice none 0 0] 71)).cell? ⟨w.heap.size, 3, none⟩ = some (.slice A v.f3.length c) := (blk_cell (blk_alloc bk _) 3).trans rfl
   have HB1 := Aside0.mk (((Below.refl _ w).alloc (Nat.le_refl _) (.cells #[.int .i64 v.f0, .int .i64 v.f1, .string v.f2, .slice A v.f3.length c] 49)).trans (hb1.mono (by simp)))
   have hz1 : w.heap.size ≤ w1.heap.size := HB1.out.size
   clear hb1 bk
   go_wp2_with fail
   refine (HP.out w1.heap.size w1.heap.size _ hz1 (HB1.out.alloc hz1 _) ⟨by simp, Lib.IsBuilderF.of (Lib.fresh_isBuilder 71 5 w1)⟩).mono ?_
   rintro e w2 ⟨rfl, hX2, hb2⟩
   have HX2 := Aside0.mk hX2
   have HB2 := Aside0.mk ((HB1.out.alloc hz1 (.cells #[.pointer none, .slice none 0 0] 71)).trans (hb2.mono hz1))
   clear hX2 hb2
   go_wp2_with fail
   refine (len_calls HX2.out).mono ?_
   rintro e w3 ⟨rfl, rfl⟩
   go_wp2
   go_ret2
   rw [HM2.out]
   exact ⟨rfl, HB2.out⟩
  ·
   have hl0 : decide ((65536 : Int) < (l.length : Int)) = false := decide_eq_false (by omega)
   have HM2 := Aside0.mk (show putM v = (⟨l.toArray⟩, 0) by
    have h : (enc v).length ≤ 65536 := by
     rcases Nat.lt_or_ge 65536 (enc v).length with h | h
     ·
      exact absurd (HSP.out.2 h) hl
     ·
      exact h
    rw [HM.out, if_pos h, HSP.out.1 h])
   go_enter Tryd.func18, Tryd.ntmps18
   go_wp2_with fail
   refine (HCk.out _ ((Below.refl _ _).alloc (Nat.le_refl _) _)).mono ?_
   rw [HK.out]
   rintro e w1 ⟨rfl, hb1⟩
   have bk := blk_below (blk_new w (.cells #[.int .i64 v.f0, .int .i64 v.f1, .string v.f2, .slice A v.f3.length c] 49)) hb1
   have hc0 : (w1.alloc (.cells #[.pointer none, .slice none 0 0] 71)).cell? ⟨w.heap.size, 0, none⟩ = some (.int .i64 v.f0) := (blk_cell (blk_alloc bk _) 0).trans rfl
   have hc1 : (w1.alloc (.cells #[.pointer none, .slice none 0 0] 71)).cell? ⟨w.heap.size, 1, none⟩ = some (.int .i64 v.f1) := (blk_cell (blk_alloc bk _) 1).trans rfl
   have hc2 : (w1.alloc (.cells #[.pointer none, .slice none 0 0] 71)).cell? ⟨w.heap.size, 2, none⟩ = some (.string v.f2) := (blk_cell (blk_alloc bk _) 2).trans rfl
   have hc3 : (w1.alloc (.cells #[.pointer none, .slice none 0 0] 71)).cell? ⟨w.heap.size, 3, none⟩ = some (.slice A v.f3.length c) := (blk_cell (blk_alloc bk _) 3).trans rfl
   have HB1 := Aside0.mk (((Below.refl _ w).alloc (Nat.le_refl _) (.cells #[.int .i64 v.f0, .int .i64 v.f1, .string v.f2, .slice A v.f3.length c] 49)).trans (hb1.mono (by simp)))
   have hz1 : w.heap.size ≤ w1.heap.size := HB1.out.size
   clear hb1 bk
   go_wp2_with fail
   refine (HP.out w1.heap.size w1.heap.size _ hz1 (HB1.out.alloc hz1 _) ⟨by simp, Lib.IsBuilderF.of (Lib.fresh_isBuilder 71 5 w1)⟩).mono ?_
   rintro e w2 ⟨rfl, hX2, hb2⟩
   have HX2 := Aside0.mk hX2
   have HB2 := Aside0.mk ((HB1.out.alloc hz1 (.cells #[.pointer none, .slice none 0 0] 71)).trans (hb2.mono hz1))
   clear hX2 hb2
   go_wp2_with fail
   refine (len_calls HX2.out).mono ?_
   rintro e w3 ⟨rfl, rfl⟩
   go_wp2_with fail
   refine (str_calls HX2.out).mono ?_
   rintro e w4 ⟨rfl, hb4⟩
   have HB4 := Aside0.mk (HB2.out.trans (hb4.mono hz1))
   clear hb4
   go_wp2
   go_ret2
   rw [HM2.out]
   exact ⟨rfl, HB4.out⟩
 ·
  have hk0 : (chk v 0 != 0) = true := bne_iff_ne.2 hk
  have HM2 := Aside0.mk (show putM v = (⟨#[]⟩, chk v 0) by unfold putM; rw [if_neg hk])
  clear hC hL hk
  generalize chk v 0 = e0 at *
  go_enter Tryd.func18, Tryd.ntmps18
  go_wp2_with fail
  refine (HCk.out _ ((Below.refl _ _).alloc (Nat.le_refl _) _)).mono ?_
  rintro e w1 ⟨rfl, hb1⟩
  have HB1 := Aside0.mk (((Below.refl _ w).alloc (Nat.le_refl _) (.cells #[.int .i64 v.f0, .int .i64 v.f1, .string v.f2, .slice A v.f3.length c] 49)).trans (hb1.mono (by simp)))
  clear hb1
  go_wp2
  go_ret2
  rw [HM2.out]
  exact ⟨rfl, HB1.out⟩
def benc_Put.f (a0 : Int) (a1 : Int) (a2 : ByteArray) (l3 : List V) : Option (ByteArray × Int) := if fitV ⟨a0, a1, a2, l3⟩ = true then some (putM ⟨a0, a1, a2, l3⟩) else none
theorem benc_Put.calls (a0_0 : Int) (a0_1 : Int) (a0_2 : ByteArray) (A0_3 : Option Addr) (c0_3 : Nat) (l0_3 : List V) (r1 : ByteArray) (r2 : Int) (w : World) (hL : LaidW w) (hr0_3 : Kd.C P.k49 w A0_3 l0_3.length l0_3) (hc0_3 : l0_3.length ≤ c0_3) (h : benc_Put.f a0_0 a0_1 a0_2 l0_3 = some (r1, r2)) :
    Calls Tryd.prog 18 #[.agg #[.int .i64 a0_0, .int .i64 a0_1, .string a0_2, .slice A0_3 l0_3.length c0_3]] w fun e w' => e = .returned (.tuple #[.string r1, .int .i64 r2]) ∧ Below w.heap.size w w' := by
  unfold benc_Put.f at h
  split at h
  · rename_i hf
    have e := Option.some.inj h
    have c := Put_calls ⟨a0_0, a0_1, a0_2, l0_3⟩ A0_3 c0_3 w hf hL hr0_3 hc0_3
    rw [e] at c
    exact c
  · cases h
end Go.Proofs.YtlggihnkhimfkaaDoor.Giv
