/- Texts put together by prune.py: Px11, BncE, BncK, BncV, BncS. -/
import Derived.Outline
import Derived.Deep.QuietTactic
import Derived.BigQuiet
import Derived.Test.YtlggihnkhimfkaaDoorPu3
namespace Go.Proofs.YtlggihnkhimfkaaDoor.P
open Go.RowKit Go.Proofs.YtlggihnkhimfkaaDoorW.PrintWords Go.Proofs.YtlggihnkhimfkaaDoorW.PrintLast Go.Proofs.YtlggihnkhimfkaaDoorW.PrintMore
attribute [local go_sem] max2_int min2_int max_two min_two max_three min_three max_four min_four   -- for this text's walks alone
set_option linter.unusedVariables false
set_option linter.unusedSimpArgs false
mutual
def benc_reader_number.l0 : Nat → Int → Int → Int → Int → Int → ByteArray → Int → Int → Option (Int × ByteArray × Int × Int)
  | 0, _, _, _, _, _, _, _, _ => none
  | k + 1, x1, x2, x3, x9, x10, x1000, x1001, x1002 => if x1002 = 0 then ((benc_reader_next.f x1000 x1001 x1002).bind fun bt393 => (if bt393.2.2.2 = 0 then (if bt393.1 = x1 then (benc_reader_number.j1 k x1 x2 x3 x9 x10 bt393.1 (decide (bt393.2.2.1 > x9)) bt393.2.1 bt393.2.2.1 bt393.2.2.2) else (benc_reader_number.j1 k x1 x2 x3 x9 x10 bt393.1 false bt393.2.1 bt393.2.2.1 bt393.2.2.2)) else (benc_reader_number.l0 k x1 x2 x3 x9 x10 bt393.2.1 bt393.2.2.1 bt393.2.2.2))) else (some (0, x1000, x1001, x1002))
def benc_reader_number.j1 : Nat → Int → Int → Int → Int → Int → Int → Bool → ByteArray → Int → Int → Option (Int × ByteArray × Int × Int)
  | 0, _, _, _, _, _, _, _, _, _, _ => none
  | k + 1, x1, x2, x3, x9, x10, x11, x80, x1000, x1001, x1002 => if x80 = true then (some (x10, x1000, wrap64 (x1001 + 1), x1002)) else (if x11 < 48 then (benc_reader_number.j2 k x1 x2 x3 x9 x10 x11 true x1000 x1001 x1002) else (if x11 > 57 then (benc_reader_number.j2 k x1 x2 x3 x9 x10 x11 true x1000 x1001 x1002) else (if x1001 > x9 then (if 0 ≤ x9 then (if x9 < (x1000.size : Int) then (if (bt x1000 x9) = 48 then (benc_reader_number.j2 k x1 x2 x3 x9 x10 x11 true x1000 x1001 x1002) else (if x1001 = x9 then (if x11 = 48 then (benc_reader_number.j2 k x1 x2 x3 x9 x10 x11 (decide (x2 < 0)) x1000 x1001 x1002) else (benc_reader_number.j2 k x1 x2 x3 x9 x10 x11 false x1000 x1001 x1002)) else (benc_reader_number.j2 k x1 x2 x3 x9 x10 x11 false x1000 x1001 x1002))) else (none)) else (none)) else (if x1001 = x9 then (if x11 = 48 then (benc_reader_number.j2 k x1 x2 x3 x9 x10 x11 (decide (x2 < 0)) x1000 x1001 x1002) else (benc_reader_number.j2 k x1 x2 x3 x9 x10 x11 false x1000 x1001 x1002)) else (benc_reader_number.j2 k x1 x2 x3 x9 x10 x11 false x1000 x1001 x1002)))))
def benc_reader_number.j2 : Nat → Int → Int → Int → Int → Int → Int → Bool → ByteArray → Int → Int → Option (Int × ByteArray × Int × Int)
  | 0, _, _, _, _, _, _, _, _, _, _ => none
  | k + 1, x1, x2, x3, x9, x10, x11, x100, x1000, x1001, x1002 => if x100 = true then ((benc_reader_fail.f x1000 x1001 x1002 20).bind fun bt397 => (benc_reader_number.l0 k x1 x2 x3 x9 x10 bt397.1 bt397.2.1 bt397.2.2)) else (if x3 < 9223372036854775807 then (benc_reader_number.j3 k x1 x2 x3 x9 x10 ((x11 - 48) % 256) (decide ((wrap64 ((wrap64 (10 * x10)) + ((x11 - 48) % 256))) > x3)) x1000 x1001 x1002) else (benc_reader_number.j3 k x1 x2 x3 x9 x10 ((x11 - 48) % 256) false x1000 x1001 x1002))
def benc_reader_number.j3 : Nat → Int → Int → Int → Int → Int → Int → Bool → ByteArray → Int → Int → Option (Int × ByteArray × Int × Int)
  | 0, _, _, _, _, _, _, _, _, _, _ => none
  | k + 1, x1, x2, x3, x9, x10, x12, x40, x1000, x1001, x1002 => if x40 = true then ((benc_reader_fail.f x1000 x1001 x1002 23).bind fun bt400 => (benc_reader_number.l0 k x1 x2 x3 x9 x10 bt400.1 bt400.2.1 bt400.2.2)) else (if x2 > 0 then (benc_reader_number.j4 k x1 x2 x3 x9 x10 x12 (decide (x10 > (wrap64 (Int.tdiv (wrap64 (9223372036854775807 - x12)) 10)))) x1000 x1001 x1002) else (benc_reader_number.j4 k x1 x2 x3 x9 x10 x12 false x1000 x1001 x1002))
def benc_reader_number.j4 : Nat → Int → Int → Int → Int → Int → Int → Bool → ByteArray → Int → Int → Option (Int × ByteArray × Int × Int)
  | 0, _, _, _, _, _, _, _, _, _, _ => none
  | k + 1, x1, x2, x3, x9, x10, x12, x53, x1000, x1001, x1002 => if x53 = true then ((benc_reader_fail.f x1000 x1001 x1002 20).bind fun bt403 => (benc_reader_number.l0 k x1 x2 x3 x9 x10 bt403.1 bt403.2.1 bt403.2.2)) else (if x2 < 0 then (if x10 < (wrap64 (Int.tdiv (wrap64 ((-9223372036854775808) + x12)) 10)) then ((benc_reader_fail.f x1000 x1001 x1002 20).bind fun bt406 => (benc_reader_number.l0 k x1 x2 x3 x9 x10 bt406.1 bt406.2.1 bt406.2.2)) else (benc_reader_number.l0 k x1 x2 x3 x9 (wrap64 ((wrap64 (10 * x10)) + (wrap64 (x2 * x12)))) x1000 (wrap64 (x1001 + 1)) x1002)) else (benc_reader_number.l0 k x1 x2 x3 x9 (wrap64 ((wrap64 (10 * x10)) + (wrap64 (x2 * x12)))) x1000 (wrap64 (x1001 + 1)) x1002))
end
def benc_reader_number.f (k : Nat) (s0_0 : ByteArray) (s0_1 : Int) (s0_2 : Int) (a1 : Int) (a2 : Int) (a3 : Int) : Option (Int × ByteArray × Int × Int) := benc_reader_number.l0 k a1 a2 a3 s0_1 0 s0_0 s0_1 s0_2
theorem quo_d (x : Int) : 0 ≤ (x - 48) % 256 ∧ (x - 48) % 256 ≤ 255 := by omega
theorem quo_hi (x : Int) : wrap64 (Int.tdiv (wrap64 (9223372036854775807 - (x - 48) % 256)) 10) = (9223372036854775807 - (x - 48) % 256) / 10 := by
  have h := quo_d x
  rw [show wrap64 (9223372036854775807 - (x - 48) % 256) = 9223372036854775807 - (x - 48) % 256 by unfold wrap64; omega, Int.tdiv_eq_ediv_of_nonneg (by omega)]
  unfold wrap64
  omega
theorem quo_lo (x : Int) : wrap64 (Int.tdiv (wrap64 (-9223372036854775808 + (x - 48) % 256)) 10) = Int.tdiv (-9223372036854775808 + (x - 48) % 256) 10 := by
  have h := quo_d x
  rw [show wrap64 (-9223372036854775808 + (x - 48) % 256) = -9223372036854775808 + (x - 48) % 256 by unfold wrap64; omega]
  have h2 : Int.tdiv (-9223372036854775808 + (x - 48) % 256) 10 = -((9223372036854775808 - (x - 48) % 256) / 10) := by
    rw [show -9223372036854775808 + (x - 48) % 256 = -(9223372036854775808 - (x - 48) % 256) by omega, Int.neg_tdiv, Int.tdiv_eq_ediv_of_nonneg (by omega)]
  rw [h2]
  unfold wrap64
  omega
set_option maxHeartbeats 8000000 in
set_option maxRecDepth 100000 in
theorem benc_reader_number.calls (k : Nat) (g : Nat) (s0_0 : ByteArray) (s0_1 : Int) (s0_2 : Int) (a1 : Int) (a2 : Int) (a3 : Int) (r1 : Int) (r2 : ByteArray) (r3 : Int) (r4 : Int) (w0 w : World) (hI : IsS102 w0 w g s0_0 s0_1 s0_2) (hB : Below w0.heap.size w0 w) (h : benc_reader_number.f k s0_0 s0_1 s0_2 a1 a2 a3 = some (r1, r2, r3, r4)) :
  Calls Tryd.prog 67 #[.pointer (some ⟨g, 0, none⟩), .int .u8 a1, .int .i64 a2, .int .i64 a3] w fun e w' => e = .returned (.int .i64 r1) ∧ IsS102 w0 w' g r2 r3 r4 ∧ Below w0.heap.size w0 w' ∧ KeepBut w w' g none := by
 have HI0 := Aside0.mk hI
 have HK := Aside0.mk (KeepBut.refl w g none)
 have HL := Aside0.mk hB.size
 clear hI
 have HW0 := Aside0.mk hB.size
 have HB := Aside0.mk hB
 clear hB
 have H : (benc_reader_number.l0 k a1 a2 a3 s0_1 0 s0_0 s0_1 s0_2) = some (r1, r2, r3, r4) := h
 clear h
 have H' := Aside0.mk H
 clear H
 obtain ⟨HGz5, hgz5⟩ := HI0.out
 have hcz5_0 := cellS102_0 HGz5
 have hcz5_1 := cellS102_1 HGz5
 have hcz5_2 := cellS102_2 HGz5
 have hfz5_0 := blk_frozen HGz5 0
 have hfz5_1 := blk_frozen HGz5 1
 have hfz5_2 := blk_frozen HGz5 2
 clear HGz5 hgz5
 go_enter Tryd.func67, Tryd.ntmps67
 go_wp2
 go_loopg [10] k (fun kq v10 w' => ∃ (x10_1 : Int) (x1000_1 : ByteArray) (x1001_1 : Int) (x1002_1 : Int), v10 = .int .i64 x10_1 ∧ Aside0 (benc_reader_number.l0 kq a1 a2 a3 s0_1 x10_1 x1000_1 x1001_1 x1002_1 = some (r1, r2, r3, r4)) ∧ Aside0 (kq ≤ k) ∧ Aside0 (IsS102 w0 w' g x1000_1 x1001_1 x1002_1) ∧ Aside0 (KeepBut w w' g none) ∧ Aside0 (Below w0.heap.size w0 w'))
 case atStart => exact ⟨(0), (s0_0), (s0_1), (s0_2), (by first | rfl | (simp; done) | (simp [*]; done)), H', ⟨Nat.le_refl _⟩, ⟨by repeat (first | (with_reducible first | exact HI0.out | apply IsS102.alloc | apply IsS102.drewN | apply IsS102.drew | apply IsS102.set_0 | apply IsS102.set_1 | apply IsS102.set_2) | exact HI0.out)⟩, ⟨by repeat (first | (with_reducible first | exact HK.out | apply KeepBut.set_ | apply keep_drewN | apply keep_drew | apply keep_alloc) | exact HK.out)⟩, ⟨by repeat (first | (with_reducible first | exact HB.out | apply below_alloc | apply pw_below_drewN | apply below_drew1 | refine below_set ?_ (IsS102.ge HI0.out)) | exact HB.out)⟩⟩
 case round =>
  clear H'
  try clear p2
  try clear hcz5_0
  try clear hcz5_1
  try clear hcz5_2
  try clear hfz5_0
  try clear hfz5_1
  try clear hfz5_2
  obtain ⟨x10_1, x1000_1, x1001_1, x1002_1, rfl, HA, HK1, HI0, HK, HB⟩ := hrel
  cases gk with
  | zero => exact absurd HA.out (by simp [benc_reader_number.l0])
  | succ k1 =>
   have H := HA.out
   clear HA
   simp only [benc_reader_number.l0] at H
   by_cases c6 : x1002_1 = 0
   ·
    rw [if_pos c6] at H
    have c6b0 : (x1002_1 == 0) = true := beq_iff_eq.mpr c6
    have c6b1 : (x1002_1 != 0) = false := bne_eq_false_iff_eq.mpr c6
    clear c6
    replace H := Option.bind_eq_some_iff.mp H
    obtain ⟨⟨t393, t394, t395, t396⟩, A70, H⟩ := H
    replace H : (if t396 = 0 then (if t393 = a1 then (benc_reader_number.j1 k1 a1 a2 a3 s0_1 x10_1 t393 (decide (t395 > s0_1)) t394 t395 t396) else (benc_reader_number.j1 k1 a1 a2 a3 s0_1 x10_1 t393 false t394 t395 t396)) else (benc_reader_number.l0 k1 a1 a2 a3 s0_1 x10_1 t394 t395 t396)) = some (r1, r2, r3, r4) := H
    have A7 := Aside0.mk A70
    clear A70
    by_cases c8 : t396 = 0
    ·
     rw [if_pos c8] at H
     have c8b0 : (t396 == 0) = true := beq_iff_eq.mpr c8
     have c8b1 : (t396 != 0) = false := bne_eq_false_iff_eq.mpr c8
     clear c8
     have HC9 := Aside0.mk H
     clear H
     obtain ⟨HGz10, hgz10⟩ := HI0.out
     have hcz10_0 := cellS102_0 HGz10
     have hcz10_1 := cellS102_1 HGz10
     have hcz10_2 := cellS102_2 HGz10
     have hfz10_0 := blk_frozen HGz10 0
     have hfz10_1 := blk_frozen HGz10 1
     have hfz10_2 := blk_frozen HGz10 2
     clear HGz10 hgz10
     go_upto_region 13 with (first | ((with_reducible refine gate_callee (f := 66) rfl ?_); refine goesL_ (some 23) rfl rfl Tryd.func66 (by kernel_rfl) rfl #[.pointer (some ⟨g, 0, none⟩)] rfl (by (try simp only [List.map_toArray, List.map_cons, List.map_nil]); first | done | rfl | (simp only [List.length_drop, List.length_take]; rfl)) ?_; (with_reducible refine (benc_reader_next.calls g x1000_1 x1001_1 x1002_1 t393 t394 t395 t396 w0 _ ?side1 ?side2 A7.out).mono ?_); (case side1 => repeat (first | (with_reducible first | exact HI0.out | apply IsS102.alloc | apply IsS102.drewN | apply IsS102.drew | apply IsS102.set_0 | apply IsS102.set_1 | apply IsS102.set_2) | exact HI0.out)); (case side2 => repeat (first | (with_reducible first | exact HB.out | apply below_alloc | apply pw_below_drewN | apply below_drew1 | refine below_set ?_ (IsS102.ge HI0.out)) | exact HB.out)); rintro e w11 ⟨rfl, hi, hb, hk⟩; refine ⟨_, rfl, ?_⟩; have n0_ := Aside0.mk (KeepBut.trans (by repeat (first | (with_reducible first | exact HK.out | apply KeepBut.set_ | apply keep_drewN | apply keep_drew | apply keep_alloc) | exact HK.out)) hk (.inl rfl)); have n1_ := Aside0.mk (hb); have n2_ := Aside0.mk (hi); clear HK; clear HB; clear HI0; have HK := n0_; have HB := n1_; have HI0 := n2_; clear n0_ n1_ n2_; (try clear hb); (try clear hb2); (try clear hk); (try clear hi); obtain ⟨HGz12, hgz12⟩ := HI0.out; have hcz12_0 := cellS102_0 HGz12; have hcz12_1 := cellS102_1 HGz12; have hcz12_2 := cellS102_2 HGz12; have hfz12_0 := blk_frozen HGz12 0; have hfz12_1 := blk_frozen HGz12 1; have hfz12_2 := blk_frozen HGz12 2; clear HGz12 hgz12))
     (try simp only [Act.put, List.setIfInBounds_toArray, List.set_cons_zero, List.set_cons_succ])
     go_cut [80] (fun v80 wc => ∃ (kq : Nat) (x80_8 : Bool), v80 = .bool x80_8 ∧ Aside0 (benc_reader_number.j1 kq a1 a2 a3 s0_1 x10_1 t393 x80_8 t394 t395 t396 = some (r1, r2, r3, r4)) ∧ Aside0 (kq ≤ k1) ∧ Aside0 (IsS102 w0 wc g t394 t395 t396) ∧ Aside0 (KeepBut w wc g none) ∧ Aside0 (Below w0.heap.size w0 wc))
     case first =>
      have H := HC9.out
      clear HC9
      by_cases c13 : t393 = a1
      ·
       rw [if_pos c13] at H
       have c13b0 : (t393 == a1) = true := beq_iff_eq.mpr c13
       have c13b1 : (t393 != a1) = false := bne_eq_false_iff_eq.mpr c13
       clear c13
       (first | rw [c13b0] | (simp only [i64_w, i32_w]; rw [c13b0]) | skip)
       have H' := Aside0.mk H
       clear H
       obtain ⟨HGz14, hgz14⟩ := HI0.out
       have hcz14_0 := cellS102_0 HGz14
       have hcz14_1 := cellS102_1 HGz14
       have hcz14_2 := cellS102_2 HGz14
       have hfz14_0 := blk_frozen HGz14 0
       have hfz14_1 := blk_frozen HGz14 1
       have hfz14_2 := blk_frozen HGz14 2
       clear HGz14 hgz14
       go_wp2
       go_meet
       case rel => exact ⟨_, (decide (t395 > s0_1)), (by first | rfl | (simp; done) | (simp [*]; done)), H', ⟨by have := HK1.out; first | omega | exact Nat.le_refl _⟩, ⟨by repeat (first | (with_reducible first | exact HI0.out | apply IsS102.alloc | apply IsS102.drewN | apply IsS102.drew | apply IsS102.set_0 | apply IsS102.set_1 | apply IsS102.set_2) | exact HI0.out)⟩, ⟨by repeat (first | (with_reducible first | exact HK.out | apply KeepBut.set_ | apply keep_drewN | apply keep_drew | apply keep_alloc) | exact HK.out)⟩, ⟨by repeat (first | (with_reducible first | exact HB.out | apply below_alloc | apply pw_below_drewN | apply below_drew1 | refine below_set ?_ (IsS102.ge HI0.out)) | exact HB.out)⟩⟩
      ·
       rw [if_neg c13] at H
       have c13b0 : (t393 == a1) = false := beq_eq_false_iff_ne.mpr c13
       have c13b1 : (t393 != a1) = true := bne_iff_ne.mpr c13
       (first | rw [c13b0] | (simp only [i64_w, i32_w]; rw [c13b0]) | skip)
       have H' := Aside0.mk H
       clear H
       go_wp2
       go_meet
       case rel => exact ⟨_, (false), (by first | rfl | (simp; done) | (simp [*]; done)), H', ⟨by have := HK1.out; first | omega | exact Nat.le_refl _⟩, ⟨by repeat (first | (with_reducible first | exact HI0.out | apply IsS102.alloc | apply IsS102.drewN | apply IsS102.drew | apply IsS102.set_0 | apply IsS102.set_1 | apply IsS102.set_2) | exact HI0.out)⟩, ⟨by repeat (first | (with_reducible first | exact HK.out | apply KeepBut.set_ | apply keep_drewN | apply keep_drew | apply keep_alloc) | exact HK.out)⟩, ⟨by repeat (first | (with_reducible first | exact HB.out | apply below_alloc | apply pw_below_drewN | apply below_drew1 | refine below_set ?_ (IsS102.ge HI0.out)) | exact HB.out)⟩⟩
     case rest =>
      clear HC9
      try clear c1
      try clear p2
      try clear c6
      try clear c6b0
      try clear c6b1
      try clear c8
      try clear c8b0
      try clear c8b1
      try clear c13
      try clear c13b0
      try clear c13b1
      try clear hcz10_0
      try clear hcz10_1
      try clear hcz10_2
      try clear hcz12_0
      try clear hcz12_1
      try clear hcz12_2
      try clear hcz14_0
      try clear hcz14_1
      try clear hcz14_2
      try clear hcz5_0
      try clear hcz5_1
      try clear hcz5_2
      try clear hfz10_0
      try clear hfz10_1
      try clear hfz10_2
      try clear hfz12_0
      try clear hfz12_1
      try clear hfz12_2
      try clear hfz14_0
      try clear hfz14_1
      try clear hfz14_2
      try clear hfz5_0
      try clear hfz5_1
      try clear hfz5_2
      try clear p2
      obtain ⟨kq, x80_8, rfl, HA, HJ8, HI0, HK, HB⟩ := hcut
      cases kq with
      | zero => exact absurd HA.out (by simp [benc_reader_number.j1])
      | succ kj8 =>
       have H := HA.out
       clear HA
       simp only [benc_reader_number.j1] at H
       by_cases c15 : x80_8 = true
       ·
        subst c15
        have H1 : (some (x10_1, t394, wrap64 (t395 + 1), t396)) = some (r1, r2, r3, r4) := by rw [if_pos rfl] at H; exact H
        clear H
        have H := H1
        clear H1
        simp only [Option.some.injEq, Prod.mk.injEq] at H
        obtain ⟨rfl, rfl, rfl, rfl⟩ := H
        obtain ⟨HGz16, hgz16⟩ := HI0.out
        have hcz16_0 := cellS102_0 HGz16
        have hcz16_1 := cellS102_1 HGz16
        have hcz16_2 := cellS102_2 HGz16
        have hfz16_0 := blk_frozen HGz16 0
        have hfz16_1 := blk_frozen HGz16 1
        have hfz16_2 := blk_frozen HGz16 2
        clear HGz16 hgz16
        go_wp2
        go_ret
        exact ⟨by first | rfl | (simp [errW_none, errW_some] <;> rfl) | (simp [*, errW_none, errW_some] <;> rfl), by repeat (first | (with_reducible first | exact HI0.out | apply IsS102.alloc | apply IsS102.drewN | apply IsS102.drew | apply IsS102.set_0 | apply IsS102.set_1 | apply IsS102.set_2) | exact HI0.out), by repeat (first | (with_reducible first | exact HB.out | apply below_alloc | apply pw_below_drewN | apply below_drew1 | refine below_set ?_ (IsS102.ge HI0.out)) | exact HB.out), by repeat (first | (with_reducible first | exact HK.out | apply KeepBut.set_ | apply keep_drewN | apply keep_drew | apply keep_alloc) | exact HK.out)⟩
       ·
        replace c15 := Bool.eq_false_iff.mpr c15
        subst c15
        have H1 : (if t393 < 48 then (benc_reader_number.j2 kj8 a1 a2 a3 s0_1 x10_1 t393 true t394 t395 t396) else (if t393 > 57 then (benc_reader_number.j2 kj8 a1 a2 a3 s0_1 x10_1 t393 true t394 t395 t396) else (if t395 > s0_1 then (if 0 ≤ s0_1 then (if s0_1 < (t394.size : Int) then (if (bt t394 s0_1) = 48 then (benc_reader_number.j2 kj8 a1 a2 a3 s0_1 x10_1 t393 true t394 t395 t396) else (if t395 = s0_1 then (if t393 = 48 then (benc_reader_number.j2 kj8 a1 a2 a3 s0_1 x10_1 t393 (decide (a2 < 0)) t394 t395 t396) else (benc_reader_number.j2 kj8 a1 a2 a3 s0_1 x10_1 t393 false t394 t395 t396)) else (benc_reader_number.j2 kj8 a1 a2 a3 s0_1 x10_1 t393 false t394 t395 t396))) else (none)) else (none)) else (if t395 = s0_1 then (if t393 = 48 then (benc_reader_number.j2 kj8 a1 a2 a3 s0_1 x10_1 t393 (decide (a2 < 0)) t394 t395 t396) else (benc_reader_number.j2 kj8 a1 a2 a3 s0_1 x10_1 t393 false t394 t395 t396)) else (benc_reader_number.j2 kj8 a1 a2 a3 s0_1 x10_1 t393 false t394 t395 t396))))) = some (r1, r2, r3, r4) := by rw [if_neg (show ¬ (false = true) by decide)] at H; exact H
        clear H
        have H := H1
        clear H1
        have HC17 := Aside0.mk H
        clear H
        go_upto_region 16 with (fail)
        go_cut [100] (fun v100 wc => ∃ (kq : Nat) (x100_16 : Bool), v100 = .bool x100_16 ∧ Aside0 (benc_reader_number.j2 kq a1 a2 a3 s0_1 x10_1 t393 x100_16 t394 t395 t396 = some (r1, r2, r3, r4)) ∧ Aside0 (kq ≤ kj8) ∧ Aside0 (IsS102 w0 wc g t394 t395 t396) ∧ Aside0 (KeepBut w wc g none) ∧ Aside0 (Below w0.heap.size w0 wc))
        case first =>
         have H := HC17.out
         clear HC17
         by_cases c18 : t393 < 48
         ·
          rw [if_pos c18] at H
          have c18b0 : decide (t393 < 48) = true := decide_eq_true c18
          clear c18
          (first | rw [c18b0] | (simp only [i64_w, i32_w]; rw [c18b0]) | skip)
          have H' := Aside0.mk H
          clear H
          go_wp2
          go_meet
          case rel => exact ⟨_, (true), (by first | rfl | (simp; done) | (simp [*]; done)), H', ⟨by have := HK1.out; have := HJ8.out; first | omega | exact Nat.le_refl _⟩, ⟨by repeat (first | (with_reducible first | exact HI0.out | apply IsS102.alloc | apply IsS102.drewN | apply IsS102.drew | apply IsS102.set_0 | apply IsS102.set_1 | apply IsS102.set_2) | exact HI0.out)⟩, ⟨by repeat (first | (with_reducible first | exact HK.out | apply KeepBut.set_ | apply keep_drewN | apply keep_drew | apply keep_alloc) | exact HK.out)⟩, ⟨by repeat (first | (with_reducible first | exact HB.out | apply below_alloc | apply pw_below_drewN | apply below_drew1 | refine below_set ?_ (IsS102.ge HI0.out)) | exact HB.out)⟩⟩
         ·
          rw [if_neg c18] at H
          have c18b0 : decide (t393 < 48) = false := decide_eq_false c18
          clear c18
          (first | rw [c18b0] | (simp only [i64_w, i32_w]; rw [c18b0]) | skip)
          by_cases c19 : t393 > 57
          ·
           rw [if_pos c19] at H
           have c19b0 : decide (57 < t393) = true := decide_eq_true c19
           clear c19
           have H' := Aside0.mk H
           clear H
           go_wp2
           go_meet
           case rel => exact ⟨_, (true), (by first | rfl | (simp; done) | (simp [*]; done)), H', ⟨by have := HK1.out; have := HJ8.out; first | omega | exact Nat.le_refl _⟩, ⟨by repeat (first | (with_reducible first | exact HI0.out | apply IsS102.alloc | apply IsS102.drewN | apply IsS102.drew | apply IsS102.set_0 | apply IsS102.set_1 | apply IsS102.set_2) | exact HI0.out)⟩, ⟨by repeat (first | (with_reducible first | exact HK.out | apply KeepBut.set_ | apply keep_drewN | apply keep_drew | apply keep_alloc) | exact HK.out)⟩, ⟨by repeat (first | (with_reducible first | exact HB.out | apply below_alloc | apply pw_below_drewN | apply below_drew1 | refine below_set ?_ (IsS102.ge HI0.out)) | exact HB.out)⟩⟩
          ·
           rw [if_neg c19] at H
           have c19b0 : decide (57 < t393) = false := decide_eq_false c19
           clear c19
           by_cases c20 : t395 > s0_1
           ·
            rw [if_pos c20] at H
            have c20b0 : decide (s0_1 < t395) = true := decide_eq_true c20
            clear c20
            by_cases c21 : 0 ≤ s0_1
            ·
             rw [if_pos c21] at H
             have c21b0 : decide (0 ≤ s0_1) = true := decide_eq_true c21
             clear c21
             by_cases c22 : s0_1 < (t394.size : Int)
             ·
              rw [if_pos c22] at H
              have c22b0 : decide (s0_1 < (t394.size : Int)) = true := decide_eq_true c22
              clear c22
              by_cases c24 : (bt t394 s0_1) = 48
              ·
               rw [if_pos c24] at H
               have c24b0 : ((bt t394 s0_1) == 48) = true := beq_iff_eq.mpr c24
               have c24b1 : ((bt t394 s0_1) != 48) = false := bne_eq_false_iff_eq.mpr c24
               clear c24
               have H' := Aside0.mk H
               clear H
               obtain ⟨HGz25, hgz25⟩ := HI0.out
               have hcz25_0 := cellS102_0 HGz25
               have hcz25_1 := cellS102_1 HGz25
               have hcz25_2 := cellS102_2 HGz25
               have hfz25_0 := blk_frozen HGz25 0
               have hfz25_1 := blk_frozen HGz25 1
               have hfz25_2 := blk_frozen HGz25 2
               clear HGz25 hgz25
               have p23 : 0 ≤ (s0_1 : Int) := of_decide_eq_true (by first | (with_reducible assumption) | assumption)
               have q23 : s0_1 < (t394.size : Int) := of_decide_eq_true (by first | (with_reducible assumption) | assumption)
               have hx23 := bt_at t394 s0_1
               replace p23 := eq_true p23
               replace q23 := eq_true q23
               go_wp2
               go_meet
               case rel => exact ⟨_, (true), (by first | rfl | (simp; done) | (simp [*]; done)), H', ⟨by have := HK1.out; have := HJ8.out; first | omega | exact Nat.le_refl _⟩, ⟨by repeat (first | (with_reducible first | exact HI0.out | apply IsS102.alloc | apply IsS102.drewN | apply IsS102.drew | apply IsS102.set_0 | apply IsS102.set_1 | apply IsS102.set_2) | exact HI0.out)⟩, ⟨by repeat (first | (with_reducible first | exact HK.out | apply KeepBut.set_ | apply keep_drewN | apply keep_drew | apply keep_alloc) | exact HK.out)⟩, ⟨by repeat (first | (with_reducible first | exact HB.out | apply below_alloc | apply pw_below_drewN | apply below_drew1 | refine below_set ?_ (IsS102.ge HI0.out)) | exact HB.out)⟩⟩
              ·
               rw [if_neg c24] at H
               have c24b0 : ((bt t394 s0_1) == 48) = false := beq_eq_false_iff_ne.mpr c24
               have c24b1 : ((bt t394 s0_1) != 48) = true := bne_iff_ne.mpr c24
               by_cases c26 : t395 = s0_1
               ·
                rw [if_pos c26] at H
                have c26b0 : (t395 == s0_1) = true := beq_iff_eq.mpr c26
                have c26b1 : (t395 != s0_1) = false := bne_eq_false_iff_eq.mpr c26
                clear c26
                by_cases c27 : t393 = 48
                ·
                 rw [if_pos c27] at H
                 have c27b0 : (t393 == 48) = true := beq_iff_eq.mpr c27
                 have c27b1 : (t393 != 48) = false := bne_eq_false_iff_eq.mpr c27
                 clear c27
                 have H' := Aside0.mk H
                 clear H
                 obtain ⟨HGz28, hgz28⟩ := HI0.out
                 have hcz28_0 := cellS102_0 HGz28
                 have hcz28_1 := cellS102_1 HGz28
                 have hcz28_2 := cellS102_2 HGz28
                 have hfz28_0 := blk_frozen HGz28 0
                 have hfz28_1 := blk_frozen HGz28 1
                 have hfz28_2 := blk_frozen HGz28 2
                 clear HGz28 hgz28
                 have p23 : 0 ≤ (s0_1 : Int) := of_decide_eq_true (by first | (with_reducible assumption) | assumption)
                 have q23 : s0_1 < (t394.size : Int) := of_decide_eq_true (by first | (with_reducible assumption) | assumption)
                 have hx23 := bt_at t394 s0_1
                 replace p23 := eq_true p23
                 replace q23 := eq_true q23
                 go_wp2
                 go_meet
                 case rel => exact ⟨_, (decide (a2 < 0)), (by first | rfl | (simp; done) | (simp [*]; done)), H', ⟨by have := HK1.out; have := HJ8.out; first | omega | exact Nat.le_refl _⟩, ⟨by repeat (first | (with_reducible first | exact HI0.out | apply IsS102.alloc | apply IsS102.drewN | apply IsS102.drew | apply IsS102.set_0 | apply IsS102.set_1 | apply IsS102.set_2) | exact HI0.out)⟩, ⟨by repeat (first | (with_reducible first | exact HK.out | apply KeepBut.set_ | apply keep_drewN | apply keep_drew | apply keep_alloc) | exact HK.out)⟩, ⟨by repeat (first | (with_reducible first | exact HB.out | apply below_alloc | apply pw_below_drewN | apply below_drew1 | refine below_set ?_ (IsS102.ge HI0.out)) | exact HB.out)⟩⟩
                ·
                 rw [if_neg c27] at H
                 have c27b0 : (t393 == 48) = false := beq_eq_false_iff_ne.mpr c27
                 have c27b1 : (t393 != 48) = true := bne_iff_ne.mpr c27
                 have H' := Aside0.mk H
                 clear H
                 obtain ⟨HGz29, hgz29⟩ := HI0.out
                 have hcz29_0 := cellS102_0 HGz29
                 have hcz29_1 := cellS102_1 HGz29
                 have hcz29_2 := cellS102_2 HGz29
                 have hfz29_0 := blk_frozen HGz29 0
                 have hfz29_1 := blk_frozen HGz29 1
                 have hfz29_2 := blk_frozen HGz29 2
                 clear HGz29 hgz29
                 have p23 : 0 ≤ (s0_1 : Int) := of_decide_eq_true (by first | (with_reducible assumption) | assumption)
                 have q23 : s0_1 < (t394.size : Int) := of_decide_eq_true (by first | (with_reducible assumption) | assumption)
                 have hx23 := bt_at t394 s0_1
                 replace p23 := eq_true p23
                 replace q23 := eq_true q23
                 go_wp2
                 go_meet
                 case rel => exact ⟨_, (false), (by first | rfl | (simp; done) | (simp [*]; done)), H', ⟨by have := HK1.out; have := HJ8.out; first | omega | exact Nat.le_refl _⟩, ⟨by repeat (first | (with_reducible first | exact HI0.out | apply IsS102.alloc | apply IsS102.drewN | apply IsS102.drew | apply IsS102.set_0 | apply IsS102.set_1 | apply IsS102.set_2) | exact HI0.out)⟩, ⟨by repeat (first | (with_reducible first | exact HK.out | apply KeepBut.set_ | apply keep_drewN | apply keep_drew | apply keep_alloc) | exact HK.out)⟩, ⟨by repeat (first | (with_reducible first | exact HB.out | apply below_alloc | apply pw_below_drewN | apply below_drew1 | refine below_set ?_ (IsS102.ge HI0.out)) | exact HB.out)⟩⟩
               ·
                rw [if_neg c26] at H
                have c26b0 : (t395 == s0_1) = false := beq_eq_false_iff_ne.mpr c26
                have c26b1 : (t395 != s0_1) = true := bne_iff_ne.mpr c26
                have H' := Aside0.mk H
                clear H
                obtain ⟨HGz30, hgz30⟩ := HI0.out
                have hcz30_0 := cellS102_0 HGz30
                have hcz30_1 := cellS102_1 HGz30
                have hcz30_2 := cellS102_2 HGz30
                have hfz30_0 := blk_frozen HGz30 0
                have hfz30_1 := blk_frozen HGz30 1
                have hfz30_2 := blk_frozen HGz30 2
                clear HGz30 hgz30
                have p23 : 0 ≤ (s0_1 : Int) := of_decide_eq_true (by first | (with_reducible assumption) | assumption)
                have q23 : s0_1 < (t394.size : Int) := of_decide_eq_true (by first | (with_reducible assumption) | assumption)
                have hx23 := bt_at t394 s0_1
                replace p23 := eq_true p23
                replace q23 := eq_true q23
                go_wp2
                go_meet
                case rel => exact ⟨_, (false), (by first | rfl | (simp; done) | (simp [*]; done)), H', ⟨by have := HK1.out; have := HJ8.out; first | omega | exact Nat.le_refl _⟩, ⟨by repeat (first | (with_reducible first | exact HI0.out | apply IsS102.alloc | apply IsS102.drewN | apply IsS102.drew | apply IsS102.set_0 | apply IsS102.set_1 | apply IsS102.set_2) | exact HI0.out)⟩, ⟨by repeat (first | (with_reducible first | exact HK.out | apply KeepBut.set_ | apply keep_drewN | apply keep_drew | apply keep_alloc) | exact HK.out)⟩, ⟨by repeat (first | (with_reducible first | exact HB.out | apply below_alloc | apply pw_below_drewN | apply below_drew1 | refine below_set ?_ (IsS102.ge HI0.out)) | exact HB.out)⟩⟩
             ·
              rw [if_neg c22] at H
              exact absurd H (by simp)
            ·
             rw [if_neg c21] at H
             exact absurd H (by simp)
           ·
            rw [if_neg c20] at H
            have c20b0 : decide (s0_1 < t395) = false := decide_eq_false c20
            clear c20
            by_cases c31 : t395 = s0_1
            ·
             rw [if_pos c31] at H
             have c31b0 : (t395 == s0_1) = true := beq_iff_eq.mpr c31
             have c31b1 : (t395 != s0_1) = false := bne_eq_false_iff_eq.mpr c31
             clear c31
             by_cases c32 : t393 = 48
             ·
              rw [if_pos c32] at H
              have c32b0 : (t393 == 48) = true := beq_iff_eq.mpr c32
              have c32b1 : (t393 != 48) = false := bne_eq_false_iff_eq.mpr c32
              clear c32
              have H' := Aside0.mk H
              clear H
              obtain ⟨HGz33, hgz33⟩ := HI0.out
              have hcz33_0 := cellS102_0 HGz33
              have hcz33_1 := cellS102_1 HGz33
              have hcz33_2 := cellS102_2 HGz33
              have hfz33_0 := blk_frozen HGz33 0
              have hfz33_1 := blk_frozen HGz33 1
              have hfz33_2 := blk_frozen HGz33 2
              clear HGz33 hgz33
              go_wp2
              go_meet
              case rel => exact ⟨_, (decide (a2 < 0)), (by first | rfl | (simp; done) | (simp [*]; done)), H', ⟨by have := HK1.out; have := HJ8.out; first | omega | exact Nat.le_refl _⟩, ⟨by repeat (first | (with_reducible first | exact HI0.out | apply IsS102.alloc | apply IsS102.drewN | apply IsS102.drew | apply IsS102.set_0 | apply IsS102.set_1 | apply IsS102.set_2) | exact HI0.out)⟩, ⟨by repeat (first | (with_reducible first | exact HK.out | apply KeepBut.set_ | apply keep_drewN | apply keep_drew | apply keep_alloc) | exact HK.out)⟩, ⟨by repeat (first | (with_reducible first | exact HB.out | apply below_alloc | apply pw_below_drewN | apply below_drew1 | refine below_set ?_ (IsS102.ge HI0.out)) | exact HB.out)⟩⟩
             ·
              rw [if_neg c32] at H
              have c32b0 : (t393 == 48) = false := beq_eq_false_iff_ne.mpr c32
              have c32b1 : (t393 != 48) = true := bne_iff_ne.mpr c32
              have H' := Aside0.mk H
              clear H
              obtain ⟨HGz34, hgz34⟩ := HI0.out
              have hcz34_0 := cellS102_0 HGz34
              have hcz34_1 := cellS102_1 HGz34
              have hcz34_2 := cellS102_2 HGz34
              have hfz34_0 := blk_frozen HGz34 0
              have hfz34_1 := blk_frozen HGz34 1
              have hfz34_2 := blk_frozen HGz34 2
              clear HGz34 hgz34
              go_wp2
              go_meet
              case rel => exact ⟨_, (false), (by first | rfl | (simp; done) | (simp [*]; done)), H', ⟨by have := HK1.out; have := HJ8.out; first | omega | exact Nat.le_refl _⟩, ⟨by repeat (first | (with_reducible first | exact HI0.out | apply IsS102.alloc | apply IsS102.drewN | apply IsS102.drew | apply IsS102.set_0 | apply IsS102.set_1 | apply IsS102.set_2) | exact HI0.out)⟩, ⟨by repeat (first | (with_reducible first | exact HK.out | apply KeepBut.set_ | apply keep_drewN | apply keep_drew | apply keep_alloc) | exact HK.out)⟩, ⟨by repeat (first | (with_reducible first | exact HB.out | apply below_alloc | apply pw_below_drewN | apply below_drew1 | refine below_set ?_ (IsS102.ge HI0.out)) | exact HB.out)⟩⟩
            ·
             rw [if_neg c31] at H
             have c31b0 : (t395 == s0_1) = false := beq_eq_false_iff_ne.mpr c31
             have c31b1 : (t395 != s0_1) = true := bne_iff_ne.mpr c31
             have H' := Aside0.mk H
             clear H
             obtain ⟨HGz35, hgz35⟩ := HI0.out
             have hcz35_0 := cellS102_0 HGz35
             have hcz35_1 := cellS102_1 HGz35
             have hcz35_2 := cellS102_2 HGz35
             have hfz35_0 := blk_frozen HGz35 0
             have hfz35_1 := blk_frozen HGz35 1
             have hfz35_2 := blk_frozen HGz35 2
             clear HGz35 hgz35
             go_wp2
             go_meet
             case rel => exact ⟨_, (false), (by first | rfl | (simp; done) | (simp [*]; done)), H', ⟨by have := HK1.out; have := HJ8.out; first | omega | exact Nat.le_refl _⟩, ⟨by repeat (first | (with_reducible first | exact HI0.out | apply IsS102.alloc | apply IsS102.drewN | apply IsS102.drew | apply IsS102.set_0 | apply IsS102.set_1 | apply IsS102.set_2) | exact HI0.out)⟩, ⟨by repeat (first | (with_reducible first | exact HK.out | apply KeepBut.set_ | apply keep_drewN | apply keep_drew | apply keep_alloc) | exact HK.out)⟩, ⟨by repeat (first | (with_reducible first | exact HB.out | apply below_alloc | apply pw_below_drewN | apply below_drew1 | refine below_set ?_ (IsS102.ge HI0.out)) | exact HB.out)⟩⟩
        case rest =>
         clear HC17
         try clear c1
         try clear c2
         try clear p2
         try clear q2
         try clear hx2
         try clear c3
         try clear c6
         try clear c6b0
         try clear c6b1
         try clear p6
         try clear c8
         try clear c8b0
         try clear c8b1
         try clear c13
         try clear c13b0
         try clear c13b1
         try clear c15
         try clear c18
         try clear c18b0
         try clear c19
         try clear c19b0
         try clear c20
         try clear c20b0
         try clear c21
         try clear c21b0
         try clear c22
         try clear c22b0
         try clear p23
         try clear q23
         try clear hx23
         try clear c24
         try clear c24b0
         try clear c24b1
         try clear c26
         try clear c26b0
         try clear c26b1
         try clear c27
         try clear c27b0
         try clear c27b1
         try clear c31
         try clear c31b0
         try clear c31b1
         try clear c32
         try clear c32b0
         try clear c32b1
         try clear hcz10_0
         try clear hcz10_1
         try clear hcz10_2
         try clear hcz12_0
         try clear hcz12_1
         try clear hcz12_2
         try clear hcz14_0
         try clear hcz14_1
         try clear hcz14_2
         try clear hcz16_0
         try clear hcz16_1
         try clear hcz16_2
         try clear hcz25_0
         try clear hcz25_1
         try clear hcz25_2
         try clear hcz28_0
         try clear hcz28_1
         try clear hcz28_2
         try clear hcz29_0
         try clear hcz29_1
         try clear hcz29_2
         try clear hcz30_0
         try clear hcz30_1
         try clear hcz30_2
         try clear hcz33_0
         try clear hcz33_1
         try clear hcz33_2
         try clear hcz34_0
         try clear hcz34_1
         try clear hcz34_2
         try clear hcz35_0
         try clear hcz35_1
         try clear hcz35_2
         try clear hcz5_0
         try clear hcz5_1
         try clear hcz5_2
         try clear hfz10_0
         try clear hfz10_1
         try clear hfz10_2
         try clear hfz12_0
         try clear hfz12_1
         try clear hfz12_2
         try clear hfz14_0
         try clear hfz14_1
         try clear hfz14_2
         try clear hfz16_0
         try clear hfz16_1
         try clear hfz16_2
         try clear hfz25_0
         try clear hfz25_1
         try clear hfz25_2
         try clear hfz28_0
         try clear hfz28_1
         try clear hfz28_2
         try clear hfz29_0
         try clear hfz29_1
         try clear hfz29_2
         try clear hfz30_0
         try clear hfz30_1
         try clear hfz30_2
         try clear hfz33_0
         try clear hfz33_1
         try clear hfz33_2
         try clear hfz34_0
         try clear hfz34_1
         try clear hfz34_2
         try clear hfz35_0
         try clear hfz35_1
         try clear hfz35_2
         try clear hfz5_0
         try clear hfz5_1
         try clear hfz5_2
         try clear p2
         try clear p23
         try clear q23
         obtain ⟨kq, x100_16, rfl, HA, HJ16, HI0, HK, HB⟩ := hcut
         cases kq with
         | zero => exact absurd HA.out (by simp [benc_reader_number.j2])
         | succ kj16 =>
          have H := HA.out
          clear HA
          simp only [benc_reader_number.j2] at H
          by_cases c36 : x100_16 = true
          ·
           subst c36
           have H1 : ((benc_reader_fail.f t394 t395 t396 20).bind fun bt397 => (benc_reader_number.l0 kj16 a1 a2 a3 s0_1 x10_1 bt397.1 bt397.2.1 bt397.2.2)) = some (r1, r2, r3, r4) := by rw [if_pos rfl] at H; exact H
           clear H
           have H := H1
           clear H1
           replace H := Option.bind_eq_some_iff.mp H
           obtain ⟨⟨t397, t398, t399⟩, A370, H⟩ := H
           replace H : (benc_reader_number.l0 kj16 a1 a2 a3 s0_1 x10_1 t397 t398 t399) = some (r1, r2, r3, r4) := H
           have A37 := Aside0.mk A370
           clear A370
           have H' := Aside0.mk H
           clear H
           go_wp2_with (first | ((with_reducible refine gate_callee (f := 68) rfl ?_); refine goesL_ (some 141) rfl rfl Tryd.func68 (by kernel_rfl) rfl #[.pointer (some ⟨g, 0, none⟩), .int .i64 20] rfl (by (try simp only [List.map_toArray, List.map_cons, List.map_nil]); first | done | rfl | (simp only [List.length_drop, List.length_take]; rfl)) ?_; (with_reducible refine (benc_reader_fail.calls g t394 t395 t396 20 t397 t398 t399 w0 _ ?side1 ?side2 A37.out).mono ?_); (case side1 => repeat (first | (with_reducible first | exact HI0.out | apply IsS102.alloc | apply IsS102.drewN | apply IsS102.drew | apply IsS102.set_0 | apply IsS102.set_1 | apply IsS102.set_2) | exact HI0.out)); (case side2 => repeat (first | (with_reducible first | exact HB.out | apply below_alloc | apply pw_below_drewN | apply below_drew1 | refine below_set ?_ (IsS102.ge HI0.out)) | exact HB.out)); rintro e w38 ⟨rfl, hi, hb, hk⟩; refine ⟨_, rfl, ?_⟩; have n0_ := Aside0.mk (KeepBut.trans (by repeat (first | (with_reducible first | exact HK.out | apply KeepBut.set_ | apply keep_drewN | apply keep_drew | apply keep_alloc) | exact HK.out)) hk (.inl rfl)); have n1_ := Aside0.mk (hb); have n2_ := Aside0.mk (hi); clear HK; clear HB; clear HI0; have HK := n0_; have HB := n1_; have HI0 := n2_; clear n0_ n1_ n2_; (try clear hb); (try clear hb2); (try clear hk); (try clear hi)))
           go_roundg kj16
           case measure => have := HK1.out; have := HJ8.out; have := HJ16.out; omega
           case rel => exact ⟨(x10_1), (t397), (t398), (t399), (by first | rfl | (simp; done) | (simp [*]; done)), H', ⟨by have := HK1.out; have := HJ8.out; have := HJ16.out; omega⟩, ⟨by repeat (first | (with_reducible first | exact HI0.out | apply IsS102.alloc | apply IsS102.drewN | apply IsS102.drew | apply IsS102.set_0 | apply IsS102.set_1 | apply IsS102.set_2) | exact HI0.out)⟩, ⟨by repeat (first | (with_reducible first | exact HK.out | apply KeepBut.set_ | apply keep_drewN | apply keep_drew | apply keep_alloc) | exact HK.out)⟩, ⟨by repeat (first | (with_reducible first | exact HB.out | apply below_alloc | apply pw_below_drewN | apply below_drew1 | refine below_set ?_ (IsS102.ge HI0.out)) | exact HB.out)⟩⟩
          ·
           replace c36 := Bool.eq_false_iff.mpr c36
           subst c36
           have H1 : (if a3 < 9223372036854775807 then (benc_reader_number.j3 kj16 a1 a2 a3 s0_1 x10_1 ((t393 - 48) % 256) (decide ((wrap64 ((wrap64 (10 * x10_1)) + ((t393 - 48) % 256))) > a3)) t394 t395 t396) else (benc_reader_number.j3 kj16 a1 a2 a3 s0_1 x10_1 ((t393 - 48) % 256) false t394 t395 t396)) = some (r1, r2, r3, r4) := by rw [if_neg (show ¬ (false = true) by decide)] at H; exact H
           clear H
           have H := H1
           clear H1
           have HC39 := Aside0.mk H
           clear H
           go_upto_region 7 with (fail)
           go_cut [40] (fun v40 wc => ∃ (kq : Nat) (x40_38 : Bool), v40 = .bool x40_38 ∧ Aside0 (benc_reader_number.j3 kq a1 a2 a3 s0_1 x10_1 ((t393 - 48) % 256) x40_38 t394 t395 t396 = some (r1, r2, r3, r4)) ∧ Aside0 (kq ≤ kj16) ∧ Aside0 (IsS102 w0 wc g t394 t395 t396) ∧ Aside0 (KeepBut w wc g none) ∧ Aside0 (Below w0.heap.size w0 wc))
           case first =>
            have H := HC39.out
            clear HC39
            by_cases c40 : a3 < 9223372036854775807
            ·
             rw [if_pos c40] at H
             have c40b0 : decide (a3 < 9223372036854775807) = true := decide_eq_true c40
             clear c40
             (first | rw [c40b0] | (simp only [i64_w, i32_w]; rw [c40b0]) | skip)
             have H' := Aside0.mk H
             clear H
             go_wp2
             go_meet
             case rel => exact ⟨_, (decide ((wrap64 ((wrap64 (10 * x10_1)) + ((t393 - 48) % 256))) > a3)), (by first | rfl | (simp; done) | (simp [*]; done)), H', ⟨by have := HK1.out; have := HJ8.out; have := HJ16.out; first | omega | exact Nat.le_refl _⟩, ⟨by repeat (first | (with_reducible first | exact HI0.out | apply IsS102.alloc | apply IsS102.drewN | apply IsS102.drew | apply IsS102.set_0 | apply IsS102.set_1 | apply IsS102.set_2) | exact HI0.out)⟩, ⟨by repeat (first | (with_reducible first | exact HK.out | apply KeepBut.set_ | apply keep_drewN | apply keep_drew | apply keep_alloc) | exact HK.out)⟩, ⟨by repeat (first | (with_reducible first | exact HB.out | apply below_alloc | apply pw_below_drewN | apply below_drew1 | refine below_set ?_ (IsS102.ge HI0.out)) | exact HB.out)⟩⟩
            ·
             rw [if_neg c40] at H
             have c40b0 : decide (a3 < 9223372036854775807) = false := decide_eq_false c40
             clear c40
             (first | rw [c40b0] | (simp only [i64_w, i32_w]; rw [c40b0]) | skip)
             have H' := Aside0.mk H
             clear H
             go_wp2
             go_meet
             case rel => exact ⟨_, (false), (by first | rfl | (simp; done) | (simp [*]; done)), H', ⟨by have := HK1.out; have := HJ8.out; have := HJ16.out; first | omega | exact Nat.le_refl _⟩, ⟨by repeat (first | (with_reducible first | exact HI0.out | apply IsS102.alloc | apply IsS102.drewN | apply IsS102.drew | apply IsS102.set_0 | apply IsS102.set_1 | apply IsS102.set_2) | exact HI0.out)⟩, ⟨by repeat (first | (with_reducible first | exact HK.out | apply KeepBut.set_ | apply keep_drewN | apply keep_drew | apply keep_alloc) | exact HK.out)⟩, ⟨by repeat (first | (with_reducible first | exact HB.out | apply below_alloc | apply pw_below_drewN | apply below_drew1 | refine below_set ?_ (IsS102.ge HI0.out)) | exact HB.out)⟩⟩
           case rest =>
            clear HC39
            try clear c1
            try clear c2
            try clear p2
            try clear q2
            try clear hx2
            try clear c3
            try clear c4
            try clear c6
            try clear c6b0
            try clear c6b1
            try clear p6
            try clear c8
            try clear c8b0
            try clear c8b1
            try clear c13
            try clear c13b0
            try clear c13b1
            try clear c15
            try clear c18
            try clear c18b0
            try clear c19
            try clear c19b0
            try clear c20
            try clear c20b0
            try clear c21
            try clear c21b0
            try clear c22
            try clear c22b0
            try clear p23
            try clear q23
            try clear hx23
            try clear c24
            try clear c24b0
            try clear c24b1
            try clear c26
            try clear c26b0
            try clear c26b1
            try clear c27
            try clear c27b0
            try clear c27b1
            try clear c31
            try clear c31b0
            try clear c31b1
            try clear c32
            try clear c32b0
            try clear c32b1
            try clear c36
            try clear c40
            try clear c40b0
            try clear hcz10_0
            try clear hcz10_1
            try clear hcz10_2
            try clear hcz12_0
            try clear hcz12_1
            try clear hcz12_2
            try clear hcz14_0
            try clear hcz14_1
            try clear hcz14_2
            try clear hcz16_0
            try clear hcz16_1
            try clear hcz16_2
            try clear hcz25_0
            try clear hcz25_1
            try clear hcz25_2
            try clear hcz28_0
            try clear hcz28_1
            try clear hcz28_2
            try clear hcz29_0
            try clear hcz29_1
            try clear hcz29_2
            try clear hcz30_0
            try clear hcz30_1
            try clear hcz30_2
            try clear hcz33_0
            try clear hcz33_1
            try clear hcz33_2
            try clear hcz34_0
            try clear hcz34_1
            try clear hcz34_2
            try clear hcz35_0
            try clear hcz35_1
            try clear hcz35_2
            try clear hcz5_0
            try clear hcz5_1
            try clear hcz5_2
            try clear hfz10_0
            try clear hfz10_1
            try clear hfz10_2
            try clear hfz12_0
            try clear hfz12_1
            try clear hfz12_2
            try clear hfz14_0
            try clear hfz14_1
            try clear hfz14_2
            try clear hfz16_0
            try clear hfz16_1
            try clear hfz16_2
            try clear hfz25_0
            try clear hfz25_1
            try clear hfz25_2
            try clear hfz28_0
            try clear hfz28_1
            try clear hfz28_2
            try clear hfz29_0
            try clear hfz29_1
            try clear hfz29_2
            try clear hfz30_0
            try clear hfz30_1
            try clear hfz30_2
            try clear hfz33_0
            try clear hfz33_1
            try clear hfz33_2
            try clear hfz34_0
            try clear hfz34_1
            try clear hfz34_2
            try clear hfz35_0
            try clear hfz35_1
            try clear hfz35_2
            try clear hfz5_0
            try clear hfz5_1
            try clear hfz5_2
            try clear p2
            try clear p23
            try clear p6
            try clear q2
            try clear q23
            obtain ⟨kq, x40_38, rfl, HA, HJ38, HI0, HK, HB⟩ := hcut
            cases kq with
            | zero => exact absurd HA.out (by simp [benc_reader_number.j3])
            | succ kj38 =>
             have H := HA.out
             clear HA
             simp only [benc_reader_number.j3] at H
             by_cases c41 : x40_38 = true
             ·
              subst c41
              have H1 : ((benc_reader_fail.f t394 t395 t396 23).bind fun bt400 => (benc_reader_number.l0 kj38 a1 a2 a3 s0_1 x10_1 bt400.1 bt400.2.1 bt400.2.2)) = some (r1, r2, r3, r4) := by rw [if_pos rfl] at H; exact H
              clear H
              have H := H1
              clear H1
              replace H := Option.bind_eq_some_iff.mp H
              obtain ⟨⟨t400, t401, t402⟩, A420, H⟩ := H
              replace H : (benc_reader_number.l0 kj38 a1 a2 a3 s0_1 x10_1 t400 t401 t402) = some (r1, r2, r3, r4) := H
              have A42 := Aside0.mk A420
              clear A420
              have H' := Aside0.mk H
              clear H
              go_wp2_with (first | ((with_reducible refine gate_callee (f := 68) rfl ?_); refine goesL_ (some 52) rfl rfl Tryd.func68 (by kernel_rfl) rfl #[.pointer (some ⟨g, 0, none⟩), .int .i64 23] rfl (by (try simp only [List.map_toArray, List.map_cons, List.map_nil]); first | done | rfl | (simp only [List.length_drop, List.length_take]; rfl)) ?_; (with_reducible refine (benc_reader_fail.calls g t394 t395 t396 23 t400 t401 t402 w0 _ ?side1 ?side2 A42.out).mono ?_); (case side1 => repeat (first | (with_reducible first | exact HI0.out | apply IsS102.alloc | apply IsS102.drewN | apply IsS102.drew | apply IsS102.set_0 | apply IsS102.set_1 | apply IsS102.set_2) | exact HI0.out)); (case side2 => repeat (first | (with_reducible first | exact HB.out | apply below_alloc | apply pw_below_drewN | apply below_drew1 | refine below_set ?_ (IsS102.ge HI0.out)) | exact HB.out)); rintro e w43 ⟨rfl, hi, hb, hk⟩; refine ⟨_, rfl, ?_⟩; have n0_ := Aside0.mk (KeepBut.trans (by repeat (first | (with_reducible first | exact HK.out | apply KeepBut.set_ | apply keep_drewN | apply keep_drew | apply keep_alloc) | exact HK.out)) hk (.inl rfl)); have n1_ := Aside0.mk (hb); have n2_ := Aside0.mk (hi); clear HK; clear HB; clear HI0; have HK := n0_; have HB := n1_; have HI0 := n2_; clear n0_ n1_ n2_; (try clear hb); (try clear hb2); (try clear hk); (try clear hi)))
              go_roundg kj38
              case measure => have := HK1.out; have := HJ8.out; have := HJ16.out; have := HJ38.out; omega
              case rel => exact ⟨(x10_1), (t400), (t401), (t402), (by first | rfl | (simp; done) | (simp [*]; done)), H', ⟨by have := HK1.out; have := HJ8.out; have := HJ16.out; have := HJ38.out; omega⟩, ⟨by repeat (first | (with_reducible first | exact HI0.out | apply IsS102.alloc | apply IsS102.drewN | apply IsS102.drew | apply IsS102.set_0 | apply IsS102.set_1 | apply IsS102.set_2) | exact HI0.out)⟩, ⟨by repeat (first | (with_reducible first | exact HK.out | apply KeepBut.set_ | apply keep_drewN | apply keep_drew | apply keep_alloc) | exact HK.out)⟩, ⟨by repeat (first | (with_reducible first | exact HB.out | apply below_alloc | apply pw_below_drewN | apply below_drew1 | refine below_set ?_ (IsS102.ge HI0.out)) | exact HB.out)⟩⟩
             ·
              replace c41 := Bool.eq_false_iff.mpr c41
              subst c41
              have H1 : (if a2 > 0 then (benc_reader_number.j4 kj38 a1 a2 a3 s0_1 x10_1 ((t393 - 48) % 256) (decide (x10_1 > (wrap64 (Int.tdiv (wrap64 (9223372036854775807 - ((t393 - 48) % 256))) 10)))) t394 t395 t396) else (benc_reader_number.j4 kj38 a1 a2 a3 s0_1 x10_1 ((t393 - 48) % 256) false t394 t395 t396)) = some (r1, r2, r3, r4) := by rw [if_neg (show ¬ (false = true) by decide)] at H; exact H
              clear H
              have H := H1
              clear H1
              have HC44 := Aside0.mk H
              clear H
              go_upto_region 9 with (fail)
              go_cut [53] (fun v53 wc => ∃ (kq : Nat) (x53_43 : Bool), v53 = .bool x53_43 ∧ Aside0 (benc_reader_number.j4 kq a1 a2 a3 s0_1 x10_1 ((t393 - 48) % 256) x53_43 t394 t395 t396 = some (r1, r2, r3, r4)) ∧ Aside0 (kq ≤ kj38) ∧ Aside0 (IsS102 w0 wc g t394 t395 t396) ∧ Aside0 (KeepBut w wc g none) ∧ Aside0 (Below w0.heap.size w0 wc))
              case first =>
               have H := HC44.out
               clear HC44
               by_cases c45 : a2 > 0
               ·
                rw [if_pos c45] at H
                have c45b0 : decide (0 < a2) = true := decide_eq_true c45
                clear c45
                (first | rw [c45b0] | (simp only [i64_w, i32_w]; rw [c45b0]) | skip)
                have H' := Aside0.mk H
                clear H
                go_wp2
                go_meet
                case rel => exact ⟨_, (decide (x10_1 > (wrap64 (Int.tdiv (wrap64 (9223372036854775807 - ((t393 - 48) % 256))) 10)))), (by first | (rw [quo_hi]; done) | (simp only [quo_hi]; done) | rfl | (simp; done) | (simp [*]; done)), H', ⟨by have := HK1.out; have := HJ8.out; have := HJ16.out; have := HJ38.out; first | omega | exact Nat.le_refl _⟩, ⟨by repeat (first | (with_reducible first | exact HI0.out | apply IsS102.alloc | apply IsS102.drewN | apply IsS102.drew | apply IsS102.set_0 | apply IsS102.set_1 | apply IsS102.set_2) | exact HI0.out)⟩, ⟨by repeat (first | (with_reducible first | exact HK.out | apply KeepBut.set_ | apply keep_drewN | apply keep_drew | apply keep_alloc) | exact HK.out)⟩, ⟨by repeat (first | (with_reducible first | exact HB.out | apply below_alloc | apply pw_below_drewN | apply below_drew1 | refine below_set ?_ (IsS102.ge HI0.out)) | exact HB.out)⟩⟩
               ·
                rw [if_neg c45] at H
                have c45b0 : decide (0 < a2) = false := decide_eq_false c45
                clear c45
                (first | rw [c45b0] | (simp only [i64_w, i32_w]; rw [c45b0]) | skip)
                have H' := Aside0.mk H
                clear H
                go_wp2
                go_meet
                case rel => exact ⟨_, (false), (by first | rfl | (simp; done) | (simp [*]; done)), H', ⟨by have := HK1.out; have := HJ8.out; have := HJ16.out; have := HJ38.out; first | omega | exact Nat.le_refl _⟩, ⟨by repeat (first | (with_reducible first | exact HI0.out | apply IsS102.alloc | apply IsS102.drewN | apply IsS102.drew | apply IsS102.set_0 | apply IsS102.set_1 | apply IsS102.set_2) | exact HI0.out)⟩, ⟨by repeat (first | (with_reducible first | exact HK.out | apply KeepBut.set_ | apply keep_drewN | apply keep_drew | apply keep_alloc) | exact HK.out)⟩, ⟨by repeat (first | (with_reducible first | exact HB.out | apply below_alloc | apply pw_below_drewN | apply below_drew1 | refine below_set ?_ (IsS102.ge HI0.out)) | exact HB.out)⟩⟩
              case rest =>
               clear HC44
               try clear c1
               try clear c2
               try clear p2
               try clear q2
               try clear hx2
               try clear c3
               try clear c4
               try clear c6
               try clear c6b0
               try clear c6b1
               try clear p6
               try clear c8
               try clear c8b0
               try clear c8b1
               try clear c13
               try clear c13b0
               try clear c13b1
               try clear c15
               try clear c18
               try clear c18b0
               try clear c19
               try clear c19b0
               try clear c20
               try clear c20b0
               try clear c21
               try clear c21b0
               try clear c22
               try clear c22b0
               try clear p23
               try clear q23
               try clear hx23
               try clear c24
               try clear c24b0
               try clear c24b1
               try clear c26
               try clear c26b0
               try clear c26b1
               try clear c27
               try clear c27b0
               try clear c27b1
               try clear c31
               try clear c31b0
               try clear c31b1
               try clear c32
               try clear c32b0
               try clear c32b1
               try clear c36
               try clear c40
               try clear c40b0
               try clear c41
               try clear c45
               try clear c45b0
               try clear hcz10_0
               try clear hcz10_1
               try clear hcz10_2
               try clear hcz12_0
               try clear hcz12_1
               try clear hcz12_2
               try clear hcz14_0
               try clear hcz14_1
               try clear hcz14_2
               try clear hcz16_0
               try clear hcz16_1
               try clear hcz16_2
               try clear hcz25_0
               try clear hcz25_1
               try clear hcz25_2
               try clear hcz28_0
               try clear hcz28_1
               try clear hcz28_2
               try clear hcz29_0
               try clear hcz29_1
               try clear hcz29_2
               try clear hcz30_0
               try clear hcz30_1
               try clear hcz30_2
               try clear hcz33_0
               try clear hcz33_1
               try clear hcz33_2
               try clear hcz34_0
               try clear hcz34_1
               try clear hcz34_2
               try clear hcz35_0
               try clear hcz35_1
               try clear hcz35_2
               try clear hcz5_0
               try clear hcz5_1
               try clear hcz5_2
               try clear hfz10_0
               try clear hfz10_1
               try clear hfz10_2
               try clear hfz12_0
               try clear hfz12_1
               try clear hfz12_2
               try clear hfz14_0
               try clear hfz14_1
               try clear hfz14_2
               try clear hfz16_0
               try clear hfz16_1
               try clear hfz16_2
               try clear hfz25_0
               try clear hfz25_1
               try clear hfz25_2
               try clear hfz28_0
               try clear hfz28_1
               try clear hfz28_2
               try clear hfz29_0
               try clear hfz29_1
               try clear hfz29_2
               try clear hfz30_0
               try clear hfz30_1
               try clear hfz30_2
               try clear hfz33_0
               try clear hfz33_1
               try clear hfz33_2
               try clear hfz34_0
               try clear hfz34_1
               try clear hfz34_2
               try clear hfz35_0
               try clear hfz35_1
               try clear hfz35_2
               try clear hfz5_0
               try clear hfz5_1
               try clear hfz5_2
               try clear p2
               try clear p23
               try clear p6
               try clear q2
               try clear q23
               obtain ⟨kq, x53_43, rfl, HA, HJ43, HI0, HK, HB⟩ := hcut
               cases kq with
               | zero => exact absurd HA.out (by simp [benc_reader_number.j4])
               | succ kj43 =>
                have H := HA.out
                clear HA
                simp only [benc_reader_number.j4] at H
                by_cases c46 : x53_43 = true
                ·
                 subst c46
                 have H1 : ((benc_reader_fail.f t394 t395 t396 20).bind fun bt403 => (benc_reader_number.l0 kj43 a1 a2 a3 s0_1 x10_1 bt403.1 bt403.2.1 bt403.2.2)) = some (r1, r2, r3, r4) := by rw [if_pos rfl] at H; exact H
                 clear H
                 have H := H1
                 clear H1
                 replace H := Option.bind_eq_some_iff.mp H
                 obtain ⟨⟨t403, t404, t405⟩, A470, H⟩ := H
                 replace H : (benc_reader_number.l0 kj43 a1 a2 a3 s0_1 x10_1 t403 t404 t405) = some (r1, r2, r3, r4) := H
                 have A47 := Aside0.mk A470
                 clear A470
                 have H' := Aside0.mk H
                 clear H
                 go_wp2_with (first | ((with_reducible refine gate_callee (f := 68) rfl ?_); refine goesL_ (some 73) rfl rfl Tryd.func68 (by kernel_rfl) rfl #[.pointer (some ⟨g, 0, none⟩), .int .i64 20] rfl (by (try simp only [List.map_toArray, List.map_cons, List.map_nil]); first | done | rfl | (simp only [List.length_drop, List.length_take]; rfl)) ?_; (with_reducible refine (benc_reader_fail.calls g t394 t395 t396 20 t403 t404 t405 w0 _ ?side1 ?side2 A47.out).mono ?_); (case side1 => repeat (first | (with_reducible first | exact HI0.out | apply IsS102.alloc | apply IsS102.drewN | apply IsS102.drew | apply IsS102.set_0 | apply IsS102.set_1 | apply IsS102.set_2) | exact HI0.out)); (case side2 => repeat (first | (with_reducible first | exact HB.out | apply below_alloc | apply pw_below_drewN | apply below_drew1 | refine below_set ?_ (IsS102.ge HI0.out)) | exact HB.out)); rintro e w48 ⟨rfl, hi, hb, hk⟩; refine ⟨_, rfl, ?_⟩; have n0_ := Aside0.mk (KeepBut.trans (by repeat (first | (with_reducible first | exact HK.out | apply KeepBut.set_ | apply keep_drewN | apply keep_drew | apply keep_alloc) | exact HK.out)) hk (.inl rfl)); have n1_ := Aside0.mk (hb); have n2_ := Aside0.mk (hi); clear HK; clear HB; clear HI0; have HK := n0_; have HB := n1_; have HI0 := n2_; clear n0_ n1_ n2_; (try clear hb); (try clear hb2); (try clear hk); (try clear hi)))
                 go_roundg kj43
                 case measure => have := HK1.out; have := HJ8.out; have := HJ16.out; have := HJ38.out; have := HJ43.out; omega
                 case rel => exact ⟨(x10_1), (t403), (t404), (t405), (by first | rfl | (simp; done) | (simp [*]; done)), H', ⟨by have := HK1.out; have := HJ8.out; have := HJ16.out; have := HJ38.out; have := HJ43.out; omega⟩, ⟨by repeat (first | (with_reducible first | exact HI0.out | apply IsS102.alloc | apply IsS102.drewN | apply IsS102.drew | apply IsS102.set_0 | apply IsS102.set_1 | apply IsS102.set_2) | exact HI0.out)⟩, ⟨by repeat (first | (with_reducible first | exact HK.out | apply KeepBut.set_ | apply keep_drewN | apply keep_drew | apply keep_alloc) | exact HK.out)⟩, ⟨by repeat (first | (with_reducible first | exact HB.out | apply below_alloc | apply pw_below_drewN | apply below_drew1 | refine below_set ?_ (IsS102.ge HI0.out)) | exact HB.out)⟩⟩
                ·
                 replace c46 := Bool.eq_false_iff.mpr c46
                 subst c46
                 have H1 : (if a2 < 0 then (if x10_1 < (wrap64 (Int.tdiv (wrap64 ((-9223372036854775808) + ((t393 - 48) % 256))) 10)) then ((benc_reader_fail.f t394 t395 t396 20).bind fun bt406 => (benc_reader_number.l0 kj43 a1 a2 a3 s0_1 x10_1 bt406.1 bt406.2.1 bt406.2.2)) else (benc_reader_number.l0 kj43 a1 a2 a3 s0_1 (wrap64 ((wrap64 (10 * x10_1)) + (wrap64 (a2 * ((t393 - 48) % 256))))) t394 (wrap64 (t395 + 1)) t396)) else (benc_reader_number.l0 kj43 a1 a2 a3 s0_1 (wrap64 ((wrap64 (10 * x10_1)) + (wrap64 (a2 * ((t393 - 48) % 256))))) t394 (wrap64 (t395 + 1)) t396)) = some (r1, r2, r3, r4) := by rw [if_neg (show ¬ (false = true) by decide)] at H; exact H
                 clear H
                 have H := H1
                 clear H1
                 by_cases c49 : a2 < 0
                 ·
                  rw [if_pos c49] at H
                  have c49b0 : decide (a2 < 0) = true := decide_eq_true c49
                  clear c49
                  by_cases c50 : x10_1 < (wrap64 (Int.tdiv (wrap64 ((-9223372036854775808) + ((t393 - 48) % 256))) 10))
                  ·
                   rw [if_pos c50] at H
                   have c50b0 : decide (x10_1 < (wrap64 (Int.tdiv (wrap64 ((-9223372036854775808) + ((t393 - 48) % 256))) 10))) = true := decide_eq_true c50
                   have c50b9 : decide (x10_1 < Int.tdiv (-9223372036854775808 + (t393 - 48) % 256) 10) = true := by rw [← quo_lo]; exact c50b0
                   clear c50
                   replace H := Option.bind_eq_some_iff.mp H
                   obtain ⟨⟨t406, t407, t408⟩, A510, H⟩ := H
                   replace H : (benc_reader_number.l0 kj43 a1 a2 a3 s0_1 x10_1 t406 t407 t408) = some (r1, r2, r3, r4) := H
                   have A51 := Aside0.mk A510
                   clear A510
                   have H' := Aside0.mk H
                   clear H
                   go_wp2_with (first | ((with_reducible refine gate_callee (f := 68) rfl ?_); refine goesL_ (some 73) rfl rfl Tryd.func68 (by kernel_rfl) rfl #[.pointer (some ⟨g, 0, none⟩), .int .i64 20] rfl (by (try simp only [List.map_toArray, List.map_cons, List.map_nil]); first | done | rfl | (simp only [List.length_drop, List.length_take]; rfl)) ?_; (with_reducible refine (benc_reader_fail.calls g t394 t395 t396 20 t406 t407 t408 w0 _ ?side1 ?side2 A51.out).mono ?_); (case side1 => repeat (first | (with_reducible first | exact HI0.out | apply IsS102.alloc | apply IsS102.drewN | apply IsS102.drew | apply IsS102.set_0 | apply IsS102.set_1 | apply IsS102.set_2) | exact HI0.out)); (case side2 => repeat (first | (with_reducible first | exact HB.out | apply below_alloc | apply pw_below_drewN | apply below_drew1 | refine below_set ?_ (IsS102.ge HI0.out)) | exact HB.out)); rintro e w52 ⟨rfl, hi, hb, hk⟩; refine ⟨_, rfl, ?_⟩; have n0_ := Aside0.mk (KeepBut.trans (by repeat (first | (with_reducible first | exact HK.out | apply KeepBut.set_ | apply keep_drewN | apply keep_drew | apply keep_alloc) | exact HK.out)) hk (.inl rfl)); have n1_ := Aside0.mk (hb); have n2_ := Aside0.mk (hi); clear HK; clear HB; clear HI0; have HK := n0_; have HB := n1_; have HI0 := n2_; clear n0_ n1_ n2_; (try clear hb); (try clear hb2); (try clear hk); (try clear hi)))
                   go_roundg kj43
                   case measure => have := HK1.out; have := HJ8.out; have := HJ16.out; have := HJ38.out; have := HJ43.out; omega
                   case rel => exact ⟨(x10_1), (t406), (t407), (t408), (by first | rfl | (simp; done) | (simp [*]; done)), H', ⟨by have := HK1.out; have := HJ8.out; have := HJ16.out; have := HJ38.out; have := HJ43.out; omega⟩, ⟨by repeat (first | (with_reducible first | exact HI0.out | apply IsS102.alloc | apply IsS102.drewN | apply IsS102.drew | apply IsS102.set_0 | apply IsS102.set_1 | apply IsS102.set_2) | exact HI0.out)⟩, ⟨by repeat (first | (with_reducible first | exact HK.out | apply KeepBut.set_ | apply keep_drewN | apply keep_drew | apply keep_alloc) | exact HK.out)⟩, ⟨by repeat (first | (with_reducible first | exact HB.out | apply below_alloc | apply pw_below_drewN | apply below_drew1 | refine below_set ?_ (IsS102.ge HI0.out)) | exact HB.out)⟩⟩
                  ·
                   rw [if_neg c50] at H
                   have c50b0 : decide (x10_1 < (wrap64 (Int.tdiv (wrap64 ((-9223372036854775808) + ((t393 - 48) % 256))) 10))) = false := decide_eq_false c50
                   have c50b9 : decide (x10_1 < Int.tdiv (-9223372036854775808 + (t393 - 48) % 256) 10) = false := by rw [← quo_lo]; exact c50b0
                   clear c50
                   have H' := Aside0.mk H
                   clear H
                   obtain ⟨HGz53, hgz53⟩ := HI0.out
                   have hcz53_0 := cellS102_0 HGz53
                   have hcz53_1 := cellS102_1 HGz53
                   have hcz53_2 := cellS102_2 HGz53
                   have hfz53_0 := blk_frozen HGz53 0
                   have hfz53_1 := blk_frozen HGz53 1
                   have hfz53_2 := blk_frozen HGz53 2
                   clear HGz53 hgz53
                   go_wp2
                   go_roundg kj43
                   case measure => have := HK1.out; have := HJ8.out; have := HJ16.out; have := HJ38.out; have := HJ43.out; omega
                   case rel => exact ⟨(wrap64 ((wrap64 (10 * x10_1)) + (wrap64 (a2 * ((t393 - 48) % 256))))), (t394), (wrap64 (t395 + 1)), (t396), (by first | rfl | (simp; done) | (simp [*]; done)), H', ⟨by have := HK1.out; have := HJ8.out; have := HJ16.out; have := HJ38.out; have := HJ43.out; omega⟩, ⟨by repeat (first | (with_reducible first | exact HI0.out | apply IsS102.alloc | apply IsS102.drewN | apply IsS102.drew | apply IsS102.set_0 | apply IsS102.set_1 | apply IsS102.set_2) | exact HI0.out)⟩, ⟨by repeat (first | (with_reducible first | exact HK.out | apply KeepBut.set_ | apply keep_drewN | apply keep_drew | apply keep_alloc) | exact HK.out)⟩, ⟨by repeat (first | (with_reducible first | exact HB.out | apply below_alloc | apply pw_below_drewN | apply below_drew1 | refine below_set ?_ (IsS102.ge HI0.out)) | exact HB.out)⟩⟩
                 ·
                  rw [if_neg c49] at H
                  have c49b0 : decide (a2 < 0) = false := decide_eq_false c49
                  clear c49
                  have H' := Aside0.mk H
                  clear H
                  obtain ⟨HGz54, hgz54⟩ := HI0.out
                  have hcz54_0 := cellS102_0 HGz54
                  have hcz54_1 := cellS102_1 HGz54
                  have hcz54_2 := cellS102_2 HGz54
                  have hfz54_0 := blk_frozen HGz54 0
                  have hfz54_1 := blk_frozen HGz54 1
                  have hfz54_2 := blk_frozen HGz54 2
                  clear HGz54 hgz54
                  go_wp2
                  go_roundg kj43
                  case measure => have := HK1.out; have := HJ8.out; have := HJ16.out; have := HJ38.out; have := HJ43.out; omega
                  case rel => exact ⟨(wrap64 ((wrap64 (10 * x10_1)) + (wrap64 (a2 * ((t393 - 48) % 256))))), (t394), (wrap64 (t395 + 1)), (t396), (by first | rfl | (simp; done) | (simp [*]; done)), H', ⟨by have := HK1.out; have := HJ8.out; have := HJ16.out; have := HJ38.out; have := HJ43.out; omega⟩, ⟨by repeat (first | (with_reducible first | exact HI0.out | apply IsS102.alloc | apply IsS102.drewN | apply IsS102.drew | apply IsS102.set_0 | apply IsS102.set_1 | apply IsS102.set_2) | exact HI0.out)⟩, ⟨by repeat (first | (with_reducible first | exact HK.out | apply KeepBut.set_ | apply keep_drewN | apply keep_drew | apply keep_alloc) | exact HK.out)⟩, ⟨by repeat (first | (with_reducible first | exact HB.out | apply below_alloc | apply pw_below_drewN | apply below_drew1 | refine below_set ?_ (IsS102.ge HI0.out)) | exact HB.out)⟩⟩
    ·
     rw [if_neg c8] at H
     have c8b0 : (t396 == 0) = false := beq_eq_false_iff_ne.mpr c8
     have c8b1 : (t396 != 0) = true := bne_iff_ne.mpr c8
     have H' := Aside0.mk H
     clear H
     obtain ⟨HGz55, hgz55⟩ := HI0.out
     have hcz55_0 := cellS102_0 HGz55
     have hcz55_1 := cellS102_1 HGz55
     have hcz55_2 := cellS102_2 HGz55
     have hfz55_0 := blk_frozen HGz55 0
     have hfz55_1 := blk_frozen HGz55 1
     have hfz55_2 := blk_frozen HGz55 2
     clear HGz55 hgz55
     go_wp2_with (first | ((with_reducible refine gate_callee (f := 66) rfl ?_); refine goesL_ (some 23) rfl rfl Tryd.func66 (by kernel_rfl) rfl #[.pointer (some ⟨g, 0, none⟩)] rfl (by (try simp only [List.map_toArray, List.map_cons, List.map_nil]); first | done | rfl | (simp only [List.length_drop, List.length_take]; rfl)) ?_; (with_reducible refine (benc_reader_next.calls g x1000_1 x1001_1 x1002_1 t393 t394 t395 t396 w0 _ ?side1 ?side2 A7.out).mono ?_); (case side1 => repeat (first | (with_reducible first | exact HI0.out | apply IsS102.alloc | apply IsS102.drewN | apply IsS102.drew | apply IsS102.set_0 | apply IsS102.set_1 | apply IsS102.set_2) | exact HI0.out)); (case side2 => repeat (first | (with_reducible first | exact HB.out | apply below_alloc | apply pw_below_drewN | apply below_drew1 | refine below_set ?_ (IsS102.ge HI0.out)) | exact HB.out)); rintro e w56 ⟨rfl, hi, hb, hk⟩; refine ⟨_, rfl, ?_⟩; have n0_ := Aside0.mk (KeepBut.trans (by repeat (first | (with_reducible first | exact HK.out | apply KeepBut.set_ | apply keep_drewN | apply keep_drew | apply keep_alloc) | exact HK.out)) hk (.inl rfl)); have n1_ := Aside0.mk (hb); have n2_ := Aside0.mk (hi); clear HK; clear HB; clear HI0; have HK := n0_; have HB := n1_; have HI0 := n2_; clear n0_ n1_ n2_; (try clear hb); (try clear hb2); (try clear hk); (try clear hi); obtain ⟨HGz57, hgz57⟩ := HI0.out; have hcz57_0 := cellS102_0 HGz57; have hcz57_1 := cellS102_1 HGz57; have hcz57_2 := cellS102_2 HGz57; have hfz57_0 := blk_frozen HGz57 0; have hfz57_1 := blk_frozen HGz57 1; have hfz57_2 := blk_frozen HGz57 2; clear HGz57 hgz57))
     go_roundg k1
     case measure => have := HK1.out; omega
     case rel => exact ⟨(x10_1), (t394), (t395), (t396), (by first | rfl | (simp; done) | (simp [*]; done)), H', ⟨by have := HK1.out; omega⟩, ⟨by repeat (first | (with_reducible first | exact HI0.out | apply IsS102.alloc | apply IsS102.drewN | apply IsS102.drew | apply IsS102.set_0 | apply IsS102.set_1 | apply IsS102.set_2) | exact HI0.out)⟩, ⟨by repeat (first | (with_reducible first | exact HK.out | apply KeepBut.set_ | apply keep_drewN | apply keep_drew | apply keep_alloc) | exact HK.out)⟩, ⟨by repeat (first | (with_reducible first | exact HB.out | apply below_alloc | apply pw_below_drewN | apply below_drew1 | refine below_set ?_ (IsS102.ge HI0.out)) | exact HB.out)⟩⟩
   ·
    rw [if_neg c6] at H
    have c6b0 : (x1002_1 == 0) = false := beq_eq_false_iff_ne.mpr c6
    have c6b1 : (x1002_1 != 0) = true := bne_iff_ne.mpr c6
    simp only [Option.some.injEq, Prod.mk.injEq] at H
    obtain ⟨rfl, rfl, rfl, rfl⟩ := H
    obtain ⟨HGz58, hgz58⟩ := HI0.out
    have hcz58_0 := cellS102_0 HGz58
    have hcz58_1 := cellS102_1 HGz58
    have hcz58_2 := cellS102_2 HGz58
    have hfz58_0 := blk_frozen HGz58 0
    have hfz58_1 := blk_frozen HGz58 1
    have hfz58_2 := blk_frozen HGz58 2
    clear HGz58 hgz58
    go_wp2
    go_ret
    exact ⟨by first | rfl | (simp [errW_none, errW_some] <;> rfl) | (simp [*, errW_none, errW_some] <;> rfl), by repeat (first | (with_reducible first | exact HI0.out | apply IsS102.alloc | apply IsS102.drewN | apply IsS102.drew | apply IsS102.set_0 | apply IsS102.set_1 | apply IsS102.set_2) | exact HI0.out), by repeat (first | (with_reducible first | exact HB.out | apply below_alloc | apply pw_below_drewN | apply below_drew1 | refine below_set ?_ (IsS102.ge HI0.out)) | exact HB.out), by repeat (first | (with_reducible first | exact HK.out | apply KeepBut.set_ | apply keep_drewN | apply keep_drew | apply keep_alloc) | exact HK.out)⟩
end Go.Proofs.YtlggihnkhimfkaaDoor.P
namespace Go.Proofs.YtlggihnkhimfkaaDoor.Giv
open Go.RowKit Go.Lib Go.Sort Go.Proofs.YtlggihnkhimfkaaDoorW.PrintWords Go.Proofs.YtlggihnkhimfkaaDoorW.PrintLast Go.Proofs.YtlggihnkhimfkaaDoorW.PrintMore
set_option linter.unusedVariables false
set_option linter.unusedSimpArgs false
section
variable (e1 sg most from_ n : Int) (s : ByteArray)
theorem num_fin (at_ er : Int) (h : er ≠ 0) : Ev (fun k => P.benc_reader_number.l0 k e1 sg most from_ n s at_ er) (0, s, at_, er) := by
  refine Ev.step (f := fun _ => some (0, s, at_, er)) (fun k => ?_) (Ev.now _)
  simp only [P.benc_reader_number.l0]
  rw [if_neg h]
theorem next_end : P.benc_reader_next.f s (s.size : Int) 0 = some (0, s, (s.size : Int), 21) := by
  unfold P.benc_reader_next.f P.benc_reader_fail.f
  rw [if_pos rfl, if_pos rfl]
  rfl
theorem num_short : Ev (fun k => P.benc_reader_number.l0 k e1 sg most from_ n s (s.size : Int) 0) (0, s, (s.size : Int), 21) := by
  refine Ev.step (f := fun k => P.benc_reader_number.l0 k e1 sg most from_ n s (s.size : Int) 21) (fun k => ?_) (num_fin e1 sg most from_ n s _ 21 (by decide))
  simp only [P.benc_reader_number.l0]
  rw [if_pos trivial, next_end]
  rfl
theorem next_at (at_ : Int) (h0 : 0 ≤ at_) (h1 : at_ < (s.size : Int)) (e : Int) : P.benc_reader_next.f s at_ e = some (bt s at_, s, at_, e) := by
  unfold P.benc_reader_next.f
  rw [if_neg (by omega), if_pos h0, if_pos h1]
theorem num_ret (at_ : Int) (h0 : 0 ≤ from_) (h1 : from_ < at_) (h2 : at_ < (s.size : Int)) (hs : s.size ≤ 140737488351232) (hc : bt s at_ = e1) : Ev (fun k => P.benc_reader_number.l0 k e1 sg most from_ n s at_ 0) (n, s, at_ + 1, 0) := by
  refine Ev.step (f := fun k => P.benc_reader_number.j1 k e1 sg most from_ n (bt s at_) true s at_ 0) (fun k => ?_) ?_
  · simp only [P.benc_reader_number.l0]
    rw [if_pos trivial, next_at s at_ (by omega) h2]
    simp only [Option.bind_some]
    rw [if_pos trivial, if_pos hc, decide_eq_true (show at_ > from_ from h1)]
  · refine Ev.step (f := fun _ => some (n, s, at_ + 1, 0)) (fun k => ?_) (Ev.now _)
    simp only [P.benc_reader_number.j1]
    rw [if_pos trivial, w64 (by omega) (by omega)]
theorem num_j1 (at_ : Int) (h0 : 0 ≤ at_) (h2 : at_ < (s.size : Int)) (hc : ¬(bt s at_ = e1 ∧ from_ < at_)) {r : Int × ByteArray × Int × Int} (h : Ev (fun k => P.benc_reader_number.j1 k e1 sg most from_ n (bt s at_) false s at_ 0) r) : Ev (fun k => P.benc_reader_number.l0 k e1 sg most from_ n s at_ 0) r := by
  refine Ev.step (f := fun k => P.benc_reader_number.j1 k e1 sg most from_ n (bt s at_) false s at_ 0) (fun k => ?_) h
  simp only [P.benc_reader_number.l0]
  rw [if_pos trivial, next_at s at_ (by omega) h2]
  simp only [Option.bind_some]
  rw [if_pos trivial]
  by_cases c : bt s at_ = e1
  · rw [if_pos c, decide_eq_false (show ¬ at_ > from_ from fun h => hc ⟨c, h⟩)]
  · rw [if_neg c]
theorem num_j2bad (c at_ : Int) : Ev (fun k => P.benc_reader_number.j2 k e1 sg most from_ n c true s at_ 0) (0, s, at_, 20) := by
  refine Ev.step (f := fun k => P.benc_reader_number.l0 k e1 sg most from_ n s at_ 20) (fun k => ?_) (num_fin e1 sg most from_ n s _ 20 (by decide))
  simp only [P.benc_reader_number.j2]
  rw [if_pos trivial]
  rfl
theorem num_bad (at_ : Int) (h0 : 0 ≤ from_) (h1 : from_ ≤ at_) (h2 : at_ < (s.size : Int)) (hc : ¬(bt s at_ = e1 ∧ from_ < at_)) (hb : bt s at_ < 48 ∨ 57 < bt s at_ ∨ (from_ < at_ ∧ bt s from_ = 48) ∨ (at_ = from_ ∧ bt s at_ = 48 ∧ sg < 0)) : Ev (fun k => P.benc_reader_number.l0 k e1 sg most from_ n s at_ 0) (0, s, at_, 20) := by
  refine num_j1 e1 sg most from_ n s at_ (by omega) h2 hc (Ev.step (f := fun k => P.benc_reader_number.j2 k e1 sg most from_ n (bt s at_) true s at_ 0) (fun k => ?_) (num_j2bad e1 sg most from_ n s _ _))
  simp only [P.benc_reader_number.j1]
  rw [if_neg (by decide)]
  by_cases c1 : bt s at_ < 48
  · rw [if_pos c1]
  · rw [if_neg c1]
    by_cases c2 : bt s at_ > 57
    · rw [if_pos c2]
    · rw [if_neg c2]
      by_cases c3 : at_ > from_
      · rw [if_pos c3, if_pos h0, if_pos (by omega), if_pos (by omega)]
      · rw [if_neg c3, if_pos (by omega), if_pos (by omega), decide_eq_true (by omega)]
theorem num_go (at_ : Int) (h0 : 0 ≤ from_) (h1 : from_ ≤ at_) (h2 : at_ < (s.size : Int)) (hc : ¬(bt s at_ = e1 ∧ from_ < at_)) (hb : ¬(bt s at_ < 48 ∨ 57 < bt s at_ ∨ (from_ < at_ ∧ bt s from_ = 48) ∨ (at_ = from_ ∧ bt s at_ = 48 ∧ sg < 0))) {r : Int × ByteArray × Int × Int} (h : Ev (fun k => P.benc_reader_number.j2 k e1 sg most from_ n (bt s at_) false s at_ 0) r) : Ev (fun k => P.benc_reader_number.l0 k e1 sg most from_ n s at_ 0) r := by
  refine num_j1 e1 sg most from_ n s at_ (by omega) h2 hc (Ev.step (f := fun k => P.benc_reader_number.j2 k e1 sg most from_ n (bt s at_) false s at_ 0) (fun k => ?_) h)
  simp only [P.benc_reader_number.j1]
  rw [if_neg (by decide), if_neg (by omega), if_neg (by omega)]
  by_cases c3 : at_ > from_
  · rw [if_pos c3, if_pos h0, if_pos (by omega), if_neg (by omega), if_neg (by omega)]
  · rw [if_neg c3, if_pos (by omega)]
    by_cases c4 : bt s at_ = 48
    · rw [if_pos c4, decide_eq_false (by omega)]
    · rw [if_neg c4]
end
theorem num_j4 (e1 sg most from_ n x : Int) (s : ByteArray) (at_ : Int) (hx : 0 ≤ x ∧ x ≤ 9) (hn0 : -9223372036854775808 ≤ n) (hn1 : n ≤ 9223372036854775807) (ha0 : 0 ≤ at_) (ha1 : at_ < (s.size : Int)) (hs : s.size ≤ 140737488351232)
  (hsg : sg = 1 ∧ 0 ≤ n ∨ sg = -1 ∧ n ≤ 0) :
  (¬(-9223372036854775808 ≤ 10 * n + sg * x ∧ 10 * n + sg * x ≤ 9223372036854775807) → Ev (fun k => P.benc_reader_number.j3 k e1 sg most from_ n x false s at_ 0) (0, s, at_, 20)) ∧
  (-9223372036854775808 ≤ 10 * n + sg * x ∧ 10 * n + sg * x ≤ 9223372036854775807 → ∀ r, Ev (fun k => P.benc_reader_number.l0 k e1 sg most from_ (10 * n + sg * x) s (at_ + 1) 0) r → Ev (fun k => P.benc_reader_number.j3 k e1 sg most from_ n x false s at_ 0) r) := by
 have w1 : wrap64 (9223372036854775807 - x) = 9223372036854775807 - x := by unfold wrap64; omega
 have w2 : wrap64 (Int.tdiv (9223372036854775807 - x) 10) = (9223372036854775807 - x) / 10 := by rw [Int.tdiv_eq_ediv_of_nonneg (by omega)]; unfold wrap64; omega
 have w3 : wrap64 ((-9223372036854775808) + x) = -(9223372036854775808 - x) := by unfold wrap64; omega
 have w4 : wrap64 (Int.tdiv (-(9223372036854775808 - x)) 10) = -((9223372036854775808 - x) / 10) := by rw [Int.neg_tdiv, Int.tdiv_eq_ediv_of_nonneg (by omega)]; unfold wrap64; omega
 rcases hsg with ⟨rfl, h0⟩ | ⟨rfl, h0⟩
 ·
  constructor
  ·
   intro hb
   refine Ev.step (f := fun k => P.benc_reader_number.j4 k e1 1 most from_ n x true s at_ 0) (fun k => ?_) ?_
   ·
    simp only [P.benc_reader_number.j3]
    rw [if_neg (by decide), if_pos (by omega), w1, w2, decide_eq_true (by omega)]
   ·
    refine Ev.step (f := fun k => P.benc_reader_number.l0 k e1 1 most from_ n s at_ 20) (fun k => ?_) (num_fin e1 1 most from_ n s _ 20 (by decide))
    simp only [P.benc_reader_number.j4]
    rw [if_pos trivial]
    rfl
  ·
   intro hb r hr
   refine Ev.step (f := fun k => P.benc_reader_number.j4 k e1 1 most from_ n x false s at_ 0) (fun k => ?_) ?_
   ·
    simp only [P.benc_reader_number.j3]
    rw [if_neg (by decide), if_pos (by omega), w1, w2, decide_eq_false (by omega)]
   ·
    refine Ev.step (fun k => ?_) hr
    simp only [P.benc_reader_number.j4]
    rw [if_neg (by decide), if_neg (by omega), w64 (n := 1 * x) (by omega) (by omega), w64 (n := 10 * n) (by omega) (by omega), w64 (n := 10 * n + 1 * x) (by omega) (by omega), w64 (n := at_ + 1) (by omega) (by omega)]
 ·
  constructor
  ·
   intro hb
   refine Ev.step (f := fun k => P.benc_reader_number.j4 k e1 (-1) most from_ n x false s at_ 0) (fun k => ?_) ?_
   ·
    simp only [P.benc_reader_number.j3]
    rw [if_neg (by decide), if_neg (by omega)]
   ·
    refine Ev.step (f := fun k => P.benc_reader_number.l0 k e1 (-1) most from_ n s at_ 20) (fun k => ?_) (num_fin e1 (-1) most from_ n s _ 20 (by decide))
    simp only [P.benc_reader_number.j4]
    rw [if_neg (by decide), if_pos (by omega), w3, w4, if_pos (by omega)]
    rfl
  ·
   intro hb r hr
   refine Ev.step (f := fun k => P.benc_reader_number.j4 k e1 (-1) most from_ n x false s at_ 0) (fun k => ?_) ?_
   ·
    simp only [P.benc_reader_number.j3]
    rw [if_neg (by decide), if_neg (by omega)]
   ·
    refine Ev.step (fun k => ?_) hr
    simp only [P.benc_reader_number.j4]
    rw [if_neg (by decide), if_pos (by omega), w3, w4, if_neg (by omega), w64 (n := -1 * x) (by omega) (by omega), w64 (n := 10 * n) (by omega) (by omega), w64 (n := 10 * n + -1 * x) (by omega) (by omega), w64 (n := at_ + 1) (by omega) (by omega)]
theorem bt_drop (s : ByteArray) (a : Nat) (h : a < s.size) : ∃ c : UInt8, s.data.toList.drop a = c :: s.data.toList.drop (a + 1) ∧ bt s (a : Int) = (c.toNat : Int) := by
  have hlt : a < s.data.toList.length := by rw [data_size]; exact h
  refine ⟨s.data.toList[a], List.drop_eq_getElem_cons hlt, ?_⟩
  rw [← bt_at s (a : Int) (by simp; omega)]
  simp
  rfl
theorem u8_lt (c d : UInt8) : (c < d) ↔ ((c.toNat : Int) < (d.toNat : Int)) := by rw [UInt8.lt_iff_toNat_lt]; omega
theorem u8_eq (c d : UInt8) : (c = d) ↔ ((c.toNat : Int) = (d.toNat : Int)) := by rw [← UInt8.toNat_inj]; omega
theorem num_ev (neg : Bool) (s : ByteArray) (hs : s.size ≤ 140737488351232) (f : Nat) : ∀ (d a : Nat) (n : Int) (z st : Bool), s.size - a ≤ d → f ≤ a → a ≤ s.size → st = decide (f < a) → (st = true → z = (bt s (f : Int) == 48)) → -9223372036854775808 ≤ n → n ≤ 9223372036854775807 → (neg = true ∧ n ≤ 0 ∨ neg = false ∧ 0 ≤ n) →
  ∃ b : Nat, b ≤ s.size ∧ Ev (fun k => P.benc_reader_number.l0 k 101 (if neg = true then -1 else 1) 9223372036854775807 (f : Int) n s (a : Int) 0) (if (numL neg z st n (s.data.toList.drop a)).1 = 0 then ((numL neg z st n (s.data.toList.drop a)).2.1, s, ((a + (numL neg z st n (s.data.toList.drop a)).2.2 : Nat) : Int), 0) else (0, s, (b : Int), (numL neg z st n (s.data.toList.drop a)).1)) := by
 intro d
 induction d with
 | zero =>
  intro a n z st h1 h2 h3 h4 h5 h6 h7 h8
  obtain rfl : a = s.size := by omega
  rw [List.drop_of_length_le (by rw [data_size]; omega), numL]
  exact ⟨s.size, Nat.le_refl _, num_short _ _ _ _ _ _⟩
 | succ d ih =>
  intro a n z st h1 h2 h3 h4 h5 h6 h7 h8
  by_cases hlt : a < s.size
  ·
   obtain ⟨c, hd, hc⟩ := bt_drop s a hlt
   rw [hd, numL]
   by_cases c1 : c = 101 ∧ st = true
   ·
    rw [if_pos c1]
    obtain ⟨rfl, rfl⟩ := c1
    have h9 : f < a := of_decide_eq_true h4.symm
    refine ⟨a, by omega, ?_⟩
    have := num_ret 101 (if neg = true then -1 else 1) 9223372036854775807 (f : Int) n s (a : Int) (by omega) (by omega) (by omega) hs (by rw [hc]; rfl)
    exact this
   ·
    rw [if_neg c1]
    have n1 : ¬(bt s (a : Int) = 101 ∧ (f : Int) < (a : Int)) := by
     rintro ⟨e, h⟩
     refine c1 ⟨(u8_eq _ _).2 (by rw [← hc, e]; rfl), ?_⟩
     rw [h4]; exact decide_eq_true (by omega)
    have hfa : st = false → a = f := fun e => by rw [e] at h4; have := of_decide_eq_false h4.symm; omega
    by_cases c2 : c < 48 ∨ 57 < c ∨ (st = true ∧ z = true) ∨ (st = false ∧ c = 48 ∧ neg = true)
    ·
     rw [if_pos c2]
     refine ⟨a, by omega, num_bad _ _ _ _ _ _ _ (by omega) (by omega) (by omega) n1 ?_⟩
     rcases c2 with h | h | ⟨h, h'⟩ | ⟨h, h', h''⟩
     ·
      left; rw [hc]; exact (u8_lt _ _).1 h
     ·
      right; left; rw [hc]; exact (u8_lt _ _).1 h
     ·
      right; right; left
      have := h5 h
      rw [h'] at this
      refine ⟨?_, by simpa using this.symm⟩
      rw [h] at h4
      have := of_decide_eq_true h4.symm
      omega
     ·
      right; right; right
      have := hfa h
      refine ⟨by omega, by rw [hc, h']; rfl, by rw [if_pos h'']; decide⟩
    ·
     rw [if_neg c2]
     have n2 : ¬(bt s (a : Int) < 48 ∨ 57 < bt s (a : Int) ∨ ((f : Int) < (a : Int) ∧ bt s (f : Int) = 48) ∨ ((a : Int) = (f : Int) ∧ bt s (a : Int) = 48 ∧ (if neg = true then (-1 : Int) else 1) < 0)) := by
      rintro (h | h | ⟨h, h'⟩ | ⟨h, h', h''⟩)
      ·
       exact c2 (.inl ((u8_lt _ _).2 (by rw [← hc]; exact h)))
      ·
       exact c2 (.inr (.inl ((u8_lt _ _).2 (by rw [← hc]; exact h))))
      ·
       have e : st = true := by rw [h4]; exact decide_eq_true (by omega)
       exact c2 (.inr (.inr (.inl ⟨e, by rw [h5 e, h']; rfl⟩)))
      ·
       have e : st = false := by rw [h4]; exact decide_eq_false (by omega)
       refine c2 (.inr (.inr (.inr ⟨e, (u8_eq _ _).2 (by rw [← hc, h']; rfl), ?_⟩)))
       cases neg
       ·
        simp at h''
       ·
        rfl
     have d1 : 48 ≤ c.toNat ∧ c.toNat ≤ 57 := by rw [hc] at n2; omega
     have dx : (bt s (a : Int) - 48) % 256 = (c.toNat : Int) - 48 := by rw [hc]; omega
     have j2 : ∀ r, Ev (fun k => P.benc_reader_number.j3 k 101 (if neg = true then -1 else 1) 9223372036854775807 (f : Int) n ((c.toNat : Int) - 48) false s (a : Int) 0) r → Ev (fun k => P.benc_reader_number.l0 k 101 (if neg = true then -1 else 1) 9223372036854775807 (f : Int) n s (a : Int) 0) r := by
      intro r hr
      refine num_go _ _ _ _ _ _ _ (by omega) (by omega) (by omega) n1 n2 (Ev.step (fun k => ?_) hr)
      simp only [P.benc_reader_number.j2]
      rw [if_neg (by decide), if_neg (by decide), dx]
     have hz : (if st = true then z else c == 48) = (bt s (f : Int) == 48) := by
      cases st with
      | true => rw [if_pos rfl]; exact h5 rfl
      | false =>
       rw [if_neg (by decide)]
       have e := hfa rfl
       rw [← e, hc]
       rw [Bool.eq_iff_iff, beq_iff_eq, beq_iff_eq, u8_eq]
       rfl
     obtain ⟨k1, k2⟩ := num_j4 101 (if neg = true then -1 else 1) 9223372036854775807 (f : Int) n ((c.toNat : Int) - 48) s (a : Int) (by omega) h6 h7 (by omega) (by omega) hs (by rcases h8 with ⟨rfl, h⟩ | ⟨rfl, h⟩ <;> simp [h])
     cases neg with
     | true =>
      rw [if_pos rfl] at k1 k2 j2 ⊢
      rw [if_pos rfl]
      by_cases c3 : 10 * n - ((c.toNat : Int) - 48) < -9223372036854775808
      ·
       rw [if_pos c3]
       exact ⟨a, by omega, j2 _ (k1 (by omega))⟩
      ·
       rw [if_neg c3]
       have hn0 : n ≤ 0 := by rcases h8 with ⟨_, h⟩ | ⟨h, _⟩; exact h; cases h
       obtain ⟨b, hb, hev⟩ := ih (a + 1) (10 * n - ((c.toNat : Int) - 48)) (if st = true then z else c == 48) true (by omega) (by omega) (by omega) (decide_eq_true (by omega)).symm (fun _ => hz) (by omega) (by omega) (.inl ⟨rfl, by omega⟩)
       refine ⟨b, hb, j2 _ (k2 (by omega) _ ?_)⟩
       rw [if_pos rfl] at hev
       have e : 10 * n + -1 * ((c.toNat : Int) - 48) = 10 * n - ((c.toNat : Int) - 48) := by omega
       rw [e]
       refine Ev.to (Ev.congr (fun k => rfl) hev) ?_
       generalize numL _ _ true _ _ = r
       rw [show a + 1 + r.2.2 = a + (r.2.2 + 1) by omega]
     | false =>
      rw [if_neg (by decide)] at k1 k2 j2 ⊢
      rw [if_neg (by decide)]
      by_cases c3 : 9223372036854775807 < 10 * n + ((c.toNat : Int) - 48)
      ·
       rw [if_pos c3]
       exact ⟨a, by omega, j2 _ (k1 (by omega))⟩
      ·
       rw [if_neg c3]
       have hn0 : 0 ≤ n := by rcases h8 with ⟨h, _⟩ | ⟨_, h⟩; cases h; exact h
       obtain ⟨b, hb, hev⟩ := ih (a + 1) (10 * n + ((c.toNat : Int) - 48)) (if st = true then z else c == 48) true (by omega) (by omega) (by omega) (decide_eq_true (by omega)).symm (fun _ => hz) (by omega) (by omega) (.inr ⟨rfl, by omega⟩)
       refine ⟨b, hb, j2 _ (k2 (by omega) _ ?_)⟩
       rw [if_neg (by decide)] at hev
       have e : 10 * n + 1 * ((c.toNat : Int) - 48) = 10 * n + ((c.toNat : Int) - 48) := by omega
       rw [e]
       refine Ev.to (Ev.congr (fun k => rfl) hev) ?_
       generalize numL _ _ true _ _ = r
       rw [show a + 1 + r.2.2 = a + (r.2.2 + 1) by omega]
  ·
   obtain rfl : a = s.size := by omega
   rw [List.drop_of_length_le (by rw [data_size]; omega), numL]
   exact ⟨s.size, Nat.le_refl _, num_short _ _ _ _ _ _⟩
theorem len_ev (s : ByteArray) (hs : s.size ≤ 140737488351232) (f : Nat) : ∀ (d a : Nat) (n : Nat) (z st : Bool), s.size - a ≤ d → f ≤ a → a ≤ s.size → st = decide (f < a) → (st = true → z = (bt s (f : Int) == 48)) → n ≤ 65536 →
  ∃ b : Nat, b ≤ s.size ∧ Ev (fun k => P.benc_reader_number.l0 k 58 1 65536 (f : Int) (n : Int) s (a : Int) 0) (if (lenL z st n (s.data.toList.drop a)).1 = 0 then (((lenL z st n (s.data.toList.drop a)).2.1 : Int), s, ((a + (lenL z st n (s.data.toList.drop a)).2.2 : Nat) : Int), 0) else (0, s, (b : Int), (lenL z st n (s.data.toList.drop a)).1)) := by
 intro d
 induction d with
 | zero =>
  intro a n z st h1 h2 h3 h4 h5 h6
  obtain rfl : a = s.size := by omega
  rw [List.drop_of_length_le (by rw [data_size]; omega), lenL]
  exact ⟨s.size, Nat.le_refl _, num_short _ _ _ _ _ _⟩
 | succ d ih =>
  intro a n z st h1 h2 h3 h4 h5 h6
  by_cases hlt : a < s.size
  ·
   obtain ⟨c, hd, hc⟩ := bt_drop s a hlt
   rw [hd, lenL]
   by_cases c1 : c = 58 ∧ st = true
   ·
    rw [if_pos c1]
    obtain ⟨rfl, rfl⟩ := c1
    have h9 : f < a := of_decide_eq_true h4.symm
    refine ⟨a, by omega, ?_⟩
    exact num_ret 58 1 65536 (f : Int) (n : Int) s (a : Int) (by omega) (by omega) (by omega) hs (by rw [hc]; rfl)
   ·
    rw [if_neg c1]
    have n1 : ¬(bt s (a : Int) = 58 ∧ (f : Int) < (a : Int)) := by
     rintro ⟨e, h⟩
     refine c1 ⟨(u8_eq _ _).2 (by rw [← hc, e]; rfl), ?_⟩
     rw [h4]; exact decide_eq_true (by omega)
    have hfa : st = false → a = f := fun e => by rw [e] at h4; have := of_decide_eq_false h4.symm; omega
    by_cases c2 : c < 48 ∨ 57 < c ∨ (st = true ∧ z = true)
    ·
     rw [if_pos c2]
     refine ⟨a, by omega, num_bad _ _ _ _ _ _ _ (by omega) (by omega) (by omega) n1 ?_⟩
     rcases c2 with h | h | ⟨h, h'⟩
     ·
      left; rw [hc]; exact (u8_lt _ _).1 h
     ·
      right; left; rw [hc]; exact (u8_lt _ _).1 h
     ·
      right; right; left
      have := h5 h
      rw [h'] at this
      refine ⟨?_, by simpa using this.symm⟩
      rw [h] at h4
      have := of_decide_eq_true h4.symm
      omega
    ·
     rw [if_neg c2]
     have n2 : ¬(bt s (a : Int) < 48 ∨ 57 < bt s (a : Int) ∨ ((f : Int) < (a : Int) ∧ bt s (f : Int) = 48) ∨ ((a : Int) = (f : Int) ∧ bt s (a : Int) = 48 ∧ (1 : Int) < 0)) := by
      rintro (h | h | ⟨h, h'⟩ | ⟨h, h', h''⟩)
      ·
       exact c2 (.inl ((u8_lt _ _).2 (by rw [← hc]; exact h)))
      ·
       exact c2 (.inr (.inl ((u8_lt _ _).2 (by rw [← hc]; exact h))))
      ·
       have e : st = true := by rw [h4]; exact decide_eq_true (by omega)
       exact c2 (.inr (.inr ⟨e, by rw [h5 e, h']; rfl⟩))
      ·
       omega
     have d1 : 48 ≤ c.toNat ∧ c.toNat ≤ 57 := by rw [hc] at n2; omega
     have dx : (bt s (a : Int) - 48) % 256 = (c.toNat : Int) - 48 := by rw [hc]; omega
     have hz : (if st = true then z else c == 48) = (bt s (f : Int) == 48) := by
      cases st with
      | true => rw [if_pos rfl]; exact h5 rfl
      | false =>
       rw [if_neg (by decide)]
       have e := hfa rfl
       rw [← e, hc]
       rw [Bool.eq_iff_iff, beq_iff_eq, beq_iff_eq, u8_eq]
       rfl
     by_cases c3 : 65536 < 10 * n + (c.toNat - 48)
     ·
      rw [if_pos c3]
      refine ⟨a, by omega, num_go _ _ _ _ _ _ _ (by omega) (by omega) (by omega) n1 n2 (Ev.step (f := fun k => P.benc_reader_number.j3 k 58 1 65536 (f : Int) (n : Int) ((c.toNat : Int) - 48) true s (a : Int) 0) (fun k => ?_) ?_)⟩
      ·
       simp only [P.benc_reader_number.j2]
       rw [if_neg (by decide), if_pos (by decide), dx, w64 (n := 10 * (n : Int)) (by omega) (by omega), w64 (n := 10 * (n : Int) + ((c.toNat : Int) - 48)) (by omega) (by omega), decide_eq_true (by omega)]
      ·
       refine Ev.step (f := fun k => P.benc_reader_number.l0 k 58 1 65536 (f : Int) (n : Int) s (a : Int) 23) (fun k => ?_) (num_fin _ _ _ _ _ s _ 23 (by decide))
       simp only [P.benc_reader_number.j3]
       rw [if_pos trivial]
       rfl
     ·
      rw [if_neg c3]
      obtain ⟨b, hb, hev⟩ := ih (a + 1) (10 * n + (c.toNat - 48)) (if st = true then z else c == 48) true (by omega) (by omega) (by omega) (decide_eq_true (by omega)).symm (fun _ => hz) (by omega)
      obtain ⟨_, k2⟩ := num_j4 58 1 65536 (f : Int) (n : Int) ((c.toNat : Int) - 48) s (a : Int) (by omega) (by omega) (by omega) (by omega) (by omega) hs (.inl ⟨rfl, by omega⟩)
      refine ⟨b, hb, num_go _ _ _ _ _ _ _ (by omega) (by omega) (by omega) n1 n2 (Ev.step (f := fun k => P.benc_reader_number.j3 k 58 1 65536 (f : Int) (n : Int) ((c.toNat : Int) - 48) false s (a : Int) 0) (fun k => ?_) (k2 (by omega) _ ?_))⟩
      ·
       simp only [P.benc_reader_number.j2]
       rw [if_neg (by decide), if_pos (by decide), dx, w64 (n := 10 * (n : Int)) (by omega) (by omega), w64 (n := 10 * (n : Int) + ((c.toNat : Int) - 48)) (by omega) (by omega), decide_eq_false (by omega)]
      ·
       have e : 10 * (n : Int) + 1 * ((c.toNat : Int) - 48) = ((10 * n + (c.toNat - 48) : Nat) : Int) := by omega
       rw [e]
       refine Ev.to (Ev.congr (fun k => rfl) hev) ?_
       generalize lenL _ true _ _ = r
       rw [show a + 1 + r.2.2 = a + (r.2.2 + 1) by omega]
  ·
   obtain rfl : a = s.size := by omega
   rw [List.drop_of_length_le (by rw [data_size]; omega), lenL]
   exact ⟨s.size, Nat.le_refl _, num_short _ _ _ _ _ _⟩
end Go.Proofs.YtlggihnkhimfkaaDoor.Giv
namespace Go.Proofs.YtlggihnkhimfkaaDoor.Giv
open Go.RowKit Go.Lib Go.Sort Go.Proofs.YtlggihnkhimfkaaDoorW.PrintWords Go.Proofs.YtlggihnkhimfkaaDoorW.PrintLast Go.Proofs.YtlggihnkhimfkaaDoorW.PrintMore
set_option linter.unusedVariables false
set_option linter.unusedSimpArgs false
def anyF (d : Kd V) : Kd V where
  sz := 1
  E := 20 :: d.E
  K := fun w x cs => (x = intV x.f1 ∧ cs = [.iface 3 (.int .i64 x.f1)]) ∨ (x = strV x.f2 ∧ cs = [.iface 9 (.string x.f2)]) ∨ (x = lisV x.f3 ∧ ∃ A c, cs = [.iface 110 (.slice A x.f3.length c)] ∧ x.f3.length ≤ c ∧ d.C w A x.f3.length x.f3) ∨ (x = zV ∧ ∃ c, cs = [c] ∧ c.oneCell' = true)
  M := fun w base ok x cs => (x = intV x.f1 ∧ cs = [.iface 3 (.int .i64 x.f1)]) ∨ (x = strV x.f2 ∧ cs = [.iface 9 (.string x.f2)]) ∨ (x = lisV x.f3 ∧ ∃ v, cs = [.iface 110 v] ∧ d.R 20 w base ok v x.f3) ∨ (x = zV ∧ ∃ c, cs = [c] ∧ c.oneCell' = true)
  K_len := by
    rintro w x cs (⟨_, rfl⟩ | ⟨_, rfl⟩ | ⟨_, A, c, rfl, _⟩ | ⟨_, c, rfl, _⟩) <;> rfl
  K_one := by
    rintro w x cs (⟨_, rfl⟩ | ⟨_, rfl⟩ | ⟨_, A, c, rfl, _⟩ | ⟨_, c, rfl, h⟩) u hu <;> rw [List.mem_singleton.1 hu]
    · rfl
    · rfl
    · rfl
    · exact h
  K_below := by
    rintro w w1 x cs hb (h | h | ⟨h, A, c, h2, h3, h4⟩ | h)
    · exact .inl h
    · exact .inr (.inl h)
    · exact .inr (.inr (.inl ⟨h, A, c, h2, h3, Kd.C_below h4 hb⟩))
    · exact .inr (.inr (.inr h))
  K_of_M := by
    rintro w base ok x cs (h | h | ⟨h, v, h2, h3⟩ | h)
    · exact .inl h
    · exact .inr (.inl h)
    · obtain ⟨A, c, rfl, hl, hr⟩ := Kd.R_reads h3
      exact .inr (.inr (.inl ⟨h, A, c, h2, hl, hr⟩))
    · exact .inr (.inr (.inr h))
  M_mono := by
    rintro w base ok ok' x cs hok (h | h | ⟨h, v, h2, h3⟩ | h)
    · exact .inl h
    · exact .inr (.inl h)
    · exact .inr (.inr (.inl ⟨h, v, h2, Kd.R_mono h3 hok⟩))
    · exact .inr (.inr (.inr h))
  M_bound := by
    rintro w base ok x cs (h | h | ⟨h, v, h2, h3⟩ | h)
    · exact .inl h
    · exact .inr (.inl h)
    · exact .inr (.inr (.inl ⟨h, v, h2, Kd.R_bound h3⟩))
    · exact .inr (.inr (.inr h))
  M_move := by
    rintro w w1 base ok x cs hm (h | h | ⟨h, v, h2, h3⟩ | h)
    · exact .inl h
    · exact .inr (.inl h)
    · exact .inr (.inr (.inl ⟨h, v, h2, Kd.R_move h3 hm⟩))
    · exact .inr (.inr (.inr h))
  M_lower := by
    rintro w base base' ok x cs hb (h | h | ⟨h, v, h2, h3⟩ | h)
    · exact .inl h
    · exact .inr (.inl h)
    · exact .inr (.inr (.inl ⟨h, v, h2, Kd.R_lower h3 hb⟩))
    · exact .inr (.inr (.inr h))
def anyK (d : Nat) : Kd V := Kd.upto anyF 1 [20] d
theorem anyK_sz : ∀ d, (anyK d).sz = 1
  | 0 => rfl
  | d + 1 => rfl
theorem any_int (d : Nat) (n : Int) (w : World) (base : Nat) (ok : Nat → Prop) : (anyK (d + 1)).M w base ok (intV n) [.iface 3 (.int .i64 n)] := .inl ⟨rfl, rfl⟩
theorem any_str (d : Nat) (s : ByteArray) (w : World) (base : Nat) (ok : Nat → Prop) : (anyK (d + 1)).M w base ok (strV s) [.iface 9 (.string s)] := .inr (.inl ⟨rfl, rfl⟩)
theorem any_lis (d : Nat) {l : List V} {v : Value} {w : World} {base : Nat} {ok : Nat → Prop} (h : (anyK d).R 20 w base ok v l) : (anyK (d + 1)).M w base ok (lisV l) [.iface 110 v] := .inr (.inr (.inl ⟨rfl, v, rfl, h⟩))
theorem any_z (d : Nat) {v : Value} (h : v.oneCell' = true) (w : World) (base : Nat) (ok : Nat → Prop) : (anyK (d + 1)).M w base ok zV [v] := .inr (.inr (.inr ⟨rfl, v, rfl, h⟩))
abbrev Rdr := P.IsS102
theorem Rdr.facts {w0 W : World} {g : Nat} {s : ByteArray} {a e : Int} (h : Rdr w0 W g s a e) : W.cell? ⟨g, 0, none⟩ = some (.string s) ∧ W.cell? ⟨g, 1, none⟩ = some (.int .i64 a) ∧ W.cell? ⟨g, 2, none⟩ = some (.int .i64 e) ∧ W.frozen? ⟨g, 0, none⟩ = false ∧ W.frozen? ⟨g, 1, none⟩ = false ∧ W.frozen? ⟨g, 2, none⟩ = false :=
  ⟨P.cellS102_0 h.1, P.cellS102_1 h.1, P.cellS102_2 h.1, blk_frozen h.1 0, blk_frozen h.1 1, blk_frozen h.1 2⟩
theorem next_end' (s : ByteArray) (e : Int) (h : e = 0 ∨ e = 21) : P.benc_reader_next.f s (s.size : Int) e = some (0, s, (s.size : Int), 21) := by
  unfold P.benc_reader_next.f P.benc_reader_fail.f
  rw [if_pos rfl]
  rcases h with rfl | rfl <;> rfl
theorem nxt_end {w0 w : World} {g : Nat} {s : ByteArray} (e : Int) (he : e = 0 ∨ e = 21) (hI : Rdr w0 w g s (s.size : Int) e) (hB : Below w0.heap.size w0 w) :
    Calls Tryd.prog 66 #[.pointer (some ⟨g, 0, none⟩)] w fun e w' => e = .returned (.int .u8 0) ∧ Rdr w0 w' g s (s.size : Int) 21 ∧ Below w0.heap.size w0 w' ∧ KeepBut w w' g none :=
  P.benc_reader_next.calls g s _ e 0 s _ 21 w0 w hI hB (next_end' s e he)
theorem nxt_at {w0 w : World} {g : Nat} {s : ByteArray} (a : Nat) (ha : a < s.size) (hI : Rdr w0 w g s (a : Int) 0) (hB : Below w0.heap.size w0 w) :
    Calls Tryd.prog 66 #[.pointer (some ⟨g, 0, none⟩)] w fun e w' => e = .returned (.int .u8 (bt s (a : Int))) ∧ Rdr w0 w' g s (a : Int) 0 ∧ Below w0.heap.size w0 w' ∧ KeepBut w w' g none :=
  P.benc_reader_next.calls g s _ 0 _ s _ 0 w0 w hI hB (next_at s (a : Int) (by omega) (by omega) 0)
theorem fail_calls {w0 w : World} {g : Nat} {s : ByteArray} {a : Int} (c : Int) (hI : Rdr w0 w g s a 0) (hB : Below w0.heap.size w0 w) :
    Calls Tryd.prog 68 #[.pointer (some ⟨g, 0, none⟩), .int .i64 c] w fun e w' => e = .returned (.tuple #[]) ∧ Rdr w0 w' g s a c ∧ Below w0.heap.size w0 w' ∧ KeepBut w w' g none :=
  P.benc_reader_fail.calls g s a 0 c s a c w0 w hI hB rfl
theorem num_calls (neg : Bool) {w0 w : World} {g : Nat} {s : ByteArray} (a : Nat) (ha : a ≤ s.size) (hs : s.size ≤ 140737488351232) (hI : Rdr w0 w g s (a : Int) 0) (hB : Below w0.heap.size w0 w) (R : Int × Int × Nat) (hR : numL neg false false 0 (s.data.toList.drop a) = R) (sg : Int) (hsg : sg = if neg = true then -1 else 1) :
    Calls Tryd.prog 67 #[.pointer (some ⟨g, 0, none⟩), .int .u8 101, .int .i64 sg, .int .i64 9223372036854775807] w fun e w' => ∃ n b : Int, e = .returned (.int .i64 n) ∧ Rdr w0 w' g s b R.1 ∧ Below w0.heap.size w0 w' ∧ KeepBut w w' g none ∧ Aside0 (R.1 = 0 → n = R.2.1 ∧ b = ((a + R.2.2 : Nat) : Int)) := by
  subst hsg
  obtain ⟨b, -, hev⟩ := num_ev neg s hs a (s.size - a) a 0 false false (Nat.le_refl _) (Nat.le_refl _) ha (decide_eq_false (Nat.lt_irrefl _)).symm (fun h => by cases h) (by decide) (by decide) (by cases neg <;> simp)
  rw [hR] at hev
  obtain ⟨k, hk⟩ := Ev.rounds hev
  by_cases c : R.1 = 0
  · rw [if_pos c] at hk
    refine (P.benc_reader_number.calls k g s (a : Int) 0 101 _ _ _ _ _ _ w0 w hI hB hk).mono ?_
    rintro e w' ⟨rfl, h1, h2, h3⟩
    rw [c]
    exact ⟨_, _, rfl, h1, h2, h3, ⟨fun _ => ⟨rfl, rfl⟩⟩⟩
  · rw [if_neg c] at hk
    refine (P.benc_reader_number.calls k g s (a : Int) 0 101 _ _ _ _ _ _ w0 w hI hB hk).mono ?_
    rintro e w' ⟨rfl, h1, h2, h3⟩
    exact ⟨_, _, rfl, h1, h2, h3, ⟨fun h => absurd h c⟩⟩
theorem leng_calls {w0 w : World} {g : Nat} {s : ByteArray} (a : Nat) (ha : a ≤ s.size) (hs : s.size ≤ 140737488351232) (hI : Rdr w0 w g s (a : Int) 0) (hB : Below w0.heap.size w0 w) (R : Int × Nat × Nat) (hR : lenL false false 0 (s.data.toList.drop a) = R) :
    Calls Tryd.prog 67 #[.pointer (some ⟨g, 0, none⟩), .int .u8 58, .int .i64 1, .int .i64 65536] w fun e w' => ∃ n b : Int, e = .returned (.int .i64 n) ∧ Rdr w0 w' g s b R.1 ∧ Below w0.heap.size w0 w' ∧ KeepBut w w' g none ∧ Aside0 (R.1 = 0 → n = (R.2.1 : Int) ∧ b = ((a + R.2.2 : Nat) : Int)) := by
  obtain ⟨b, -, hev⟩ := len_ev s hs a (s.size - a) a 0 false false (Nat.le_refl _) (Nat.le_refl _) ha (decide_eq_false (Nat.lt_irrefl _)).symm (fun h => by cases h) (by decide)
  rw [hR] at hev
  obtain ⟨k, hk⟩ := Ev.rounds hev
  by_cases c : R.1 = 0
  · rw [if_pos c] at hk
    refine (P.benc_reader_number.calls k g s (a : Int) 0 58 _ _ _ _ _ _ w0 w hI hB hk).mono ?_
    rintro e w' ⟨rfl, h1, h2, h3⟩
    rw [c]
    exact ⟨_, _, rfl, h1, h2, h3, ⟨fun _ => ⟨rfl, rfl⟩⟩⟩
  · rw [if_neg c] at hk
    refine (P.benc_reader_number.calls k g s (a : Int) 0 58 _ _ _ _ _ _ w0 w hI hB hk).mono ?_
    rintro e w' ⟨rfl, h1, h2, h3⟩
    exact ⟨_, _, rfl, h1, h2, h3, ⟨fun h => absurd h c⟩⟩
def VPost (s : ByteArray) (g : Nat) (n : Nat) (R : Int × V × Nat) (a : Nat) (w0 w : World) (e : Ending) (w' : World) : Prop :=
  ∃ (v : Value) (b : Int), e = .returned v ∧ Rdr w0 w' g s (if R.1 = 0 then ((a + R.2.2 : Nat) : Int) else b) R.1 ∧ Below w0.heap.size w0 w' ∧ KeepBut w w' g none ∧ (anyK n).M w' w.heap.size (fun _ => True) R.2.1 [v] ∧ (v = .nilIface ∨ ∃ t u, v = .iface t u)
theorem valL_nil (d : Nat) : valL d [] = (21, zV, 0) := by cases d <;> rfl
theorem valL_cons (d : Nat) (c : UInt8) (t : List UInt8) : valL d (c :: t) = if c = 105 then (if (intL t).1 = 0 then (0, intV (intL t).2.1, (intL t).2.2 + 1) else ((intL t).1, zV, 0))
    else if 48 ≤ c ∧ c ≤ 57 then
      (if (lenL false false 0 (c :: t)).1 = 0 then
        (if (c :: t).length < (lenL false false 0 (c :: t)).2.2 + (lenL false false 0 (c :: t)).2.1 then (21, zV, 0)
         else (0, strV ⟨(((c :: t).drop (lenL false false 0 (c :: t)).2.2).take (lenL false false 0 (c :: t)).2.1).toArray⟩, (lenL false false 0 (c :: t)).2.2 + (lenL false false 0 (c :: t)).2.1))
       else ((lenL false false 0 (c :: t)).1, zV, 0))
    else if c ≠ 108 then (20, zV, 0)
    else match d with
      | 0 => (22, zV, 0)
      | d + 1 => if (listL (valL d) t.length t).1 = 0 then (0, lisV (listL (valL d) t.length t).2.1, (listL (valL d) t.length t).2.2 + 1) else ((listL (valL d) t.length t).1, zV, 0) := by
  cases d <;> rw [valL]
set_option maxHeartbeats 4000000 in
set_option maxRecDepth 100000 in
theorem value_end (d : Nat) (i : Int) (er : Int) (he : er = 0 ∨ er = 21) {w0 w : World} {g : Nat} {s : ByteArray} (hI : Rdr w0 w g s (s.size : Int) er) (hB : Below w0.heap.size w0 w) :
    Calls Tryd.prog 60 #[.pointer (some ⟨g, 0, none⟩), .int .i64 i] w (VPost s g (d + 1) (21, zV, 0) s.size w0 w) := by
  have HN := Aside0.mk (nxt_end er he hI hB)
  clear hI hB
  go_enter Tryd.func60, Tryd.ntmps60
  go_wp2_with fail
  refine HN.out.mono ?_
  rintro e w1 ⟨rfl, h1, h2, h3⟩
  obtain ⟨x0, x1, x2, y0, y1, y2⟩ := h1.facts
  have H1 := Aside0.mk h1
  have H2 := Aside0.mk h2
  have H3 := Aside0.mk h3
  clear h1 h2 h3
  go_wp2
  go_returns
  exact ⟨_, (s.size : Int), rfl, H1.out, H2.out, H3.out, any_z d rfl _ _ _, .inl rfl⟩
theorem set_below {w0 w : World} {g : Nat} (h : Below w0.heap.size w0 w) (hg : w0.heap.size ≤ g) (j : Nat) (u : Value) : Below w0.heap.size w0 (w.setCell ⟨g, j, none⟩ u) := h.setCell (p := ⟨g, j, none⟩) hg u
theorem keep_trans {w w1 w2 : World} {g : Nat} (h : KeepBut w w1 g none) (k : KeepBut w1 w2 g none) : KeepBut w w2 g none := h.trans k (.inl rfl)
theorem bt_nat (s : ByteArray) (a : Nat) (i : Int) (hi : i = (a : Int)) : ∀ h : a < s.size, ((s[a]'h).toNat : Int) = bt s i := fun h => by
  subst hi
  have := bt_at s (a : Int) (by simpa using h)
  simpa using this
theorem vpost_int {s : ByteArray} {g d a : Nat} {w0 w w' : World} {R : Int × Int × Nat} {RR : Int × V × Nat} {n b : Int} {k : Nat} (hRR : (if R.1 = 0 then (0, intV R.2.1, R.2.2 + k) else (R.1, zV, 0)) = RR) (h1 : Rdr w0 w' g s b R.1) (h2 : Below w0.heap.size w0 w') (h3 : KeepBut w w' g none) (h4 : R.1 = 0 → n = R.2.1 ∧ b = ((a + k + R.2.2 : Nat) : Int)) :
    VPost s g (d + 1) RR a w0 w (.returned (.iface 3 (.int .i64 n))) w' := by
  subst hRR
  by_cases c : R.1 = 0
  · obtain ⟨rfl, rfl⟩ := h4 c
    rw [if_pos c]
    refine ⟨_, 0, rfl, ?_, h2, h3, any_int d _ _ _ _, .inr ⟨_, _, rfl⟩⟩
    rw [c] at h1
    rw [if_pos rfl]
    show Rdr w0 w' g s ((a + (R.2.2 + k) : Nat) : Int) 0
    rw [show a + (R.2.2 + k) = a + k + R.2.2 by omega]
    exact h1
  · rw [if_neg c]
    refine ⟨_, b, rfl, ?_, h2, h3, any_z d rfl _ _ _, .inr ⟨_, _, rfl⟩⟩
    rw [if_neg c]
    exact h1
set_option maxHeartbeats 4000000 in
set_option maxRecDepth 100000 in
theorem value_neg (d : Nat) (i : Int) {w0 w : World} {g : Nat} {s : ByteArray} (hs : s.size ≤ 140737488351232) (a : Nat) (hc : bt s (a : Int) = 105) (h2 : a + 1 < s.size) (hm : bt s ((a : Int) + 1) = 45) (hI : Rdr w0 w g s (a : Int) 0) (hB : Below w0.heap.size w0 w)
  (R : Int × Int × Nat) (hR : numL true false false 0 (s.data.toList.drop (a + 2)) = R) (RR : Int × V × Nat) (hRR : (if R.1 = 0 then (0, intV R.2.1, R.2.2 + 2) else (R.1, zV, 0)) = RR) :
  Calls Tryd.prog 60 #[.pointer (some ⟨g, 0, none⟩), .int .i64 i] w (VPost s g (d + 1) RR a w0 w) := by
 have HN := Aside0.mk (nxt_at a (by omega) hI hB)
 have HM := Aside0.mk (fun (W : World) h1 h2 => num_calls true (w0 := w0) (w := W) (g := g) (a + 2) (by omega) hs h1 h2 R hR (-1) rfl)
 have HR := Aside0.mk hRR
 have q1 : (a : Int) + 1 < (s.size : Int) := by omega
 have q0 : (a : Int) ≤ 140737488351232 := by omega
 have q2 : decide ((a : Int) + 1 < (s.size : Int)) = true := decide_eq_true q1
 have q3 : (bt s ((a : Int) + 1) == 45) = true := beq_iff_eq.2 hm
 have q4 := bt_nat s (a + 1) ((a : Int) + 1) rfl
 have q5 := eq_true (show 0 ≤ (a : Int) + 1 by omega)
 have q6 := eq_true q1
 have hcc := Aside0.mk hc
 have hlg := hI.ge
 clear hI hB hR hm hRR hc
 go_enter Tryd.func60, Tryd.ntmps60
 go_wp2_with fail
 refine HN.out.mono ?_
 rw [hcc.out]
 rintro e w1 ⟨rfl, h1, h2, h3⟩
 obtain ⟨x0, x1, x2, y0, y1, y2⟩ := h1.facts
 have H1 := Aside0.mk h1
 have H2 := Aside0.mk h2
 have H3 := Aside0.mk h3
 clear h1 h2 h3
 go_wp2_with fail
 go_quiet (fail)
 go_wp2_with fail
 refine (HM.out _ (((H1.out.set_1 ((a : Int) + 1)).drewN nq).set_1 ((a : Int) + 1 + 1)) (set_below (pw_below_drewN (set_below H2.out hlg 1 (.int .i64 ((a : Int) + 1))) nq) hlg 1 (.int .i64 ((a : Int) + 1 + 1)))).mono ?_
 rintro e w2 ⟨n, b, rfl, h1, h2, h3, h4⟩
 have K1 := Aside0.mk h1
 have K2 := Aside0.mk h2
 have K3 := Aside0.mk (keep_trans ((keep_drewN (H3.out.set_ 1 (.int .i64 ((a : Int) + 1))) nq).set_ 1 (.int .i64 ((a : Int) + 1 + 1))) h3)
 clear h1 h2 h3
 go_wp2
 go_returns
 exact vpost_int (a := a) (k := 2) HR.out K1.out K2.out K3.out h4.out
set_option maxHeartbeats 4000000 in
set_option maxRecDepth 100000 in
theorem value_pos (d : Nat) (i : Int) {w0 w : World} {g : Nat} {s : ByteArray} (hs : s.size ≤ 140737488351232) (a : Nat) (hc : bt s (a : Int) = 105) (h2 : a + 1 < s.size) (hm : bt s ((a : Int) + 1) ≠ 45) (hI : Rdr w0 w g s (a : Int) 0) (hB : Below w0.heap.size w0 w)
  (R : Int × Int × Nat) (hR : numL false false false 0 (s.data.toList.drop (a + 1)) = R) (RR : Int × V × Nat) (hRR : (if R.1 = 0 then (0, intV R.2.1, R.2.2 + 1) else (R.1, zV, 0)) = RR) :
  Calls Tryd.prog 60 #[.pointer (some ⟨g, 0, none⟩), .int .i64 i] w (VPost s g (d + 1) RR a w0 w) := by
 have HN := Aside0.mk (nxt_at a (by omega) hI hB)
 have HM := Aside0.mk (fun (W : World) h1 h2 => num_calls false (w0 := w0) (w := W) (g := g) (a + 1) (by omega) hs h1 h2 R hR 1 rfl)
 have HR := Aside0.mk hRR
 have q1 : (a : Int) + 1 < (s.size : Int) := by omega
 have q0 : (a : Int) ≤ 140737488351232 := by omega
 have q2 : decide ((a : Int) + 1 < (s.size : Int)) = true := decide_eq_true q1
 have q3 : (bt s ((a : Int) + 1) == 45) = false := beq_eq_false_iff_ne.2 hm
 have q4 := bt_nat s (a + 1) ((a : Int) + 1) rfl
 have q5 := eq_true (show 0 ≤ (a : Int) + 1 by omega)
 have q6 := eq_true q1
 have hcc := Aside0.mk hc
 have hlg := hI.ge
 clear hI hB hR hm hRR hc
 go_enter Tryd.func60, Tryd.ntmps60
 go_wp2_with fail
 refine HN.out.mono ?_
 rw [hcc.out]
 rintro e w1 ⟨rfl, h1, h2, h3⟩
 obtain ⟨x0, x1, x2, y0, y1, y2⟩ := h1.facts
 have H1 := Aside0.mk h1
 have H2 := Aside0.mk h2
 have H3 := Aside0.mk h3
 clear h1 h2 h3
 go_wp2_with fail
 go_quiet (fail)
 go_wp2_with fail
 refine (HM.out _ ((H1.out.set_1 ((a : Int) + 1)).drewN nq) (pw_below_drewN (set_below H2.out hlg 1 (.int .i64 ((a : Int) + 1))) nq)).mono ?_
 rintro e w2 ⟨n, b, rfl, h1, h2, h3, h4⟩
 have K1 := Aside0.mk h1
 have K2 := Aside0.mk h2
 have K3 := Aside0.mk (keep_trans (keep_drewN (H3.out.set_ 1 (.int .i64 ((a : Int) + 1))) nq) h3)
 clear h1 h2 h3
 go_wp2
 go_returns
 exact vpost_int (a := a) (k := 1) HR.out K1.out K2.out K3.out h4.out
set_option maxHeartbeats 4000000 in
set_option maxRecDepth 100000 in
theorem value_one (d : Nat) (i : Int) {w0 w : World} {g : Nat} {s : ByteArray} (hs : s.size ≤ 140737488351232) (a : Nat) (hc : bt s (a : Int) = 105) (h2 : a + 1 = s.size) (hI : Rdr w0 w g s (a : Int) 0) (hB : Below w0.heap.size w0 w)
  (R : Int × Int × Nat) (hR : numL false false false 0 (s.data.toList.drop (a + 1)) = R) (RR : Int × V × Nat) (hRR : (if R.1 = 0 then (0, intV R.2.1, R.2.2 + 1) else (R.1, zV, 0)) = RR) :
  Calls Tryd.prog 60 #[.pointer (some ⟨g, 0, none⟩), .int .i64 i] w (VPost s g (d + 1) RR a w0 w) := by
 have HN := Aside0.mk (nxt_at a (by omega) hI hB)
 have HM := Aside0.mk (fun (W : World) h1 h2 => num_calls false (w0 := w0) (w := W) (g := g) (a + 1) (by omega) hs h1 h2 R hR 1 rfl)
 have HR := Aside0.mk hRR
 have q1 : (a : Int) + 1 = (s.size : Int) := by omega
 have q0 : (a : Int) ≤ 140737488351232 := by omega
 have q2 : decide ((a : Int) + 1 < (s.size : Int)) = false := decide_eq_false (by omega)
 have hcc := Aside0.mk hc
 have hlg := hI.ge
 clear hI hB hR hRR hc q1
 go_enter Tryd.func60, Tryd.ntmps60
 go_wp2_with fail
 refine HN.out.mono ?_
 rw [hcc.out]
 rintro e w1 ⟨rfl, h1, h2, h3⟩
 obtain ⟨x0, x1, x2, y0, y1, y2⟩ := h1.facts
 have H1 := Aside0.mk h1
 have H2 := Aside0.mk h2
 have H3 := Aside0.mk h3
 clear h1 h2 h3
 go_wp2_with fail
 go_quiet (fail)
 go_wp2_with fail
 refine (HM.out _ ((H1.out.set_1 ((a : Int) + 1)).drewN nq) (pw_below_drewN (set_below H2.out hlg 1 (.int .i64 ((a : Int) + 1))) nq)).mono ?_
 rintro e w2 ⟨n, b, rfl, h1, h2, h3, h4⟩
 have K1 := Aside0.mk h1
 have K2 := Aside0.mk h2
 have K3 := Aside0.mk (keep_trans (keep_drewN (H3.out.set_ 1 (.int .i64 ((a : Int) + 1))) nq) h3)
 clear h1 h2 h3
 go_wp2
 go_returns
 exact vpost_int (a := a) (k := 1) HR.out K1.out K2.out K3.out h4.out
set_option maxHeartbeats 4000000 in
set_option maxRecDepth 100000 in
theorem value_len (d : Nat) (i : Int) {w0 w : World} {g : Nat} {s : ByteArray} (hs : s.size ≤ 140737488351232) (a : Nat) (ha : a < s.size) (hc : 48 ≤ bt s (a : Int) ∧ bt s (a : Int) ≤ 57) (hI : Rdr w0 w g s (a : Int) 0) (hB : Below w0.heap.size w0 w)
  (R : Int × Nat × Nat) (hR : lenL false false 0 (s.data.toList.drop a) = R) (hz : R.1 ≠ 0) :
  Calls Tryd.prog 60 #[.pointer (some ⟨g, 0, none⟩), .int .i64 i] w (VPost s g (d + 1) (R.1, zV, 0) a w0 w) := by
 have HN := Aside0.mk (nxt_at a ha hI hB)
 have HM := Aside0.mk (fun (W : World) h1 h2 => leng_calls (w0 := w0) (w := W) (g := g) a (by omega) hs h1 h2 R hR)
 have hlg := hI.ge
 obtain ⟨c1, c2⟩ := hc
 have c3 : (bt s (a : Int) == 105) = false := beq_eq_false_iff_ne.2 (by omega)
 have c4 : decide (48 ≤ bt s (a : Int)) = true := decide_eq_true c1
 have c5 : decide (bt s (a : Int) ≤ 57) = true := decide_eq_true c2
 have z1 : (R.1 == 0) = false := beq_eq_false_iff_ne.2 hz
 have HZ := Aside0.mk hz
 generalize bt s (a : Int) = c at *
 generalize hr1 : R.1 = r1 at *
 have HR1 := Aside0.mk hr1
 clear hI hB hR hz hr1
 go_enter Tryd.func60, Tryd.ntmps60
 go_wp2_with fail
 refine HN.out.mono ?_
 rintro e w1 ⟨rfl, h1, h2, h3⟩
 obtain ⟨x0, x1, x2, y0, y1, y2⟩ := h1.facts
 have H1 := Aside0.mk h1
 have H2 := Aside0.mk h2
 have H3 := Aside0.mk h3
 clear h1 h2 h3
 go_wp2_with fail
 refine (HM.out _ H1.out H2.out).mono ?_
 rintro e w2 ⟨n, b, rfl, h1, h2, h3, h4⟩
 clear x0 x1 x2 y0 y1 y2
 obtain ⟨x0, x1, x2, y0, y1, y2⟩ := h1.facts
 have K1 := Aside0.mk h1
 have K2 := Aside0.mk h2
 have K3 := Aside0.mk (keep_trans H3.out h3)
 clear h1 h2 h3
 go_wp2_with fail
 go_quiet (fail)
 go_wp2
 go_returns
 refine ⟨_, b, rfl, ?_, pw_below_drewN K2.out nq, keep_drewN K3.out nq, any_z d rfl _ _ _, .inl rfl⟩
 rw [if_neg HZ.out]
 exact K1.out.drewN nq
set_option maxHeartbeats 4000000 in
set_option maxRecDepth 100000 in
theorem value_cut (d : Nat) (i : Int) {w0 w : World} {g : Nat} {s : ByteArray} (hs : s.size ≤ 140737488351232) (a : Nat) (ha : a < s.size) (hc : 48 ≤ bt s (a : Int) ∧ bt s (a : Int) ≤ 57) (hI : Rdr w0 w g s (a : Int) 0) (hB : Below w0.heap.size w0 w)
  (R : Int × Nat × Nat) (hR : lenL false false 0 (s.data.toList.drop a) = R) (hz : R.1 = 0) (hu : a + R.2.2 ≤ s.size) (hn : R.2.1 ≤ 65536) (hcut : s.size < a + R.2.2 + R.2.1) :
  Calls Tryd.prog 60 #[.pointer (some ⟨g, 0, none⟩), .int .i64 i] w (VPost s g (d + 1) (21, zV, 0) a w0 w) := by
 have HN := Aside0.mk (nxt_at a ha hI hB)
 have HM := Aside0.mk (fun (W : World) h1 h2 => leng_calls (w0 := w0) (w := W) (g := g) a (by omega) hs h1 h2 R hR)
 have hlg := hI.ge
 obtain ⟨c1, c2⟩ := hc
 have c3 : (bt s (a : Int) == 105) = false := beq_eq_false_iff_ne.2 (by omega)
 have c4 : decide (48 ≤ bt s (a : Int)) = true := decide_eq_true c1
 have c5 : decide (bt s (a : Int) ≤ 57) = true := decide_eq_true c2
 have HZ := Aside0.mk hz
 generalize bt s (a : Int) = c at *
 obtain ⟨r1, n, u⟩ := R
 simp only at hu hn hcut hz HZ HM
 subst hz
 have q1 : (a : Int) + (u : Int) ≤ (s.size : Int) := by omega
 have q2 : (s.size : Int) - (((a + u : Nat) : Int)) < (n : Int) := by omega
 have q3 : decide ((s.size : Int) - (((a + u : Nat) : Int)) < (n : Int)) = true := decide_eq_true q2
 have q4 : (n : Int) ≤ 65536 := by omega
 have q5 : ((a + u : Nat) : Int) ≤ 140737488351232 := by omega
 have q6 : (s.size : Int) ≤ 140737488351232 := by omega
 generalize hau : a + u = v at *
 clear hI hB hR
 go_enter Tryd.func60, Tryd.ntmps60
 go_wp2_with fail
 refine HN.out.mono ?_
 rintro e w1 ⟨rfl, h1, h2, h3⟩
 obtain ⟨x0, x1, x2, y0, y1, y2⟩ := h1.facts
 have H1 := Aside0.mk h1
 have H2 := Aside0.mk h2
 have H3 := Aside0.mk h3
 clear h1 h2 h3
 go_wp2_with fail
 refine (HM.out _ H1.out H2.out).mono ?_
 rintro e w2 ⟨n', b, rfl, h1, h2, h3, h4⟩
 obtain ⟨rfl, rfl⟩ := h4.out (by trivial)
 clear x0 x1 x2 y0 y1 y2 h4
 obtain ⟨x0, x1, x2, y0, y1, y2⟩ := h1.facts
 have K1 := Aside0.mk h1
 have K2 := Aside0.mk h2
 have K3 := Aside0.mk (keep_trans H3.out h3)
 clear h1 h2 h3
 go_wp2_with fail
 go_quiet (fail)
 go_wp2_with fail
 refine (fail_calls 21 (K1.out.drewN nq) (pw_below_drewN K2.out nq)).mono ?_
 rintro e w3 ⟨rfl, h1, h2, h3⟩
 clear x0 x1 x2 y0 y1 y2
 obtain ⟨x0, x1, x2, y0, y1, y2⟩ := h1.facts
 have J1 := Aside0.mk h1
 have J2 := Aside0.mk h2
 have J3 := Aside0.mk (keep_trans (keep_drewN K3.out nq) h3)
 clear h1 h2 h3
 go_wp2
 go_returns
 exact ⟨_, (v : Int), rfl, J1.out, J2.out, J3.out, any_z d rfl _ _ _, .inl rfl⟩
set_option maxHeartbeats 4000000 in
set_option maxRecDepth 100000 in
theorem value_str (d : Nat) (i : Int) {w0 w : World} {g : Nat} {s : ByteArray} (hs : s.size ≤ 140737488351232) (a : Nat) (ha : a < s.size) (hc : 48 ≤ bt s (a : Int) ∧ bt s (a : Int) ≤ 57) (hI : Rdr w0 w g s (a : Int) 0) (hB : Below w0.heap.size w0 w)
  (R : Int × Nat × Nat) (hR : lenL false false 0 (s.data.toList.drop a) = R) (hz : R.1 = 0) (hu : a + R.2.2 ≤ s.size) (hn : R.2.1 ≤ 65536) (hcut : a + R.2.2 + R.2.1 ≤ s.size) :
  Calls Tryd.prog 60 #[.pointer (some ⟨g, 0, none⟩), .int .i64 i] w (VPost s g (d + 1) (0, strV (s.extract (a + R.2.2) (a + R.2.2 + R.2.1)), R.2.2 + R.2.1) a w0 w) := by
 have HN := Aside0.mk (nxt_at a ha hI hB)
 have HM := Aside0.mk (fun (W : World) h1 h2 => leng_calls (w0 := w0) (w := W) (g := g) a (by omega) hs h1 h2 R hR)
 have hlg := hI.ge
 obtain ⟨c1, c2⟩ := hc
 have c3 : (bt s (a : Int) == 105) = false := beq_eq_false_iff_ne.2 (by omega)
 have c4 : decide (48 ≤ bt s (a : Int)) = true := decide_eq_true c1
 have c5 : decide (bt s (a : Int) ≤ 57) = true := decide_eq_true c2
 have HZ := Aside0.mk hz
 generalize bt s (a : Int) = c at *
 obtain ⟨r1, n, u⟩ := R
 simp only at hu hn hcut hz HZ HM ⊢
 subst hz
 have hau' := Aside0.mk (show ∀ v, a + u = v → ((v : Int) + (n : Int) = ((a + (u + n) : Nat) : Int)) from fun v h => by omega)
 generalize hau : a + u = v at *
 have HAU := Aside0.mk (hau'.out v rfl)
 have q2 : ¬ (s.size : Int) - (v : Int) < (n : Int) := by omega
 have q3 : decide ((s.size : Int) - (v : Int) < (n : Int)) = false := decide_eq_false q2
 have q4 : (n : Int) ≤ 65536 := by omega
 have q5 : (v : Int) ≤ 140737488351232 := by omega
 have q6 : (s.size : Int) ≤ 140737488351232 := by omega
 have q7 : (v : Int) + (n : Int) ≤ (s.size : Int) := by omega
 have q8 : (0 : Int) ≤ (v : Int) + (n : Int) := by omega
 have q9 : (v : Int) ≤ (v : Int) + (n : Int) := by omega
 clear hI hB hR hau hau'
 go_enter Tryd.func60, Tryd.ntmps60
 go_wp2_with fail
 refine HN.out.mono ?_
 rintro e w1 ⟨rfl, h1, h2, h3⟩
 obtain ⟨x0, x1, x2, y0, y1, y2⟩ := h1.facts
 have H1 := Aside0.mk h1
 have H2 := Aside0.mk h2
 have H3 := Aside0.mk h3
 clear h1 h2 h3
 go_wp2_with fail
 refine (HM.out _ H1.out H2.out).mono ?_
 rintro e w2 ⟨n', b, rfl, h1, h2, h3, h4⟩
 obtain ⟨rfl, rfl⟩ := h4.out (by trivial)
 clear x0 x1 x2 y0 y1 y2 h4
 obtain ⟨x0, x1, x2, y0, y1, y2⟩ := h1.facts
 have K1 := Aside0.mk h1
 have K2 := Aside0.mk h2
 have K3 := Aside0.mk (keep_trans H3.out h3)
 clear h1 h2 h3
 go_wp2_with fail
 go_quiet (fail)
 obtain ⟨nq1, hnq1⟩ : ∃ x, x = nq := ⟨_, rfl⟩
 subst hnq1
 go_wp2_with fail
 go_quiet (fail)
 go_wp2
 go_returns
 have K4 := Aside0.mk ((K1.out.drewN nq1).set_1 ((v : Int) + (n : Int)))
 refine ⟨_, 0, rfl, ?_, pw_below_drewN (set_below (pw_below_drewN K2.out nq1) hlg 1 _) nq, keep_drewN ((keep_drewN K3.out nq1).set_ 1 _) nq, any_str d _ _ _ _, .inr ⟨_, _, rfl⟩⟩
 rw [if_pos rfl, ← HAU.out]
 exact K4.out.drewN nq
set_option maxHeartbeats 4000000 in
set_option maxRecDepth 100000 in
theorem value_bad (d : Nat) (i : Int) {w0 w : World} {g : Nat} {s : ByteArray} (a : Nat) (ha : a < s.size) (hc : bt s (a : Int) ≠ 105) (hc2 : ¬(48 ≤ bt s (a : Int) ∧ bt s (a : Int) ≤ 57)) (hc3 : bt s (a : Int) ≠ 108) (hI : Rdr w0 w g s (a : Int) 0) (hB : Below w0.heap.size w0 w) :
  Calls Tryd.prog 60 #[.pointer (some ⟨g, 0, none⟩), .int .i64 i] w (VPost s g (d + 1) (20, zV, 0) a w0 w) := by
 have HN := Aside0.mk (nxt_at a ha hI hB)
 have c3 : (bt s (a : Int) == 105) = false := beq_eq_false_iff_ne.2 hc
 have c6 : (bt s (a : Int) != 108) = true := bne_iff_ne.2 hc3
 generalize bt s (a : Int) = c at *
 clear hI hB
 by_cases c1 : 48 ≤ c
 ·
  have c4 : decide (48 ≤ c) = true := decide_eq_true c1
  have c5 : decide (c ≤ 57) = false := decide_eq_false (by omega)
  clear hc hc2 hc3 c1
  go_enter Tryd.func60, Tryd.ntmps60
  go_wp2_with fail
  refine HN.out.mono ?_
  rintro e w1 ⟨rfl, h1, h2, h3⟩
  obtain ⟨x0, x1, x2, y0, y1, y2⟩ := h1.facts
  have H1 := Aside0.mk h1
  have H2 := Aside0.mk h2
  have H3 := Aside0.mk h3
  clear h1 h2 h3
  go_wp2_with fail
  refine (fail_calls 20 H1.out H2.out).mono ?_
  rintro e w2 ⟨rfl, h1, h2, h3⟩
  have K1 := Aside0.mk h1
  have K2 := Aside0.mk h2
  have K3 := Aside0.mk (keep_trans H3.out h3)
  clear h1 h2 h3
  go_wp2
  go_returns
  exact ⟨_, _, rfl, K1.out, K2.out, K3.out, any_z d rfl _ _ _, .inl rfl⟩
 ·
  have c4 : decide (48 ≤ c) = false := decide_eq_false c1
  clear hc hc2 hc3 c1
  go_enter Tryd.func60, Tryd.ntmps60
  go_wp2_with fail
  refine HN.out.mono ?_
  rintro e w1 ⟨rfl, h1, h2, h3⟩
  obtain ⟨x0, x1, x2, y0, y1, y2⟩ := h1.facts
  have H1 := Aside0.mk h1
  have H2 := Aside0.mk h2
  have H3 := Aside0.mk h3
  clear h1 h2 h3
  go_wp2_with fail
  refine (fail_calls 20 H1.out H2.out).mono ?_
  rintro e w2 ⟨rfl, h1, h2, h3⟩
  have K1 := Aside0.mk h1
  have K2 := Aside0.mk h2
  have K3 := Aside0.mk (keep_trans H3.out h3)
  clear h1 h2 h3
  go_wp2
  go_returns
  exact ⟨_, _, rfl, K1.out, K2.out, K3.out, any_z d rfl _ _ _, .inl rfl⟩
set_option maxHeartbeats 4000000 in
set_option maxRecDepth 100000 in
theorem value_deep (d : Nat) (i : Int) (hi : 8 ≤ i) {w0 w : World} {g : Nat} {s : ByteArray} (a : Nat) (ha : a < s.size) (hc : bt s (a : Int) = 108) (hI : Rdr w0 w g s (a : Int) 0) (hB : Below w0.heap.size w0 w) :
    Calls Tryd.prog 60 #[.pointer (some ⟨g, 0, none⟩), .int .i64 i] w (VPost s g (d + 1) (22, zV, 0) a w0 w) := by
  have HN := Aside0.mk (nxt_at a ha hI hB)
  have c3 : decide (8 ≤ i) = true := decide_eq_true hi
  have hcc := Aside0.mk hc
  clear hI hB hc hi
  go_enter Tryd.func60, Tryd.ntmps60
  go_wp2_with fail
  refine HN.out.mono ?_
  rw [hcc.out]
  rintro e w1 ⟨rfl, h1, h2, h3⟩
  obtain ⟨x0, x1, x2, y0, y1, y2⟩ := h1.facts
  have H1 := Aside0.mk h1
  have H2 := Aside0.mk h2
  have H3 := Aside0.mk h3
  clear h1 h2 h3
  go_wp2_with fail
  refine (fail_calls 22 H1.out H2.out).mono ?_
  rintro e w2 ⟨rfl, h1, h2, h3⟩
  have K1 := Aside0.mk h1
  have K2 := Aside0.mk h2
  have K3 := Aside0.mk (keep_trans H3.out h3)
  clear h1 h2 h3
  go_wp2
  go_returns
  exact ⟨_, _, rfl, K1.out, K2.out, K3.out, any_z d rfl _ _ _, .inl rfl⟩
end Go.Proofs.YtlggihnkhimfkaaDoor.Giv
