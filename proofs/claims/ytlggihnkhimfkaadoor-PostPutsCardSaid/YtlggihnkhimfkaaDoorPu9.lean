/- Texts put together by prune.py: PstE, PstF, PstN, PstP, Px2, PsA, Cut, PstR. -/
import Derived.Deep.RegionHeld3
import Derived.OrdersHeld
import Derived.Handy
import Derived.Lib.ReflectliteSwap
import Derived.Test.YtlggihnkhimfkaaDoorPu8
namespace Go.Proofs.YtlggihnkhimfkaaDoor.Giv
open Go.RowKit Go.Lib Go.Proofs.YtlggihnkhimfkaaDoorW.PrintWords Go.Proofs.YtlggihnkhimfkaaDoorW.PrintLast Go.Proofs.YtlggihnkhimfkaaDoorW.PrintMore
set_option linter.unusedVariables false
set_option linter.unusedSimpArgs false
set_option maxRecDepth 100000 in
set_option maxHeartbeats 4000000 in
theorem chk_5av (a0_0 a0_1 a0_2 a0_3 a0_4 a0_5 a0_6 a0_7 a0_8 a0_9 : Int) (A0_10 : Option Addr) (c0_10 : Nat) (l0_10 : List Int) (a0_11 a0_12 : Int) (a0_13 : Bool) (A0_14 : Option Addr) (c0_14 : Nat) (l0_14 : List (P.S52)) (a0_15 : ByteArray) (w : World) (hr0_10 : Kd.C (Kd.int .i64) w A0_10 l0_10.length l0_10) (hc0_10 : l0_10.length ≤ c0_10) (hr0_14 : Kd.C P.k52 w A0_14 l0_14.length l0_14) (hc0_14 : l0_14.length ≤ c0_14) (p1 : 1 ≤ a0_0) (p2 : a0_0 ≤ 19) (p3 : 0 ≤ a0_1) (p4 : a0_1 < 16) (hodd : (six a0_2 a0_3 a0_4 a0_5 a0_6 a0_7).any oddP = false) (q1 : 0 ≤ a0_8) (q2 : a0_8 ≤ 3) (q3 : 0 ≤ a0_11) (q4 : a0_11 ≤ 64) (v1 : 0 < (l0_10.length : Int)) (hv : vchk l0_10 = 0) (s1 : a0_12 < 0) :
    Calls Tryd.prog 11 #[.agg #[.int .i64 a0_0, .int .i64 a0_1, .int .i64 a0_2, .int .i64 a0_3, .int .i64 a0_4, .int .i64 a0_5, .int .i64 a0_6, .int .i64 a0_7, .int .i64 a0_8, .int .i64 a0_9, .slice A0_10 l0_10.length c0_10, .int .i64 a0_11, .int .i64 a0_12, .bool a0_13, .slice A0_14 l0_14.length c0_14, .string a0_15]] w fun e w' => e = .returned (.int .i64 1) ∧ Below w.heap.size w w' := by
  have HR10 := Aside0.mk hr0_10
  have HR14 := Aside0.mk hr0_14
  clear hr0_10 hr0_14
  have HODD := Aside0.mk hodd
  clear hodd
  have HV := Aside0.mk hv
  clear hv
  go_enter Tryd.func11, Tryd.ntmps11
  go_wp2_with (first | (go_at_call 27; refine (hasOdd_any _ (six a0_2 a0_3 a0_4 a0_5 a0_6 a0_7) 6 _ false (lit_C _ _ 3 _ _ (by simp) rfl (by simp [six])) HODD.out).mono ?_; rintro e w' ⟨rfl, rfl⟩) | (go_at_call 28; refine (check_any A0_10 l0_10 c0_10 (l0_10.length : Int) _ 0 (Kd.C_below HR10.out (by repeat (first | exact Below.refl _ _ | apply below_alloc | apply pw_below_drewN | apply below_drew1))) HV.out).mono ?_; rintro e w' ⟨rfl, rfl⟩) | fail)
  go_ret
  exact ⟨rfl, (by repeat (first | exact Below.refl _ _ | apply below_alloc | apply pw_below_drewN | apply below_drew1))⟩
set_option maxRecDepth 100000 in
set_option maxHeartbeats 4000000 in
theorem chk_5bv (a0_0 a0_1 a0_2 a0_3 a0_4 a0_5 a0_6 a0_7 a0_8 a0_9 : Int) (A0_10 : Option Addr) (c0_10 : Nat) (l0_10 : List Int) (a0_11 a0_12 : Int) (a0_13 : Bool) (A0_14 : Option Addr) (c0_14 : Nat) (l0_14 : List (P.S52)) (a0_15 : ByteArray) (w : World) (hr0_10 : Kd.C (Kd.int .i64) w A0_10 l0_10.length l0_10) (hc0_10 : l0_10.length ≤ c0_10) (hr0_14 : Kd.C P.k52 w A0_14 l0_14.length l0_14) (hc0_14 : l0_14.length ≤ c0_14) (p1 : 1 ≤ a0_0) (p2 : a0_0 ≤ 19) (p3 : 0 ≤ a0_1) (p4 : a0_1 < 16) (hodd : (six a0_2 a0_3 a0_4 a0_5 a0_6 a0_7).any oddP = false) (q1 : 0 ≤ a0_8) (q2 : a0_8 ≤ 3) (q3 : 0 ≤ a0_11) (q4 : a0_11 ≤ 64) (v1 : 0 < (l0_10.length : Int)) (hv : vchk l0_10 = 0) (s1 : 0 ≤ a0_12) (s2 : 255 < a0_12) :
    Calls Tryd.prog 11 #[.agg #[.int .i64 a0_0, .int .i64 a0_1, .int .i64 a0_2, .int .i64 a0_3, .int .i64 a0_4, .int .i64 a0_5, .int .i64 a0_6, .int .i64 a0_7, .int .i64 a0_8, .int .i64 a0_9, .slice A0_10 l0_10.length c0_10, .int .i64 a0_11, .int .i64 a0_12, .bool a0_13, .slice A0_14 l0_14.length c0_14, .string a0_15]] w fun e w' => e = .returned (.int .i64 1) ∧ Below w.heap.size w w' := by
  have HR10 := Aside0.mk hr0_10
  have HR14 := Aside0.mk hr0_14
  clear hr0_10 hr0_14
  have HODD := Aside0.mk hodd
  clear hodd
  have HV := Aside0.mk hv
  clear hv
  go_enter Tryd.func11, Tryd.ntmps11
  go_wp2_with (first | (go_at_call 27; refine (hasOdd_any _ (six a0_2 a0_3 a0_4 a0_5 a0_6 a0_7) 6 _ false (lit_C _ _ 3 _ _ (by simp) rfl (by simp [six])) HODD.out).mono ?_; rintro e w' ⟨rfl, rfl⟩) | (go_at_call 28; refine (check_any A0_10 l0_10 c0_10 (l0_10.length : Int) _ 0 (Kd.C_below HR10.out (by repeat (first | exact Below.refl _ _ | apply below_alloc | apply pw_below_drewN | apply below_drew1))) HV.out).mono ?_; rintro e w' ⟨rfl, rfl⟩) | fail)
  go_ret
  exact ⟨rfl, (by repeat (first | exact Below.refl _ _ | apply below_alloc | apply pw_below_drewN | apply below_drew1))⟩
set_option maxRecDepth 100000 in
set_option maxHeartbeats 4000000 in
theorem chk_5cv (a0_0 a0_1 a0_2 a0_3 a0_4 a0_5 a0_6 a0_7 a0_8 a0_9 : Int) (A0_10 : Option Addr) (c0_10 : Nat) (l0_10 : List Int) (a0_11 a0_12 : Int) (a0_13 : Bool) (A0_14 : Option Addr) (c0_14 : Nat) (l0_14 : List (P.S52)) (a0_15 : ByteArray) (w : World) (hr0_10 : Kd.C (Kd.int .i64) w A0_10 l0_10.length l0_10) (hc0_10 : l0_10.length ≤ c0_10) (hr0_14 : Kd.C P.k52 w A0_14 l0_14.length l0_14) (hc0_14 : l0_14.length ≤ c0_14) (p1 : 1 ≤ a0_0) (p2 : a0_0 ≤ 19) (p3 : 0 ≤ a0_1) (p4 : a0_1 < 16) (hodd : (six a0_2 a0_3 a0_4 a0_5 a0_6 a0_7).any oddP = false) (q1 : 0 ≤ a0_8) (q2 : a0_8 ≤ 3) (q3 : 0 ≤ a0_11) (q4 : a0_11 ≤ 64) (v1 : 0 < (l0_10.length : Int)) (hv : vchk l0_10 = 0) (s1 : 0 ≤ a0_12) (s2 : a0_12 ≤ 255) (s3 : 64 < (l0_14.length : Int)) :
    Calls Tryd.prog 11 #[.agg #[.int .i64 a0_0, .int .i64 a0_1, .int .i64 a0_2, .int .i64 a0_3, .int .i64 a0_4, .int .i64 a0_5, .int .i64 a0_6, .int .i64 a0_7, .int .i64 a0_8, .int .i64 a0_9, .slice A0_10 l0_10.length c0_10, .int .i64 a0_11, .int .i64 a0_12, .bool a0_13, .slice A0_14 l0_14.length c0_14, .string a0_15]] w fun e w' => e = .returned (.int .i64 1) ∧ Below w.heap.size w w' := by
  have HR10 := Aside0.mk hr0_10
  have HR14 := Aside0.mk hr0_14
  clear hr0_10 hr0_14
  have HODD := Aside0.mk hodd
  clear hodd
  have HV := Aside0.mk hv
  clear hv
  go_enter Tryd.func11, Tryd.ntmps11
  go_wp2_with (first | (go_at_call 27; refine (hasOdd_any _ (six a0_2 a0_3 a0_4 a0_5 a0_6 a0_7) 6 _ false (lit_C _ _ 3 _ _ (by simp) rfl (by simp [six])) HODD.out).mono ?_; rintro e w' ⟨rfl, rfl⟩) | (go_at_call 28; refine (check_any A0_10 l0_10 c0_10 (l0_10.length : Int) _ 0 (Kd.C_below HR10.out (by repeat (first | exact Below.refl _ _ | apply below_alloc | apply pw_below_drewN | apply below_drew1))) HV.out).mono ?_; rintro e w' ⟨rfl, rfl⟩) | fail)
  go_ret
  exact ⟨rfl, (by repeat (first | exact Below.refl _ _ | apply below_alloc | apply pw_below_drewN | apply below_drew1))⟩
set_option maxRecDepth 100000 in
set_option maxHeartbeats 4000000 in
theorem chk_5dv (a0_0 a0_1 a0_2 a0_3 a0_4 a0_5 a0_6 a0_7 a0_8 a0_9 : Int) (A0_10 : Option Addr) (c0_10 : Nat) (l0_10 : List Int) (a0_11 a0_12 : Int) (a0_13 : Bool) (A0_14 : Option Addr) (c0_14 : Nat) (l0_14 : List (P.S52)) (a0_15 : ByteArray) (w : World) (hr0_10 : Kd.C (Kd.int .i64) w A0_10 l0_10.length l0_10) (hc0_10 : l0_10.length ≤ c0_10) (hr0_14 : Kd.C P.k52 w A0_14 l0_14.length l0_14) (hc0_14 : l0_14.length ≤ c0_14) (p1 : 1 ≤ a0_0) (p2 : a0_0 ≤ 19) (p3 : 0 ≤ a0_1) (p4 : a0_1 < 16) (hodd : (six a0_2 a0_3 a0_4 a0_5 a0_6 a0_7).any oddP = false) (q1 : 0 ≤ a0_8) (q2 : a0_8 ≤ 3) (q3 : 0 ≤ a0_11) (q4 : a0_11 ≤ 64) (v1 : 0 < (l0_10.length : Int)) (hv : vchk l0_10 = 0) (s1 : 0 ≤ a0_12) (s2 : a0_12 ≤ 255) (s3 : (l0_14.length : Int) ≤ 64) (hfar : (dists l0_14).any oddP = true) :
    Calls Tryd.prog 11 #[.agg #[.int .i64 a0_0, .int .i64 a0_1, .int .i64 a0_2, .int .i64 a0_3, .int .i64 a0_4, .int .i64 a0_5, .int .i64 a0_6, .int .i64 a0_7, .int .i64 a0_8, .int .i64 a0_9, .slice A0_10 l0_10.length c0_10, .int .i64 a0_11, .int .i64 a0_12, .bool a0_13, .slice A0_14 l0_14.length c0_14, .string a0_15]] w fun e w' => e = .returned (.int .i64 1) ∧ Below w.heap.size w w' := by
  have HR10 := Aside0.mk hr0_10
  have HR14 := Aside0.mk hr0_14
  clear hr0_10 hr0_14
  have HODD := Aside0.mk hodd
  clear hodd
  have HV := Aside0.mk hv
  clear hv
  have HFAR := Aside0.mk hfar
  clear hfar
  go_enter Tryd.func11, Tryd.ntmps11
  go_wp2_with (first | (go_at_call 27; refine (hasOdd_any _ (six a0_2 a0_3 a0_4 a0_5 a0_6 a0_7) 6 _ false (lit_C _ _ 3 _ _ (by simp) rfl (by simp [six])) HODD.out).mono ?_; rintro e w' ⟨rfl, rfl⟩) | (go_at_call 28; refine (check_any A0_10 l0_10 c0_10 (l0_10.length : Int) _ 0 (Kd.C_below HR10.out (by repeat (first | exact Below.refl _ _ | apply below_alloc | apply pw_below_drewN | apply below_drew1))) HV.out).mono ?_; rintro e w' ⟨rfl, rfl⟩) | (go_at_call 29; refine (hasFar_any A0_14 l0_14 c0_14 (w.heap.size + 1) _ true (Kd.C_below HR14.out (by repeat (first | exact Below.refl _ _ | apply below_alloc | apply pw_below_drewN | apply below_drew1))) (Lib.cell?_alloc_some _ ((cell_new2 _ _ _ _ (by simp) 0).trans rfl)) HFAR.out).mono ?_; rintro e w' ⟨rfl, hb⟩; have hk15 := blk_cell (blk_below (blk_alloc (blk_alloc (MapKept.heap_alloc w (.cells #[.int .i64 a0_0, .int .i64 a0_1, .int .i64 a0_2, .int .i64 a0_3, .int .i64 a0_4, .int .i64 a0_5, .int .i64 a0_6, .int .i64 a0_7, .int .i64 a0_8, .int .i64 a0_9, .slice A0_10 l0_10.length c0_10, .int .i64 a0_11, .int .i64 a0_12, .bool a0_13, .slice A0_14 l0_14.length c0_14, .string a0_15] 30 (0, 0))).1 _) _) hb) 15; have HBB := Aside0.mk hb; clear hb) | fail)
  go_ret
  exact ⟨rfl, Below.trans (b := _) (by repeat (first | exact Below.refl _ _ | apply below_alloc | apply pw_below_drewN | apply below_drew1)) (HBB.out.mono (below_size (by repeat (first | exact Below.refl _ _ | apply below_alloc | apply pw_below_drewN | apply below_drew1))))⟩
set_option maxRecDepth 100000 in
set_option maxHeartbeats 4000000 in
theorem chk_6v (a0_0 a0_1 a0_2 a0_3 a0_4 a0_5 a0_6 a0_7 a0_8 a0_9 : Int) (A0_10 : Option Addr) (c0_10 : Nat) (l0_10 : List Int) (a0_11 a0_12 : Int) (a0_13 : Bool) (A0_14 : Option Addr) (c0_14 : Nat) (l0_14 : List (P.S52)) (a0_15 : ByteArray) (w : World) (hr0_10 : Kd.C (Kd.int .i64) w A0_10 l0_10.length l0_10) (hc0_10 : l0_10.length ≤ c0_10) (hr0_14 : Kd.C P.k52 w A0_14 l0_14.length l0_14) (hc0_14 : l0_14.length ≤ c0_14) (p1 : 1 ≤ a0_0) (p2 : a0_0 ≤ 19) (p3 : 0 ≤ a0_1) (p4 : a0_1 < 16) (hodd : (six a0_2 a0_3 a0_4 a0_5 a0_6 a0_7).any oddP = false) (q1 : 0 ≤ a0_8) (q2 : a0_8 ≤ 3) (q3 : 0 ≤ a0_11) (q4 : a0_11 ≤ 64) (v1 : 0 < (l0_10.length : Int)) (hv : vchk l0_10 = 0) (s1 : 0 ≤ a0_12) (s2 : a0_12 ≤ 255) (s3 : (l0_14.length : Int) ≤ 64) (hfar : (dists l0_14).any oddP = false) (t1 : 262144 < (a0_15.size : Int)) :
    Calls Tryd.prog 11 #[.agg #[.int .i64 a0_0, .int .i64 a0_1, .int .i64 a0_2, .int .i64 a0_3, .int .i64 a0_4, .int .i64 a0_5, .int .i64 a0_6, .int .i64 a0_7, .int .i64 a0_8, .int .i64 a0_9, .slice A0_10 l0_10.length c0_10, .int .i64 a0_11, .int .i64 a0_12, .bool a0_13, .slice A0_14 l0_14.length c0_14, .string a0_15]] w fun e w' => e = .returned (.int .i64 1) ∧ Below w.heap.size w w' := by
  have HR10 := Aside0.mk hr0_10
  have HR14 := Aside0.mk hr0_14
  clear hr0_10 hr0_14
  have HODD := Aside0.mk hodd
  clear hodd
  have HV := Aside0.mk hv
  clear hv
  have HFAR := Aside0.mk hfar
  clear hfar
  go_enter Tryd.func11, Tryd.ntmps11
  go_wp2_with (first | (go_at_call 27; refine (hasOdd_any _ (six a0_2 a0_3 a0_4 a0_5 a0_6 a0_7) 6 _ false (lit_C _ _ 3 _ _ (by simp) rfl (by simp [six])) HODD.out).mono ?_; rintro e w' ⟨rfl, rfl⟩) | (go_at_call 28; refine (check_any A0_10 l0_10 c0_10 (l0_10.length : Int) _ 0 (Kd.C_below HR10.out (by repeat (first | exact Below.refl _ _ | apply below_alloc | apply pw_below_drewN | apply below_drew1))) HV.out).mono ?_; rintro e w' ⟨rfl, rfl⟩) | (go_at_call 29; refine (hasFar_any A0_14 l0_14 c0_14 (w.heap.size + 1) _ false (Kd.C_below HR14.out (by repeat (first | exact Below.refl _ _ | apply below_alloc | apply pw_below_drewN | apply below_drew1))) (Lib.cell?_alloc_some _ ((cell_new2 _ _ _ _ (by simp) 0).trans rfl)) HFAR.out).mono ?_; rintro e w' ⟨rfl, hb⟩; have hk15 := blk_cell (blk_below (blk_alloc (blk_alloc (MapKept.heap_alloc w (.cells #[.int .i64 a0_0, .int .i64 a0_1, .int .i64 a0_2, .int .i64 a0_3, .int .i64 a0_4, .int .i64 a0_5, .int .i64 a0_6, .int .i64 a0_7, .int .i64 a0_8, .int .i64 a0_9, .slice A0_10 l0_10.length c0_10, .int .i64 a0_11, .int .i64 a0_12, .bool a0_13, .slice A0_14 l0_14.length c0_14, .string a0_15] 30 (0, 0))).1 _) _) hb) 15; have HBB := Aside0.mk hb; clear hb) | fail)
  go_ret
  exact ⟨rfl, Below.trans (b := _) (by repeat (first | exact Below.refl _ _ | apply below_alloc | apply pw_below_drewN | apply below_drew1)) (HBB.out.mono (below_size (by repeat (first | exact Below.refl _ _ | apply below_alloc | apply pw_below_drewN | apply below_drew1))))⟩
set_option maxRecDepth 100000 in
set_option maxHeartbeats 4000000 in
theorem chk_7v (a0_0 a0_1 a0_2 a0_3 a0_4 a0_5 a0_6 a0_7 a0_8 a0_9 : Int) (A0_10 : Option Addr) (c0_10 : Nat) (l0_10 : List Int) (a0_11 a0_12 : Int) (a0_13 : Bool) (A0_14 : Option Addr) (c0_14 : Nat) (l0_14 : List (P.S52)) (a0_15 : ByteArray) (w : World) (hr0_10 : Kd.C (Kd.int .i64) w A0_10 l0_10.length l0_10) (hc0_10 : l0_10.length ≤ c0_10) (hr0_14 : Kd.C P.k52 w A0_14 l0_14.length l0_14) (hc0_14 : l0_14.length ≤ c0_14) (p1 : 1 ≤ a0_0) (p2 : a0_0 ≤ 19) (p3 : 0 ≤ a0_1) (p4 : a0_1 < 16) (hodd : (six a0_2 a0_3 a0_4 a0_5 a0_6 a0_7).any oddP = false) (q1 : 0 ≤ a0_8) (q2 : a0_8 ≤ 3) (q3 : 0 ≤ a0_11) (q4 : a0_11 ≤ 64) (v1 : 0 < (l0_10.length : Int)) (hv : vchk l0_10 = 0) (s1 : 0 ≤ a0_12) (s2 : a0_12 ≤ 255) (s3 : (l0_14.length : Int) ≤ 64) (hfar : (dists l0_14).any oddP = false) (t1 : (a0_15.size : Int) ≤ 262144) :
    Calls Tryd.prog 11 #[.agg #[.int .i64 a0_0, .int .i64 a0_1, .int .i64 a0_2, .int .i64 a0_3, .int .i64 a0_4, .int .i64 a0_5, .int .i64 a0_6, .int .i64 a0_7, .int .i64 a0_8, .int .i64 a0_9, .slice A0_10 l0_10.length c0_10, .int .i64 a0_11, .int .i64 a0_12, .bool a0_13, .slice A0_14 l0_14.length c0_14, .string a0_15]] w fun e w' => e = .returned (.int .i64 0) ∧ Below w.heap.size w w' := by
  have HR10 := Aside0.mk hr0_10
  have HR14 := Aside0.mk hr0_14
  clear hr0_10 hr0_14
  have HODD := Aside0.mk hodd
  clear hodd
  have HV := Aside0.mk hv
  clear hv
  have HFAR := Aside0.mk hfar
  clear hfar
  go_enter Tryd.func11, Tryd.ntmps11
  go_wp2_with (first | (go_at_call 27; refine (hasOdd_any _ (six a0_2 a0_3 a0_4 a0_5 a0_6 a0_7) 6 _ false (lit_C _ _ 3 _ _ (by simp) rfl (by simp [six])) HODD.out).mono ?_; rintro e w' ⟨rfl, rfl⟩) | (go_at_call 28; refine (check_any A0_10 l0_10 c0_10 (l0_10.length : Int) _ 0 (Kd.C_below HR10.out (by repeat (first | exact Below.refl _ _ | apply below_alloc | apply pw_below_drewN | apply below_drew1))) HV.out).mono ?_; rintro e w' ⟨rfl, rfl⟩) | (go_at_call 29; refine (hasFar_any A0_14 l0_14 c0_14 (w.heap.size + 1) _ false (Kd.C_below HR14.out (by repeat (first | exact Below.refl _ _ | apply below_alloc | apply pw_below_drewN | apply below_drew1))) (Lib.cell?_alloc_some _ ((cell_new2 _ _ _ _ (by simp) 0).trans rfl)) HFAR.out).mono ?_; rintro e w' ⟨rfl, hb⟩; have hk15 := blk_cell (blk_below (blk_alloc (blk_alloc (MapKept.heap_alloc w (.cells #[.int .i64 a0_0, .int .i64 a0_1, .int .i64 a0_2, .int .i64 a0_3, .int .i64 a0_4, .int .i64 a0_5, .int .i64 a0_6, .int .i64 a0_7, .int .i64 a0_8, .int .i64 a0_9, .slice A0_10 l0_10.length c0_10, .int .i64 a0_11, .int .i64 a0_12, .bool a0_13, .slice A0_14 l0_14.length c0_14, .string a0_15] 30 (0, 0))).1 _) _) hb) 15; have HBB := Aside0.mk hb; clear hb) | fail)
  go_ret
  exact ⟨rfl, Below.trans (b := _) (by repeat (first | exact Below.refl _ _ | apply below_alloc | apply pw_below_drewN | apply below_drew1)) (HBB.out.mono (below_size (by repeat (first | exact Below.refl _ _ | apply below_alloc | apply pw_below_drewN | apply below_drew1))))⟩
set_option maxRecDepth 100000 in
set_option maxHeartbeats 4000000 in
theorem chk_5an (a0_0 a0_1 a0_2 a0_3 a0_4 a0_5 a0_6 a0_7 a0_8 a0_9 : Int) (A0_10 : Option Addr) (c0_10 : Nat) (l0_10 : List Int) (a0_11 a0_12 : Int) (a0_13 : Bool) (A0_14 : Option Addr) (c0_14 : Nat) (l0_14 : List (P.S52)) (a0_15 : ByteArray) (w : World) (hr0_10 : Kd.C (Kd.int .i64) w A0_10 l0_10.length l0_10) (hc0_10 : l0_10.length ≤ c0_10) (hr0_14 : Kd.C P.k52 w A0_14 l0_14.length l0_14) (hc0_14 : l0_14.length ≤ c0_14) (p1 : 1 ≤ a0_0) (p2 : a0_0 ≤ 19) (p3 : 0 ≤ a0_1) (p4 : a0_1 < 16) (hodd : (six a0_2 a0_3 a0_4 a0_5 a0_6 a0_7).any oddP = false) (q1 : 0 ≤ a0_8) (q2 : a0_8 ≤ 3) (q3 : 0 ≤ a0_11) (q4 : a0_11 ≤ 64) (v1 : (l0_10.length : Int) ≤ 0) (s1 : a0_12 < 0) :
    Calls Tryd.prog 11 #[.agg #[.int .i64 a0_0, .int .i64 a0_1, .int .i64 a0_2, .int .i64 a0_3, .int .i64 a0_4, .int .i64 a0_5, .int .i64 a0_6, .int .i64 a0_7, .int .i64 a0_8, .int .i64 a0_9, .slice A0_10 l0_10.length c0_10, .int .i64 a0_11, .int .i64 a0_12, .bool a0_13, .slice A0_14 l0_14.length c0_14, .string a0_15]] w fun e w' => e = .returned (.int .i64 1) ∧ Below w.heap.size w w' := by
  have HR10 := Aside0.mk hr0_10
  have HR14 := Aside0.mk hr0_14
  clear hr0_10 hr0_14
  have HODD := Aside0.mk hodd
  clear hodd
  go_enter Tryd.func11, Tryd.ntmps11
  go_wp2_with (first | (go_at_call 27; refine (hasOdd_any _ (six a0_2 a0_3 a0_4 a0_5 a0_6 a0_7) 6 _ false (lit_C _ _ 3 _ _ (by simp) rfl (by simp [six])) HODD.out).mono ?_; rintro e w' ⟨rfl, rfl⟩) | fail)
  go_ret
  exact ⟨rfl, (by repeat (first | exact Below.refl _ _ | apply below_alloc | apply pw_below_drewN | apply below_drew1))⟩
set_option maxRecDepth 100000 in
set_option maxHeartbeats 4000000 in
theorem chk_5bn (a0_0 a0_1 a0_2 a0_3 a0_4 a0_5 a0_6 a0_7 a0_8 a0_9 : Int) (A0_10 : Option Addr) (c0_10 : Nat) (l0_10 : List Int) (a0_11 a0_12 : Int) (a0_13 : Bool) (A0_14 : Option Addr) (c0_14 : Nat) (l0_14 : List (P.S52)) (a0_15 : ByteArray) (w : World) (hr0_10 : Kd.C (Kd.int .i64) w A0_10 l0_10.length l0_10) (hc0_10 : l0_10.length ≤ c0_10) (hr0_14 : Kd.C P.k52 w A0_14 l0_14.length l0_14) (hc0_14 : l0_14.length ≤ c0_14) (p1 : 1 ≤ a0_0) (p2 : a0_0 ≤ 19) (p3 : 0 ≤ a0_1) (p4 : a0_1 < 16) (hodd : (six a0_2 a0_3 a0_4 a0_5 a0_6 a0_7).any oddP = false) (q1 : 0 ≤ a0_8) (q2 : a0_8 ≤ 3) (q3 : 0 ≤ a0_11) (q4 : a0_11 ≤ 64) (v1 : (l0_10.length : Int) ≤ 0) (s1 : 0 ≤ a0_12) (s2 : 255 < a0_12) :
    Calls Tryd.prog 11 #[.agg #[.int .i64 a0_0, .int .i64 a0_1, .int .i64 a0_2, .int .i64 a0_3, .int .i64 a0_4, .int .i64 a0_5, .int .i64 a0_6, .int .i64 a0_7, .int .i64 a0_8, .int .i64 a0_9, .slice A0_10 l0_10.length c0_10, .int .i64 a0_11, .int .i64 a0_12, .bool a0_13, .slice A0_14 l0_14.length c0_14, .string a0_15]] w fun e w' => e = .returned (.int .i64 1) ∧ Below w.heap.size w w' := by
  have HR10 := Aside0.mk hr0_10
  have HR14 := Aside0.mk hr0_14
  clear hr0_10 hr0_14
  have HODD := Aside0.mk hodd
  clear hodd
  go_enter Tryd.func11, Tryd.ntmps11
  go_wp2_with (first | (go_at_call 27; refine (hasOdd_any _ (six a0_2 a0_3 a0_4 a0_5 a0_6 a0_7) 6 _ false (lit_C _ _ 3 _ _ (by simp) rfl (by simp [six])) HODD.out).mono ?_; rintro e w' ⟨rfl, rfl⟩) | fail)
  go_ret
  exact ⟨rfl, (by repeat (first | exact Below.refl _ _ | apply below_alloc | apply pw_below_drewN | apply below_drew1))⟩
set_option maxRecDepth 100000 in
set_option maxHeartbeats 4000000 in
theorem chk_5cn (a0_0 a0_1 a0_2 a0_3 a0_4 a0_5 a0_6 a0_7 a0_8 a0_9 : Int) (A0_10 : Option Addr) (c0_10 : Nat) (l0_10 : List Int) (a0_11 a0_12 : Int) (a0_13 : Bool) (A0_14 : Option Addr) (c0_14 : Nat) (l0_14 : List (P.S52)) (a0_15 : ByteArray) (w : World) (hr0_10 : Kd.C (Kd.int .i64) w A0_10 l0_10.length l0_10) (hc0_10 : l0_10.length ≤ c0_10) (hr0_14 : Kd.C P.k52 w A0_14 l0_14.length l0_14) (hc0_14 : l0_14.length ≤ c0_14) (p1 : 1 ≤ a0_0) (p2 : a0_0 ≤ 19) (p3 : 0 ≤ a0_1) (p4 : a0_1 < 16) (hodd : (six a0_2 a0_3 a0_4 a0_5 a0_6 a0_7).any oddP = false) (q1 : 0 ≤ a0_8) (q2 : a0_8 ≤ 3) (q3 : 0 ≤ a0_11) (q4 : a0_11 ≤ 64) (v1 : (l0_10.length : Int) ≤ 0) (s1 : 0 ≤ a0_12) (s2 : a0_12 ≤ 255) (s3 : 64 < (l0_14.length : Int)) :
    Calls Tryd.prog 11 #[.agg #[.int .i64 a0_0, .int .i64 a0_1, .int .i64 a0_2, .int .i64 a0_3, .int .i64 a0_4, .int .i64 a0_5, .int .i64 a0_6, .int .i64 a0_7, .int .i64 a0_8, .int .i64 a0_9, .slice A0_10 l0_10.length c0_10, .int .i64 a0_11, .int .i64 a0_12, .bool a0_13, .slice A0_14 l0_14.length c0_14, .string a0_15]] w fun e w' => e = .returned (.int .i64 1) ∧ Below w.heap.size w w' := by
  have HR10 := Aside0.mk hr0_10
  have HR14 := Aside0.mk hr0_14
  clear hr0_10 hr0_14
  have HODD := Aside0.mk hodd
  clear hodd
  go_enter Tryd.func11, Tryd.ntmps11
  go_wp2_with (first | (go_at_call 27; refine (hasOdd_any _ (six a0_2 a0_3 a0_4 a0_5 a0_6 a0_7) 6 _ false (lit_C _ _ 3 _ _ (by simp) rfl (by simp [six])) HODD.out).mono ?_; rintro e w' ⟨rfl, rfl⟩) | fail)
  go_ret
  exact ⟨rfl, (by repeat (first | exact Below.refl _ _ | apply below_alloc | apply pw_below_drewN | apply below_drew1))⟩
set_option maxRecDepth 100000 in
set_option maxHeartbeats 4000000 in
theorem chk_5dn (a0_0 a0_1 a0_2 a0_3 a0_4 a0_5 a0_6 a0_7 a0_8 a0_9 : Int) (A0_10 : Option Addr) (c0_10 : Nat) (l0_10 : List Int) (a0_11 a0_12 : Int) (a0_13 : Bool) (A0_14 : Option Addr) (c0_14 : Nat) (l0_14 : List (P.S52)) (a0_15 : ByteArray) (w : World) (hr0_10 : Kd.C (Kd.int .i64) w A0_10 l0_10.length l0_10) (hc0_10 : l0_10.length ≤ c0_10) (hr0_14 : Kd.C P.k52 w A0_14 l0_14.length l0_14) (hc0_14 : l0_14.length ≤ c0_14) (p1 : 1 ≤ a0_0) (p2 : a0_0 ≤ 19) (p3 : 0 ≤ a0_1) (p4 : a0_1 < 16) (hodd : (six a0_2 a0_3 a0_4 a0_5 a0_6 a0_7).any oddP = false) (q1 : 0 ≤ a0_8) (q2 : a0_8 ≤ 3) (q3 : 0 ≤ a0_11) (q4 : a0_11 ≤ 64) (v1 : (l0_10.length : Int) ≤ 0) (s1 : 0 ≤ a0_12) (s2 : a0_12 ≤ 255) (s3 : (l0_14.length : Int) ≤ 64) (hfar : (dists l0_14).any oddP = true) :
    Calls Tryd.prog 11 #[.agg #[.int .i64 a0_0, .int .i64 a0_1, .int .i64 a0_2, .int .i64 a0_3, .int .i64 a0_4, .int .i64 a0_5, .int .i64 a0_6, .int .i64 a0_7, .int .i64 a0_8, .int .i64 a0_9, .slice A0_10 l0_10.length c0_10, .int .i64 a0_11, .int .i64 a0_12, .bool a0_13, .slice A0_14 l0_14.length c0_14, .string a0_15]] w fun e w' => e = .returned (.int .i64 1) ∧ Below w.heap.size w w' := by
  have HR10 := Aside0.mk hr0_10
  have HR14 := Aside0.mk hr0_14
  clear hr0_10 hr0_14
  have HODD := Aside0.mk hodd
  clear hodd
  have HFAR := Aside0.mk hfar
  clear hfar
  go_enter Tryd.func11, Tryd.ntmps11
  go_wp2_with (first | (go_at_call 27; refine (hasOdd_any _ (six a0_2 a0_3 a0_4 a0_5 a0_6 a0_7) 6 _ false (lit_C _ _ 3 _ _ (by simp) rfl (by simp [six])) HODD.out).mono ?_; rintro e w' ⟨rfl, rfl⟩) | (go_at_call 29; refine (hasFar_any A0_14 l0_14 c0_14 (w.heap.size + 1) _ true (Kd.C_below HR14.out (by repeat (first | exact Below.refl _ _ | apply below_alloc | apply pw_below_drewN | apply below_drew1))) (Lib.cell?_alloc_some _ ((cell_new2 _ _ _ _ (by simp) 0).trans rfl)) HFAR.out).mono ?_; rintro e w' ⟨rfl, hb⟩; have hk15 := blk_cell (blk_below (blk_alloc (blk_alloc (MapKept.heap_alloc w (.cells #[.int .i64 a0_0, .int .i64 a0_1, .int .i64 a0_2, .int .i64 a0_3, .int .i64 a0_4, .int .i64 a0_5, .int .i64 a0_6, .int .i64 a0_7, .int .i64 a0_8, .int .i64 a0_9, .slice A0_10 l0_10.length c0_10, .int .i64 a0_11, .int .i64 a0_12, .bool a0_13, .slice A0_14 l0_14.length c0_14, .string a0_15] 30 (0, 0))).1 _) _) hb) 15; have HBB := Aside0.mk hb; clear hb) | fail)
  go_ret
  exact ⟨rfl, Below.trans (b := _) (by repeat (first | exact Below.refl _ _ | apply below_alloc | apply pw_below_drewN | apply below_drew1)) (HBB.out.mono (below_size (by repeat (first | exact Below.refl _ _ | apply below_alloc | apply pw_below_drewN | apply below_drew1))))⟩
set_option maxRecDepth 100000 in
set_option maxHeartbeats 4000000 in
theorem chk_6n (a0_0 a0_1 a0_2 a0_3 a0_4 a0_5 a0_6 a0_7 a0_8 a0_9 : Int) (A0_10 : Option Addr) (c0_10 : Nat) (l0_10 : List Int) (a0_11 a0_12 : Int) (a0_13 : Bool) (A0_14 : Option Addr) (c0_14 : Nat) (l0_14 : List (P.S52)) (a0_15 : ByteArray) (w : World) (hr0_10 : Kd.C (Kd.int .i64) w A0_10 l0_10.length l0_10) (hc0_10 : l0_10.length ≤ c0_10) (hr0_14 : Kd.C P.k52 w A0_14 l0_14.length l0_14) (hc0_14 : l0_14.length ≤ c0_14) (p1 : 1 ≤ a0_0) (p2 : a0_0 ≤ 19) (p3 : 0 ≤ a0_1) (p4 : a0_1 < 16) (hodd : (six a0_2 a0_3 a0_4 a0_5 a0_6 a0_7).any oddP = false) (q1 : 0 ≤ a0_8) (q2 : a0_8 ≤ 3) (q3 : 0 ≤ a0_11) (q4 : a0_11 ≤ 64) (v1 : (l0_10.length : Int) ≤ 0) (s1 : 0 ≤ a0_12) (s2 : a0_12 ≤ 255) (s3 : (l0_14.length : Int) ≤ 64) (hfar : (dists l0_14).any oddP = false) (t1 : 262144 < (a0_15.size : Int)) :
    Calls Tryd.prog 11 #[.agg #[.int .i64 a0_0, .int .i64 a0_1, .int .i64 a0_2, .int .i64 a0_3, .int .i64 a0_4, .int .i64 a0_5, .int .i64 a0_6, .int .i64 a0_7, .int .i64 a0_8, .int .i64 a0_9, .slice A0_10 l0_10.length c0_10, .int .i64 a0_11, .int .i64 a0_12, .bool a0_13, .slice A0_14 l0_14.length c0_14, .string a0_15]] w fun e w' => e = .returned (.int .i64 1) ∧ Below w.heap.size w w' := by
  have HR10 := Aside0.mk hr0_10
  have HR14 := Aside0.mk hr0_14
  clear hr0_10 hr0_14
  have HODD := Aside0.mk hodd
  clear hodd
  have HFAR := Aside0.mk hfar
  clear hfar
  go_enter Tryd.func11, Tryd.ntmps11
  go_wp2_with (first | (go_at_call 27; refine (hasOdd_any _ (six a0_2 a0_3 a0_4 a0_5 a0_6 a0_7) 6 _ false (lit_C _ _ 3 _ _ (by simp) rfl (by simp [six])) HODD.out).mono ?_; rintro e w' ⟨rfl, rfl⟩) | (go_at_call 29; refine (hasFar_any A0_14 l0_14 c0_14 (w.heap.size + 1) _ false (Kd.C_below HR14.out (by repeat (first | exact Below.refl _ _ | apply below_alloc | apply pw_below_drewN | apply below_drew1))) (Lib.cell?_alloc_some _ ((cell_new2 _ _ _ _ (by simp) 0).trans rfl)) HFAR.out).mono ?_; rintro e w' ⟨rfl, hb⟩; have hk15 := blk_cell (blk_below (blk_alloc (blk_alloc (MapKept.heap_alloc w (.cells #[.int .i64 a0_0, .int .i64 a0_1, .int .i64 a0_2, .int .i64 a0_3, .int .i64 a0_4, .int .i64 a0_5, .int .i64 a0_6, .int .i64 a0_7, .int .i64 a0_8, .int .i64 a0_9, .slice A0_10 l0_10.length c0_10, .int .i64 a0_11, .int .i64 a0_12, .bool a0_13, .slice A0_14 l0_14.length c0_14, .string a0_15] 30 (0, 0))).1 _) _) hb) 15; have HBB := Aside0.mk hb; clear hb) | fail)
  go_ret
  exact ⟨rfl, Below.trans (b := _) (by repeat (first | exact Below.refl _ _ | apply below_alloc | apply pw_below_drewN | apply below_drew1)) (HBB.out.mono (below_size (by repeat (first | exact Below.refl _ _ | apply below_alloc | apply pw_below_drewN | apply below_drew1))))⟩
set_option maxRecDepth 100000 in
set_option maxHeartbeats 4000000 in
theorem chk_7n (a0_0 a0_1 a0_2 a0_3 a0_4 a0_5 a0_6 a0_7 a0_8 a0_9 : Int) (A0_10 : Option Addr) (c0_10 : Nat) (l0_10 : List Int) (a0_11 a0_12 : Int) (a0_13 : Bool) (A0_14 : Option Addr) (c0_14 : Nat) (l0_14 : List (P.S52)) (a0_15 : ByteArray) (w : World) (hr0_10 : Kd.C (Kd.int .i64) w A0_10 l0_10.length l0_10) (hc0_10 : l0_10.length ≤ c0_10) (hr0_14 : Kd.C P.k52 w A0_14 l0_14.length l0_14) (hc0_14 : l0_14.length ≤ c0_14) (p1 : 1 ≤ a0_0) (p2 : a0_0 ≤ 19) (p3 : 0 ≤ a0_1) (p4 : a0_1 < 16) (hodd : (six a0_2 a0_3 a0_4 a0_5 a0_6 a0_7).any oddP = false) (q1 : 0 ≤ a0_8) (q2 : a0_8 ≤ 3) (q3 : 0 ≤ a0_11) (q4 : a0_11 ≤ 64) (v1 : (l0_10.length : Int) ≤ 0) (s1 : 0 ≤ a0_12) (s2 : a0_12 ≤ 255) (s3 : (l0_14.length : Int) ≤ 64) (hfar : (dists l0_14).any oddP = false) (t1 : (a0_15.size : Int) ≤ 262144) :
    Calls Tryd.prog 11 #[.agg #[.int .i64 a0_0, .int .i64 a0_1, .int .i64 a0_2, .int .i64 a0_3, .int .i64 a0_4, .int .i64 a0_5, .int .i64 a0_6, .int .i64 a0_7, .int .i64 a0_8, .int .i64 a0_9, .slice A0_10 l0_10.length c0_10, .int .i64 a0_11, .int .i64 a0_12, .bool a0_13, .slice A0_14 l0_14.length c0_14, .string a0_15]] w fun e w' => e = .returned (.int .i64 0) ∧ Below w.heap.size w w' := by
  have HR10 := Aside0.mk hr0_10
  have HR14 := Aside0.mk hr0_14
  clear hr0_10 hr0_14
  have HODD := Aside0.mk hodd
  clear hodd
  have HFAR := Aside0.mk hfar
  clear hfar
  go_enter Tryd.func11, Tryd.ntmps11
  go_wp2_with (first | (go_at_call 27; refine (hasOdd_any _ (six a0_2 a0_3 a0_4 a0_5 a0_6 a0_7) 6 _ false (lit_C _ _ 3 _ _ (by simp) rfl (by simp [six])) HODD.out).mono ?_; rintro e w' ⟨rfl, rfl⟩) | (go_at_call 29; refine (hasFar_any A0_14 l0_14 c0_14 (w.heap.size + 1) _ false (Kd.C_below HR14.out (by repeat (first | exact Below.refl _ _ | apply below_alloc | apply pw_below_drewN | apply below_drew1))) (Lib.cell?_alloc_some _ ((cell_new2 _ _ _ _ (by simp) 0).trans rfl)) HFAR.out).mono ?_; rintro e w' ⟨rfl, hb⟩; have hk15 := blk_cell (blk_below (blk_alloc (blk_alloc (MapKept.heap_alloc w (.cells #[.int .i64 a0_0, .int .i64 a0_1, .int .i64 a0_2, .int .i64 a0_3, .int .i64 a0_4, .int .i64 a0_5, .int .i64 a0_6, .int .i64 a0_7, .int .i64 a0_8, .int .i64 a0_9, .slice A0_10 l0_10.length c0_10, .int .i64 a0_11, .int .i64 a0_12, .bool a0_13, .slice A0_14 l0_14.length c0_14, .string a0_15] 30 (0, 0))).1 _) _) hb) 15; have HBB := Aside0.mk hb; clear hb) | fail)
  go_ret
  exact ⟨rfl, Below.trans (b := _) (by repeat (first | exact Below.refl _ _ | apply below_alloc | apply pw_below_drewN | apply below_drew1)) (HBB.out.mono (below_size (by repeat (first | exact Below.refl _ _ | apply below_alloc | apply pw_below_drewN | apply below_drew1))))⟩
theorem post_Check.calls (a0_0 a0_1 a0_2 a0_3 a0_4 a0_5 a0_6 a0_7 a0_8 a0_9 : Int) (A0_10 : Option Addr) (c0_10 : Nat) (l0_10 : List Int) (a0_11 a0_12 : Int) (a0_13 : Bool) (A0_14 : Option Addr) (c0_14 : Nat) (l0_14 : List (P.S52)) (a0_15 : ByteArray) (w : World) (hr0_10 : Kd.C (Kd.int .i64) w A0_10 l0_10.length l0_10) (hc0_10 : l0_10.length ≤ c0_10) (hr0_14 : Kd.C P.k52 w A0_14 l0_14.length l0_14) (hc0_14 : l0_14.length ≤ c0_14) (r : Int) (h : post_Check.f a0_0 a0_1 a0_2 a0_3 a0_4 a0_5 a0_6 a0_7 a0_8 a0_9 l0_10 a0_11 a0_12 a0_13 l0_14 a0_15 = some r) :
  Calls Tryd.prog 11 #[.agg #[.int .i64 a0_0, .int .i64 a0_1, .int .i64 a0_2, .int .i64 a0_3, .int .i64 a0_4, .int .i64 a0_5, .int .i64 a0_6, .int .i64 a0_7, .int .i64 a0_8, .int .i64 a0_9, .slice A0_10 l0_10.length c0_10, .int .i64 a0_11, .int .i64 a0_12, .bool a0_13, .slice A0_14 l0_14.length c0_14, .string a0_15]] w fun e w' => e = .returned (.int .i64 r) ∧ Below w.heap.size w w' := by
 unfold post_Check.f at h
 obtain rfl := Option.some.inj h
 clear h
 unfold mayM
 by_cases p1 : a0_0 < 1
 ·
  rw [if_neg (by simp [p1])]; exact chk_1a a0_0 a0_1 a0_2 a0_3 a0_4 a0_5 a0_6 a0_7 a0_8 a0_9 A0_10 c0_10 l0_10 a0_11 a0_12 a0_13 A0_14 c0_14 l0_14 a0_15 w hr0_10 hc0_10 hr0_14 hc0_14 p1
 by_cases p2 : 19 < a0_0
 ·
  rw [if_neg (by simp [p2])]; exact chk_1b a0_0 a0_1 a0_2 a0_3 a0_4 a0_5 a0_6 a0_7 a0_8 a0_9 A0_10 c0_10 l0_10 a0_11 a0_12 a0_13 A0_14 c0_14 l0_14 a0_15 w hr0_10 hc0_10 hr0_14 hc0_14 (by omega) p2
 by_cases p3 : a0_1 < 0
 ·
  rw [if_neg (by simp [p3])]; exact chk_1c a0_0 a0_1 a0_2 a0_3 a0_4 a0_5 a0_6 a0_7 a0_8 a0_9 A0_10 c0_10 l0_10 a0_11 a0_12 a0_13 A0_14 c0_14 l0_14 a0_15 w hr0_10 hc0_10 hr0_14 hc0_14 (by omega) (by omega) p3
 by_cases p4 : 16 ≤ a0_1
 ·
  rw [if_neg (by simp [p4])]; exact chk_1d a0_0 a0_1 a0_2 a0_3 a0_4 a0_5 a0_6 a0_7 a0_8 a0_9 A0_10 c0_10 l0_10 a0_11 a0_12 a0_13 A0_14 c0_14 l0_14 a0_15 w hr0_10 hc0_10 hr0_14 hc0_14 (by omega) (by omega) (by omega) p4
 cases hodd : (six a0_2 a0_3 a0_4 a0_5 a0_6 a0_7).any oddP with
 | true => rw [if_neg (by simp)]; exact chk_2 a0_0 a0_1 a0_2 a0_3 a0_4 a0_5 a0_6 a0_7 a0_8 a0_9 A0_10 c0_10 l0_10 a0_11 a0_12 a0_13 A0_14 c0_14 l0_14 a0_15 w hr0_10 hc0_10 hr0_14 hc0_14 (by omega) (by omega) (by omega) (by omega) hodd
 | false =>
 by_cases q1 : a0_8 < 0
 ·
  rw [if_neg (by simp [q1])]; exact chk_3a a0_0 a0_1 a0_2 a0_3 a0_4 a0_5 a0_6 a0_7 a0_8 a0_9 A0_10 c0_10 l0_10 a0_11 a0_12 a0_13 A0_14 c0_14 l0_14 a0_15 w hr0_10 hc0_10 hr0_14 hc0_14 (by omega) (by omega) (by omega) (by omega) hodd q1
 by_cases q2 : 3 < a0_8
 ·
  rw [if_neg (by simp [q2])]; exact chk_3b a0_0 a0_1 a0_2 a0_3 a0_4 a0_5 a0_6 a0_7 a0_8 a0_9 A0_10 c0_10 l0_10 a0_11 a0_12 a0_13 A0_14 c0_14 l0_14 a0_15 w hr0_10 hc0_10 hr0_14 hc0_14 (by omega) (by omega) (by omega) (by omega) hodd (by omega) q2
 by_cases q3 : a0_11 < 0
 ·
  rw [if_neg (by simp [q3])]; exact chk_3c a0_0 a0_1 a0_2 a0_3 a0_4 a0_5 a0_6 a0_7 a0_8 a0_9 A0_10 c0_10 l0_10 a0_11 a0_12 a0_13 A0_14 c0_14 l0_14 a0_15 w hr0_10 hc0_10 hr0_14 hc0_14 (by omega) (by omega) (by omega) (by omega) hodd (by omega) (by omega) q3
 by_cases q4 : 64 < a0_11
 ·
  rw [if_neg (by simp [q4])]; exact chk_3d a0_0 a0_1 a0_2 a0_3 a0_4 a0_5 a0_6 a0_7 a0_8 a0_9 A0_10 c0_10 l0_10 a0_11 a0_12 a0_13 A0_14 c0_14 l0_14 a0_15 w hr0_10 hc0_10 hr0_14 hc0_14 (by omega) (by omega) (by omega) (by omega) hodd (by omega) (by omega) (by omega) q4
 by_cases v1 : 0 < l0_10.length
 ·
  cases hv : isV l0_10 with
  | false => rw [if_neg (by simp [v1])]; exact chk_4 a0_0 a0_1 a0_2 a0_3 a0_4 a0_5 a0_6 a0_7 a0_8 a0_9 A0_10 c0_10 l0_10 a0_11 a0_12 a0_13 A0_14 c0_14 l0_14 a0_15 w hr0_10 hc0_10 hr0_14 hc0_14 (by omega) (by omega) (by omega) (by omega) hodd (by omega) (by omega) (by omega) (by omega) (by omega) (by rw [check_eq, hv]; rfl)
  | true =>
   have hv0 : vchk l0_10 = 0 := by rw [check_eq, hv]; rfl
   by_cases s1 : a0_12 < 0
   ·
    rw [if_neg (by simp [s1])]; exact chk_5av a0_0 a0_1 a0_2 a0_3 a0_4 a0_5 a0_6 a0_7 a0_8 a0_9 A0_10 c0_10 l0_10 a0_11 a0_12 a0_13 A0_14 c0_14 l0_14 a0_15 w hr0_10 hc0_10 hr0_14 hc0_14 (by omega) (by omega) (by omega) (by omega) hodd (by omega) (by omega) (by omega) (by omega) (by omega) hv0 s1
   by_cases s2 : 255 < a0_12
   ·
    rw [if_neg (by simp [s2])]; exact chk_5bv a0_0 a0_1 a0_2 a0_3 a0_4 a0_5 a0_6 a0_7 a0_8 a0_9 A0_10 c0_10 l0_10 a0_11 a0_12 a0_13 A0_14 c0_14 l0_14 a0_15 w hr0_10 hc0_10 hr0_14 hc0_14 (by omega) (by omega) (by omega) (by omega) hodd (by omega) (by omega) (by omega) (by omega) (by omega) hv0 (by omega) s2
   by_cases s3 : 64 < l0_14.length
   ·
    rw [if_neg (by simp [s3])]; exact chk_5cv a0_0 a0_1 a0_2 a0_3 a0_4 a0_5 a0_6 a0_7 a0_8 a0_9 A0_10 c0_10 l0_10 a0_11 a0_12 a0_13 A0_14 c0_14 l0_14 a0_15 w hr0_10 hc0_10 hr0_14 hc0_14 (by omega) (by omega) (by omega) (by omega) hodd (by omega) (by omega) (by omega) (by omega) (by omega) hv0 (by omega) (by omega) (by omega)
   cases hfar : (dists l0_14).any oddP with
   | true => rw [if_neg (by simp)]; exact chk_5dv a0_0 a0_1 a0_2 a0_3 a0_4 a0_5 a0_6 a0_7 a0_8 a0_9 A0_10 c0_10 l0_10 a0_11 a0_12 a0_13 A0_14 c0_14 l0_14 a0_15 w hr0_10 hc0_10 hr0_14 hc0_14 (by omega) (by omega) (by omega) (by omega) hodd (by omega) (by omega) (by omega) (by omega) (by omega) hv0 (by omega) (by omega) (by omega) hfar
   | false =>
   by_cases t1 : 262144 < a0_15.size
   ·
    rw [if_neg (by simp [t1])]; exact chk_6v a0_0 a0_1 a0_2 a0_3 a0_4 a0_5 a0_6 a0_7 a0_8 a0_9 A0_10 c0_10 l0_10 a0_11 a0_12 a0_13 A0_14 c0_14 l0_14 a0_15 w hr0_10 hc0_10 hr0_14 hc0_14 (by omega) (by omega) (by omega) (by omega) hodd (by omega) (by omega) (by omega) (by omega) (by omega) hv0 (by omega) (by omega) (by omega) hfar (by omega)
   ·
    rw [if_pos (by simp [p1, p2, p3, p4, q1, q2, q3, q4, s1, s2, s3, t1, v1]; try omega)]; exact chk_7v a0_0 a0_1 a0_2 a0_3 a0_4 a0_5 a0_6 a0_7 a0_8 a0_9 A0_10 c0_10 l0_10 a0_11 a0_12 a0_13 A0_14 c0_14 l0_14 a0_15 w hr0_10 hc0_10 hr0_14 hc0_14 (by omega) (by omega) (by omega) (by omega) hodd (by omega) (by omega) (by omega) (by omega) (by omega) hv0 (by omega) (by omega) (by omega) hfar (by omega)
 ·
  by_cases s1 : a0_12 < 0
  ·
   rw [if_neg (by simp [s1])]; exact chk_5an a0_0 a0_1 a0_2 a0_3 a0_4 a0_5 a0_6 a0_7 a0_8 a0_9 A0_10 c0_10 l0_10 a0_11 a0_12 a0_13 A0_14 c0_14 l0_14 a0_15 w hr0_10 hc0_10 hr0_14 hc0_14 (by omega) (by omega) (by omega) (by omega) hodd (by omega) (by omega) (by omega) (by omega) (by omega) s1
  by_cases s2 : 255 < a0_12
  ·
   rw [if_neg (by simp [s2])]; exact chk_5bn a0_0 a0_1 a0_2 a0_3 a0_4 a0_5 a0_6 a0_7 a0_8 a0_9 A0_10 c0_10 l0_10 a0_11 a0_12 a0_13 A0_14 c0_14 l0_14 a0_15 w hr0_10 hc0_10 hr0_14 hc0_14 (by omega) (by omega) (by omega) (by omega) hodd (by omega) (by omega) (by omega) (by omega) (by omega) (by omega) s2
  by_cases s3 : 64 < l0_14.length
  ·
   rw [if_neg (by simp [s3])]; exact chk_5cn a0_0 a0_1 a0_2 a0_3 a0_4 a0_5 a0_6 a0_7 a0_8 a0_9 A0_10 c0_10 l0_10 a0_11 a0_12 a0_13 A0_14 c0_14 l0_14 a0_15 w hr0_10 hc0_10 hr0_14 hc0_14 (by omega) (by omega) (by omega) (by omega) hodd (by omega) (by omega) (by omega) (by omega) (by omega) (by omega) (by omega) (by omega)
  cases hfar : (dists l0_14).any oddP with
  | true => rw [if_neg (by simp)]; exact chk_5dn a0_0 a0_1 a0_2 a0_3 a0_4 a0_5 a0_6 a0_7 a0_8 a0_9 A0_10 c0_10 l0_10 a0_11 a0_12 a0_13 A0_14 c0_14 l0_14 a0_15 w hr0_10 hc0_10 hr0_14 hc0_14 (by omega) (by omega) (by omega) (by omega) hodd (by omega) (by omega) (by omega) (by omega) (by omega) (by omega) (by omega) (by omega) hfar
  | false =>
  by_cases t1 : 262144 < a0_15.size
  ·
   rw [if_neg (by simp [t1])]; exact chk_6n a0_0 a0_1 a0_2 a0_3 a0_4 a0_5 a0_6 a0_7 a0_8 a0_9 A0_10 c0_10 l0_10 a0_11 a0_12 a0_13 A0_14 c0_14 l0_14 a0_15 w hr0_10 hc0_10 hr0_14 hc0_14 (by omega) (by omega) (by omega) (by omega) hodd (by omega) (by omega) (by omega) (by omega) (by omega) (by omega) (by omega) (by omega) hfar (by omega)
  ·
   rw [if_pos (by simp [p1, p2, p3, p4, q1, q2, q3, q4, s1, s2, s3, t1, v1]; try omega)]; exact chk_7n a0_0 a0_1 a0_2 a0_3 a0_4 a0_5 a0_6 a0_7 a0_8 a0_9 A0_10 c0_10 l0_10 a0_11 a0_12 a0_13 A0_14 c0_14 l0_14 a0_15 w hr0_10 hc0_10 hr0_14 hc0_14 (by omega) (by omega) (by omega) (by omega) hodd (by omega) (by omega) (by omega) (by omega) (by omega) (by omega) (by omega) (by omega) hfar (by omega)
def intW (n : Int) : P.S49 := ⟨1, n, ⟨#[]⟩, []⟩
def lisW (l : List Int) : P.S49 := ⟨3, 0, ⟨#[]⟩, l.map intW⟩
theorem list_calls (A : Option Addr) (n c : Nat) (w : World) :
    Calls Tryd.prog 19 #[.slice A n c] w fun e w' => e = .returned (.agg #[.int .i64 3, .int .i64 0, .string ⟨#[]⟩, .slice A n c]) ∧ Below w.heap.size w w' := by
  go_enter Tryd.func19, Tryd.ntmps19
  go_wp2
  refine bodyPost_ret (results_cell_row rfl _ _ w.heap.size 49 #[.int .i64 3, .int .i64 0, .string ⟨#[]⟩, .slice A n c] (0, 0) _ rfl (MapKept.heap_alloc w _).1 Tryd.underlying49 rfl (by kernel_rfl)) rfl ?_
  exact ⟨rfl, (Below.refl _ _).alloc (Nat.le_refl _) _⟩
def offN (k : Nat) : Nat := if k = 10 then 11 else k
def ptrs (b : Nat) : Array Value := #[.pointer (some ⟨b, 0, none⟩), .pointer (some ⟨b, 1, none⟩), .pointer (some ⟨b, 2, none⟩), .pointer (some ⟨b, 3, none⟩), .pointer (some ⟨b, 4, none⟩), .pointer (some ⟨b, 5, none⟩), .pointer (some ⟨b, 6, none⟩), .pointer (some ⟨b, 7, none⟩), .pointer (some ⟨b, 8, none⟩), .pointer (some ⟨b, 9, none⟩), .pointer (some ⟨b, 11, none⟩)]
theorem ptrs_at (b k : Nat) (h : k < 11) : (ptrs b)[k]? = some (.pointer (some ⟨b, offN k, none⟩)) := by
  have : k = 0 ∨ k = 1 ∨ k = 2 ∨ k = 3 ∨ k = 4 ∨ k = 5 ∨ k = 6 ∨ k = 7 ∨ k = 8 ∨ k = 9 ∨ k = 10 := by omega
  rcases this with rfl | rfl | rfl | rfl | rfl | rfl | rfl | rfl | rfl | rfl | rfl <;> rfl
set_option maxRecDepth 100000 in
set_option maxHeartbeats 4000000 in
theorem numbers_calls (b : Nat) (w : World) :
    Calls Tryd.prog 15 #[.pointer (some ⟨b, 0, none⟩)] w fun e w' => ∃ g, e = .returned (.slice (some ⟨g, 0, none⟩) 11 11) ∧ w.heap.size ≤ g ∧ w'.heap[g]? = some (.cells (ptrs b) 47 (0, 0)) ∧ Below w.heap.size w w' := by
  go_enter Tryd.func15, Tryd.ntmps15
  go_wp2_with fail
  go_region_held3 (fun _ => True) (exact trivial) (fail)
  go_wp2
  go_ret
  refine ⟨w.heap.size, rfl, Nat.le_refl _, ?_, ?_⟩
  · exact (MapKept.heap_alloc w _).1
  · exact (below_drew1 ((Below.refl _ _).alloc (Nat.le_refl _) _))
theorem len_take_map {α β : Type} (l : List α) (f : α → β) (k : Nat) (h : k < l.length) : (l.take (k + 1)).map f = (l.take k).map f ++ [f l[k]] := by
  rw [List.take_succ_eq_append_getElem h, List.map_append]; rfl
theorem info_val : (Tryd.prog.info? 49).map (fun i => (i.zero, i.size, i.bytes)) = some (some (.agg #[.int .i64 0, .int .i64 0, .string ⟨#[]⟩, .slice none 0 0]), 4, 56) := by kernel_rfl
set_option maxRecDepth 100000 in
set_option maxHeartbeats 4000000 in
theorem ints_calls (A : Option Addr) (c : Nat) (l : List Int) (w : World) (hC : (Kd.int .i64).C w A l.length l) (hl : l.length ≤ 1000) :
  Calls Tryd.prog 17 #[.slice A l.length c] w fun e w' => ∃ v, e = .returned (.agg #[.int .i64 3, .int .i64 0, .string ⟨#[]⟩, v]) ∧ Kd.R P.k49 49 w' w.heap.size (fun _ => True) v (l.map intW) ∧ Below w.heap.size w w' := by
 have HC := Aside0.mk hC
 clear hC
 have hB0 := Aside0.mk ((Below.refl w.heap.size w).alloc (Nat.le_refl _) (.cells #[.int .i64 0, .int .i64 0, .string ⟨#[]⟩, .slice none 0 0] 49))
 have hK0 := Aside0.mk (MapKept.heap_alloc w (.cells #[.int .i64 0, .int .i64 0, .string ⟨#[]⟩, .slice none 0 0] 49 (0, 0))).1
 go_enter Tryd.func17, Tryd.ntmps17
 go_wp2_with fail
 go_loopw [3, 8] (fun v3 i wr => ∃ k : Nat, k ≤ l.length ∧ i = .int .i64 k ∧ Aside0 (Kd.R P.k49 49 wr w.heap.size (fun k_ => k_ ≠ w.heap.size) v3 ((l.take k).map intW)) ∧ Aside0 (Below w.heap.size w wr) ∧ Aside0 (wr.heap[w.heap.size]? = some (.cells #[.int .i64 0, .int .i64 0, .string ⟨#[]⟩, .slice none 0 0] 49 (0, 0)))) (fun _ i _ => l.length - (Go.RowKit.intOf i).toNat)
 case atStart => exact ⟨0, Nat.zero_le _, rfl, ⟨by simpa using Kd.R_nil P.k49 49 _ _ _⟩, hB0, hK0⟩
 case round =>
  obtain ⟨k, hk, rfl, HO, HB, HK⟩ := hrel
  have hgl : w.heap.size < wr.heap.size := (Array.getElem?_eq_some_iff.1 HK.out).1
  by_cases hlt : k < l.length
  ·
   obtain ⟨ad, rfl, c0⟩ := Kd.at_int (Kd.C_below HC.out HB.out) (k : Int) (by omega) (by omega)
   have exk : rd l (k : Int) = l[k] := by unfold rd; simp [hlt]
   rw [exk, Int.toNat_natCast] at c0
   have HT := Aside0.mk (len_take_map l intW k hlt)
   have hlk : ((l.take k).map intW).length = k := by rw [List.length_map, List.length_take]; omega
   obtain ⟨xs, hxs⟩ : ∃ xs, xs = (l.take k).map intW := ⟨_, rfl⟩
   rw [← hxs] at HO HT hlk
   have HXS := Aside0.mk hxs
   have HLK := Aside0.mk hlk
   clear exk hxs hlk
   generalize l[k] = x at *
   obtain ⟨Ao, co, rfl⟩ := Kd.R_slice HO.out
   go_wp2_with (first | (go_at_call 16; refine (P.benc_Int.calls x 1 x ⟨#[]⟩ [] wr rfl).mono ?_; rintro e w2 ⟨v3_, rfl, hr, hb⟩; have HR2 := Aside0.mk hr; have HB2 := Aside0.mk (HB.out.trans (hb.mono HB.out.size)); have HO2 := Aside0.mk (Kd.R_below HO.out hb); have HK2 := Aside0.mk ((hb.block _ hgl).trans HK.out); have hsz2 := hb.size; have hsz20 := HB2.out.size; clear hr hb) | (at_builtin; refine Kd.R_append P.k49 (w0 := w) w.heap.size rfl (.tmp 12) (.tmp 15) 43 49 (.agg #[.int .i64 0, .int .i64 0, .string ⟨#[]⟩, .slice none 0 0]) 56 rfl Tryd.underlying43 info_val rfl (by decide) (by omega) (.slice Ao xs.length co) xs (intW x) [.int .i64 1, .int .i64 x, .string ⟨#[]⟩, v3_] (fun k_ => k_ ≠ w.heap.size) (fun k_ => wr.heap.size ≤ k_) rfl rfl ?aP ?aK ?aF ?aO ?aB ?aS ?aL ?_; (case aP => exact P.k49_mkM _ _ _ (intW x) (Kd.R_mono (Kd.R_lower (Kd.R_bound HR2.out) HB.out.size) (fun k hk => hk.2.1))); (case aK => exact (fun k hk => ⟨by omega, fun e => by have := Kd.R_lt HO.out k e.symm; omega⟩)); (case aF => exact (fun k hk => by omega)); (case aO => exact HO2.out); (case aB => exact HB2.out); (case aS => exact hsz20); (case aL => have := HLK.out; omega); intro v9 w9 ho hb hg hat; have HO9 := Aside0.mk ho; have HB9 := Aside0.mk hb; have HK9 := Aside0.mk ((hg.block _ (by omega) (fun e => HO2.out.1 _ e.symm rfl)).trans HK2.out); clear ho hb hg hat))
   go_roundw
   case rel => exact ⟨k + 1, by omega, by go_num, ⟨by rw [HT.out]; exact HO9.out⟩, HB9, HK9⟩
   case measure => simp [Go.RowKit.intOf]; omega
  ·
   obtain rfl : k = l.length := by omega
   have hte : (l.take l.length).map intW = l.map intW := by rw [List.take_length]
   rw [hte] at HO
   have hlm : (l.map intW).length = l.length := List.length_map _
   obtain ⟨xs, hxs⟩ : ∃ xs, xs = l.map intW := ⟨_, rfl⟩
   rw [← hxs] at HO
   have HXS := Aside0.mk hxs
   clear hte hxs hlm
   obtain ⟨Ao, co, rfl⟩ := Kd.R_slice HO.out
   go_wp2_with (go_at_call 19; refine (list_calls _ _ _ _).mono ?_; rintro e w2 ⟨rfl, hb⟩; have HB2 := Aside0.mk (HB.out.trans (hb.mono HB.out.size)); have HO2 := Aside0.mk (Kd.R_below HO.out hb); have hk2 : w2.heap[w.heap.size]? = some (.cells #[.int .i64 0, .int .i64 0, .string ⟨#[]⟩, .slice none 0 0] 49 (0, 0)) := (hb.block _ hgl).trans HK.out; have HK2 := Aside0.mk hk2; have z0 := blk_cell hk2 0; have z1 := blk_cell hk2 1; have z2 := blk_cell hk2 2; have z3 := blk_cell hk2 3; have f0 := blk_frozen hk2 0; have f1 := blk_frozen hk2 1; have f2 := blk_frozen hk2 2; have f3 := blk_frozen hk2 3; clear hb hk2)
   refine bodyPost_ret (results_cell_row rfl _ _ w.heap.size 49 #[.int .i64 3, .int .i64 0, .string ⟨#[]⟩, .slice Ao xs.length co] (0, 0) _ rfl (by
    refine blk_put (cs := #[.int .i64 3, .int .i64 0, .string ⟨#[]⟩, .slice none 0 0]) ?_ 3 _ rfl
    refine blk_put (cs := #[.int .i64 3, .int .i64 0, .string ⟨#[]⟩, .slice none 0 0]) ?_ 2 _ rfl
    refine blk_put (cs := #[.int .i64 3, .int .i64 0, .string ⟨#[]⟩, .slice none 0 0]) ?_ 1 _ rfl
    refine blk_put (cs := #[.int .i64 0, .int .i64 0, .string ⟨#[]⟩, .slice none 0 0]) ?_ 0 _ rfl
    exact HK2.out) Tryd.underlying49 rfl (by kernel_rfl)) rfl ?_
   refine ⟨_, rfl, ?_, by repeat (first | exact HB2.out | refine below_set ?_ (Nat.le_refl _))⟩
   rw [← HXS.out]
   exact Kd.R_mono (Kd.R_far (p := ⟨w.heap.size, 3, none⟩) (Kd.R_far (p := ⟨w.heap.size, 2, none⟩) (Kd.R_far (p := ⟨w.heap.size, 1, none⟩) (Kd.R_far (p := ⟨w.heap.size, 0, none⟩) HO2.out (fun _ hk => hk) _) (fun _ hk => hk) _) (fun _ hk => hk) _) (fun _ hk => hk) _) (fun _ _ => trivial)
def flatHits (l : List P.S52) : List Int := l.flatMap (fun h => [h.f0, h.f1])
theorem flatHits_len (l : List P.S52) : (flatHits l).length = 2 * l.length := by
  induction l with
  | nil => rfl
  | cons x t ih => unfold flatHits at *; rw [List.flatMap_cons, List.length_append, ih]; simp; omega
theorem flatHits_take (l : List P.S52) (k : Nat) (h : k < l.length) : flatHits (l.take (k + 1)) = flatHits (l.take k) ++ [l[k].f0, l[k].f1] := by
  unfold flatHits
  rw [List.take_succ_eq_append_getElem h, List.flatMap_append]; simp
def numsM (a0_0 a0_1 a0_2 a0_3 a0_4 a0_5 a0_6 a0_7 a0_8 a0_9 a0_11 : Int) : List Int := [a0_0, a0_1, a0_2, a0_3, a0_4, a0_5, a0_6, a0_7, a0_8, a0_9, a0_11]
def msgL (a0_0 a0_1 a0_2 a0_3 a0_4 a0_5 a0_6 a0_7 a0_8 a0_9 : Int) (l0_10 : List Int) (a0_11 a0_12 : Int) (a0_13 : Bool) (l0_14 : List P.S52) : List P.S49 := (numsM a0_0 a0_1 a0_2 a0_3 a0_4 a0_5 a0_6 a0_7 a0_8 a0_9 a0_11).map intW ++ [lisW l0_10, intW a0_12, intW (if a0_13 = true then 1 else 0), lisW (flatHits l0_14)]
def post_Put.f (a0_0 a0_1 a0_2 a0_3 a0_4 a0_5 a0_6 a0_7 a0_8 a0_9 : Int) (l0_10 : List Int) (a0_11 a0_12 : Int) (a0_13 : Bool) (l0_14 : List P.S52) (a0_15 : ByteArray) : Option (ByteArray × Int) :=
  if mayM a0_0 a0_1 a0_2 a0_3 a0_4 a0_5 a0_6 a0_7 a0_8 a0_9 l0_10 a0_11 a0_12 a0_13 l0_14 a0_15 = true then
    (benc_Put.f 3 0 ⟨#[]⟩ (msgL a0_0 a0_1 a0_2 a0_3 a0_4 a0_5 a0_6 a0_7 a0_8 a0_9 l0_10 a0_11 a0_12 a0_13 l0_14)).bind fun s => (P.frame_Put.f s.1).bind fun a => (P.frame_Put.f a0_15).bind fun b => if a.1.size + b.1.size ≤ 9223372036854775807 then some (a.1 ++ b.1, 0) else none
  else some (⟨#[]⟩, 1)
theorem may_small {a0_0 a0_1 a0_2 a0_3 a0_4 a0_5 a0_6 a0_7 a0_8 a0_9 : Int} {l0_10 : List Int} {a0_11 a0_12 : Int} {a0_13 : Bool} {l0_14 : List P.S52} {a0_15 : ByteArray} (h : mayM a0_0 a0_1 a0_2 a0_3 a0_4 a0_5 a0_6 a0_7 a0_8 a0_9 l0_10 a0_11 a0_12 a0_13 l0_14 a0_15 = true) : l0_10.length ≤ 16 ∧ l0_14.length ≤ 64 := by
  unfold mayM at h
  simp only [Bool.and_eq_true, Bool.not_eq_true', Bool.or_eq_false_iff, Bool.and_eq_false_iff, decide_eq_false_iff_not, Bool.not_eq_false'] at h
  obtain ⟨⟨⟨⟨⟨_, _⟩, _⟩, hv⟩, ⟨⟨_, hh⟩, _⟩⟩, _⟩ := h
  refine ⟨?_, by omega⟩
  rcases hv with hv | hv
  · omega
  · exact (isV_spec hv).2.1
theorem nums_cell {cs : Array Value} {w : World} {g : Nat} {t : TypeId} (a0 a1 a2 a3 a4 a5 a6 a7 a8 a9 a11 : Int) (v10 v12 v13 v14 v15 : Value) (hcs : cs = #[.int .i64 a0, .int .i64 a1, .int .i64 a2, .int .i64 a3, .int .i64 a4, .int .i64 a5, .int .i64 a6, .int .i64 a7, .int .i64 a8, .int .i64 a9, v10, .int .i64 a11, v12, v13, v14, v15]) (h : w.heap[g]? = some (.cells cs t (0, 0))) (k : Nat) (hk : k < (numsM a0 a1 a2 a3 a4 a5 a6 a7 a8 a9 a11).length) : w.cell? ⟨g, offN k, none⟩ = some (.int .i64 (numsM a0 a1 a2 a3 a4 a5 a6 a7 a8 a9 a11)[k]) := by
  subst hcs
  rw [blk_cell h]
  unfold numsM at *
  have hk' : k < 11 := hk
  have : k = 0 ∨ k = 1 ∨ k = 2 ∨ k = 3 ∨ k = 4 ∨ k = 5 ∨ k = 6 ∨ k = 7 ∨ k = 8 ∨ k = 9 ∨ k = 10 := by omega
  rcases this with rfl | rfl | rfl | rfl | rfl | rfl | rfl | rfl | rfl | rfl | rfl <;> rfl
theorem info_int0 : (Tryd.prog.info? 3).map (fun i => (i.zero, i.size, i.bytes)) = some (some (.int .i64 0), 1, 8) := by kernel_rfl
theorem lit_four {W : World} {base : Nat} {okp : Nat → Prop} {x0 x1 x2 x3 : P.S49} {v0 v1 v2 v3 : Value} (n : Nat) (hn : W.heap.size = n) (hb : base ≤ W.heap.size)
    (h0 : Kd.R P.k49 49 W base okp v0 x0.f3) (h1 : Kd.R P.k49 49 W base okp v1 x1.f3) (h2 : Kd.R P.k49 49 W base okp v2 x2.f3) (h3 : Kd.R P.k49 49 W base okp v3 x3.f3) :
    ReadsRow (P.k49.M (W.alloc (.cells #[.int .i64 x0.f0, .int .i64 x0.f1, .string x0.f2, v0, .int .i64 x1.f0, .int .i64 x1.f1, .string x1.f2, v1, .int .i64 x2.f0, .int .i64 x2.f1, .string x2.f2, v2, .int .i64 x3.f0, .int .i64 x3.f1, .string x3.f2, v3] 49)) base okp) P.k49.sz (W.alloc (.cells #[.int .i64 x0.f0, .int .i64 x0.f1, .string x0.f2, v0, .int .i64 x1.f0, .int .i64 x1.f1, .string x1.f2, v1, .int .i64 x2.f0, .int .i64 x2.f1, .string x2.f2, v2, .int .i64 x3.f0, .int .i64 x3.f1, .string x3.f2, v3] 49)) (some ⟨n, 0, none⟩) 4 [x0, x1, x2, x3] := by
  subst hn
  have r0 := P.k49_mkM _ base okp x0 (Kd.R_alloc h0 (.cells #[.int .i64 x0.f0, .int .i64 x0.f1, .string x0.f2, v0, .int .i64 x1.f0, .int .i64 x1.f1, .string x1.f2, v1, .int .i64 x2.f0, .int .i64 x2.f1, .string x2.f2, v2, .int .i64 x3.f0, .int .i64 x3.f1, .string x3.f2, v3] 49))
  have r1 := P.k49_mkM _ base okp x1 (Kd.R_alloc h1 (.cells #[.int .i64 x0.f0, .int .i64 x0.f1, .string x0.f2, v0, .int .i64 x1.f0, .int .i64 x1.f1, .string x1.f2, v1, .int .i64 x2.f0, .int .i64 x2.f1, .string x2.f2, v2, .int .i64 x3.f0, .int .i64 x3.f1, .string x3.f2, v3] 49))
  have r2 := P.k49_mkM _ base okp x2 (Kd.R_alloc h2 (.cells #[.int .i64 x0.f0, .int .i64 x0.f1, .string x0.f2, v0, .int .i64 x1.f0, .int .i64 x1.f1, .string x1.f2, v1, .int .i64 x2.f0, .int .i64 x2.f1, .string x2.f2, v2, .int .i64 x3.f0, .int .i64 x3.f1, .string x3.f2, v3] 49))
  have r3 := P.k49_mkM _ base okp x3 (Kd.R_alloc h3 (.cells #[.int .i64 x0.f0, .int .i64 x0.f1, .string x0.f2, v0, .int .i64 x1.f0, .int .i64 x1.f1, .string x1.f2, v1, .int .i64 x2.f0, .int .i64 x2.f1, .string x2.f2, v2, .int .i64 x3.f0, .int .i64 x3.f1, .string x3.f2, v3] 49))
  have hr := ((((Reps.none _ 4).snoc r0 rfl).snoc r1 rfl).snoc r2 rfl).snoc r3 rfl
  have ho := OwnRow.lit (e := 49) W base (ps := [x0, x1, x2, x3]) (inner := [.int .i64 x0.f0, .int .i64 x0.f1, .string x0.f2, v0, .int .i64 x1.f0, .int .i64 x1.f1, .string x1.f2, v1, .int .i64 x2.f0, .int .i64 x2.f1, .string x2.f2, v2, .int .i64 x3.f0, .int .i64 x3.f1, .string x3.f2, v3]) hr hb (by simp)
  obtain ⟨A, c, e, _, hR⟩ := ho.reads
  cases e
  exact hR
set_option maxRecDepth 100000 in
set_option maxHeartbeats 8000000 in
theorem put_true (a0_0 a0_1 a0_2 a0_3 a0_4 a0_5 a0_6 a0_7 a0_8 a0_9 : Int) (A0_10 : Option Addr) (c0_10 : Nat) (l0_10 : List Int) (a0_11 a0_12 : Int) (A0_14 : Option Addr) (c0_14 : Nat) (l0_14 : List (P.S52)) (a0_15 : ByteArray) (w : World) (hL : LaidW w) (hr0_10 : Kd.C (Kd.int .i64) w A0_10 l0_10.length l0_10) (hc0_10 : l0_10.length ≤ c0_10) (hr0_14 : Kd.C P.k52 w A0_14 l0_14.length l0_14) (hc0_14 : l0_14.length ≤ c0_14) (hm : mayM a0_0 a0_1 a0_2 a0_3 a0_4 a0_5 a0_6 a0_7 a0_8 a0_9 l0_10 a0_11 a0_12 true l0_14 a0_15 = true) (s fa fb : ByteArray) (es ea eb : Int) (h1 : benc_Put.f 3 0 ⟨#[]⟩ (msgL a0_0 a0_1 a0_2 a0_3 a0_4 a0_5 a0_6 a0_7 a0_8 a0_9 l0_10 a0_11 a0_12 true l0_14) = some (s, es)) (h2 : P.frame_Put.f s = some (fa, ea)) (h3 : P.frame_Put.f a0_15 = some (fb, eb)) (h4 : fa.size + fb.size ≤ 9223372036854775807) :
  Calls Tryd.prog 9 #[.agg #[.int .i64 a0_0, .int .i64 a0_1, .int .i64 a0_2, .int .i64 a0_3, .int .i64 a0_4, .int .i64 a0_5, .int .i64 a0_6, .int .i64 a0_7, .int .i64 a0_8, .int .i64 a0_9, .slice A0_10 l0_10.length c0_10, .int .i64 a0_11, .int .i64 a0_12, .bool true, .slice A0_14 l0_14.length c0_14, .string a0_15]] w fun e w' => e = .returned (.tuple #[.string (fa ++ fb), .int .i64 0]) ∧ Below w.heap.size w w' := by
 have HS := Aside0.mk (may_small hm)
 have HS10 := Aside0.mk (show l0_10.length ≤ 1000 from by have := HS.out.1; omega)
 have HR10 := Aside0.mk hr0_10
 have HR14 := Aside0.mk hr0_14
 have HLw := Aside0.mk hL
 have HC := Aside0.mk (fun W (h : Below w.heap.size w W) => post_Check.calls a0_0 a0_1 a0_2 a0_3 a0_4 a0_5 a0_6 a0_7 a0_8 a0_9 A0_10 c0_10 l0_10 a0_11 a0_12 true A0_14 c0_14 l0_14 a0_15 W (Kd.C_below hr0_10 h) hc0_10 (Kd.C_below hr0_14 h) hc0_14 0 (by unfold post_Check.f; rw [if_pos hm]))
 have H1 := Aside0.mk h1
 have H2 := Aside0.mk h2
 have H3 := Aside0.mk h3
 have H14 := Aside0.mk (show l0_14.length ≤ 64 from HS.out.2)
 clear hr0_10 hr0_14 hL hm h1 h2 h3 HS
 go_enter Tryd.func9, Tryd.ntmps9
 go_wp2_with (first | (go_at_call 11; refine (HC.out _ ((Below.refl _ _).alloc (Nat.le_refl _) _)).mono ?_; rintro e w1 ⟨rfl, hb⟩; have HB1 := Aside0.mk (below_step ((Below.refl _ _).alloc (Nat.le_refl _) _) hb); have BK1 := Aside0.mk (blk_below (MapKept.heap_alloc w (.cells #[.int .i64 a0_0, .int .i64 a0_1, .int .i64 a0_2, .int .i64 a0_3, .int .i64 a0_4, .int .i64 a0_5, .int .i64 a0_6, .int .i64 a0_7, .int .i64 a0_8, .int .i64 a0_9, .slice A0_10 l0_10.length c0_10, .int .i64 a0_11, .int .i64 a0_12, .bool true, .slice A0_14 l0_14.length c0_14, .string a0_15] 30 (0, 0))).1 hb); clear hb) | (go_at_call 15; refine (numbers_calls _ _).mono ?_; rintro e w2 ⟨g, rfl, hg0, hgb, hb⟩; have HB2 := Aside0.mk (below_step HB1.out hb); have BK2 := Aside0.mk (blk_below BK1.out hb); have BG2 := Aside0.mk hgb; clear hb hgb hg0) | fail)
 go_loopw [5, 25] (fun v5 i wr => ∃ k : Nat, k ≤ 11 ∧ i = .int .i64 k ∧ Aside0 (Kd.R P.k49 49 wr w.heap.size (fun _ => True) v5 ((numsM a0_0 a0_1 a0_2 a0_3 a0_4 a0_5 a0_6 a0_7 a0_8 a0_9 a0_11).take k |>.map intW)) ∧ Aside0 (Below w.heap.size w wr) ∧ Aside0 (wr.heap[w.heap.size]? = some (.cells #[.int .i64 a0_0, .int .i64 a0_1, .int .i64 a0_2, .int .i64 a0_3, .int .i64 a0_4, .int .i64 a0_5, .int .i64 a0_6, .int .i64 a0_7, .int .i64 a0_8, .int .i64 a0_9, .slice A0_10 l0_10.length c0_10, .int .i64 a0_11, .int .i64 a0_12, .bool true, .slice A0_14 l0_14.length c0_14, .string a0_15] 30 (0, 0))) ∧ Aside0 (wr.heap[g]? = some (.cells (ptrs w.heap.size) 47 (0, 0)))) (fun _ i _ => 11 - (RowKit.intOf i).toNat)
 case atStart => exact ⟨0, by omega, rfl, ⟨by simpa using Kd.R_nil P.k49 49 _ _ _⟩, HB2, BK2, BG2⟩
 case round =>
  obtain ⟨k, hk, rfl, HO, HB, BK, BG⟩ := hrel
  by_cases hlt : k < 11
  ·
   have hltn : k < (numsM a0_0 a0_1 a0_2 a0_3 a0_4 a0_5 a0_6 a0_7 a0_8 a0_9 a0_11).length := hlt
   have c1 : wr.cell? ⟨g, k, none⟩ = some (.pointer (some ⟨w.heap.size, offN k, none⟩)) := (blk_cell BG.out k).trans (ptrs_at _ _ hlt)
   have c2 := nums_cell a0_0 a0_1 a0_2 a0_3 a0_4 a0_5 a0_6 a0_7 a0_8 a0_9 a0_11 _ _ _ _ _ rfl BK.out k hltn
   have HT := Aside0.mk (len_take_map (numsM a0_0 a0_1 a0_2 a0_3 a0_4 a0_5 a0_6 a0_7 a0_8 a0_9 a0_11) intW k hltn)
   have hlk : (((numsM a0_0 a0_1 a0_2 a0_3 a0_4 a0_5 a0_6 a0_7 a0_8 a0_9 a0_11).take k).map intW).length ≤ 11 := by rw [List.length_map, List.length_take]; omega
   obtain ⟨xs, hxs⟩ : ∃ xs, xs = ((numsM a0_0 a0_1 a0_2 a0_3 a0_4 a0_5 a0_6 a0_7 a0_8 a0_9 a0_11).take k).map intW := ⟨_, rfl⟩
   rw [← hxs] at HO HT hlk
   have HXS := Aside0.mk hxs
   clear hxs
   generalize (numsM a0_0 a0_1 a0_2 a0_3 a0_4 a0_5 a0_6 a0_7 a0_8 a0_9 a0_11)[k] = x at *
   obtain ⟨Ao, co, rfl⟩ := Kd.R_slice HO.out
   have hgl := blk_lt BK.out
   have hgg := blk_lt BG.out
   go_wp2_with (first | (go_at_call 16; refine (P.benc_Int.calls x 1 x ⟨#[]⟩ [] wr rfl).mono ?_; rintro e w3 ⟨v3_, rfl, hr, hb⟩; have HR2 := Aside0.mk hr; have HB3 := Aside0.mk (below_step HB.out hb); have HO3 := Aside0.mk (Kd.R_below HO.out hb); have BK3 := Aside0.mk (blk_below BK.out hb); have BG3 := Aside0.mk (blk_below BG.out hb); have hsz2 := hb.size; have hsz20 := HB3.out.size; clear hr hb) | (at_builtin; refine Kd.R_append P.k49 (w0 := w) w.heap.size rfl (.tmp 29) (.tmp 34) 43 49 (.agg #[.int .i64 0, .int .i64 0, .string ⟨#[]⟩, .slice none 0 0]) 56 rfl Tryd.underlying43 info_val rfl (by decide) (by omega) (.slice Ao xs.length co) xs (intW x) [.int .i64 1, .int .i64 x, .string ⟨#[]⟩, v3_] (fun k_ => k_ ≠ w.heap.size ∧ k_ ≠ g) (fun k_ => wr.heap.size ≤ k_) rfl rfl ?aP ?aK ?aF ?aO ?aB ?aS ?aL ?_; (case aP => exact P.k49_mkM _ _ _ (intW x) (Kd.R_mono (Kd.R_lower (Kd.R_bound HR2.out) HB.out.size) (fun k hk => hk.2.1))); (case aK => exact (fun k hk => ⟨⟨by omega, by omega⟩, fun e => by have := Kd.R_lt HO.out k e.symm; omega⟩)); (case aF => exact (fun k hk => ⟨by omega, by omega⟩)); (case aO => exact Kd.R_mono (Kd.R_types (Kd.R_types HO3.out BK3.out (by decide)) BG3.out (by decide)) (fun k hk => ⟨hk.1.2, hk.2⟩)); (case aB => exact HB3.out); (case aS => exact hsz20); (case aL => omega); intro v9 w9 ho hb hg hat; have HO9 := Aside0.mk ho; have HB9 := Aside0.mk hb; have hne1 : some w.heap.size ≠ (Value.slice Ao xs.length co).ownBlock := Kd.R_ne HO3.out BK3.out (by decide); have hne2 : some g ≠ (Value.slice Ao xs.length co).ownBlock := Kd.R_ne HO3.out BG3.out (by decide); have BK9 := Aside0.mk (blk_grown BK3.out hg hne1); have BG9 := Aside0.mk (blk_grown BG3.out hg hne2); clear ho hb hg hat hne1 hne2))
   go_roundw
   case rel => exact ⟨k + 1, by omega, by go_num, ⟨by rw [HT.out]; exact Kd.R_mono HO9.out (fun _ _ => trivial)⟩, HB9, BK9, BG9⟩
   case measure => simp [RowKit.intOf]; omega
  ·
   obtain rfl : k = 11 := by omega
   have hte : ((numsM a0_0 a0_1 a0_2 a0_3 a0_4 a0_5 a0_6 a0_7 a0_8 a0_9 a0_11).take 11).map intW = (numsM a0_0 a0_1 a0_2 a0_3 a0_4 a0_5 a0_6 a0_7 a0_8 a0_9 a0_11).map intW := rfl
   rw [hte] at HO
   have hlm : ((numsM a0_0 a0_1 a0_2 a0_3 a0_4 a0_5 a0_6 a0_7 a0_8 a0_9 a0_11).map intW).length = 11 := rfl
   obtain ⟨xs, hxs⟩ : ∃ xs, xs = (numsM a0_0 a0_1 a0_2 a0_3 a0_4 a0_5 a0_6 a0_7 a0_8 a0_9 a0_11).map intW := ⟨_, rfl⟩
   rw [← hxs] at HO hlm
   have HXS := Aside0.mk hxs
   have HLM := Aside0.mk hlm
   clear hxs hte hlm BG
   obtain ⟨Ao, co, rfl⟩ := Kd.R_slice HO.out
   have m13 := blk_cell BK.out 13
   have m14 := blk_cell BK.out 14
   obtain ⟨S3, hS3⟩ : ∃ S3, S3 = wr.heap.size := ⟨_, rfl⟩
   have HO' := Aside0.mk (Kd.R_mono (ok' := fun k => k < S3) (Kd.R_bound HO.out) (fun k hk => by rw [hS3]; exact hk.2.2.1))
   have HS3 := Aside0.mk (show w.heap.size ≤ S3 from by rw [hS3]; exact HB.out.size)
   have HS3k := Aside0.mk (show w.heap.size < S3 from by rw [hS3]; exact blk_lt BK.out)
   have HS3n := Aside0.mk (show S3 ≤ wr.heap.size from by rw [hS3]; exact Nat.le_refl _)
   clear hS3 HO
   go_wp2_with fail
   go_loopw [9, 44] (fun v9 i wr => ∃ k : Nat, k ≤ l0_14.length ∧ i = .int .i64 k ∧ Aside0 (Kd.R (Kd.int .i64) 3 wr w.heap.size (fun k => S3 ≤ k) v9 (flatHits (l0_14.take k))) ∧ Aside0 (Kd.R P.k49 49 wr w.heap.size (fun k => k < S3) (.slice Ao xs.length co) xs) ∧ Aside0 (Below w.heap.size w wr) ∧ Aside0 (wr.heap[w.heap.size]? = some (.cells #[.int .i64 a0_0, .int .i64 a0_1, .int .i64 a0_2, .int .i64 a0_3, .int .i64 a0_4, .int .i64 a0_5, .int .i64 a0_6, .int .i64 a0_7, .int .i64 a0_8, .int .i64 a0_9, .slice A0_10 l0_10.length c0_10, .int .i64 a0_11, .int .i64 a0_12, .bool true, .slice A0_14 l0_14.length c0_14, .string a0_15] 30 (0, 0))) ∧ Aside0 (S3 ≤ wr.heap.size)) (fun _ i _ => l0_14.length - (RowKit.intOf i).toNat)
   case atStart => exact ⟨0, by omega, rfl, ⟨by simpa [flatHits] using Kd.R_nil (Kd.int .i64) 3 _ _ _⟩, HO', HB, BK, HS3n⟩
   case round =>
    clear HB BK HO' HS3n m13 m14
    obtain ⟨k, hk, rfl, HRh, HRl, HB, BK, HS3n⟩ := hrel
    have hl64 : l0_14.length ≤ 64 := H14.out
    by_cases hlt : k < l0_14.length
    ·
     obtain ⟨ad, rfl, d0, d1⟩ := P.at_T52 (Kd.C_below HR14.out HB.out) (k : Int) (by omega) (by omega)
     have exk : P.rd_T52 l0_14 (k : Int) = l0_14[k] := by unfold P.rd_T52; simp [hlt]
     rw [exk, Int.toNat_natCast] at d0 d1
     have HT := Aside0.mk (flatHits_take l0_14 k hlt)
     have HLK := Aside0.mk (show (flatHits (l0_14.take k)).length ≤ 1000 from by rw [flatHits_len, List.length_take]; have := H14.out; omega)
     obtain ⟨ys, hys⟩ : ∃ ys, ys = flatHits (l0_14.take k) := ⟨_, rfl⟩
     rw [← hys] at HRh HT HLK
     clear exk hys
     generalize l0_14[k] = p at *
     obtain ⟨x0, x1⟩ := p
     simp only at d0 d1 HT
     obtain ⟨Ah, ch, rfl⟩ := Kd.R_slice HRh.out
     go_wp2_with (at_builtin; refine Kd.R_append_rows (Kd.int .i64) (w0 := w) (W := (wr.alloc (.cells #[.int .i64 x0, .int .i64 x1] 52)).alloc (.cells #[.int .i64 x0, .int .i64 x1] 3)) w.heap.size rfl (.tmp 48) (.tmp 53) 22 3 (.int .i64 0) 8 rfl Tryd.underlying22 info_int0 rfl (by decide) (by omega) (.slice Ah ys.length ch) ys [x0, x1] (some ⟨wr.heap.size + 1, 0, none⟩) 2 2 (fun k => S3 ≤ k) (fun _ => False) rfl ?ax ?aO ?aR (fun _ _ h => h) (fun _ hk => hk.elim) ?aF ?aB ?aS ?aL ?_; (case ax => first | rfl | simp); (case aO => exact Kd.R_alloc (Kd.R_alloc HRh.out _) _); (case aR => exact lit_C _ [x0, x1] 3 _ _ (by simp) rfl (by simp)); (case aF => exact (fun k hk => by have := HS3n.out; simp at hk; omega)); (case aB => exact below_alloc (below_alloc HB.out _) _); (case aS => have := HB.out.size; simp; omega); (case aL => have := HLK.out; omega); intro v9 w9 ho hb hg hat; have HO9 := Aside0.mk ho; have HB9 := Aside0.mk hb; have HRl9 := Aside0.mk (Kd.R_grown (Kd.R_alloc (Kd.R_alloc HRl.out _) _) hg (fun k hk e => by have := HRh.out.1 k e.symm; omega)); have BK9 := Aside0.mk (blk_grown (blk_alloc (blk_alloc BK.out _) _) hg (fun e => by have := HRh.out.1 _ e.symm; have := HS3k.out; omega)); have HS9 := Aside0.mk (show S3 ≤ w9.heap.size from Nat.le_trans (Nat.le_trans HS3n.out (by simp; omega)) hg.size); clear ho hb hg hat)
     go_roundw
     case rel => exact ⟨_, _, _, _, _, _, _, _, _, _, _, _, _, _, ⟨k + 1, by omega, by go_num, ⟨by rw [HT.out]; exact HO9.out⟩, HRl9, HB9, BK9, HS9⟩, rfl⟩
     case measure => simp [RowKit.intOf]; omega
    ·
     obtain rfl : k = l0_14.length := by omega
     rw [List.take_length] at HRh
     have HLK := Aside0.mk (show (flatHits l0_14).length ≤ 1000 from by rw [flatHits_len]; have := H14.out; omega)
     obtain ⟨ys, hys⟩ : ∃ ys, ys = flatHits l0_14 := ⟨_, rfl⟩
     rw [← hys] at HRh HLK
     have HYS := Aside0.mk hys
     clear hys
     obtain ⟨Ah, ch, rfl⟩ := Kd.R_slice HRh.out
     obtain ⟨S4, hS4⟩ : ∃ S4, S4 = wr.heap.size := ⟨_, rfl⟩
     have HS34 := Aside0.mk (show S3 ≤ S4 from by rw [hS4]; exact HS3n.out)
     have HSZ := Aside0.mk (show S4 ≤ wr.heap.size from by rw [hS4]; exact Nat.le_refl _)
     have HSZ0 := Aside0.mk (show w.heap.size ≤ wr.heap.size from HB.out.size)
     have m10 := blk_cell BK.out 10
     have m12 := blk_cell BK.out 12
     clear hS4
     go_wp2_with fail
     go_region_held3 (fun w' => w'.cell? ⟨w.heap.size, 10, none⟩ = some (.slice A0_10 l0_10.length c0_10) ∧ w'.cell? ⟨w.heap.size, 12, none⟩ = some (.int .i64 a0_12)) (first | exact ⟨m10, m12⟩ | exact ⟨Lib.cell?_alloc_some _ m10, Lib.cell?_alloc_some _ m12⟩) (first | (go_at_call 17; with_reducible refine (ints_calls A0_10 c0_10 l0_10 _ (Kd.C_below HR10.out (by first | exact HB.out | exact below_drew1 HB.out | exact pw_below_drewN HB.out _)) HS10.out).mono ?_; rintro e wa ⟨vV, rfl, hr, hb⟩; have hbq := hb; have n0 := Aside0.mk (Kd.R_below (by first | exact HRl.out | exact Kd.R_drew HRl.out | exact Kd.R_drewN HRl.out _) hbq); have n1 := Aside0.mk (Kd.R_below (by first | exact HRh.out | exact Kd.R_drew HRh.out | exact Kd.R_drewN HRh.out _) hbq); have nK := Aside0.mk (blk_below (by first | exact BK.out | exact blk_drew BK.out | exact blk_drewN BK.out _) hbq); have nB := Aside0.mk (below_step (by first | exact HB.out | exact below_drew1 HB.out | exact pw_below_drewN HB.out _) hbq); clear HRl HRh BK HB; have HRl := n0; have HRh := n1; clear n0 n1; have BK := nK; have HB := nB; clear nK nB; have HRV := Aside0.mk (Kd.R_mono (ok' := fun k => S4 ≤ k) (Kd.R_lower (Kd.R_bound hr) (by have h2 := HSZ0.out; first | exact h2 | (simp; omega))) (fun k hk => by have h1 := hk.2.1; have h2 := HSZ.out; first | omega | (simp at h1; omega))); clear hr; have HSZ := Aside0.mk (show S4 ≤ _ from Nat.le_trans HSZ.out (by have h1 := hbq.size; first | exact h1 | (simp at h1; exact h1))); have HSZ0 := Aside0.mk (show w.heap.size ≤ _ from Nat.le_trans HSZ0.out (by have h1 := hbq.size; first | exact h1 | (simp at h1; exact h1))); clear hb hbq; have m10 := blk_cell BK.out 10; have m12 := blk_cell BK.out 12) | (go_at_call 16; with_reducible refine (P.benc_Int.calls a0_12 1 a0_12 ⟨#[]⟩ [] _ rfl).mono ?_; rintro e wb ⟨vE, rfl, hr, hb⟩; have hbq := hb; have n0 := Aside0.mk (Kd.R_below (by first | exact HRl.out | exact Kd.R_drew HRl.out | exact Kd.R_drewN HRl.out _) hbq); have n1 := Aside0.mk (Kd.R_below (by first | exact HRh.out | exact Kd.R_drew HRh.out | exact Kd.R_drewN HRh.out _) hbq); have n2 := Aside0.mk (Kd.R_below (by first | exact HRV.out | exact Kd.R_drew HRV.out | exact Kd.R_drewN HRV.out _) hbq); have nK := Aside0.mk (blk_below (by first | exact BK.out | exact blk_drew BK.out | exact blk_drewN BK.out _) hbq); have nB := Aside0.mk (below_step (by first | exact HB.out | exact below_drew1 HB.out | exact pw_below_drewN HB.out _) hbq); clear HRl HRh HRV BK HB; have HRl := n0; have HRh := n1; have HRV := n2; clear n0 n1 n2; have BK := nK; have HB := nB; clear nK nB; have HRE := Aside0.mk (Kd.R_mono (ok' := fun k => S4 ≤ k) (Kd.R_lower (Kd.R_bound hr) (by have h2 := HSZ0.out; first | exact h2 | (simp; omega))) (fun k hk => by have h1 := hk.2.1; have h2 := HSZ.out; first | omega | (simp at h1; omega))); clear hr; have HSZ := Aside0.mk (show S4 ≤ _ from Nat.le_trans HSZ.out (by have h1 := hbq.size; first | exact h1 | (simp at h1; exact h1))); have HSZ0 := Aside0.mk (show w.heap.size ≤ _ from Nat.le_trans HSZ0.out (by have h1 := hbq.size; first | exact h1 | (simp at h1; exact h1))); clear hb hbq; have m10 := blk_cell BK.out 10; have m12 := blk_cell BK.out 12) | (go_at_call 16; with_reducible refine (P.benc_Int.calls 1 1 1 ⟨#[]⟩ [] _ rfl).mono ?_; rintro e wc ⟨vW, rfl, hr, hb⟩; have hbq := hb; have n0 := Aside0.mk (Kd.R_below (by first | exact HRl.out | exact Kd.R_drew HRl.out | exact Kd.R_drewN HRl.out _) hbq); have n1 := Aside0.mk (Kd.R_below (by first | exact HRh.out | exact Kd.R_drew HRh.out | exact Kd.R_drewN HRh.out _) hbq); have n2 := Aside0.mk (Kd.R_below (by first | exact HRV.out | exact Kd.R_drew HRV.out | exact Kd.R_drewN HRV.out _) hbq); have n3 := Aside0.mk (Kd.R_below (by first | exact HRE.out | exact Kd.R_drew HRE.out | exact Kd.R_drewN HRE.out _) hbq); have nK := Aside0.mk (blk_below (by first | exact BK.out | exact blk_drew BK.out | exact blk_drewN BK.out _) hbq); have nB := Aside0.mk (below_step (by first | exact HB.out | exact below_drew1 HB.out | exact pw_below_drewN HB.out _) hbq); clear HRl HRh HRV HRE BK HB; have HRl := n0; have HRh := n1; have HRV := n2; have HRE := n3; clear n0 n1 n2 n3; have BK := nK; have HB := nB; clear nK nB; have HRW := Aside0.mk (Kd.R_mono (ok' := fun k => S4 ≤ k) (Kd.R_lower (Kd.R_bound hr) (by have h2 := HSZ0.out; first | exact h2 | (simp; omega))) (fun k hk => by have h1 := hk.2.1; have h2 := HSZ.out; first | omega | (simp at h1; omega))); clear hr; have HSZ := Aside0.mk (show S4 ≤ _ from Nat.le_trans HSZ.out (by have h1 := hbq.size; first | exact h1 | (simp at h1; exact h1))); have HSZ0 := Aside0.mk (show w.heap.size ≤ _ from Nat.le_trans HSZ0.out (by have h1 := hbq.size; first | exact h1 | (simp at h1; exact h1))); clear hb hbq; have m10 := blk_cell BK.out 10; have m12 := blk_cell BK.out 12) | (go_at_call 17; with_reducible refine (ints_calls Ah ch ys _ (Kd.R_reads' (by first | exact HRh.out | exact Kd.R_drew HRh.out | exact Kd.R_drewN HRh.out _)).2.2 HLK.out).mono ?_; rintro e wd ⟨vH, rfl, hr, hb⟩; have hbq := hb; have n0 := Aside0.mk (Kd.R_below (by first | exact HRl.out | exact Kd.R_drew HRl.out | exact Kd.R_drewN HRl.out _) hbq); have n1 := Aside0.mk (Kd.R_below (by first | exact HRV.out | exact Kd.R_drew HRV.out | exact Kd.R_drewN HRV.out _) hbq); have n2 := Aside0.mk (Kd.R_below (by first | exact HRE.out | exact Kd.R_drew HRE.out | exact Kd.R_drewN HRE.out _) hbq); have n3 := Aside0.mk (Kd.R_below (by first | exact HRW.out | exact Kd.R_drew HRW.out | exact Kd.R_drewN HRW.out _) hbq); have nK := Aside0.mk (blk_below (by first | exact BK.out | exact blk_drew BK.out | exact blk_drewN BK.out _) hbq); have nB := Aside0.mk (below_step (by first | exact HB.out | exact below_drew1 HB.out | exact pw_below_drewN HB.out _) hbq); clear HRl HRV HRE HRW BK HB; have HRl := n0; have HRV := n1; have HRE := n2; have HRW := n3; clear n0 n1 n2 n3; have BK := nK; have HB := nB; clear nK nB; have HRH := Aside0.mk (Kd.R_mono (ok' := fun k => S4 ≤ k) (Kd.R_lower (Kd.R_bound hr) (by have h2 := HSZ0.out; first | exact h2 | (simp; omega))) (fun k hk => by have h1 := hk.2.1; have h2 := HSZ.out; first | omega | (simp at h1; omega))); clear hr; have HSZ := Aside0.mk (show S4 ≤ _ from Nat.le_trans HSZ.out (by have h1 := hbq.size; first | exact h1 | (simp at h1; exact h1))); have HSZ0 := Aside0.mk (show w.heap.size ≤ _ from Nat.le_trans HSZ0.out (by have h1 := hbq.size; first | exact h1 | (simp at h1; exact h1))); clear hb hbq; have m10 := blk_cell BK.out 10; have m12 := blk_cell BK.out 12) | (refine Kd.R_append_rows_step P.k49 (w0 := w) w.heap.size (by rfl) (.tmp 56) (.tmp 69) 43 49 (.agg #[.int .i64 0, .int .i64 0, .string ⟨#[]⟩, .slice none 0 0]) 56 rfl Tryd.underlying43 info_val rfl (by decide) (by omega) (.slice Ao xs.length co) xs [lisW l0_10, intW a0_12, intW 1, lisW ys] (some ⟨_, 0, none⟩) 4 4 (fun _ => True) (fun k => S4 ≤ k) rfl rfl ?aO (lit_four (x0 := lisW l0_10) (x1 := intW a0_12) (x2 := intW 1) (x3 := lisW ys) _ (by simp) ?aZ ?a0 ?a1 ?a2 ?a3) (fun _ _ h => h) ?aK (fun _ _ => trivial) ?aB ?aS ?aL ?_; (case aZ => exact HSZ0.out); (case a0 => exact (by first | exact HRV.out | exact Kd.R_drew HRV.out | exact Kd.R_drewN HRV.out _)); (case a1 => exact (by first | exact HRE.out | exact Kd.R_drew HRE.out | exact Kd.R_drewN HRE.out _)); (case a2 => exact (by first | exact HRW.out | exact Kd.R_drew HRW.out | exact Kd.R_drewN HRW.out _)); (case a3 => exact (by first | exact HRH.out | exact Kd.R_drew HRH.out | exact Kd.R_drewN HRH.out _)); (case aO => exact Kd.R_mono (Kd.R_alloc (by first | exact HRl.out | exact Kd.R_drew HRl.out | exact Kd.R_drewN HRl.out _) _) (fun _ _ => trivial)); (case aK => exact (fun k hk => ⟨trivial, fun e => by have := HRl.out.1 k e.symm; have := HS34.out; omega⟩)); (case aB => exact below_alloc (by first | exact HB.out | exact below_drew1 HB.out | exact pw_below_drewN HB.out _) _); (case aS => have := HSZ0.out; simp; omega); (case aL => have := HLM.out; omega); intro v9 w9 ho hb hg hat; have HO9 := Aside0.mk ho; have HB9 := Aside0.mk hb; have BK9 := Aside0.mk (blk_grown (blk_alloc (by first | exact BK.out | exact blk_drew BK.out | exact blk_drewN BK.out _) _) hg (Kd.R_ne (Kd.R_alloc HRl.out (.cells #[] 3)) (blk_alloc BK.out _) (by decide))); have m10 := blk_cell BK9.out 10; have m12 := blk_cell BK9.out 12; clear ho hb hg hat))
     have hml : xs ++ [lisW l0_10, intW a0_12, intW 1, lisW ys] = msgL a0_0 a0_1 a0_2 a0_3 a0_4 a0_5 a0_6 a0_7 a0_8 a0_9 l0_10 a0_11 a0_12 true l0_14 := by rw [HXS.out, HYS.out]; rfl
     obtain ⟨ms, hms⟩ : ∃ ms, ms = msgL a0_0 a0_1 a0_2 a0_3 a0_4 a0_5 a0_6 a0_7 a0_8 a0_9 l0_10 a0_11 a0_12 true l0_14 := ⟨_, rfl⟩
     rw [← hms] at H1 hml
     rw [hml] at HO9
     have HMS := Aside0.mk hms
     clear hms hml HXS HYS HLM HLK m10 m12 HSZ HSZ0 HS34 HS3n HS3 HS3k HRl
     obtain ⟨Am, cm, rfl⟩ := Kd.R_slice HO9.out
     have HCm := Aside0.mk (Kd.R_reads' HO9.out)
     go_wp2_with (first | (go_at_call 19; refine (list_calls Am ms.length cm _).mono ?_; rintro e wl ⟨rfl, hb⟩; have HBL := Aside0.mk (below_step HB9.out hb); have BKL := Aside0.mk (blk_below BK9.out hb); have HCL := Aside0.mk (Kd.C_below HCm.out.2.2 hb); clear hb) | (go_at_call 18; refine (benc_Put.calls 3 0 ⟨#[]⟩ Am cm ms s es _ (LaidW.below HLw.out HBL.out) HCL.out HCm.out.2.1 H1.out).mono ?_; rintro e wp ⟨rfl, hb⟩; have HBP := Aside0.mk (below_step HBL.out hb); have BKP := Aside0.mk (blk_below BKL.out hb); clear hb) | (go_at_call 20; with_reducible refine (P.frame_Put.calls s fa ea _ (LaidW.below HLw.out HBP.out) H2.out).mono ?_; rintro e wf ⟨rfl, hb⟩; have HBF := Aside0.mk (below_step HBP.out hb); have bkf := blk_below BKP.out hb; have m15 := blk_cell bkf 15; clear hb bkf) | (go_at_call 20; with_reducible refine (P.frame_Put.calls a0_15 fb eb _ (LaidW.below HLw.out HBF.out) H3.out).mono ?_; rintro e wg ⟨rfl, hb⟩; have HBG := Aside0.mk (below_step HBF.out hb); clear hb))
     go_ret2
     exact ⟨rfl, HBG.out⟩
set_option maxRecDepth 100000 in
set_option maxHeartbeats 8000000 in
theorem put_false (a0_0 a0_1 a0_2 a0_3 a0_4 a0_5 a0_6 a0_7 a0_8 a0_9 : Int) (A0_10 : Option Addr) (c0_10 : Nat) (l0_10 : List Int) (a0_11 a0_12 : Int) (A0_14 : Option Addr) (c0_14 : Nat) (l0_14 : List (P.S52)) (a0_15 : ByteArray) (w : World) (hL : LaidW w) (hr0_10 : Kd.C (Kd.int .i64) w A0_10 l0_10.length l0_10) (hc0_10 : l0_10.length ≤ c0_10) (hr0_14 : Kd.C P.k52 w A0_14 l0_14.length l0_14) (hc0_14 : l0_14.length ≤ c0_14) (hm : mayM a0_0 a0_1 a0_2 a0_3 a0_4 a0_5 a0_6 a0_7 a0_8 a0_9 l0_10 a0_11 a0_12 false l0_14 a0_15 = true) (s fa fb : ByteArray) (es ea eb : Int) (h1 : benc_Put.f 3 0 ⟨#[]⟩ (msgL a0_0 a0_1 a0_2 a0_3 a0_4 a0_5 a0_6 a0_7 a0_8 a0_9 l0_10 a0_11 a0_12 false l0_14) = some (s, es)) (h2 : P.frame_Put.f s = some (fa, ea)) (h3 : P.frame_Put.f a0_15 = some (fb, eb)) (h4 : fa.size + fb.size ≤ 9223372036854775807) :
  Calls Tryd.prog 9 #[.agg #[.int .i64 a0_0, .int .i64 a0_1, .int .i64 a0_2, .int .i64 a0_3, .int .i64 a0_4, .int .i64 a0_5, .int .i64 a0_6, .int .i64 a0_7, .int .i64 a0_8, .int .i64 a0_9, .slice A0_10 l0_10.length c0_10, .int .i64 a0_11, .int .i64 a0_12, .bool false, .slice A0_14 l0_14.length c0_14, .string a0_15]] w fun e w' => e = .returned (.tuple #[.string (fa ++ fb), .int .i64 0]) ∧ Below w.heap.size w w' := by
 have HS := Aside0.mk (may_small hm)
 have HS10 := Aside0.mk (show l0_10.length ≤ 1000 from by have := HS.out.1; omega)
 have HR10 := Aside0.mk hr0_10
 have HR14 := Aside0.mk hr0_14
 have HLw := Aside0.mk hL
 have HC := Aside0.mk (fun W (h : Below w.heap.size w W) => post_Check.calls a0_0 a0_1 a0_2 a0_3 a0_4 a0_5 a0_6 a0_7 a0_8 a0_9 A0_10 c0_10 l0_10 a0_11 a0_12 false A0_14 c0_14 l0_14 a0_15 W (Kd.C_below hr0_10 h) hc0_10 (Kd.C_below hr0_14 h) hc0_14 0 (by unfold post_Check.f; rw [if_pos hm]))
 have H1 := Aside0.mk h1
 have H2 := Aside0.mk h2
 have H3 := Aside0.mk h3
 have H14 := Aside0.mk (show l0_14.length ≤ 64 from HS.out.2)
 clear hr0_10 hr0_14 hL hm h1 h2 h3 HS
 go_enter Tryd.func9, Tryd.ntmps9
 go_wp2_with (first | (go_at_call 11; refine (HC.out _ ((Below.refl _ _).alloc (Nat.le_refl _) _)).mono ?_; rintro e w1 ⟨rfl, hb⟩; have HB1 := Aside0.mk (below_step ((Below.refl _ _).alloc (Nat.le_refl _) _) hb); have BK1 := Aside0.mk (blk_below (MapKept.heap_alloc w (.cells #[.int .i64 a0_0, .int .i64 a0_1, .int .i64 a0_2, .int .i64 a0_3, .int .i64 a0_4, .int .i64 a0_5, .int .i64 a0_6, .int .i64 a0_7, .int .i64 a0_8, .int .i64 a0_9, .slice A0_10 l0_10.length c0_10, .int .i64 a0_11, .int .i64 a0_12, .bool false, .slice A0_14 l0_14.length c0_14, .string a0_15] 30 (0, 0))).1 hb); clear hb) | (go_at_call 15; refine (numbers_calls _ _).mono ?_; rintro e w2 ⟨g, rfl, hg0, hgb, hb⟩; have HB2 := Aside0.mk (below_step HB1.out hb); have BK2 := Aside0.mk (blk_below BK1.out hb); have BG2 := Aside0.mk hgb; clear hb hgb hg0) | fail)
 go_loopw [5, 25] (fun v5 i wr => ∃ k : Nat, k ≤ 11 ∧ i = .int .i64 k ∧ Aside0 (Kd.R P.k49 49 wr w.heap.size (fun _ => True) v5 ((numsM a0_0 a0_1 a0_2 a0_3 a0_4 a0_5 a0_6 a0_7 a0_8 a0_9 a0_11).take k |>.map intW)) ∧ Aside0 (Below w.heap.size w wr) ∧ Aside0 (wr.heap[w.heap.size]? = some (.cells #[.int .i64 a0_0, .int .i64 a0_1, .int .i64 a0_2, .int .i64 a0_3, .int .i64 a0_4, .int .i64 a0_5, .int .i64 a0_6, .int .i64 a0_7, .int .i64 a0_8, .int .i64 a0_9, .slice A0_10 l0_10.length c0_10, .int .i64 a0_11, .int .i64 a0_12, .bool false, .slice A0_14 l0_14.length c0_14, .string a0_15] 30 (0, 0))) ∧ Aside0 (wr.heap[g]? = some (.cells (ptrs w.heap.size) 47 (0, 0)))) (fun _ i _ => 11 - (RowKit.intOf i).toNat)
 case atStart => exact ⟨0, by omega, rfl, ⟨by simpa using Kd.R_nil P.k49 49 _ _ _⟩, HB2, BK2, BG2⟩
 case round =>
  obtain ⟨k, hk, rfl, HO, HB, BK, BG⟩ := hrel
  by_cases hlt : k < 11
  ·
   have hltn : k < (numsM a0_0 a0_1 a0_2 a0_3 a0_4 a0_5 a0_6 a0_7 a0_8 a0_9 a0_11).length := hlt
   have c1 : wr.cell? ⟨g, k, none⟩ = some (.pointer (some ⟨w.heap.size, offN k, none⟩)) := (blk_cell BG.out k).trans (ptrs_at _ _ hlt)
   have c2 := nums_cell a0_0 a0_1 a0_2 a0_3 a0_4 a0_5 a0_6 a0_7 a0_8 a0_9 a0_11 _ _ _ _ _ rfl BK.out k hltn
   have HT := Aside0.mk (len_take_map (numsM a0_0 a0_1 a0_2 a0_3 a0_4 a0_5 a0_6 a0_7 a0_8 a0_9 a0_11) intW k hltn)
   have hlk : (((numsM a0_0 a0_1 a0_2 a0_3 a0_4 a0_5 a0_6 a0_7 a0_8 a0_9 a0_11).take k).map intW).length ≤ 11 := by rw [List.length_map, List.length_take]; omega
   obtain ⟨xs, hxs⟩ : ∃ xs, xs = ((numsM a0_0 a0_1 a0_2 a0_3 a0_4 a0_5 a0_6 a0_7 a0_8 a0_9 a0_11).take k).map intW := ⟨_, rfl⟩
   rw [← hxs] at HO HT hlk
   have HXS := Aside0.mk hxs
   clear hxs
   generalize (numsM a0_0 a0_1 a0_2 a0_3 a0_4 a0_5 a0_6 a0_7 a0_8 a0_9 a0_11)[k] = x at *
   obtain ⟨Ao, co, rfl⟩ := Kd.R_slice HO.out
   have hgl := blk_lt BK.out
   have hgg := blk_lt BG.out
   go_wp2_with (first | (go_at_call 16; refine (P.benc_Int.calls x 1 x ⟨#[]⟩ [] wr rfl).mono ?_; rintro e w3 ⟨v3_, rfl, hr, hb⟩; have HR2 := Aside0.mk hr; have HB3 := Aside0.mk (below_step HB.out hb); have HO3 := Aside0.mk (Kd.R_below HO.out hb); have BK3 := Aside0.mk (blk_below BK.out hb); have BG3 := Aside0.mk (blk_below BG.out hb); have hsz2 := hb.size; have hsz20 := HB3.out.size; clear hr hb) | (at_builtin; refine Kd.R_append P.k49 (w0 := w) w.heap.size rfl (.tmp 29) (.tmp 34) 43 49 (.agg #[.int .i64 0, .int .i64 0, .string ⟨#[]⟩, .slice none 0 0]) 56 rfl Tryd.underlying43 info_val rfl (by decide) (by omega) (.slice Ao xs.length co) xs (intW x) [.int .i64 1, .int .i64 x, .string ⟨#[]⟩, v3_] (fun k_ => k_ ≠ w.heap.size ∧ k_ ≠ g) (fun k_ => wr.heap.size ≤ k_) rfl rfl ?aP ?aK ?aF ?aO ?aB ?aS ?aL ?_; (case aP => exact P.k49_mkM _ _ _ (intW x) (Kd.R_mono (Kd.R_lower (Kd.R_bound HR2.out) HB.out.size) (fun k hk => hk.2.1))); (case aK => exact (fun k hk => ⟨⟨by omega, by omega⟩, fun e => by have := Kd.R_lt HO.out k e.symm; omega⟩)); (case aF => exact (fun k hk => ⟨by omega, by omega⟩)); (case aO => exact Kd.R_mono (Kd.R_types (Kd.R_types HO3.out BK3.out (by decide)) BG3.out (by decide)) (fun k hk => ⟨hk.1.2, hk.2⟩)); (case aB => exact HB3.out); (case aS => exact hsz20); (case aL => omega); intro v9 w9 ho hb hg hat; have HO9 := Aside0.mk ho; have HB9 := Aside0.mk hb; have hne1 : some w.heap.size ≠ (Value.slice Ao xs.length co).ownBlock := Kd.R_ne HO3.out BK3.out (by decide); have hne2 : some g ≠ (Value.slice Ao xs.length co).ownBlock := Kd.R_ne HO3.out BG3.out (by decide); have BK9 := Aside0.mk (blk_grown BK3.out hg hne1); have BG9 := Aside0.mk (blk_grown BG3.out hg hne2); clear ho hb hg hat hne1 hne2))
   go_roundw
   case rel => exact ⟨k + 1, by omega, by go_num, ⟨by rw [HT.out]; exact Kd.R_mono HO9.out (fun _ _ => trivial)⟩, HB9, BK9, BG9⟩
   case measure => simp [RowKit.intOf]; omega
  ·
   obtain rfl : k = 11 := by omega
   have hte : ((numsM a0_0 a0_1 a0_2 a0_3 a0_4 a0_5 a0_6 a0_7 a0_8 a0_9 a0_11).take 11).map intW = (numsM a0_0 a0_1 a0_2 a0_3 a0_4 a0_5 a0_6 a0_7 a0_8 a0_9 a0_11).map intW := rfl
   rw [hte] at HO
   have hlm : ((numsM a0_0 a0_1 a0_2 a0_3 a0_4 a0_5 a0_6 a0_7 a0_8 a0_9 a0_11).map intW).length = 11 := rfl
   obtain ⟨xs, hxs⟩ : ∃ xs, xs = (numsM a0_0 a0_1 a0_2 a0_3 a0_4 a0_5 a0_6 a0_7 a0_8 a0_9 a0_11).map intW := ⟨_, rfl⟩
   rw [← hxs] at HO hlm
   have HXS := Aside0.mk hxs
   have HLM := Aside0.mk hlm
   clear hxs hte hlm BG
   obtain ⟨Ao, co, rfl⟩ := Kd.R_slice HO.out
   have m13 := blk_cell BK.out 13
   have m14 := blk_cell BK.out 14
   obtain ⟨S3, hS3⟩ : ∃ S3, S3 = wr.heap.size := ⟨_, rfl⟩
   have HO' := Aside0.mk (Kd.R_mono (ok' := fun k => k < S3) (Kd.R_bound HO.out) (fun k hk => by rw [hS3]; exact hk.2.2.1))
   have HS3 := Aside0.mk (show w.heap.size ≤ S3 from by rw [hS3]; exact HB.out.size)
   have HS3k := Aside0.mk (show w.heap.size < S3 from by rw [hS3]; exact blk_lt BK.out)
   have HS3n := Aside0.mk (show S3 ≤ wr.heap.size from by rw [hS3]; exact Nat.le_refl _)
   clear hS3 HO
   go_wp2_with fail
   go_loopw [9, 44] (fun v9 i wr => ∃ k : Nat, k ≤ l0_14.length ∧ i = .int .i64 k ∧ Aside0 (Kd.R (Kd.int .i64) 3 wr w.heap.size (fun k => S3 ≤ k) v9 (flatHits (l0_14.take k))) ∧ Aside0 (Kd.R P.k49 49 wr w.heap.size (fun k => k < S3) (.slice Ao xs.length co) xs) ∧ Aside0 (Below w.heap.size w wr) ∧ Aside0 (wr.heap[w.heap.size]? = some (.cells #[.int .i64 a0_0, .int .i64 a0_1, .int .i64 a0_2, .int .i64 a0_3, .int .i64 a0_4, .int .i64 a0_5, .int .i64 a0_6, .int .i64 a0_7, .int .i64 a0_8, .int .i64 a0_9, .slice A0_10 l0_10.length c0_10, .int .i64 a0_11, .int .i64 a0_12, .bool false, .slice A0_14 l0_14.length c0_14, .string a0_15] 30 (0, 0))) ∧ Aside0 (S3 ≤ wr.heap.size)) (fun _ i _ => l0_14.length - (RowKit.intOf i).toNat)
   case atStart => exact ⟨0, by omega, rfl, ⟨by simpa [flatHits] using Kd.R_nil (Kd.int .i64) 3 _ _ _⟩, HO', HB, BK, HS3n⟩
   case round =>
    clear HB BK HO' HS3n m13 m14
    obtain ⟨k, hk, rfl, HRh, HRl, HB, BK, HS3n⟩ := hrel
    have hl64 : l0_14.length ≤ 64 := H14.out
    by_cases hlt : k < l0_14.length
    ·
     obtain ⟨ad, rfl, d0, d1⟩ := P.at_T52 (Kd.C_below HR14.out HB.out) (k : Int) (by omega) (by omega)
     have exk : P.rd_T52 l0_14 (k : Int) = l0_14[k] := by unfold P.rd_T52; simp [hlt]
     rw [exk, Int.toNat_natCast] at d0 d1
     have HT := Aside0.mk (flatHits_take l0_14 k hlt)
     have HLK := Aside0.mk (show (flatHits (l0_14.take k)).length ≤ 1000 from by rw [flatHits_len, List.length_take]; have := H14.out; omega)
     obtain ⟨ys, hys⟩ : ∃ ys, ys = flatHits (l0_14.take k) := ⟨_, rfl⟩
     rw [← hys] at HRh HT HLK
     clear exk hys
     generalize l0_14[k] = p at *
     obtain ⟨x0, x1⟩ := p
     simp only at d0 d1 HT
     obtain ⟨Ah, ch, rfl⟩ := Kd.R_slice HRh.out
     go_wp2_with (at_builtin; refine Kd.R_append_rows (Kd.int .i64) (w0 := w) (W := (wr.alloc (.cells #[.int .i64 x0, .int .i64 x1] 52)).alloc (.cells #[.int .i64 x0, .int .i64 x1] 3)) w.heap.size rfl (.tmp 48) (.tmp 53) 22 3 (.int .i64 0) 8 rfl Tryd.underlying22 info_int0 rfl (by decide) (by omega) (.slice Ah ys.length ch) ys [x0, x1] (some ⟨wr.heap.size + 1, 0, none⟩) 2 2 (fun k => S3 ≤ k) (fun _ => False) rfl ?ax ?aO ?aR (fun _ _ h => h) (fun _ hk => hk.elim) ?aF ?aB ?aS ?aL ?_; (case ax => first | rfl | simp); (case aO => exact Kd.R_alloc (Kd.R_alloc HRh.out _) _); (case aR => exact lit_C _ [x0, x1] 3 _ _ (by simp) rfl (by simp)); (case aF => exact (fun k hk => by have := HS3n.out; simp at hk; omega)); (case aB => exact below_alloc (below_alloc HB.out _) _); (case aS => have := HB.out.size; simp; omega); (case aL => have := HLK.out; omega); intro v9 w9 ho hb hg hat; have HO9 := Aside0.mk ho; have HB9 := Aside0.mk hb; have HRl9 := Aside0.mk (Kd.R_grown (Kd.R_alloc (Kd.R_alloc HRl.out _) _) hg (fun k hk e => by have := HRh.out.1 k e.symm; omega)); have BK9 := Aside0.mk (blk_grown (blk_alloc (blk_alloc BK.out _) _) hg (fun e => by have := HRh.out.1 _ e.symm; have := HS3k.out; omega)); have HS9 := Aside0.mk (show S3 ≤ w9.heap.size from Nat.le_trans (Nat.le_trans HS3n.out (by simp; omega)) hg.size); clear ho hb hg hat)
     go_roundw
     case rel => exact ⟨_, _, _, _, _, _, _, _, _, _, _, _, _, _, ⟨k + 1, by omega, by go_num, ⟨by rw [HT.out]; exact HO9.out⟩, HRl9, HB9, BK9, HS9⟩, rfl⟩
     case measure => simp [RowKit.intOf]; omega
    ·
     obtain rfl : k = l0_14.length := by omega
     rw [List.take_length] at HRh
     have HLK := Aside0.mk (show (flatHits l0_14).length ≤ 1000 from by rw [flatHits_len]; have := H14.out; omega)
     obtain ⟨ys, hys⟩ : ∃ ys, ys = flatHits l0_14 := ⟨_, rfl⟩
     rw [← hys] at HRh HLK
     have HYS := Aside0.mk hys
     clear hys
     obtain ⟨Ah, ch, rfl⟩ := Kd.R_slice HRh.out
     obtain ⟨S4, hS4⟩ : ∃ S4, S4 = wr.heap.size := ⟨_, rfl⟩
     have HS34 := Aside0.mk (show S3 ≤ S4 from by rw [hS4]; exact HS3n.out)
     have HSZ := Aside0.mk (show S4 ≤ wr.heap.size from by rw [hS4]; exact Nat.le_refl _)
     have HSZ0 := Aside0.mk (show w.heap.size ≤ wr.heap.size from HB.out.size)
     have m10 := blk_cell BK.out 10
     have m12 := blk_cell BK.out 12
     clear hS4
     go_wp2_with fail
     go_region_held3 (fun w' => w'.cell? ⟨w.heap.size, 10, none⟩ = some (.slice A0_10 l0_10.length c0_10) ∧ w'.cell? ⟨w.heap.size, 12, none⟩ = some (.int .i64 a0_12)) (first | exact ⟨m10, m12⟩ | exact ⟨Lib.cell?_alloc_some _ m10, Lib.cell?_alloc_some _ m12⟩) (first | (go_at_call 17; with_reducible refine (ints_calls A0_10 c0_10 l0_10 _ (Kd.C_below HR10.out (by first | exact HB.out | exact below_drew1 HB.out | exact pw_below_drewN HB.out _)) HS10.out).mono ?_; rintro e wa ⟨vV, rfl, hr, hb⟩; have hbq := hb; have n0 := Aside0.mk (Kd.R_below (by first | exact HRl.out | exact Kd.R_drew HRl.out | exact Kd.R_drewN HRl.out _) hbq); have n1 := Aside0.mk (Kd.R_below (by first | exact HRh.out | exact Kd.R_drew HRh.out | exact Kd.R_drewN HRh.out _) hbq); have nK := Aside0.mk (blk_below (by first | exact BK.out | exact blk_drew BK.out | exact blk_drewN BK.out _) hbq); have nB := Aside0.mk (below_step (by first | exact HB.out | exact below_drew1 HB.out | exact pw_below_drewN HB.out _) hbq); clear HRl HRh BK HB; have HRl := n0; have HRh := n1; clear n0 n1; have BK := nK; have HB := nB; clear nK nB; have HRV := Aside0.mk (Kd.R_mono (ok' := fun k => S4 ≤ k) (Kd.R_lower (Kd.R_bound hr) (by have h2 := HSZ0.out; first | exact h2 | (simp; omega))) (fun k hk => by have h1 := hk.2.1; have h2 := HSZ.out; first | omega | (simp at h1; omega))); clear hr; have HSZ := Aside0.mk (show S4 ≤ _ from Nat.le_trans HSZ.out (by have h1 := hbq.size; first | exact h1 | (simp at h1; exact h1))); have HSZ0 := Aside0.mk (show w.heap.size ≤ _ from Nat.le_trans HSZ0.out (by have h1 := hbq.size; first | exact h1 | (simp at h1; exact h1))); clear hb hbq; have m10 := blk_cell BK.out 10; have m12 := blk_cell BK.out 12) | (go_at_call 16; with_reducible refine (P.benc_Int.calls a0_12 1 a0_12 ⟨#[]⟩ [] _ rfl).mono ?_; rintro e wb ⟨vE, rfl, hr, hb⟩; have hbq := hb; have n0 := Aside0.mk (Kd.R_below (by first | exact HRl.out | exact Kd.R_drew HRl.out | exact Kd.R_drewN HRl.out _) hbq); have n1 := Aside0.mk (Kd.R_below (by first | exact HRh.out | exact Kd.R_drew HRh.out | exact Kd.R_drewN HRh.out _) hbq); have n2 := Aside0.mk (Kd.R_below (by first | exact HRV.out | exact Kd.R_drew HRV.out | exact Kd.R_drewN HRV.out _) hbq); have nK := Aside0.mk (blk_below (by first | exact BK.out | exact blk_drew BK.out | exact blk_drewN BK.out _) hbq); have nB := Aside0.mk (below_step (by first | exact HB.out | exact below_drew1 HB.out | exact pw_below_drewN HB.out _) hbq); clear HRl HRh HRV BK HB; have HRl := n0; have HRh := n1; have HRV := n2; clear n0 n1 n2; have BK := nK; have HB := nB; clear nK nB; have HRE := Aside0.mk (Kd.R_mono (ok' := fun k => S4 ≤ k) (Kd.R_lower (Kd.R_bound hr) (by have h2 := HSZ0.out; first | exact h2 | (simp; omega))) (fun k hk => by have h1 := hk.2.1; have h2 := HSZ.out; first | omega | (simp at h1; omega))); clear hr; have HSZ := Aside0.mk (show S4 ≤ _ from Nat.le_trans HSZ.out (by have h1 := hbq.size; first | exact h1 | (simp at h1; exact h1))); have HSZ0 := Aside0.mk (show w.heap.size ≤ _ from Nat.le_trans HSZ0.out (by have h1 := hbq.size; first | exact h1 | (simp at h1; exact h1))); clear hb hbq; have m10 := blk_cell BK.out 10; have m12 := blk_cell BK.out 12) | (go_at_call 16; with_reducible refine (P.benc_Int.calls 0 1 0 ⟨#[]⟩ [] _ rfl).mono ?_; rintro e wc ⟨vW, rfl, hr, hb⟩; have hbq := hb; have n0 := Aside0.mk (Kd.R_below (by first | exact HRl.out | exact Kd.R_drew HRl.out | exact Kd.R_drewN HRl.out _) hbq); have n1 := Aside0.mk (Kd.R_below (by first | exact HRh.out | exact Kd.R_drew HRh.out | exact Kd.R_drewN HRh.out _) hbq); have n2 := Aside0.mk (Kd.R_below (by first | exact HRV.out | exact Kd.R_drew HRV.out | exact Kd.R_drewN HRV.out _) hbq); have n3 := Aside0.mk (Kd.R_below (by first | exact HRE.out | exact Kd.R_drew HRE.out | exact Kd.R_drewN HRE.out _) hbq); have nK := Aside0.mk (blk_below (by first | exact BK.out | exact blk_drew BK.out | exact blk_drewN BK.out _) hbq); have nB := Aside0.mk (below_step (by first | exact HB.out | exact below_drew1 HB.out | exact pw_below_drewN HB.out _) hbq); clear HRl HRh HRV HRE BK HB; have HRl := n0; have HRh := n1; have HRV := n2; have HRE := n3; clear n0 n1 n2 n3; have BK := nK; have HB := nB; clear nK nB; have HRW := Aside0.mk (Kd.R_mono (ok' := fun k => S4 ≤ k) (Kd.R_lower (Kd.R_bound hr) (by have h2 := HSZ0.out; first | exact h2 | (simp; omega))) (fun k hk => by have h1 := hk.2.1; have h2 := HSZ.out; first | omega | (simp at h1; omega))); clear hr; have HSZ := Aside0.mk (show S4 ≤ _ from Nat.le_trans HSZ.out (by have h1 := hbq.size; first | exact h1 | (simp at h1; exact h1))); have HSZ0 := Aside0.mk (show w.heap.size ≤ _ from Nat.le_trans HSZ0.out (by have h1 := hbq.size; first | exact h1 | (simp at h1; exact h1))); clear hb hbq; have m10 := blk_cell BK.out 10; have m12 := blk_cell BK.out 12) | (go_at_call 17; with_reducible refine (ints_calls Ah ch ys _ (Kd.R_reads' (by first | exact HRh.out | exact Kd.R_drew HRh.out | exact Kd.R_drewN HRh.out _)).2.2 HLK.out).mono ?_; rintro e wd ⟨vH, rfl, hr, hb⟩; have hbq := hb; have n0 := Aside0.mk (Kd.R_below (by first | exact HRl.out | exact Kd.R_drew HRl.out | exact Kd.R_drewN HRl.out _) hbq); have n1 := Aside0.mk (Kd.R_below (by first | exact HRV.out | exact Kd.R_drew HRV.out | exact Kd.R_drewN HRV.out _) hbq); have n2 := Aside0.mk (Kd.R_below (by first | exact HRE.out | exact Kd.R_drew HRE.out | exact Kd.R_drewN HRE.out _) hbq); have n3 := Aside0.mk (Kd.R_below (by first | exact HRW.out | exact Kd.R_drew HRW.out | exact Kd.R_drewN HRW.out _) hbq); have nK := Aside0.mk (blk_below (by first | exact BK.out | exact blk_drew BK.out | exact blk_drewN BK.out _) hbq); have nB := Aside0.mk (below_step (by first | exact HB.out | exact below_drew1 HB.out | exact pw_below_drewN HB.out _) hbq); clear HRl HRV HRE HRW BK HB; have HRl := n0; have HRV := n1; have HRE := n2; have HRW := n3; clear n0 n1 n2 n3; have BK := nK; have HB := nB; clear nK nB; have HRH := Aside0.mk (Kd.R_mono (ok' := fun k => S4 ≤ k) (Kd.R_lower (Kd.R_bound hr) (by have h2 := HSZ0.out; first | exact h2 | (simp; omega))) (fun k hk => by have h1 := hk.2.1; have h2 := HSZ.out; first | omega | (simp at h1; omega))); clear hr; have HSZ := Aside0.mk (show S4 ≤ _ from Nat.le_trans HSZ.out (by have h1 := hbq.size; first | exact h1 | (simp at h1; exact h1))); have HSZ0 := Aside0.mk (show w.heap.size ≤ _ from Nat.le_trans HSZ0.out (by have h1 := hbq.size; first | exact h1 | (simp at h1; exact h1))); clear hb hbq; have m10 := blk_cell BK.out 10; have m12 := blk_cell BK.out 12) | (refine Kd.R_append_rows_step P.k49 (w0 := w) w.heap.size (by rfl) (.tmp 56) (.tmp 69) 43 49 (.agg #[.int .i64 0, .int .i64 0, .string ⟨#[]⟩, .slice none 0 0]) 56 rfl Tryd.underlying43 info_val rfl (by decide) (by omega) (.slice Ao xs.length co) xs [lisW l0_10, intW a0_12, intW 0, lisW ys] (some ⟨_, 0, none⟩) 4 4 (fun _ => True) (fun k => S4 ≤ k) rfl rfl ?aO (lit_four (x0 := lisW l0_10) (x1 := intW a0_12) (x2 := intW 0) (x3 := lisW ys) _ (by simp) ?aZ ?a0 ?a1 ?a2 ?a3) (fun _ _ h => h) ?aK (fun _ _ => trivial) ?aB ?aS ?aL ?_; (case aZ => exact HSZ0.out); (case a0 => exact (by first | exact HRV.out | exact Kd.R_drew HRV.out | exact Kd.R_drewN HRV.out _)); (case a1 => exact (by first | exact HRE.out | exact Kd.R_drew HRE.out | exact Kd.R_drewN HRE.out _)); (case a2 => exact (by first | exact HRW.out | exact Kd.R_drew HRW.out | exact Kd.R_drewN HRW.out _)); (case a3 => exact (by first | exact HRH.out | exact Kd.R_drew HRH.out | exact Kd.R_drewN HRH.out _)); (case aO => exact Kd.R_mono (Kd.R_alloc (by first | exact HRl.out | exact Kd.R_drew HRl.out | exact Kd.R_drewN HRl.out _) _) (fun _ _ => trivial)); (case aK => exact (fun k hk => ⟨trivial, fun e => by have := HRl.out.1 k e.symm; have := HS34.out; omega⟩)); (case aB => exact below_alloc (by first | exact HB.out | exact below_drew1 HB.out | exact pw_below_drewN HB.out _) _); (case aS => have := HSZ0.out; simp; omega); (case aL => have := HLM.out; omega); intro v9 w9 ho hb hg hat; have HO9 := Aside0.mk ho; have HB9 := Aside0.mk hb; have BK9 := Aside0.mk (blk_grown (blk_alloc (by first | exact BK.out | exact blk_drew BK.out | exact blk_drewN BK.out _) _) hg (Kd.R_ne (Kd.R_alloc HRl.out (.cells #[] 3)) (blk_alloc BK.out _) (by decide))); have m10 := blk_cell BK9.out 10; have m12 := blk_cell BK9.out 12; clear ho hb hg hat))
     have hml : xs ++ [lisW l0_10, intW a0_12, intW 0, lisW ys] = msgL a0_0 a0_1 a0_2 a0_3 a0_4 a0_5 a0_6 a0_7 a0_8 a0_9 l0_10 a0_11 a0_12 false l0_14 := by rw [HXS.out, HYS.out]; rfl
     obtain ⟨ms, hms⟩ : ∃ ms, ms = msgL a0_0 a0_1 a0_2 a0_3 a0_4 a0_5 a0_6 a0_7 a0_8 a0_9 l0_10 a0_11 a0_12 false l0_14 := ⟨_, rfl⟩
     rw [← hms] at H1 hml
     rw [hml] at HO9
     have HMS := Aside0.mk hms
     clear hms hml HXS HYS HLM HLK m10 m12 HSZ HSZ0 HS34 HS3n HS3 HS3k HRl
     obtain ⟨Am, cm, rfl⟩ := Kd.R_slice HO9.out
     have HCm := Aside0.mk (Kd.R_reads' HO9.out)
     go_wp2_with (first | (go_at_call 19; refine (list_calls Am ms.length cm _).mono ?_; rintro e wl ⟨rfl, hb⟩; have HBL := Aside0.mk (below_step HB9.out hb); have BKL := Aside0.mk (blk_below BK9.out hb); have HCL := Aside0.mk (Kd.C_below HCm.out.2.2 hb); clear hb) | (go_at_call 18; refine (benc_Put.calls 3 0 ⟨#[]⟩ Am cm ms s es _ (LaidW.below HLw.out HBL.out) HCL.out HCm.out.2.1 H1.out).mono ?_; rintro e wp ⟨rfl, hb⟩; have HBP := Aside0.mk (below_step HBL.out hb); have BKP := Aside0.mk (blk_below BKL.out hb); clear hb) | (go_at_call 20; with_reducible refine (P.frame_Put.calls s fa ea _ (LaidW.below HLw.out HBP.out) H2.out).mono ?_; rintro e wf ⟨rfl, hb⟩; have HBF := Aside0.mk (below_step HBP.out hb); have bkf := blk_below BKP.out hb; have m15 := blk_cell bkf 15; clear hb bkf) | (go_at_call 20; with_reducible refine (P.frame_Put.calls a0_15 fb eb _ (LaidW.below HLw.out HBF.out) H3.out).mono ?_; rintro e wg ⟨rfl, hb⟩; have HBG := Aside0.mk (below_step HBF.out hb); clear hb))
     go_ret2
     exact ⟨rfl, HBG.out⟩
set_option maxRecDepth 100000 in
set_option maxHeartbeats 4000000 in
theorem put_no (a0_0 a0_1 a0_2 a0_3 a0_4 a0_5 a0_6 a0_7 a0_8 a0_9 : Int) (A0_10 : Option Addr) (c0_10 : Nat) (l0_10 : List Int) (a0_11 a0_12 : Int) (a0_13 : Bool) (A0_14 : Option Addr) (c0_14 : Nat) (l0_14 : List (P.S52)) (a0_15 : ByteArray) (w : World) (hL : LaidW w) (hr0_10 : Kd.C (Kd.int .i64) w A0_10 l0_10.length l0_10) (hc0_10 : l0_10.length ≤ c0_10) (hr0_14 : Kd.C P.k52 w A0_14 l0_14.length l0_14) (hc0_14 : l0_14.length ≤ c0_14) (hm : ¬ mayM a0_0 a0_1 a0_2 a0_3 a0_4 a0_5 a0_6 a0_7 a0_8 a0_9 l0_10 a0_11 a0_12 a0_13 l0_14 a0_15 = true) :
    Calls Tryd.prog 9 #[.agg #[.int .i64 a0_0, .int .i64 a0_1, .int .i64 a0_2, .int .i64 a0_3, .int .i64 a0_4, .int .i64 a0_5, .int .i64 a0_6, .int .i64 a0_7, .int .i64 a0_8, .int .i64 a0_9, .slice A0_10 l0_10.length c0_10, .int .i64 a0_11, .int .i64 a0_12, .bool a0_13, .slice A0_14 l0_14.length c0_14, .string a0_15]] w fun e w' => e = .returned (.tuple #[.string ⟨#[]⟩, .int .i64 1]) ∧ Below w.heap.size w w' := by
  have HC := Aside0.mk (fun W (h : Below w.heap.size w W) => post_Check.calls a0_0 a0_1 a0_2 a0_3 a0_4 a0_5 a0_6 a0_7 a0_8 a0_9 A0_10 c0_10 l0_10 a0_11 a0_12 a0_13 A0_14 c0_14 l0_14 a0_15 W (Kd.C_below hr0_10 h) hc0_10 (Kd.C_below hr0_14 h) hc0_14 1 (by unfold post_Check.f; rw [if_neg hm]))
  clear hr0_10 hr0_14 hL hm
  go_enter Tryd.func9, Tryd.ntmps9
  go_wp2_with (first | (go_at_call 11; refine (HC.out _ ((Below.refl _ _).alloc (Nat.le_refl _) _)).mono ?_; rintro e w1 ⟨rfl, hb⟩; have HB1 := Aside0.mk (below_step ((Below.refl _ _).alloc (Nat.le_refl _) _) hb); clear hb) | fail)
  go_ret2
  exact ⟨rfl, HB1.out⟩
theorem post_Put.calls (a0_0 a0_1 a0_2 a0_3 a0_4 a0_5 a0_6 a0_7 a0_8 a0_9 : Int) (A0_10 : Option Addr) (c0_10 : Nat) (l0_10 : List Int) (a0_11 a0_12 : Int) (a0_13 : Bool) (A0_14 : Option Addr) (c0_14 : Nat) (l0_14 : List (P.S52)) (a0_15 : ByteArray) (r1 : ByteArray) (r2 : Int) (w : World) (hL : LaidW w) (hr0_10 : Kd.C (Kd.int .i64) w A0_10 l0_10.length l0_10) (hc0_10 : l0_10.length ≤ c0_10) (hr0_14 : Kd.C P.k52 w A0_14 l0_14.length l0_14) (hc0_14 : l0_14.length ≤ c0_14) (h : post_Put.f a0_0 a0_1 a0_2 a0_3 a0_4 a0_5 a0_6 a0_7 a0_8 a0_9 l0_10 a0_11 a0_12 a0_13 l0_14 a0_15 = some (r1, r2)) :
    Calls Tryd.prog 9 #[.agg #[.int .i64 a0_0, .int .i64 a0_1, .int .i64 a0_2, .int .i64 a0_3, .int .i64 a0_4, .int .i64 a0_5, .int .i64 a0_6, .int .i64 a0_7, .int .i64 a0_8, .int .i64 a0_9, .slice A0_10 l0_10.length c0_10, .int .i64 a0_11, .int .i64 a0_12, .bool a0_13, .slice A0_14 l0_14.length c0_14, .string a0_15]] w fun e w' => e = .returned (.tuple #[.string r1, .int .i64 r2]) ∧ Below w.heap.size w w' := by
  unfold post_Put.f at h
  by_cases hm : mayM a0_0 a0_1 a0_2 a0_3 a0_4 a0_5 a0_6 a0_7 a0_8 a0_9 l0_10 a0_11 a0_12 a0_13 l0_14 a0_15 = true
  · rw [if_pos hm] at h
    obtain ⟨⟨s, es⟩, h1, h⟩ := Option.bind_eq_some_iff.1 h
    obtain ⟨⟨fa, ea⟩, h2, h⟩ := Option.bind_eq_some_iff.1 h
    obtain ⟨⟨fb, eb⟩, h3, h⟩ := Option.bind_eq_some_iff.1 h
    simp only at h
    split at h
    · rename_i h4
      simp only [Option.some.injEq, Prod.mk.injEq] at h
      obtain ⟨rfl, rfl⟩ := h
      cases a0_13 with
      | true => exact put_true a0_0 a0_1 a0_2 a0_3 a0_4 a0_5 a0_6 a0_7 a0_8 a0_9 A0_10 c0_10 l0_10 a0_11 a0_12 A0_14 c0_14 l0_14 a0_15 w hL hr0_10 hc0_10 hr0_14 hc0_14 hm s fa fb es ea eb h1 h2 h3 h4
      | false => exact put_false a0_0 a0_1 a0_2 a0_3 a0_4 a0_5 a0_6 a0_7 a0_8 a0_9 A0_10 c0_10 l0_10 a0_11 a0_12 A0_14 c0_14 l0_14 a0_15 w hL hr0_10 hc0_10 hr0_14 hc0_14 hm s fa fb es ea eb h1 h2 h3 h4
    · cases h
  · rw [if_neg hm] at h
    simp only [Option.some.injEq, Prod.mk.injEq] at h
    obtain ⟨rfl, rfl⟩ := h
    exact put_no a0_0 a0_1 a0_2 a0_3 a0_4 a0_5 a0_6 a0_7 a0_8 a0_9 A0_10 c0_10 l0_10 a0_11 a0_12 a0_13 A0_14 c0_14 l0_14 a0_15 w hL hr0_10 hc0_10 hr0_14 hc0_14 hm
end Go.Proofs.YtlggihnkhimfkaaDoor.Giv
namespace Go.Proofs.YtlggihnkhimfkaaDoor.P
open Go.RowKit Go.Proofs.YtlggihnkhimfkaaDoorW.PrintWords Go.Proofs.YtlggihnkhimfkaaDoorW.PrintLast Go.Proofs.YtlggihnkhimfkaaDoorW.PrintMore
attribute [local go_sem] max2_int min2_int max_two min_two max_three min_three max_four min_four   -- for this text's walks alone
set_option linter.unusedVariables false
set_option linter.unusedSimpArgs false
def ploverref05_Is.l0 : Nat → List Int → Int → Option (Bool)
  | 0, _, _ => none
  | k + 1, x0, x3 => if x3 < (x0.length : Int) then (if 0 ≤ x3 then (if (rd x0 x3) < (-2147483648) then (some false) else (if (rd x0 x3) > 2147483647 then (some false) else (ploverref05_Is.l0 k x0 (wrap64 (x3 + 1))))) else (none)) else (if (x0.length : Int) ≥ 1 then (some (decide ((x0.length : Int) ≤ 16))) else (some false))
def ploverref05_Is.f (k : Nat) (l0 : List Int) : Option (Bool) := ploverref05_Is.l0 k l0 0
set_option maxHeartbeats 8000000 in
set_option maxRecDepth 100000 in
theorem ploverref05_Is.calls (k : Nat) (A0 : Option Addr) (c0 : Nat) (l0 : List Int) (r : Bool) (w : World) (hr0 : Kd.C (Kd.int .i64) w A0 l0.length l0) (hc0 : l0.length ≤ c0) (h : ploverref05_Is.f k l0 = some r) :
  Calls Tryd.prog 40 #[.slice A0 l0.length c0] w fun e w' => e = .returned (.bool r) ∧ Drawn0 w w' := by
 have HR0 := Aside0.mk hr0
 have HC0 := Aside0.mk hc0
 clear hr0 hc0
 have H : (ploverref05_Is.l0 k l0 0) = some r := h
 clear h
 have H' := Aside0.mk H
 clear H
 go_enter Tryd.func40, Tryd.ntmps40
 go_wp2
 go_loopg [3] k (fun kq v3 w' => ∃ (x3_1 : Int), v3 = .int .i64 x3_1 ∧ Aside0 (ploverref05_Is.l0 kq l0 x3_1 = some r) ∧ Aside0 (kq ≤ k) ∧ Drawn0 w w')
 case atStart => exact ⟨(0), (by first | rfl | (simp; done) | (simp [*]; done)), H', ⟨Nat.le_refl _⟩, by repeat (first | exact Drawn0.refl _ | apply Drawn0.step)⟩
 case round =>
  clear H'
  obtain ⟨x3_1, rfl, HA, HK1, ⟨m1, rfl⟩⟩ := hrel
  cases gk with
  | zero => exact absurd HA.out (by simp [ploverref05_Is.l0])
  | succ k1 =>
   have H := HA.out
   clear HA
   simp only [ploverref05_Is.l0] at H
   by_cases c2 : x3_1 < (l0.length : Int)
   ·
    rw [if_pos c2] at H
    have c2b0 : decide (x3_1 < (l0.length : Int)) = true := decide_eq_true c2
    clear c2
    by_cases c3 : 0 ≤ x3_1
    ·
     rw [if_pos c3] at H
     have c3b0 : decide (0 ≤ x3_1) = true := decide_eq_true c3
     clear c3
     by_cases c4 : (rd l0 x3_1) < (-2147483648)
     ·
      rw [if_pos c4] at H
      have c4b0 : decide ((rd l0 x3_1) < (-2147483648)) = true := decide_eq_true c4
      clear c4
      obtain rfl := Option.some.inj H
      have p102 : 0 ≤ (x3_1 : Int) := of_decide_eq_true (by first | (with_reducible assumption) | assumption)
      have q102 : x3_1 < (l0.length : Int) := of_decide_eq_true (by first | (with_reducible assumption) | assumption)
      obtain ⟨ad102, e102, hx102_0⟩ := Kd.at_int HR0.out x3_1 p102 q102
      cases e102
      replace p102 := eq_true p102
      replace q102 := eq_true q102
      go_wp2
      go_ret
      exact ⟨by first | rfl | (simp; done) | (simp [*]; done), by repeat (first | exact Drawn0.refl _ | apply Drawn0.step)⟩
     ·
      rw [if_neg c4] at H
      have c4b0 : decide ((rd l0 x3_1) < (-2147483648)) = false := decide_eq_false c4
      clear c4
      by_cases c5 : (rd l0 x3_1) > 2147483647
      ·
       rw [if_pos c5] at H
       have c5b0 : decide (2147483647 < (rd l0 x3_1)) = true := decide_eq_true c5
       clear c5
       obtain rfl := Option.some.inj H
       have p102 : 0 ≤ (x3_1 : Int) := of_decide_eq_true (by first | (with_reducible assumption) | assumption)
       have q102 : x3_1 < (l0.length : Int) := of_decide_eq_true (by first | (with_reducible assumption) | assumption)
       obtain ⟨ad102, e102, hx102_0⟩ := Kd.at_int HR0.out x3_1 p102 q102
       cases e102
       replace p102 := eq_true p102
       replace q102 := eq_true q102
       have p103 : 0 ≤ (x3_1 : Int) := of_decide_eq_true (by first | (with_reducible assumption) | assumption)
       have q103 : x3_1 < (l0.length : Int) := of_decide_eq_true (by first | (with_reducible assumption) | assumption)
       obtain ⟨ad103, e103, hx103_0⟩ := Kd.at_int HR0.out x3_1 p103 q103
       obtain rfl : ad102 = ad103 := (by injection e103)
       replace p103 := eq_true p103
       replace q103 := eq_true q103
       go_wp2
       go_ret
       exact ⟨by first | rfl | (simp; done) | (simp [*]; done), by repeat (first | exact Drawn0.refl _ | apply Drawn0.step)⟩
      ·
       rw [if_neg c5] at H
       have c5b0 : decide (2147483647 < (rd l0 x3_1)) = false := decide_eq_false c5
       clear c5
       have H' := Aside0.mk H
       clear H
       have p102 : 0 ≤ (x3_1 : Int) := of_decide_eq_true (by first | (with_reducible assumption) | assumption)
       have q102 : x3_1 < (l0.length : Int) := of_decide_eq_true (by first | (with_reducible assumption) | assumption)
       obtain ⟨ad102, e102, hx102_0⟩ := Kd.at_int HR0.out x3_1 p102 q102
       cases e102
       replace p102 := eq_true p102
       replace q102 := eq_true q102
       have p103 : 0 ≤ (x3_1 : Int) := of_decide_eq_true (by first | (with_reducible assumption) | assumption)
       have q103 : x3_1 < (l0.length : Int) := of_decide_eq_true (by first | (with_reducible assumption) | assumption)
       obtain ⟨ad103, e103, hx103_0⟩ := Kd.at_int HR0.out x3_1 p103 q103
       obtain rfl : ad102 = ad103 := (by injection e103)
       replace p103 := eq_true p103
       replace q103 := eq_true q103
       go_wp2
       go_roundg k1
       case measure => have := HK1.out; omega
       case rel => exact ⟨(wrap64 (x3_1 + 1)), (by first | rfl | (simp; done) | (simp [*]; done)), H', ⟨by have := HK1.out; omega⟩, by repeat (first | exact Drawn0.refl _ | apply Drawn0.step)⟩
    ·
     rw [if_neg c3] at H
     exact absurd H (by simp)
   ·
    rw [if_neg c2] at H
    have c2b0 : decide (x3_1 < (l0.length : Int)) = false := decide_eq_false c2
    clear c2
    by_cases c6 : (l0.length : Int) ≥ 1
    ·
     rw [if_pos c6] at H
     have c6b0 : decide (1 ≤ (l0.length : Int)) = true := decide_eq_true c6
     have c6b1 : decide (1 ≤ l0.length) = true := decide_eq_true (by omega)
     clear c6
     obtain rfl := Option.some.inj H
     go_wp2
     go_ret
     exact ⟨by first | rfl | (simp; done) | (simp [*]; done), by repeat (first | exact Drawn0.refl _ | apply Drawn0.step)⟩
    ·
     rw [if_neg c6] at H
     have c6b0 : decide (1 ≤ (l0.length : Int)) = false := decide_eq_false c6
     have c6b1 : decide (1 ≤ l0.length) = false := decide_eq_false (by omega)
     clear c6
     obtain rfl := Option.some.inj H
     go_wp2
     go_ret
     exact ⟨by first | rfl | (simp; done) | (simp [*]; done), by repeat (first | exact Drawn0.refl _ | apply Drawn0.step)⟩
end Go.Proofs.YtlggihnkhimfkaaDoor.P
namespace Go.Proofs.YtlggihnkhimfkaaDoor.Pure
open Go.RowKit Go.Lib Go.Proofs.YtlggihnkhimfkaaDoor.Giv Go.Proofs.YtlggihnkhimfkaaDoor.P Go.Proofs.YtlggihnkhimfkaaDoorW.PrintWords Go.Proofs.YtlggihnkhimfkaaDoorW.PrintLast Go.Proofs.YtlggihnkhimfkaaDoorW.PrintMore
set_option linter.unusedVariables false
set_option linter.unusedSimpArgs false
abbrev Hit := P.S52
structure Ms where
  kd : Int
  sh : Int
  ep : Int
  cl : Int
  sq : Int
  nn : Int
  ve : Int
  li : Int
  ok : Int
  id : Int
  v : List Int
  kk : Int
  er : Int
  was : Bool
  hits : List Hit
  text : ByteArray
theorem evTo {α : Type} {g : Nat → Option α} {r r' : α} (h : Ev g r) (e : r = r') : Ev g r' := e ▸ h
theorem w1 (i : Nat) (h : i ≤ 100000000) : wrap64 ((i : Int) + 1) = ((i + 1 : Nat) : Int) := by unfold wrap64; omega
theorem rdI (l : List Int) (i : Nat) (h : i < l.length) : rd l (i : Int) = l[i] := by simp [rd, h]
theorem rdH (l : List Hit) (i : Nat) (h : i < l.length) : rd_T52 l (i : Int) = l[i] := by simp [rd_T52, h]
theorem dropI {α : Type} (l : List α) (i : Nat) (h : i < l.length) : l.drop i = l[i] :: l.drop (i + 1) := List.drop_eq_getElem_cons h
theorem is_l0 (l : List Int) (hl : l.length ≤ 1000000) : ∀ (d i : Nat), l.length - i ≤ d → i ≤ l.length → Ev (fun k => ploverref05_Is.l0 k l (i : Int)) (!(l.drop i).any oddN && (decide (0 < l.length) && decide (l.length ≤ 16)))
 | d, i, hd, hi => by
  by_cases hlt : i < l.length
  ·
   cases d with
   | zero => omega
   | succ d =>
    have ih := is_l0 l hl d (i + 1) (by omega) (by omega)
    rw [dropI l i hlt, List.any_cons]
    have c0 : (i : Int) < (l.length : Int) := by omega
    have c1 : (0 : Int) ≤ (i : Int) := by omega
    by_cases h1 : l[i] < -2147483648
    ·
     refine evTo (Ev.step (f := fun _ => some false) (fun k => ?_) (Ev.now _)) ?_
     ·
      rw [ploverref05_Is.l0, if_pos c0, if_pos c1, rdI l i hlt, if_pos h1]
     ·
      rw [show oddN l[i] = true by simp [oddN]; omega]; rfl
    ·
     by_cases h2 : l[i] > 2147483647
     ·
      refine evTo (Ev.step (f := fun _ => some false) (fun k => ?_) (Ev.now _)) ?_
      ·
       rw [ploverref05_Is.l0, if_pos c0, if_pos c1, rdI l i hlt, if_neg h1, if_pos h2]
      ·
       rw [show oddN l[i] = true by simp [oddN]; omega]; rfl
     ·
      refine Ev.step (f := fun k => ploverref05_Is.l0 k l ((i + 1 : Nat) : Int)) (fun k => ?_) (evTo ih ?_)
      ·
       rw [ploverref05_Is.l0, if_pos c0, if_pos c1, rdI l i hlt, if_neg h1, if_neg h2, w1 i (by omega)]
      ·
       rw [show oddN l[i] = false by simp [oddN]; omega]; rfl
  ·
   have hn : ¬ (i : Int) < (l.length : Int) := by omega
   rw [List.drop_of_length_le (by omega)]
   by_cases h1 : (l.length : Int) ≥ 1
   ·
    refine evTo (Ev.step (f := fun _ => some (decide ((l.length : Int) ≤ 16))) (fun k => ?_) (Ev.now _)) ?_
    ·
     rw [ploverref05_Is.l0, if_neg hn, if_pos h1]
    ·
     rw [decide_eq_true (show 0 < l.length by omega)]
     simp only [List.any_nil, Bool.not_false, Bool.true_and]
     exact decide_eq_decide.2 (by omega)
   ·
    refine evTo (Ev.step (f := fun _ => some false) (fun k => ?_) (Ev.now _)) ?_
    ·
     rw [ploverref05_Is.l0, if_neg hn, if_neg h1]
    ·
     rw [decide_eq_false (show ¬ 0 < l.length by omega)]; simp
theorem is_ev (l : List Int) (hl : l.length ≤ 1000000) : Ev (fun k => ploverref05_Is.f k l) (isV l) := by
  refine Ev.congr (f := fun k => ploverref05_Is.l0 k l ((0 : Nat) : Int)) (fun k => rfl) (evTo (is_l0 l hl l.length 0 (by omega) (by omega)) ?_)
  unfold isV
  rw [List.drop_zero]
  cases decide (0 < l.length) <;> cases decide (l.length ≤ 16) <;> cases l.any oddN <;> rfl
theorem list_l0 (l : List Int) (hl : l.length ≤ 1000000) : ∀ (d i : Nat) (acc : List V), l.length - i ≤ d → i ≤ l.length → acc.length = i → Ev (fun k => ploverref13_list.l0 k l (i : Int) 3 0 ⟨#[]⟩ acc) (3, 0, ⟨#[]⟩, acc ++ (l.drop i).map intV)
  | d, i, acc, hd, hi, ha => by
    by_cases hlt : i < l.length
    · cases d with
      | zero => omega
      | succ d =>
        have ih := list_l0 l hl d (i + 1) (acc ++ [intV l[i]]) (by omega) (by omega) (by simp [ha])
        have c0 : (i : Int) < (l.length : Int) := by omega
        have c1 : (0 : Int) ≤ (i : Int) := by omega
        have c2 : acc.length < 2513169434916 := by omega
        refine Ev.step (f := fun k => ploverref13_list.l0 k l ((i + 1 : Nat) : Int) 3 0 ⟨#[]⟩ (acc ++ [intV l[i]])) (fun k => ?_) (evTo ih ?_)
        · rw [ploverref13_list.l0, if_pos c0, if_pos c1, if_pos c2, rdI l i hlt, w1 i (by omega)]; rfl
        · rw [dropI l i hlt, List.map_cons, List.append_assoc]; rfl
    · have hn : ¬ (i : Int) < (l.length : Int) := by omega
      rw [List.drop_of_length_le (by omega)]
      refine evTo (Ev.step (f := fun _ => some (3, 0, ⟨#[]⟩, acc)) (fun k => ?_) (Ev.now _)) ?_
      · rw [ploverref13_list.l0, if_neg hn]
      · simp
theorem list_ev (l : List Int) (hl : l.length ≤ 1000000) : Ev (fun k => ploverref13_list.f k l) (3, 0, ⟨#[]⟩, l.map intV) :=
  Ev.congr (f := fun k => ploverref13_list.l0 k l ((0 : Nat) : Int) 3 0 ⟨#[]⟩ []) (fun k => rfl) (evTo (list_l0 l hl l.length 0 [] (by omega) (by omega) rfl) (by simp))
theorem sameI_l0 (a b : List Int) (hl : a.length = b.length) (ha : a.length ≤ 1000000) : ∀ (d i : Nat), a.length - i ≤ d → i ≤ a.length → ∃ r, Ev (fun k => ploverref01_SameInts.l0 k a b (i : Int)) r ∧ (r = true ↔ a.drop i = b.drop i)
  | d, i, hd, hi => by
    by_cases hlt : i < a.length
    · cases d with
      | zero => omega
      | succ d =>
        obtain ⟨r, ih, hr⟩ := sameI_l0 a b hl ha d (i + 1) (by omega) (by omega)
        have hlb : i < b.length := by omega
        have c0 : (i : Int) < (a.length : Int) := by omega
        have c1 : (0 : Int) ≤ (i : Int) := by omega
        have c2 : (i : Int) < (b.length : Int) := by omega
        rw [dropI a i hlt, dropI b i hlb]
        by_cases he : a[i] = b[i]
        · refine ⟨r, Ev.step (f := fun k => ploverref01_SameInts.l0 k a b ((i + 1 : Nat) : Int)) (fun k => ?_) ih, ?_⟩
          · rw [ploverref01_SameInts.l0, if_pos c0, if_pos c1, if_pos c2, rdI a i hlt, rdI b i hlb, if_pos he, w1 i (by omega)]
          · rw [hr, List.cons.injEq]; exact ⟨fun h => ⟨he, h⟩, fun h => h.2⟩
        · refine ⟨false, Ev.step (f := fun _ => some false) (fun k => ?_) (Ev.now _), ?_⟩
          · rw [ploverref01_SameInts.l0, if_pos c0, if_pos c1, if_pos c2, rdI a i hlt, rdI b i hlb, if_neg he]
          · rw [List.cons.injEq]; exact ⟨fun h => absurd h (by decide), fun h => absurd h.1 he⟩
    · have hn : ¬ (i : Int) < (a.length : Int) := by omega
      refine ⟨true, Ev.step (f := fun _ => some true) (fun k => ?_) (Ev.now _), ?_⟩
      · rw [ploverref01_SameInts.l0, if_neg hn]
      · rw [List.drop_of_length_le (by omega), List.drop_of_length_le (by omega)]; simp
theorem sameI_ev (a b : List Int) (ha : a.length ≤ 1000000) : ∃ r, Ev (fun k => ploverref01_SameInts.f k a b) r ∧ (r = true ↔ a = b) := by
  by_cases hl : a.length = b.length
  · obtain ⟨r, h, hr⟩ := sameI_l0 a b hl ha a.length 0 (by omega) (by omega)
    refine ⟨r, Ev.congr (fun k => ?_) h, hr⟩
    unfold ploverref01_SameInts.f
    rw [if_pos (show (a.length : Int) = (b.length : Int) by omega)]; rfl
  · refine ⟨false, Ev.congr (f := fun _ => some false) (fun k => ?_) (Ev.now _), ⟨fun h => absurd h (by decide), fun h => absurd (congrArg List.length h) hl⟩⟩
    unfold ploverref01_SameInts.f
    rw [if_neg (show ¬ (a.length : Int) = (b.length : Int) by omega)]
theorem hit_ext (a b : Hit) : a = b ↔ a.f0 = b.f0 ∧ a.f1 = b.f1 := by
  cases a; cases b; simp
theorem sameH_l0 (a b : List Hit) (hl : a.length = b.length) (ha : a.length ≤ 1000000) : ∀ (d i : Nat), a.length - i ≤ d → i ≤ a.length → ∃ r, Ev (fun k => ploverref05_Same.l0 k a b (i : Int)) r ∧ (r = true ↔ a.drop i = b.drop i)
  | d, i, hd, hi => by
    by_cases hlt : i < a.length
    · cases d with
      | zero => omega
      | succ d =>
        obtain ⟨r, ih, hr⟩ := sameH_l0 a b hl ha d (i + 1) (by omega) (by omega)
        have hlb : i < b.length := by omega
        have c0 : (i : Int) < (a.length : Int) := by omega
        have c1 : (0 : Int) ≤ (i : Int) := by omega
        have c2 : (i : Int) < (b.length : Int) := by omega
        rw [dropI a i hlt, dropI b i hlb]
        by_cases he : a[i] = b[i]
        · refine ⟨r, Ev.step (f := fun k => ploverref05_Same.l0 k a b ((i + 1 : Nat) : Int)) (fun k => ?_) ih, ?_⟩
          · rw [ploverref05_Same.l0, if_pos c0, if_pos c1, if_pos c2, rdH a i hlt, rdH b i hlb, he, if_neg (by simp), w1 i (by omega)]
          · rw [hr, List.cons.injEq]; exact ⟨fun h => ⟨he, h⟩, fun h => h.2⟩
        · refine ⟨false, Ev.step (f := fun _ => some false) (fun k => ?_) (Ev.now _), ?_⟩
          · rw [ploverref05_Same.l0, if_pos c0, if_pos c1, if_pos c2, rdH a i hlt, rdH b i hlb, if_pos (by
              rw [hit_ext] at he
              by_cases h0 : a[i].f0 = b[i].f0
              · have h1 : ¬ a[i].f1 = b[i].f1 := fun h => he ⟨h0, h⟩
                rw [Bool.or_eq_true]; right; simpa using h1
              · rw [Bool.or_eq_true]; left; simpa using h0)]
          · rw [List.cons.injEq]; exact ⟨fun h => absurd h (by decide), fun h => absurd h.1 he⟩
    · have hn : ¬ (i : Int) < (a.length : Int) := by omega
      refine ⟨true, Ev.step (f := fun _ => some true) (fun k => ?_) (Ev.now _), ?_⟩
      · rw [ploverref05_Same.l0, if_neg hn]
      · rw [List.drop_of_length_le (by omega), List.drop_of_length_le (by omega)]; simp
theorem sameH_ev (a b : List Hit) (ha : a.length ≤ 1000000) : ∃ r, Ev (fun k => ploverref05_Same.f k a b) r ∧ (r = true ↔ a = b) := by
  by_cases hl : a.length = b.length
  · obtain ⟨r, h, hr⟩ := sameH_l0 a b hl ha a.length 0 (by omega) (by omega)
    refine ⟨r, Ev.congr (fun k => ?_) h, hr⟩
    unfold ploverref05_Same.f
    rw [if_pos (show (a.length : Int) = (b.length : Int) by omega)]; rfl
  · refine ⟨false, Ev.congr (f := fun _ => some false) (fun k => ?_) (Ev.now _), ⟨fun h => absurd h (by decide), fun h => absurd (congrArg List.length h) hl⟩⟩
    unfold ploverref05_Same.f
    rw [if_neg (show ¬ (a.length : Int) = (b.length : Int) by omega)]
theorem toList_eq (a b : ByteArray) : (a.toList == b.toList) = true ↔ a = b := by
  rw [beq_iff_eq, toList_data, toList_data]
  exact ⟨fun h => data_ext h, fun h => by rw [h]⟩
def lastP (m : Ms) : Prop := ¬ m.kd < 1 ∧ ¬ m.kd > 19 ∧ ¬ m.sh < 0 ∧ ¬ m.sh > 15 ∧ (m.v.length > 0 → isV m.v = true) ∧ m.ok ≥ 0 ∧ m.ok ≤ 3 ∧ m.kk ≥ 0 ∧ m.kk ≤ 64 ∧ m.er ≥ 0 ∧ m.er ≤ 255 ∧ (m.text.size : Int) ≤ 262144
def mayB (m : Ms) : Bool := mayM m.kd m.sh m.ep m.cl m.sq m.nn m.ve m.li m.ok m.id m.v m.kk m.er m.was m.hits m.text
theorem mayB_iff (m : Ms) : mayB m = true ↔ ((six m.ep m.cl m.sq m.nn m.ve m.li).any oddP = false) ∧ ((∀ x ∈ m.hits, oddP x.f1 = false) ∧ m.hits.length ≤ 64) ∧ lastP m := by
  unfold mayB mayM lastP
  simp only [Bool.and_eq_true, Bool.not_eq_true', Bool.or_eq_false_iff, Bool.and_eq_false_iff, decide_eq_false_iff_not, Bool.not_eq_false']
  have hd : (dists m.hits).any oddP = false ↔ ∀ x ∈ m.hits, oddP x.f1 = false := by
    unfold dists
    rw [List.any_map, List.any_eq_false]
    exact ⟨fun h x hx => by simpa using h x hx, fun h x hx => by simpa using h x hx⟩
  rw [hd]
  constructor
  · rintro ⟨⟨⟨⟨⟨⟨⟨⟨p1, p2⟩, p3⟩, p4⟩, hodd⟩, ⟨⟨q1, q2⟩, q3⟩, q4⟩, hv⟩, ⟨⟨s1, s2⟩, s3⟩, s4⟩, t⟩
    have hv2 : m.v.length > 0 → isV m.v = true := fun h => hv.elim (fun h0 => absurd h h0) (fun h0 => h0)
    exact ⟨hodd, ⟨s4, by omega⟩, by omega, by omega, by omega, by omega, hv2, by omega, by omega, by omega, by omega, by omega, by omega, by omega⟩
  · rintro ⟨hodd, ⟨s4, s3⟩, p1, p2, p3, p4, hv, q1, q2, q3, q4, s1, s2, t⟩
    have hv2 : ¬ 0 < m.v.length ∨ isV m.v = true := (Nat.lt_or_ge 0 m.v.length).elim (fun h => .inr (hv h)) (fun h => .inl (by omega))
    exact ⟨⟨⟨⟨⟨⟨⟨⟨by omega, by omega⟩, by omega⟩, by omega⟩, hodd⟩, ⟨⟨by omega, by omega⟩, by omega⟩, by omega⟩, hv2⟩, ⟨⟨by omega, by omega⟩, by omega⟩, s4⟩, by omega⟩
end Go.Proofs.YtlggihnkhimfkaaDoor.Pure
namespace Go.Proofs.YtlggihnkhimfkaaDoor.Cut
open Go
section
variable {P : Program} {Q : Exit → Act → World → Prop}
def cutQ (P : Program) (ops : Array Oper) (z : Oper) (Q : Exit → Act → World → Prop) : Exit → Act → World → Prop
  | .normal, a, w => wpList P ops Q [z] a w
  | e, a, w => Q e a w
theorem cutQ_out {ops : Array Oper} {z : Oper} (h : LetsOut (cutQ P ops z Q)) : LetsOut Q := h
theorem wp_cut {ops : Array Oper} {z o : Oper} {a : Act} {w : World} {K : Act → World → Prop} (hh : o.wp P a w K (cutQ P ops z Q)) : o.wp P a w K Q := by
  unfold Oper.wp at *
  generalize (execOp a.eval o).run P w = r at *
  cases r with
  | ok n w' =>
    cases n <;> simp only [Oper.upon] at hh ⊢ <;>
      first
        | exact hh
        | exact Calls.mono hh (fun e w'' he => by cases e <;> exact he)
  | halt x w' => cases x <;> simp only [Oper.upon] at hh ⊢ <;> exact hh
def waitsAll (ops : Array Oper) (z : Oper) : Bool :=
  ((List.range ops.size).all fun i => z.after.any fun e => Region.binds .any e && (e.on == i || ((ops[e.on]?).map fun o => o.after.any fun e' => Region.binds .any e' && e'.on == i).getD false)) && z.after.all fun e => !Region.binds .any e || decide (e.on < ops.size)
def downAll (ops : Array Oper) : Bool :=
  (List.range ops.size).all fun i => ((ops[i]?).map fun o => o.after.all fun e => !Region.binds .any e || decide (e.on < i)).getD true
theorem yielded_push {ops : Array Oper} {z : Oper} (hd : z.dst = none) (tmps : Array Value) : yielded (ops.push z) tmps = yielded ops tmps := by
  funext j
  unfold yielded
  rcases Nat.lt_trichotomy j ops.size with h | h | h
  · rw [Array.getElem?_push_lt h, Array.getElem?_eq_getElem h]
  · subst h
    rw [Array.getElem?_push_size, Array.getElem?_eq_none (Nat.le_refl _)]
    simp [hd]
  · rw [Array.getElem?_eq_none (by rw [Array.size_push]; omega), Array.getElem?_eq_none (by omega)]
theorem all_listed {ops : Array Oper} {listed : Array Bool} (hs : listed.size = ops.size) (hdn : downAll ops = true) (h : Region.ready .any ops listed = []) : ∀ i, i < ops.size → listed.getD i false = true := by
  intro i
  induction i using Nat.strongRecOn with
  | ind i ih =>
    intro hi
    by_cases hl : listed.getD i true = false
    · exfalso
      have : i ∈ Region.ready .any ops listed := by
        rw [mem_ready]
        refine ⟨hl, ops[i], Array.getElem?_eq_getElem hi, fun e he hb => ?_⟩
        have h1 := List.all_eq_true.1 hdn i (List.mem_range.2 hi)
        rw [Array.getElem?_eq_getElem hi] at h1
        simp only [Option.map_some, Option.getD_some] at h1
        have h2 := Array.all_eq_true'.1 h1 e he
        rw [hb] at h2
        have h3 : e.on < i := by simpa using h2
        exact ih e.on h3 (by omega)
      rw [h] at this
      cases this
    · simp only [Bool.not_eq_false] at hl
      have hlt : i < listed.size := by omega
      simp [hlt] at hl ⊢
      exact hl
theorem listed_none {ops : Array Oper} {listed : Array Bool} (hs : listed.size = ops.size) (h : ∀ i, i < ops.size → listed.getD i false = true) : Region.ready .any ops listed = [] := by
  apply List.eq_nil_iff_forall_not_mem.2
  intro i hi
  rw [mem_ready] at hi
  obtain ⟨h0, o, ho, _⟩ := hi
  have hlt : i < ops.size := (Array.getElem?_eq_some_iff.1 ho).1
  have := h i hlt
  have hlt2 : i < listed.size := by omega
  simp [hlt2] at this h0
  rw [this] at h0
  cases h0
theorem getD_push_lt {listed : Array Bool} {i : Nat} (h : i < listed.size) (d : Bool) : (listed.push false).getD i d = listed.getD i d := by
  simp [Array.getElem?_push_lt h, h]
def Shut (ops : Array Oper) (listed : Array Bool) : Prop := ∀ j o, listed.getD j false = true → ops[j]? = some o → ∀ e ∈ o.after, Region.binds .any e = true → listed.getD e.on false = true
theorem Shut.none (ops : Array Oper) (n : Nat) : Shut ops (Array.replicate n false) := by
  intro j o h
  simp [Array.getElem?_replicate] at h
  split at h <;> simp at h
theorem getD_set_true {listed : Array Bool} {i j : Nat} (h : listed.getD j false = true) : (listed.setIfInBounds i true).getD j false = true := by
  by_cases hj : i = j
  · subst hj
    have : i < listed.size := by
      by_cases hlt : i < listed.size
      · exact hlt
      · simp [hlt] at h
    simp [this]
  · rw [getD_set_ne false hj]; exact h
theorem Shut.set {ops : Array Oper} {listed : Array Bool} {i : Nat} (h : Shut ops listed) (hr : i ∈ Region.ready .any ops listed) : Shut ops (listed.setIfInBounds i true) := by
  intro j o hj ho e he hb
  rw [mem_ready] at hr
  obtain ⟨_, oi, hoi, hall⟩ := hr
  by_cases hij : i = j
  · subst hij
    rw [hoi] at ho
    obtain rfl := Option.some.inj ho
    exact getD_set_true (hall e he hb)
  · rw [getD_set_ne false hij] at hj
    exact getD_set_true (h j o hj ho e he hb)
theorem cut_any {ops : Array Oper} {z : Oper} (hd : z.dst = none) (hz : waitsAll ops z = true) (hdn : downAll ops = true) :
  ∀ (fuel : Nat) (listed : Array Bool) (a : Act) (w : World), listed.size = ops.size → Shut ops listed → wpAny P .any ops (cutQ P (ops.push z) z Q) fuel listed a w → wpAny P .any (ops.push z) Q (fuel + 1) (listed.push false) a w := by
 unfold waitsAll at hz
 rw [Bool.and_eq_true] at hz
 obtain ⟨hz1, hz2⟩ := hz
 -- the last one comes up just when all others have
 have last : ∀ listed : Array Bool, listed.size = ops.size → Shut ops listed → ops.size ∈ Region.ready .any (ops.push z) (listed.push false) → ∀ i, i < ops.size → listed.getD i false = true := by
  intro listed hs hsh hr i hi
  rw [mem_ready] at hr
  obtain ⟨_, o, ho, hall⟩ := hr
  rw [Array.getElem?_push_size] at ho
  obtain rfl := Option.some.inj ho
  have h1 := List.all_eq_true.1 hz1 i (List.mem_range.2 hi)
  obtain ⟨e, he, hb⟩ := Array.any_eq_true'.1 h1
  rw [Bool.and_eq_true] at hb
  have h2 := hall e he hb.1
  have hz3 := Array.all_eq_true'.1 hz2 e he
  rw [hb.1] at hz3
  have hlt : e.on < ops.size := by simpa using hz3
  rw [getD_push_lt (by omega)] at h2
  rcases Bool.or_eq_true _ _ ▸ hb.2 with h3 | h3
  ·
   have h3 : e.on = i := by simpa using h3
   rw [h3] at h2
   exact h2
  ·
   rw [Array.getElem?_eq_getElem hlt] at h3
   simp only [Option.map_some, Option.getD_some] at h3
   obtain ⟨e', he', hb'⟩ := Array.any_eq_true'.1 h3
   rw [Bool.and_eq_true] at hb'
   have h4 : e'.on = i := by simpa using hb'.2
   rw [← h4]
   exact hsh e.on _ h2 (Array.getElem?_eq_getElem hlt) e' he' hb'.1
 have lastr : ∀ listed : Array Bool, listed.size = ops.size → (∀ i, i < ops.size → listed.getD i false = true) → ops.size ∈ Region.ready .any (ops.push z) (listed.push false) := by
  intro listed hs h
  rw [mem_ready]
  refine ⟨by rw [← hs]; simp, z, Array.getElem?_push_size, fun e he hb => ?_⟩
  have h2 := Array.all_eq_true'.1 hz2 e he
  rw [hb] at h2
  have h3 : e.on < ops.size := by simpa using h2
  rw [getD_push_lt (by omega)]
  exact h e.on h3
 have fin : ∀ (fuel : Nat) (listed : Array Bool) (a : Act) (w : World), listed.size = ops.size → (∀ i, i < ops.size → listed.getD i false = true) → wpList P (ops.push z) Q [z] a w →
   wpOp P (ops.push z) Q ops.size (wpAny P .any (ops.push z) Q fuel ((listed.push false).setIfInBounds ops.size true)) a w := by
  intro fuel listed a w hs hl h
  have hrn : Region.ready .any (ops.push z) ((listed.push false).setIfInBounds ops.size true) = [] := by
   refine listed_none (by simp [hs]) (fun i hi => ?_)
   rw [Array.size_push] at hi
   by_cases hin : i = ops.size
   ·
    subst hin; rw [← hs]; simp
   ·
    rw [getD_set_ne false (Ne.symm hin), getD_push_lt (by omega)]
    exact hl i (by omega)
  have hK : ∀ a w, Q .normal a w → wpAny P .any (ops.push z) Q fuel ((listed.push false).setIfInBounds ops.size true) a w := by
   intro a w hq
   cases fuel with
   | zero => exact ⟨hrn, hq⟩
   | succ f => exact ⟨fun _ => hq, by rw [hrn]; simp⟩
  unfold wpOp
  rw [Array.getElem?_push_size]
  simp only [wpList] at h
  dsimp only
  split at h
  ·
   rename_i hw
   rw [if_pos hw]
   rcases h with h | h
   ·
    exact .inl (Oper.wp_mono hK h)
   ·
    exact .inr h
  ·
   rename_i hw
   rw [if_neg hw]
   exact hK _ _ h
 have inner : ∀ (listed : Array Bool) (i : Nat), listed.size = ops.size → i < ops.size → i ∈ Region.ready .any (ops.push z) (listed.push false) → i ∈ Region.ready .any ops listed := by
  intro listed i hs hi hr
  rw [mem_ready] at hr ⊢
  obtain ⟨h0, o, ho, hall⟩ := hr
  rw [getD_push_lt (by omega)] at h0
  rw [Array.getElem?_push_lt hi] at ho
  refine ⟨h0, o, by rw [Array.getElem?_eq_getElem hi]; exact ho, fun e he hb => ?_⟩
  have h1 := List.all_eq_true.1 hdn i (List.mem_range.2 hi)
  rw [Array.getElem?_eq_getElem hi, ho] at h1
  simp only [Option.map_some, Option.getD_some] at h1
  have h2 := Array.all_eq_true'.1 h1 e he
  rw [hb] at h2
  have h3 : e.on < i := by simpa using h2
  have := hall e he hb
  rw [getD_push_lt (by omega)] at this
  exact this
 intro fuel
 induction fuel with
 | zero =>
  intro listed a w hs hsh H
  have hl := all_listed hs hdn H.1
  refine ⟨fun h => ?_, fun i hi => ?_⟩
  ·
   have := lastr listed hs hl
   rw [h] at this; cases this
  ·
   have hi' : i < (ops.push z).size := by
    rw [mem_ready] at hi
    obtain ⟨_, o, ho, _⟩ := hi
    exact (Array.getElem?_eq_some_iff.1 ho).1
   rw [Array.size_push] at hi'
   by_cases hin : i = ops.size
   ·
    subst hin; exact fin 0 listed a w hs hl H.2
   ·
    have := inner listed i hs (by omega) hi
    rw [H.1] at this; cases this
 | succ fuel ih =>
  intro listed a w hs hsh H
  refine ⟨fun h => ?_, fun i hi => ?_⟩
  ·
   exfalso
   have hn : Region.ready .any ops listed = [] := by
    apply List.eq_nil_iff_forall_not_mem.2
    intro i hi
    have : i ∈ Region.ready .any (ops.push z) (listed.push false) := by
     rw [mem_ready] at hi ⊢
     obtain ⟨h0, o, ho, hall⟩ := hi
     have hlt : i < ops.size := (Array.getElem?_eq_some_iff.1 ho).1
     refine ⟨by rw [getD_push_lt (by omega)]; exact h0, o, by rw [Array.getElem?_push_lt hlt, ← ho, Array.getElem?_eq_getElem hlt], fun e he hb => ?_⟩
     have := hall e he hb
     by_cases hlt2 : e.on < listed.size
     ·
      rw [getD_push_lt hlt2]; exact this
     ·
      simp [hlt2] at this
    rw [h] at this; cases this
   have := lastr listed hs (all_listed hs hdn hn)
   rw [h] at this; cases this
  ·
   have hi' : i < (ops.push z).size := by
    rw [mem_ready] at hi
    obtain ⟨_, o, ho, _⟩ := hi
    exact (Array.getElem?_eq_some_iff.1 ho).1
   rw [Array.size_push] at hi'
   by_cases hin : i = ops.size
   ·
    subst hin
    have hl := last listed hs hsh hi
    exact fin (fuel + 1) listed a w hs hl (H.1 (listed_none hs hl))
   ·
    have hlt : i < ops.size := by omega
    have h1 := H.2 i (inner listed i hs hlt hi)
    have hset : (listed.push false).setIfInBounds i true = (listed.setIfInBounds i true).push false := by
     apply Array.ext_getElem?
     intro j
     by_cases hj : i = j
     ·
      subst hj
      rw [Array.getElem?_setIfInBounds_self_of_lt (by simp; omega), Array.getElem?_push_lt (by simp; omega), Array.getElem_setIfInBounds_self]
     ·
      rw [Array.getElem?_setIfInBounds_ne hj]
      rcases Nat.lt_trichotomy j listed.size with h | h | h
      ·
       rw [Array.getElem?_push_lt h, Array.getElem?_push_lt (by simpa using h), Array.getElem_setIfInBounds_ne _ hj]
      ·
       subst h
       rw [Array.getElem?_push_size, show listed.size = (listed.setIfInBounds i true).size by simp, Array.getElem?_push_size]
      ·
       rw [Array.getElem?_eq_none (by simp; omega), Array.getElem?_eq_none (by simp; omega)]
    rw [hset]
    have h2 : wpOp P ops (cutQ P (ops.push z) z Q) i (wpAny P .any (ops.push z) Q (fuel + 1) ((listed.setIfInBounds i true).push false)) a w :=
     wpOp_mono (fun a' w' h3 => ih (listed.setIfInBounds i true) a' w' (by simpa using hs) (hsh.set (inner listed i hs (by omega) hi)) h3) h1
    unfold wpOp at h2 ⊢
    rw [Array.getElem?_eq_getElem hlt] at h2
    rw [Array.getElem?_push_lt hlt]
    dsimp only at h2 ⊢
    rw [yielded_push hd]
    split at h2
    ·
     rename_i hw
     rw [if_pos hw]
     rcases h2 with h2 | h2
     ·
      exact .inl (wp_cut h2)
     ·
      exact .inr ⟨h2.1, cutQ_out h2.2⟩
    ·
     rename_i hw
     rw [if_neg hw]
     exact h2
theorem wp_region_cut {id : Nat} {ops : Array Oper} {z : Oper} {S : World → Prop} {a : Act} {w : World} (hm : P.follows .mixedOrders = true) (hops : ops = ops.pop.push z) (hd : z.dst = none) (hz : waitsAll ops.pop z = true) (hdn : downAll ops.pop = true)
    (h : wpAnyH P .any ops.pop (cutQ P ops z Q) S ops.pop.size (Array.replicate ops.pop.size false) a w.drew) : (Code.region id ops true).wp P Q a w := by
  refine wp_region_any hm ?_
  have h1 := wpAny_of_held _ _ _ _ h
  rw [hops] at h1
  simp only [Array.pop_push] at h1
  have h2 := cut_any hd hz hdn _ _ _ _ (by simp) (Shut.none _ _) h1
  have e : (Array.replicate ops.size false) = (Array.replicate ops.pop.size false).push false := by
    conv => lhs; rw [hops, Array.size_push]
    rw [Array.replicate_succ]
  rw [e]
  have e2 : ops.size = ops.pop.size + 1 := by conv => lhs; rw [hops, Array.size_push]
  rw [e2]
  rw [hops]
  simpa using h2
end
end Go.Proofs.YtlggihnkhimfkaaDoor.Cut
namespace Go.Proofs.YtlggihnkhimfkaaDoor.Giv
open Go.RowKit Go.Lib Go.Proofs.YtlggihnkhimfkaaDoorW.PrintWords Go.Proofs.YtlggihnkhimfkaaDoorW.PrintLast Go.Proofs.YtlggihnkhimfkaaDoorW.PrintMore
set_option linter.unusedVariables false
set_option linter.unusedSimpArgs false
def But (g : Nat) (w w' : World) : Prop := (∀ (B : Nat) (w0 : World), Below B w0 w → B ≤ g → Below B w0 w') ∧ ∀ (k : Nat) (o : Obj), k ≠ g → w.heap[k]? = some o → w'.heap[k]? = some o
theorem But.of_below {g : Nat} {w w' : World} (hg : g < w.heap.size) (h : Below w.heap.size w w') : But g w w' := ⟨fun B w0 hb hB => hb.trans (h.mono (by omega)), fun k o _ hk => blk_below hk h⟩
theorem But.trans {g : Nat} {w w1 w2 : World} (h : But g w w1) (k : But g w1 w2) : But g w w2 := ⟨fun B w0 hb hB => k.1 B w0 (h.1 B w0 hb hB) hB, fun i o hi ho => k.2 i o hi (h.2 i o hi ho)⟩
theorem But.set1 (g i : Nat) (w : World) (a : Value) : But g w (w.setCell ⟨g, i, none⟩ a) := ⟨fun B w0 hb hB => hb.setCell (p := ⟨g, i, none⟩) hB _, fun k o hk ho => (Below.heap_setCell w ⟨g, i, none⟩ a k hk).trans ho⟩
theorem But.drew (g : Nat) (w : World) : But g w w.drew := ⟨fun B w0 hb hB => below_drew hb, fun k o hk ho => ho⟩
theorem But.cell {g : Nat} {w w' : World} (h : But g w w') {k i : Nat} {v : Value} (hk : k ≠ g) (hc : w.cell? ⟨k, i, none⟩ = some v) : w'.cell? ⟨k, i, none⟩ = some v := by
  cases ho : w.heap[k]? with
  | none => unfold World.cell? at hc; simp only [ho] at hc; cases hc
  | some o =>
    have := h.2 k o hk ho
    unfold World.cell? at hc ⊢
    simp only [ho] at hc
    simp only [this]
    exact hc
section
variable {P : Program} {ops : Array Oper} {rest : List Oper} {o : Oper} {a : Act} {w : World} {Q : Exit → Act → World → Prop}
theorem ev_load (hgd : o.guard = none) (ty : TypeId) (x : Operand) (ho : o.op = .load ty x) (ie : TypeInfo) (hie : P.info? ty = some ie) (hagg : ∀ w, (isAgg ty).run P w = .ok true w)
    (g off : Nat) (hx : a.eval x = .pointer (some ⟨g, off, none⟩)) (vs : List Value) (hs : vs.length = ie.size) (hc : ∀ k v, vs[k]? = some v → w.cell? ⟨g, off + k, none⟩ = some v)
    (h : wpList P ops Q rest (a.put o.dst (.agg vs.toArray)) w) : wpList P ops Q (o :: rest) a w := by
  refine Kd.event_run hgd ?_ h
  have := rl_loadVar_cells ty ie hie hagg g off vs hs w hc
  unfold execOp
  simp only [ho, hx, Instr.loadAt, Instr.sureAddr, Sem.run_bind, Sem.run_pure, Result.andThen_ok, this]
end
theorem set_whole (g t : Nat) : ∀ (vs : List Value) (o : Nat) (pre : List Value) (old : List Value) (w : World), pre.length = o → old.length = vs.length → w.heap[g]? = some (.cells (pre ++ old).toArray t (0, 0)) →
    (w.setCells g o vs).heap[g]? = some (.cells (pre ++ vs).toArray t (0, 0)) ∧ But g w (w.setCells g o vs)
  | [], o, pre, old, w, ho, hl, h => by
    obtain rfl : old = [] := List.length_eq_zero_iff.1 hl
    exact ⟨h, fun B w0 hb _ => hb, fun k o _ hk => hk⟩
  | v :: vs, o, pre, old, w, ho, hl, h => by
    match old, hl with
    | u :: old, hl =>
      have h1 : (w.setCell ⟨g, o, none⟩ v).heap[g]? = some (.cells ((pre ++ [v]) ++ old).toArray t (0, 0)) := by
        refine blk_put h o v ?_
        rw [List.setIfInBounds_toArray, List.set_append_right _ _ (by omega)]
        simp [ho]
      obtain ⟨a, b⟩ := set_whole g t vs (o + 1) (pre ++ [v]) old _ (by simp [ho]) (by simpa using hl) h1
      rw [World.setCells]
      refine ⟨?_, (But.set1 g o w v).trans b⟩
      rw [a]
      simp
section
variable {P : Program} {ops : Array Oper} {rest : List Oper} {o : Oper} {a : Act} {w : World} {Q : Exit → Act → World → Prop}
theorem event_skip {w1 : World} (hgd : o.guard = none) (hd : o.dst = none) (hrun : (execOp a.eval o).run P w = .ok .skip w1) (h : wpList P ops Q rest a w1) : wpList P ops Q (o :: rest) a w := by
  refine wpList_plain hgd fun K hK => ?_
  unfold Oper.wp
  rw [hrun]
  refine hK _ _ ?_
  rw [hd]
  exact h
theorem gate_store {ty : TypeId} {x y : Operand} (_ : o.op = .store ty x y) (h : wpList P ops Q (o :: rest) a w) : wpList P ops Q (o :: rest) a w := h
theorem ev_store (hgd : o.guard = none) (hd : o.dst = none) (ty : TypeId) (x y : Operand) (ho : o.op = .store ty x y) (ie : TypeInfo) (hie : P.info? ty = some ie) (g t : Nat) (hx : a.eval x = .pointer (some ⟨g, 0, none⟩)) (vs old : List Value) (hy : a.eval y = .agg vs.toArray) (hs : vs.length = ie.size) (h1 : ∀ v ∈ vs, v.oneCell' = true)
    (hl : old.length = vs.length) (hold : w.heap[g]? = some (.cells old.toArray t (0, 0)))
    (h : ∀ w', w'.heap[g]? = some (.cells vs.toArray t (0, 0)) → But g w w' → wpList P ops Q rest a w') : wpList P ops Q (o :: rest) a w := by
  obtain ⟨a1, a2⟩ := set_whole g t vs 0 [] old w rfl hl hold
  have hst := rl_storeVar_cells (P := P) ty ie hie g 0 vs hs h1 w (fun k hk => by rw [Nat.zero_add, blk_cell hold, List.getElem?_toArray, List.getElem?_eq_getElem (by omega)]; rfl) (fun k hk => blk_frozen hold _)
  have := h _ a1 a2
  refine event_skip (w1 := w.setCells g 0 vs) hgd hd ?_ this
  unfold execOp
  simp only [ho, hx, hy, Instr.storeAt, Instr.sureAddr, Sem.run_bind, Sem.run_pure, Result.andThen_ok, hst]
end
section keep
end keep
end Go.Proofs.YtlggihnkhimfkaaDoor.Giv
