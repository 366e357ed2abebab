/- The walks of layer 5's reference: whether numbers are a vector, how far two are. -/
import Derived.Test.YtpbkclopmiplpaaVecD
namespace Go.Proofs.Ytpbkclopmiplpaa
open Go.RowKit

theorem isV_len (xs : List Int) (h : ∀ i, i < xs.length → oddN (xs.getD i 0) = false) : isV xs = (decide (1 ≤ xs.length) && decide (xs.length ≤ 16)) := by
  have : xs.any oddN = false := by
    rw [List.any_eq_false]
    intro x hx
    obtain ⟨i, hi, rfl⟩ := List.mem_iff_getElem.1 hx
    have := h i hi
    rw [List.getD_eq_getElem?_getD, List.getElem?_eq_getElem hi] at this
    simpa using this
  simp [isV, this, Nat.succ_le_iff]

set_option maxHeartbeats 400000 in
theorem refIs_any (ao : Option Addr) (xs : List Int) (cap : Nat) (w : World) (b : Bool) (hx : IntRow w ao xs) (hb : isV xs = b) :
    Calls Try.prog 44 #[.slice ao xs.length cap] w fun e w' => e = .returned (.bool b) ∧ w = w' := by
  have h8 := hx.1
  have Hb := veil hb
  clear hb
  go_enter Try.func44, Try.ntmps44
  go_wp2
  go_loop [3] (fun i => ∃ k : Nat, k ≤ xs.length ∧ i = .int .i64 k ∧ Veil (∀ i, i < k → oddN (xs.getD i 0) = false)) (fun i => xs.length - (intOf i).toNat)
  case atStart => exact ⟨0, Nat.zero_le _, rfl, veil (fun i hi => by omega)⟩
  case round =>
    obtain ⟨k, hk, rfl, Hk⟩ := hrel
    by_cases hlt : k < xs.length
    · obtain ⟨ab, off, rfl, hab, hc⟩ := hx.open (by omega)
      have hcell := hc k hlt
      clear hc
      generalize hxk : xs.getD k 0 = x at *
      have Hx := veil hxk
      clear hxk hx
      by_cases h1 : x < -2147483648
      · have hodd : b = false := by
          have ho : oddN (xs.getD k 0) = true := by rw [Hx.out]; simp [oddN, h1]
          have := any_of_at xs oddN k hlt ho
          rw [← Hb.out]; simp [isV, this]
        subst hodd
        go_wp2
        go_ret
        exact ⟨rfl, rfl⟩
      · by_cases h2 : 2147483647 < x
        · have hodd : b = false := by
            have ho : oddN (xs.getD k 0) = true := by rw [Hx.out]; simp [oddN, h2]
            have := any_of_at xs oddN k hlt ho
            rw [← Hb.out]; simp [isV, this]
          subst hodd
          go_wp2
          go_ret
          exact ⟨rfl, rfl⟩
        · have Ho : Veil (oddN x = false) := veil (by simp [oddN]; omega)
          go_wp2
          go_round
          case rel =>
            refine ⟨k + 1, by omega, by go_num, veil fun i hi => ?_⟩
            by_cases e : i = k
            · subst e; rw [Hx.out]; exact Ho.out
            · exact Hk.out i (by omega)
          case measure => simp [intOf]; omega
    · obtain rfl : k = xs.length := by omega
      have Hb2 := veil ((isV_len xs Hk.out).symm.trans Hb.out)
      clear hx
      by_cases h1 : 1 ≤ xs.length
      · by_cases h2 : xs.length ≤ 16
        · obtain rfl : b = true := by rw [← Hb2.out]; simp [h2]; omega
          go_wp2
          go_ret
          exact ⟨ret_bool (decide_eq_true (by omega)), rfl⟩
        · obtain rfl : b = false := by rw [← Hb2.out]; simp [h2]
          go_wp2
          go_ret
          exact ⟨ret_bool (decide_eq_false (by omega)), rfl⟩
      · obtain rfl : b = false := by rw [← Hb2.out]; simp; omega
        go_wp2
        go_ret
        exact ⟨rfl, rfl⟩

set_option maxHeartbeats 400000 in
theorem refCheck_any (ao : Option Addr) (xs : List Int) (cap : Nat) (d : Int) (w : World) (c : Int) (hx : IntRow w ao xs) (hc : (if isV xs = true ∧ (xs.length : Int) = d then 0 else 50) = c) :
    Calls Try.prog 21 #[.slice ao xs.length cap, .int .i64 d] w fun e w' => e = .returned (.int .i64 c) ∧ w = w' := by
  have Hx := veil hx
  clear hx
  by_cases h0 : isV xs = true
  · have H0 := veil h0
    by_cases h1 : (xs.length : Int) = d
    · obtain rfl : c = 0 := by rw [← hc, if_pos ⟨h0, h1⟩]
      have h1' : ((xs.length : Int) != d) = false := by simpa using h1
      clear hc h1 h0
      go_enter Try.func21, Try.ntmps21
      go_wp2_with fail
      refine (refIs_any _ _ _ _ true Hx.out H0.out).mono ?_
      rintro e w' ⟨rfl, rfl⟩
      go_wp2
      go_ret
      exact ⟨rfl, rfl⟩
    · obtain rfl : c = 50 := by rw [← hc, if_neg (fun h => h1 h.2)]
      have h1' : ((xs.length : Int) != d) = true := by simpa using h1
      clear hc h1 h0
      go_enter Try.func21, Try.ntmps21
      go_wp2_with fail
      refine (refIs_any _ _ _ _ true Hx.out H0.out).mono ?_
      rintro e w' ⟨rfl, rfl⟩
      go_wp2
      go_ret
      exact ⟨rfl, rfl⟩
  · obtain rfl : c = 50 := by rw [← hc, if_neg (fun h => h0 h.1)]
    have H0 : Veil (isV xs = false) := veil (by simpa using h0)
    clear hc h0
    go_enter Try.func21, Try.ntmps21
    go_wp2_with fail
    refine (refIs_any _ _ _ _ false Hx.out H0.out).mono ?_
    rintro e w' ⟨rfl, rfl⟩
    go_wp2
    go_ret
    exact ⟨rfl, rfl⟩

set_option maxHeartbeats 1000000 in
theorem refDist_yes (ao bo : Option Addr) (a b : List Int) (ca cb : Nat) (w : World) (ha : IntRow w ao a) (hb : IntRow w bo b) (va : isV a = true) (vb : isV b = true) (hl : a.length = b.length) :
    Calls Try.prog 19 #[.slice ao a.length ca, .slice bo b.length cb] w fun e w' => e = .returned (.tuple #[.int .i64 (distL a b), .int .i64 0]) ∧ Below w.heap.size w w' := by
  have h16 := (isV_spec va).2.1
  have h00 := (isV_spec va).1
  obtain ⟨ab, aoff, rfl, hab, hac⟩ := ha.open h00
  obtain ⟨bb, boff, rfl, hbb, hbc⟩ := hb.open (by omega)
  have Ha := veil ha
  have Hb := veil hb
  have Va := veil va
  have Vb := veil vb
  have Hl := veil hl
  have Hac := veil hac
  have Hbc := veil hbc
  have hl' : ((a.length : Int) != (b.length : Int)) = false := by simp [hl]
  have h16b : b.length ≤ 16 := by omega
  clear ha hb va vb hl hac hbc
  go_enter Try.func19, Try.ntmps19
  go_wp2_with fail
  refine (refIs_any _ _ _ _ true Ha.out Va.out).mono ?_
  rintro e w' ⟨rfl, rfl⟩
  go_wp2_with fail
  refine (refIs_any _ _ _ _ true Hb.out Vb.out).mono ?_
  rintro e w' ⟨rfl, rfl⟩
  go_wp2
  go_loopw [6, 7] (fun n i wr => ∃ k : Nat, k ≤ a.length ∧ i = .int .i64 k ∧ n = .int .i64 (distL (a.take k) (b.take k)) ∧ Below w.heap.size w wr) (fun _ i _ => a.length - (intOf i).toNat)
  case atStart => exact ⟨0, Nat.zero_le _, rfl, rfl, Below.refl _ _⟩
  case round =>
    obtain ⟨k, hk, rfl, rfl, hbel⟩ := hrel
    by_cases hlt : k < a.length
    · have hkb : k < b.length := by have := Hl.out; omega
      have hcx : ∀ x : Later wr, x.1.cell? ⟨ab, aoff + k, none⟩ = some (.int .i64 (a.getD k 0)) := fun x => by rw [x.cell (Nat.lt_of_lt_of_le hab hbel.size), hbel.cell hab]; exact Hac.out k hlt
      have hcy : ∀ x : Later wr, x.1.cell? ⟨bb, boff + k, none⟩ = some (.int .i64 (b.getD k 0)) := fun x => by rw [x.cell (Nat.lt_of_lt_of_le hbb hbel.size), hbel.cell hbb]; exact Hbc.out k hkb
      have hx := isV_at Va.out k hlt
      have hy := isV_at Vb.out k hkb
      have hd0 := distL_nonneg (a.take k) (b.take k)
      have hd1 := distL_le a b Va.out Vb.out Hl.out k hk
      have HS := veil (distL_snoc a b k hlt hkb)
      generalize distL (a.take k) (b.take k) = d at *
      generalize a.getD k 0 = x at *
      generalize b.getD k 0 = y at *
      have hi : (k : Int) < (b.length : Int) := by omega
      have hi2 : (k : Int) < (a.length : Int) := by omega
      have hi0 : (0 : Int) ≤ (k : Int) := by omega
      obtain ⟨hx0, hx1⟩ := hx
      obtain ⟨hy0, hy1⟩ := hy
      have hd2 : d ≤ 68719476720 := by omega
      have Hbel := veil hbel
      clear hbel
      go_wp2
      refine wp_region_later (by kernel_rfl) (by kernel_rfl) ?_
      repeat go_big_quiet_step (fail)
      refine wpQuiet_nil ?_
      rintro w' ⟨z, rfl⟩
      have hcx2 : ∀ x : Later z.1, x.1.cell? ⟨ab, aoff + k, none⟩ = some (.int .i64 _) := fun x => by
        rw [show x.1.cell? ⟨ab, aoff + k, none⟩ = z.1.cell? ⟨ab, aoff + k, none⟩ from x.cell (Nat.lt_of_lt_of_le hab (Nat.le_trans Hbel.out.size z.2.size))]; exact hcx z
      have hcy2 : ∀ x : Later z.1, x.1.cell? ⟨bb, boff + k, none⟩ = some (.int .i64 _) := fun x => by
        rw [show x.1.cell? ⟨bb, boff + k, none⟩ = z.1.cell? ⟨bb, boff + k, none⟩ from x.cell (Nat.lt_of_lt_of_le hbb (Nat.le_trans Hbel.out.size z.2.size))]; exact hcy z
      by_cases hxy : y < x
      · go_wp2
        refine wp_region_later (by kernel_rfl) (by kernel_rfl) ?_
        repeat go_big_quiet_step (fail)
        refine wpQuiet_nil ?_
        rintro w' ⟨z2, rfl⟩
        go_wp2
        go_roundw
        case rel => exact ⟨k + 1, by omega, by go_num, val_int (by rw [HS.out, if_pos hxy]; omega), Hbel.out.trans ((z.2.mono Hbel.out.size).trans (z2.2.mono (Nat.le_trans Hbel.out.size z.2.size)))⟩
        case measure => simp [intOf]; omega
      · go_wp2
        refine wp_region_later (by kernel_rfl) (by kernel_rfl) ?_
        repeat go_big_quiet_step (fail)
        refine wpQuiet_nil ?_
        rintro w' ⟨z2, rfl⟩
        go_wp2
        go_roundw
        case rel => exact ⟨k + 1, by omega, by go_num, val_int (by rw [HS.out, if_neg (by omega)]; omega), Hbel.out.trans ((z.2.mono Hbel.out.size).trans (z2.2.mono (Nat.le_trans Hbel.out.size z.2.size)))⟩
        case measure => simp [intOf]; omega
    · obtain rfl : k = a.length := by omega
      have hfin : distL (a.take a.length) (b.take a.length) = distL a b := by rw [List.take_length, Hl.out, List.take_length]
      rw [hfin]
      clear hfin
      go_wp2
      go_ret2
      exact ⟨rfl, hbel⟩

set_option maxHeartbeats 1000000 in
theorem refDist_no (ao bo : Option Addr) (a b : List Int) (ca cb : Nat) (w : World) (ha : IntRow w ao a) (hb : IntRow w bo b) (hn : ¬ (isV a = true ∧ isV b = true ∧ a.length = b.length)) :
    Calls Try.prog 19 #[.slice ao a.length ca, .slice bo b.length cb] w fun e w' => e = .returned (.tuple #[.int .i64 0, .int .i64 50]) ∧ w = w' := by
  have Ha := veil ha
  have Hb := veil hb
  clear ha hb
  by_cases va : isV a = true
  · have Va := veil va
    by_cases vb : isV b = true
    · have Vb := veil vb
      have hl' : ((a.length : Int) != (b.length : Int)) = true := by
        have : ¬ a.length = b.length := fun h => hn ⟨va, vb, h⟩
        rw [bne_iff_ne]; omega
      clear hn va vb
      go_enter Try.func19, Try.ntmps19
      go_wp2_with fail
      refine (refIs_any _ _ _ _ true Ha.out Va.out).mono ?_
      rintro e w' ⟨rfl, rfl⟩
      go_wp2_with fail
      refine (refIs_any _ _ _ _ true Hb.out Vb.out).mono ?_
      rintro e w' ⟨rfl, rfl⟩
      go_wp2
      go_ret2
      exact ⟨rfl, rfl⟩
    · have Vb : Veil (isV b = false) := veil (by simpa using vb)
      clear hn va vb
      go_enter Try.func19, Try.ntmps19
      go_wp2_with fail
      refine (refIs_any _ _ _ _ true Ha.out Va.out).mono ?_
      rintro e w' ⟨rfl, rfl⟩
      go_wp2_with fail
      refine (refIs_any _ _ _ _ false Hb.out Vb.out).mono ?_
      rintro e w' ⟨rfl, rfl⟩
      go_wp2
      go_ret2
      exact ⟨rfl, rfl⟩
  · have Va : Veil (isV a = false) := veil (by simpa using va)
    clear hn va
    go_enter Try.func19, Try.ntmps19
    go_wp2_with fail
    refine (refIs_any _ _ _ _ false Ha.out Va.out).mono ?_
    rintro e w' ⟨rfl, rfl⟩
    go_wp2
    go_ret2
    exact ⟨rfl, rfl⟩

theorem refDist_any (ao bo : Option Addr) (a b : List Int) (ca cb : Nat) (w : World) (ha : IntRow w ao a) (hb : IntRow w bo b) (d c : Int) (hd : distV a b = (d, c)) :
    Calls Try.prog 19 #[.slice ao a.length ca, .slice bo b.length cb] w fun e w' => e = .returned (.tuple #[.int .i64 d, .int .i64 c]) ∧ Below w.heap.size w w' := by
  by_cases h : isV a = true ∧ isV b = true ∧ a.length = b.length
  · rw [distV, if_pos h] at hd
    obtain ⟨rfl, rfl⟩ := Prod.mk.inj hd
    exact refDist_yes ao bo a b ca cb w ha hb h.1 h.2.1 h.2.2
  · rw [distV, if_neg h] at hd
    obtain ⟨rfl, rfl⟩ := Prod.mk.inj hd
    exact (refDist_no ao bo a b ca cb w ha hb h).mono fun e w' ⟨he, hw⟩ => ⟨he, hw ▸ Below.refl _ _⟩
end Go.Proofs.Ytpbkclopmiplpaa
