/- The walk of the code's distance. -/
import Derived.Test.YtpbkclopmiplpaaVecW
namespace Go.Proofs.Ytpbkclopmiplpaa
open Go.RowKit

def distV (a b : List Int) : Int × Int := if isV a = true ∧ isV b = true ∧ a.length = b.length then (distL a b, 0) else (0, 50)

set_option maxHeartbeats 1000000 in
theorem dist_yes (ao bo : Option Addr) (a b : List Int) (ca cb : Nat) (w : World) (ha : IntRow w ao a) (hb : IntRow w bo b) (va : isV a = true) (vb : isV b = true) (hl : a.length = b.length) :
    Calls Try.prog 18 #[.slice ao a.length ca, .slice bo b.length cb] w fun e w' => e = .returned (.tuple #[.int .i64 (distL a b), .int .i64 0]) ∧ Below w.heap.size w w' := by
  have h16 := (isV_spec va).2.1
  have h00 := (isV_spec va).1
  obtain ⟨ab, aoff, rfl, hab, hac⟩ := ha.open h00
  obtain ⟨bb, boff, rfl, hbb, hbc⟩ := hb.open (by omega)
  have Ha := veil ha
  have Hb := veil hb
  have Va := veil va
  have Vb := veil vb
  have Hl := veil hl
  have Hac := veil hac
  have Hbc := veil hbc
  have h16b : b.length ≤ 16 := by omega
  clear ha hb va vb hl hac hbc
  go_enter Try.func18, Try.ntmps18
  go_wp2_with fail
  refine (is_any _ _ _ _ true Ha.out Va.out).mono ?_
  rintro e w' ⟨rfl, rfl⟩
  go_wp2_with fail
  refine (check_any _ _ _ _ _ 0 Hb.out (by rw [if_pos ⟨Vb.out, by have := Hl.out; omega⟩])).mono ?_
  rintro e w' ⟨rfl, rfl⟩
  go_wp2
  go_loopw [6, 21] (fun n i wr => ∃ k : Nat, k ≤ a.length ∧ i = .int .i64 k ∧ n = .int .i64 (distL (a.take k) (b.take k)) ∧ Below w.heap.size w wr) (fun _ i _ => a.length - (intOf i).toNat)
  case atStart => exact ⟨0, Nat.zero_le _, rfl, rfl, Below.refl _ _⟩
  case round =>
    obtain ⟨k, hk, rfl, rfl, hbel⟩ := hrel
    by_cases hlt : k < a.length
    · have hkb : k < b.length := by have := Hl.out; omega
      have hcx : wr.cell? ⟨ab, aoff + k, none⟩ = some (.int .i64 (a.getD k 0)) := by rw [hbel.cell hab]; exact Hac.out k hlt
      have hcy : ∀ x : Later wr, x.1.cell? ⟨bb, boff + k, none⟩ = some (.int .i64 (b.getD k 0)) := fun x => by rw [x.cell (Nat.lt_of_lt_of_le hbb hbel.size), hbel.cell hbb]; exact Hbc.out k hkb
      have hx := isV_at Va.out k hlt
      have hy := isV_at Vb.out k hkb
      have hd0 := distL_nonneg (a.take k) (b.take k)
      have hd1 := distL_le a b Va.out Vb.out Hl.out k hk
      have HS := veil (distL_snoc a b k hlt hkb)
      generalize distL (a.take k) (b.take k) = d at *
      generalize a.getD k 0 = x at *
      generalize b.getD k 0 = y at *
      have hi : (k : Int) < (b.length : Int) := by omega
      have hi0 : (0 : Int) ≤ (k : Int) := by omega
      obtain ⟨hx0, hx1⟩ := hx
      obtain ⟨hy0, hy1⟩ := hy
      have hd2 : d ≤ 68719476720 := by omega
      have Hbel := veil hbel
      clear hbel
      go_wp2
      refine wp_region_later (by kernel_rfl) (by kernel_rfl) ?_
      repeat go_big_quiet_step (fail)
      refine wpQuiet_nil ?_
      rintro w' ⟨z, rfl⟩
      go_wp2
      go_roundw
      case rel => exact ⟨k + 1, by omega, by go_num, val_int (by rw [HS.out]; split <;> split <;> omega), Hbel.out.trans (z.2.mono Hbel.out.size)⟩
      case measure => simp [intOf]; omega
    · obtain rfl : k = a.length := by omega
      have hfin : distL (a.take a.length) (b.take a.length) = distL a b := by rw [List.take_length, Hl.out, List.take_length]
      rw [hfin]
      clear hfin
      go_wp2
      go_ret2
      exact ⟨rfl, hbel⟩

set_option maxHeartbeats 1000000 in
theorem dist_no (ao bo : Option Addr) (a b : List Int) (ca cb : Nat) (w : World) (ha : IntRow w ao a) (hb : IntRow w bo b) (hn : ¬ (isV a = true ∧ isV b = true ∧ a.length = b.length)) :
    Calls Try.prog 18 #[.slice ao a.length ca, .slice bo b.length cb] w fun e w' => e = .returned (.tuple #[.int .i64 0, .int .i64 50]) ∧ w = w' := by
  have Ha := veil ha
  have Hb := veil hb
  clear ha hb
  by_cases va : isV a = true
  · have Va := veil va
    have hc : (if isV b = true ∧ (b.length : Int) = (a.length : Int) then (0 : Int) else 50) = 50 := if_neg (fun h => hn ⟨va, h.1, by omega⟩)
    have Hc := veil hc
    clear hn hc va
    go_enter Try.func18, Try.ntmps18
    go_wp2_with fail
    refine (is_any _ _ _ _ true Ha.out Va.out).mono ?_
    rintro e w' ⟨rfl, rfl⟩
    go_wp2_with fail
    refine (check_any _ _ _ _ _ 50 Hb.out Hc.out).mono ?_
    rintro e w' ⟨rfl, rfl⟩
    go_wp2
    go_ret2
    exact ⟨rfl, rfl⟩
  · have Va : Veil (isV a = false) := veil (by simpa using va)
    clear hn va
    go_enter Try.func18, Try.ntmps18
    go_wp2_with fail
    refine (is_any _ _ _ _ false Ha.out Va.out).mono ?_
    rintro e w' ⟨rfl, rfl⟩
    go_wp2
    go_ret2
    exact ⟨rfl, rfl⟩

theorem dist_any (ao bo : Option Addr) (a b : List Int) (ca cb : Nat) (w : World) (ha : IntRow w ao a) (hb : IntRow w bo b) (d c : Int) (hd : distV a b = (d, c)) :
    Calls Try.prog 18 #[.slice ao a.length ca, .slice bo b.length cb] w fun e w' => e = .returned (.tuple #[.int .i64 d, .int .i64 c]) ∧ Below w.heap.size w w' := by
  by_cases h : isV a = true ∧ isV b = true ∧ a.length = b.length
  · rw [distV, if_pos h] at hd
    obtain ⟨rfl, rfl⟩ := Prod.mk.inj hd
    exact dist_yes ao bo a b ca cb w ha hb h.1 h.2.1 h.2.2
  · rw [distV, if_neg h] at hd
    obtain ⟨rfl, rfl⟩ := Prod.mk.inj hd
    exact (dist_no ao bo a b ca cb w ha hb h).mono fun e w' ⟨he, hw⟩ => ⟨he, hw ▸ Below.refl _ _⟩
end Go.Proofs.Ytpbkclopmiplpaa
