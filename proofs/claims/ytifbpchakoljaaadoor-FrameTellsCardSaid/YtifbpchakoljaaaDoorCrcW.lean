/- The walks of the checksum: the code's table, the code's sum, the reference's sum. -/
import Derived.Test.YtifbpchakoljaaaDoorProg
import Derived.Test.YtifbpchakoljaaaDoorCrcM
import Derived.WalkSpells
import Derived.WalkLawsBesides
import Derived.KernelRfl
namespace Go.Proofs.YtifbpchakoljaaaDoor
open Go.RowKit

theorem crc_in (n : Nat) (c : UInt8) (h : n < 16777216) :
    bits .xor .i64 (n : Int) (wrap64 (wrap64 (c.toNat : Int) * 65536)) = ((n ^^^ (c.toNat * 65536) : Nat) : Int) := by
  have hc := c.toNat_lt
  have e : wrap64 (wrap64 (c.toNat : Int) * 65536) = ((c.toNat * 65536 : Nat) : Int) := by unfold wrap64; omega
  rw [e]
  exact xor_i64 _ _ (by omega) (by omega)
theorem crcBit_yes {n : Nat} (h : n < 16777216) (h2 : 16777216 ≤ 2 * (n : Int)) : bits .xor .i64 (2 * (n : Int)) 25578747 = (crcBit n : Nat) := by
  have := xor_i64 (2 * n) 25578747 (by omega) (by decide)
  rw [crcBit, if_neg (by omega), ← this]
  rfl
theorem crcBit_no {n : Nat} (h2 : 2 * (n : Int) < 16777216) : 2 * (n : Int) = (crcBit n : Nat) := by
  rw [crcBit, if_pos (by omega)]; omega
theorem crcBits_yes {x : Int} {j m : Nat} (hx : ((crcBits j m : Nat) : Int) = x) (h : x < 16777216) (h2 : 16777216 ≤ 2 * x) : bits .xor .i64 (2 * x) 25578747 = (crcBits (j + 1) m : Nat) := by
  subst hx; rw [crcBits]; exact crcBit_yes (by omega) h2
theorem crcBits_no {x : Int} {j m : Nat} (hx : ((crcBits j m : Nat) : Int) = x) (h2 : 2 * x < 16777216) : 2 * x = (crcBits (j + 1) m : Nat) := by
  subst hx; rw [crcBits]; exact crcBit_no h2

set_option maxHeartbeats 400000 in
theorem refSum_any (s : ByteArray) (w : World) (hs : s.size ≤ 140737488351232) :
    Calls Tryd.prog 20 #[.string s] w fun e w' => e = .returned (.int .i64 (crcSum s.data.toList : Nat)) ∧ w = w' := by
  go_enter Tryd.func20, Tryd.ntmps20
  go_wp2
  go_loop [3, 4] (fun n i => ∃ k : Nat, k ≤ s.size ∧ i = .int .i64 k ∧ n = .int .i64 (crcSum (s.data.toList.take k) : Nat)) (fun _ i => s.size - (intOf i).toNat)
  case atStart => exact ⟨0, Nat.zero_le _, rfl, val_int (crcSum_take0 _)⟩
  case round =>
    obtain ⟨k, hk, rfl, rfl⟩ := hrel
    by_cases hlt : k < s.size
    · have H : Veil (((crcByte (crcSum (s.data.toList.take k)) s[k] : Nat) : Int) = ((crcSum (s.data.toList.take (k + 1)) : Nat) : Int)) := veil (by rw [take_snoc s k hlt, crcSum_snoc])
      obtain ⟨m, hm, hin, Hm⟩ : ∃ m : Nat, m < 16777216 ∧ bits .xor .i64 ((crcSum (s.data.toList.take k) : Nat) : Int) (wrap64 (wrap64 (s[k].toNat : Int) * 65536)) = (m : Int) ∧ Veil (crcByte (crcSum (s.data.toList.take k)) s[k] = crcBits 8 m) :=
        ⟨_, crcXor_lt (crcSum_lt _) s[k], crc_in _ s[k] (crcSum_lt _), veil rfl⟩
      have Hm1 := veil hm
      clear hm
      go_wp2
      clear hin
      go_loop [3, 5] (fun n i => ∃ j : Nat, j ≤ 8 ∧ i = .int .i64 j ∧ n = .int .i64 (crcBits j m : Nat)) (fun _ i => 8 - (intOf i).toNat)
      case atStart => exact ⟨0, by omega, rfl, rfl⟩
      case round =>
        obtain ⟨j, hj, rfl, rfl⟩ := hrel
        have hb : (crcBits j m : Int) < 16777216 := by have := crcBits_lt j Hm1.out; omega
        have hb0 : 0 ≤ (crcBits j m : Int) := by omega
        generalize hx : ((crcBits j m : Nat) : Int) = x at *
        have Hx := veil hx
        clear hx
        go_wp2
        · go_round
          case rel => exact ⟨j + 1, by omega, by go_num, val_int (crcBits_yes Hx.out hb (by assumption))⟩
          case measure => simp [intOf]; omega
        · go_round
          case rel => exact ⟨j + 1, by omega, by go_num, val_int (crcBits_no Hx.out (by assumption))⟩
          case measure => simp [intOf]; omega
        · have : j = 8 := by omega
          subst this
          go_round
          case rel => exact ⟨k + 1, by omega, by go_num, val_int (by rw [← H.out, Hm.out, Hx.out])⟩
          case measure => simp [intOf]; omega
    · go_wp2
      go_ret
      exact ⟨ret_int (by rw [List.take_of_length_le (by simp; omega)]), rfl⟩

def lefAt (k i : Nat) : Value := .int .i64 (if i < k then ((crcBits 4 (i * 1048576) : Nat) : Int) else 0)
def lefArr (k : Nat) : Array Value := ((List.range 16).map (lefAt k)).toArray
theorem lefArr_zero : lefArr 0 = #[.int .i64 0, .int .i64 0, .int .i64 0, .int .i64 0, .int .i64 0, .int .i64 0, .int .i64 0, .int .i64 0, .int .i64 0, .int .i64 0, .int .i64 0, .int .i64 0, .int .i64 0, .int .i64 0, .int .i64 0, .int .i64 0] := by simp [lefArr, lefAt, List.range, List.range.loop]
theorem lefArr_size (k : Nat) : (lefArr k).size = 16 := by simp [lefArr]
theorem lefArr_set (k : Nat) : (lefArr k).setIfInBounds k (.int .i64 ((crcBits 4 (k * 1048576) : Nat) : Int)) = lefArr (k + 1) := by
  apply Array.ext
  · simp [lefArr]
  · intro i h1 h2
    rw [Array.getElem_setIfInBounds (by simpa using h1)]
    split
    · subst i; simp [lefArr, lefAt]
    · rename_i hne
      simp [lefArr, lefAt]
      by_cases h : i < k
      · rw [if_pos h, if_pos (by omega)]
      · rw [if_neg h, if_neg (by omega)]

theorem lefArr_all : lefArr 16 = #[.int .i64 0, .int .i64 8801531, .int .i64 9098509, .int .i64 825846, .int .i64 9692897, .int .i64 1419802, .int .i64 1651692, .int .i64 10452759, .int .i64 10584377, .int .i64 2608578, .int .i64 2839604, .int .i64 11344079, .int .i64 3303384, .int .i64 11807523, .int .i64 12104405, .int .i64 4128302] := by kernel_rfl
theorem lefArr_at (i : Nat) (h : i < 16) : (lefArr 16)[i]? = some (.int .i64 ((crcBits 4 (i * 1048576) : Nat) : Int)) := by
  simp [lefArr, lefAt, h]
theorem lef_yes {x : Int} {j m : Nat} (hx : ((crcBits j m : Nat) : Int) = x) (h : x < 16777216) (h2 : 16777215 < x * 2) : bits .xor .i64 (bits .and .i64 (x * 2) 16777215) 8801531 = (crcBits (j + 1) m : Nat) := by
  subst hx
  have hm := and_mask_i64 (((crcBits j m : Nat) : Int) * 2) 24 (by decide)
  have e2 : (((2 ^ 24 - 1 : Nat)) : Int) = 16777215 := by decide +kernel
  have e3 : (((2 ^ 24 : Nat)) : Int) = 16777216 := by decide +kernel
  rw [e2, e3] at hm
  rw [hm, crcBits, crcBit, if_neg (by omega)]
  have e4 : ((crcBits j m : Nat) : Int) * 2 % 16777216 = ((2 * crcBits j m - 16777216 : Nat) : Int) := by omega
  rw [e4]
  have e5 : (8801531 : Int) = ((8801531 : Nat) : Int) := by decide +kernel
  rw [e5, xor_i64 _ _ (by omega) (by decide)]
  have key : (2 * crcBits j m - 16777216) ^^^ 8801531 = (2 * crcBits j m) ^^^ 25578747 := by
    have h3 : 2 * crcBits j m = 2 ^ 24 * 1 + (2 * crcBits j m - 16777216) := by omega
    have h4 : 25578747 = 2 ^ 24 * 1 + 8801531 := by decide +kernel
    rw [h4]
    generalize hd : 2 * crcBits j m - 16777216 = d at *
    rw [h3, Nat.two_pow_add_eq_or_of_lt (by omega) 1, Nat.two_pow_add_eq_or_of_lt (by decide) 1]
    have hd2 : d < 2 ^ 24 := by omega
    apply Nat.eq_of_testBit_eq
    intro i
    simp only [Nat.testBit_xor, Nat.testBit_or]
    by_cases e : i = 24
    · subst e
      rw [Nat.testBit_lt_two_pow hd2]
      decide +kernel
    · have hz : (2 ^ 24 * 1).testBit i = false := by rw [Nat.mul_one, Nat.testBit_two_pow]; simp; omega
      rw [hz, Bool.false_or, Bool.false_or]
  rw [key]
theorem lef_no {x : Int} {j m : Nat} (hx : ((crcBits j m : Nat) : Int) = x) (h2 : x * 2 ≤ 16777215) : x * 2 = (crcBits (j + 1) m : Nat) := by
  subst hx; rw [crcBits, crcBit, if_pos (by omega)]; omega

set_option maxHeartbeats 400000 in
theorem lefts_any (w : World) :
    Calls Tryd.prog 26 #[] w fun e w' => e = .returned (.agg (lefArr 16)) ∧ Below w.heap.size w w' := by
  go_enter Tryd.func26, Tryd.ntmps26
  go_wp2
  rw [← lefArr_zero]
  go_loopw [2, 3, 4] (fun _ _ i wr => ∃ k : Nat, k ≤ 16 ∧ i = .int .i64 k ∧ wr = (w.alloc (Obj.cells (lefArr 0) 46)).alloc (Obj.cells (lefArr k) 46)) (fun _ _ i _ => 16 - (intOf i).toNat)
  case atStart => exact ⟨0, by omega, rfl, rfl⟩
  case round =>
    obtain ⟨k, hk, rfl, rfl⟩ := hrel
    by_cases hlt : k < 16
    · have hk2 : (0 : Int) ≤ k := by omega
      have hk3 : decide ((k : Int) < 16) = true := by simp; omega
      go_wp2
      go_loop [3, 9] (fun n i => ∃ j : Nat, j ≤ 4 ∧ i = .int .i64 j ∧ n = .int .i64 (crcBits j (k * 1048576) : Nat)) (fun _ i => 4 - (intOf i).toNat)
      case atStart => exact ⟨0, by omega, rfl, val_int (by rw [crcBits]; omega)⟩
      case round =>
        obtain ⟨j, hj, rfl, rfl⟩ := hrel
        have hb : (crcBits j (k * 1048576) : Int) < 16777216 := by have := crcBits_lt j (show k * 1048576 < 16777216 by omega); omega
        have hb0 : 0 ≤ (crcBits j (k * 1048576) : Int) := by omega
        generalize hx : ((crcBits j (k * 1048576) : Nat) : Int) = x at *
        have Hx := veil hx
        clear hx
        by_cases hj4 : j < 4
        · go_wp2
          · go_round
            case rel => exact ⟨j + 1, by omega, by go_num, val_int (lef_yes Hx.out hb (by assumption))⟩
            case measure => simp [intOf]; omega
          · go_round
            case rel => exact ⟨j + 1, by omega, by go_num, val_int (lef_no Hx.out (by assumption))⟩
            case measure => simp [intOf]; omega
        · obtain rfl : j = 4 := by omega
          have hsz := lefArr_size k
          have hce : (lefArr k)[k]? = some (.int .i64 0) := by simp [lefArr, lefAt, hlt]
          go_wp2
          go_roundw
          case rel =>
            refine ⟨k + 1, by omega, by go_num, ?_⟩
            rw [← lefArr_set, Hx.out]
          case measure => simp [intOf]; omega
    · obtain rfl : k = 16 := by omega
      rw [lefArr_all, lefArr_zero]
      go_wp2
      exact bodyPost_ret (v := .agg (lefArr 16)) (by rw [lefArr_all]; simp [results, Tryd.results26, go_sem]) rfl ⟨rfl, ((Below.refl _ _).alloc (Nat.le_refl _) _).alloc (by simp) _⟩
end Go.Proofs.YtifbpchakoljaaaDoor
