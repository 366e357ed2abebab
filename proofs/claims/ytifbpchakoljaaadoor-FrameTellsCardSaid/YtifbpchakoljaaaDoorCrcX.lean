/- The walk of the code's checksum. -/
import Derived.Test.YtifbpchakoljaaaDoorCrcW
namespace Go.Proofs.YtifbpchakoljaaaDoor
open Go.RowKit

theorem crcBits_four {x : Int} {j m : Nat} (hx : ((crcBits (4 * j) m : Nat) : Int) = x) (h0 : 0 ≤ x) (h : x < 16777216) :
    bits .xor .i64 (bits .and .i64 (x * 16) 16777215) ((crcBits 4 ((x / 1048576).toNat * 1048576) : Nat) : Int) = ((crcBits (4 * (j + 1)) m : Nat) : Int) := by
  have hn : crcBits (4 * j) m < 16777216 := by omega
  have e1 : crcBits (4 * (j + 1)) m = crcBits 4 (crcBits (4 * j) m) := by rw [← crcBits_add]; congr 1; omega
  rw [e1, crcFour hn]
  generalize crcBits (4 * j) m = n at *
  subst hx
  have hm := and_mask_i64 ((n : Int) * 16) 24 (by decide)
  have e2 : (((2 ^ 24 - 1 : Nat)) : Int) = 16777215 := by decide +kernel
  have e3 : (((2 ^ 24 : Nat)) : Int) = 16777216 := by decide +kernel
  rw [e2, e3] at hm
  rw [hm]
  have e4 : (n : Int) * 16 % 16777216 = ((n * 16 % 16777216 : Nat) : Int) := by omega
  have e5 : ((n : Int) / 1048576).toNat = n / 1048576 := by omega
  rw [e4, e5]
  have h6 : crcBits 4 (n / 1048576 * 1048576) < 16777216 := crcBits_lt 4 (by omega)
  exact xor_i64 _ _ (by omega) (by omega)

set_option maxHeartbeats 1000000 in
theorem codeSum_any (s : ByteArray) (w : World) (hs : s.size ≤ 140737488351232) :
    Calls Tryd.prog 18 #[.string s] w fun e w' => e = .returned (.int .i64 (crcSum s.data.toList : Nat)) ∧ Below w.heap.size w w' := by
  go_enter Tryd.func18, Tryd.ntmps18
  go_wp2_with fail
  refine (lefts_any _).mono ?_
  rintro e w1 ⟨rfl, hb1⟩
  rw [lefArr_all]
  go_wp2
  rw [← lefArr_all]
  generalize harr : lefArr 16 = arr at *
  have Harr := veil harr
  clear harr
  go_loop [4, 9] (fun n i => ∃ k : Nat, k ≤ s.size ∧ i = .int .i64 k ∧ n = .int .i64 (crcSum (s.data.toList.take k) : Nat)) (fun _ i => s.size - (intOf i).toNat)
  case atStart => exact ⟨0, Nat.zero_le _, rfl, val_int (crcSum_take0 _)⟩
  case round =>
    obtain ⟨k, hk, rfl, rfl⟩ := hrel
    by_cases hlt : k < s.size
    · have H : Veil (((crcByte (crcSum (s.data.toList.take k)) s[k] : Nat) : Int) = ((crcSum (s.data.toList.take (k + 1)) : Nat) : Int)) := veil (by rw [take_snoc s k hlt, crcSum_snoc])
      obtain ⟨m, hm, hin, Hm⟩ : ∃ m : Nat, m < 16777216 ∧ bits .xor .i64 ((crcSum (s.data.toList.take k) : Nat) : Int) (wrap64 (wrap64 (s[k].toNat : Int) * 65536)) = (m : Int) ∧ Veil (crcByte (crcSum (s.data.toList.take k)) s[k] = crcBits 8 m) :=
        ⟨_, crcXor_lt (crcSum_lt _) s[k], crc_in _ s[k] (crcSum_lt _), veil rfl⟩
      have Hm1 := veil hm
      clear hm
      go_wp2
      clear hin
      go_loop [4, 19] (fun n i => ∃ j : Nat, j ≤ 2 ∧ i = .int .i64 j ∧ n = .int .i64 (crcBits (4 * j) m : Nat)) (fun _ i => 2 - (intOf i).toNat)
      case atStart => exact ⟨0, by omega, rfl, rfl⟩
      case round =>
        obtain ⟨j, hj, rfl, rfl⟩ := hrel
        have hb : (crcBits (4 * j) m : Int) < 16777216 := by have := crcBits_lt (4 * j) Hm1.out; omega
        have hb0 : 0 ≤ (crcBits (4 * j) m : Int) := by omega
        generalize hx : ((crcBits (4 * j) m : Nat) : Int) = x at *
        have Hx := veil hx
        clear hx
        by_cases hj2 : j < 2
        · have hq : (x / 1048576).toNat < 16 := by omega
          have hq0 : 0 ≤ x / 1048576 := by omega
          have hq1 : x / 1048576 < 16 := by omega
          obtain ⟨y, hy, Hy⟩ : ∃ y : Int, arr[(x / 1048576).toNat]? = some (.int .i64 y) ∧ Veil (((crcBits 4 ((x / 1048576).toNat * 1048576) : Nat) : Int) = y) := ⟨_, by rw [← Harr.out]; exact lefArr_at _ hq, veil rfl⟩
          go_wp2
          go_round
          case rel => exact ⟨j + 1, by omega, by go_num, val_int (by rw [← Hy.out]; exact crcBits_four Hx.out hb0 hb)⟩
          case measure => simp [intOf]; omega
        · obtain rfl : j = 2 := by omega
          go_wp2
          go_round
          case rel => exact ⟨k + 1, by omega, by go_num, val_int (by rw [← H.out, Hm.out, ← Hx.out])⟩
          case measure => simp [intOf]; omega
    · go_wp2
      go_ret
      exact ⟨ret_int (by rw [List.take_of_length_le (by simp; omega)]), hb1.alloc hb1.size _⟩
end Go.Proofs.YtifbpchakoljaaaDoor
