/- The walk of the law on a burst. -/
import Derived.Test.YtpbkclopmiplpaaCrcA
namespace Go.Proofs.Ytpbkclopmiplpaa
open Go.RowKit

/-- the byte that is laid over the i-th one -/
def burstD (by_ : Int) (i : Nat) : UInt8 := UInt8.ofNat ((by_ / ((2 ^ (8 * i) : Nat) : Int)) % 256).toNat
theorem burstD_val (by_ : Int) (i : Nat) : ((burstD by_ i).toNat : Int) = (by_ / ((2 ^ (8 * i) : Nat) : Int)) % 256 := by
  unfold burstD
  have h0 := Int.emod_nonneg (by_ / ((2 ^ (8 * i) : Nat) : Int)) (show (256 : Int) ≠ 0 by decide)
  have h1 := Int.emod_lt_of_pos (by_ / ((2 ^ (8 * i) : Nat) : Int)) (show (0 : Int) < 256 by decide)
  rw [UInt8.toNat_ofNat']
  omega
theorem burst_some (by_ : Int) (h : by_ % 16777216 ≠ 0) : ¬ (burstD by_ 0 = 0 ∧ burstD by_ 1 = 0 ∧ burstD by_ 2 = 0) := by
  rintro ⟨h0, h1, h2⟩
  have e0 := burstD_val by_ 0
  have e1 := burstD_val by_ 1
  have e2 := burstD_val by_ 2
  rw [h0] at e0; rw [h1] at e1; rw [h2] at e2
  simp at e0 e1 e2
  omega

/-- b's cells behind j rounds -/
def burstArr (s : ByteArray) (k : Nat) (y : Int) (cap : Nat) : Nat → Array Value
  | 0 => bytesRow s cap
  | j + 1 => (burstArr s k y cap j).setIfInBounds (k + j) (.int .u8 ((s.data.toList.getD (k + j) 0 ^^^ burstD y j : UInt8).toNat : Int))
theorem bytesRow_at (s : ByteArray) (cap i : Nat) (h : i < s.size) : (bytesRow s cap)[i]? = some (.int .u8 ((s.data.toList.getD i 0).toNat : Int)) := by
  have h' : i < s.data.size := h
  unfold bytesRow
  rw [Array.getElem?_append_left (by simpa using h')]
  simp [Array.getElem?_eq_getElem h']
theorem bytesRow_size (s : ByteArray) (cap : Nat) : s.size ≤ (bytesRow s cap).size := by
  have : s.data.size = s.size := rfl
  simp [bytesRow]
theorem burstArr_size (s : ByteArray) (k : Nat) (y : Int) (cap : Nat) : ∀ j, (burstArr s k y cap j).size = (bytesRow s cap).size
  | 0 => rfl
  | j + 1 => by rw [burstArr, Array.size_setIfInBounds, burstArr_size s k y cap j]
theorem burstArr_at (s : ByteArray) (k : Nat) (y : Int) (cap : Nat) (i : Nat) (h : i < s.size) : ∀ j, (burstArr s k y cap j)[i]? =
    some (.int .u8 ((if k ≤ i ∧ i < k + j then s.data.toList.getD i 0 ^^^ burstD y (i - k) else s.data.toList.getD i 0 : UInt8).toNat : Int))
  | 0 => by rw [burstArr, bytesRow_at s cap i h, if_neg (by omega)]
  | j + 1 => by
    rw [burstArr, Array.getElem?_setIfInBounds]
    by_cases e : k + j = i
    · subst e
      rw [if_pos rfl, if_pos (by rw [burstArr_size]; have := bytesRow_size s cap; omega), if_pos (by omega)]
      simp
    · rw [if_neg e, burstArr_at s k y cap i h j]
      by_cases h1 : k ≤ i ∧ i < k + j
      · rw [if_pos h1, if_pos (by omega)]
      · rw [if_neg h1, if_neg (by omega)]

def burstL (s : ByteArray) (k : Nat) (y : Int) : List UInt8 :=
  s.data.toList.take k ++ ([s.data.toList.getD k 0 ^^^ burstD y 0, s.data.toList.getD (k + 1) 0 ^^^ burstD y 1, s.data.toList.getD (k + 2) 0 ^^^ burstD y 2] ++ s.data.toList.drop (k + 3))
theorem burstL_self (s : ByteArray) (k : Nat) (h : k + 3 ≤ s.size) :
    s.data.toList = s.data.toList.take k ++ ([s.data.toList.getD k 0, s.data.toList.getD (k + 1) 0, s.data.toList.getD (k + 2) 0] ++ s.data.toList.drop (k + 3)) := by
  have hl : s.data.toList.length = s.size := by simp
  generalize s.data.toList = l at *
  conv => lhs; rw [← List.take_append_drop k l]
  congr 1
  rw [List.drop_eq_getElem_cons (by omega), List.drop_eq_getElem_cons (by omega), List.drop_eq_getElem_cons (by omega)]
  simp [List.getD_eq_getElem?_getD, List.getElem?_eq_getElem (show k < l.length by omega), List.getElem?_eq_getElem (show k + 1 < l.length by omega), List.getElem?_eq_getElem (show k + 2 < l.length by omega)]
theorem burst_differs (s : ByteArray) (k : Nat) (y : Int) (h : k + 3 ≤ s.size) (hy : y % 16777216 ≠ 0) : crcSum s.data.toList ≠ crcSum (burstL s k y) := by
  conv => lhs; rw [burstL_self s k h]
  exact crcBurst _ _ _ _ _ _ _ _ (burst_some y hy)
theorem burstL_length (s : ByteArray) (k : Nat) (y : Int) (h : k + 3 ≤ s.size) : (burstL s k y).length = s.size := by
  have hl : s.data.toList.length = s.size := by simp
  simp only [burstL, List.length_append, List.length_take, List.length_drop, List.length_cons, List.length_nil, hl]
  omega
theorem burstL_at (s : ByteArray) (k : Nat) (y : Int) (h : k + 3 ≤ s.size) (cap i : Nat) (hi : i < (burstL s k y).length) : (burstArr s k y cap 3)[i]? = some (.int .u8 ((burstL s k y)[i].toNat : Int)) := by
  have hl : s.data.toList.length = s.size := by simp
  have hsz := burstL_length s k y h
  rw [burstArr_at s k y cap i (by omega) 3]
  congr 4
  have hg : (burstL s k y)[i] = (burstL s k y).getD i 0 := by rw [List.getD_eq_getElem?_getD, List.getElem?_eq_getElem hi]; rfl
  rw [hg]
  unfold burstL
  have hk : (s.data.toList.take k).length = k := by rw [List.length_take, hl]; omega
  by_cases c1 : i < k
  · rw [if_neg (by omega), List.getD_eq_getElem?_getD (l := _ ++ _), List.getElem?_append_left (by rw [hk]; exact c1), List.getElem?_take_of_lt c1, ← List.getD_eq_getElem?_getD]
  · obtain ⟨d, rfl⟩ : ∃ d, i = k + d := ⟨i - k, by omega⟩
    rw [List.getD_eq_getElem?_getD (l := _ ++ _), List.getElem?_append_right (by rw [hk]; omega), hk, Nat.add_sub_cancel_left]
    match d with
    | 0 => rw [if_pos (by omega)]; rfl
    | 1 => rw [if_pos (by omega)]; rfl
    | 2 => rw [if_pos (by omega)]; rfl
    | d + 3 =>
      rw [if_neg (by omega), List.getElem?_append_right (by simp)]
      simp only [List.length_cons, List.length_nil, Nat.reduceAdd, Nat.add_sub_cancel, List.getElem?_drop]
      rw [← List.getD_eq_getElem?_getD, show k + 3 + d = k + (d + 3) by omega]

theorem burst_val (s : ByteArray) (y : Int) (i j : Nat) : bits .xor .u8 ((s.data[i]?.getD 0).toNat : Int) (bits .and .i64 (y / 2 ^ (8 * j)) 255 % 256) = ((s.data.toList.getD i 0 ^^^ burstD y j : UInt8).toNat : Int) := by
  have hm := and_mask_i64 (y / 2 ^ (8 * j)) 8 (by decide)
  have e2 : (((2 ^ 8 - 1 : Nat)) : Int) = 255 := by decide +kernel
  have e3 : (((2 ^ 8 : Nat)) : Int) = 256 := by decide +kernel
  rw [e2, e3] at hm
  have e4 : ((2 ^ (8 * j) : Nat) : Int) = (2 : Int) ^ (8 * j) := by simp
  have h1 := burstD_val y j
  rw [e4] at h1
  rw [hm, Int.emod_emod_of_dvd _ (Int.dvd_refl _), ← h1, xor_u8]
  simp
theorem burst_idx (at_ : Int) (n : Nat) (h : 3 ≤ n) : ∃ k : Nat, (bits .and .i64 at_ 65535) % ((n : Int) - 2) = (k : Int) ∧ k + 3 ≤ n ∧ 0 ≤ bits .and .i64 at_ 65535 ∧ bits .and .i64 at_ 65535 ≤ 65535 := by
  have hm := and_mask_i64 at_ 16 (by decide)
  have e2 : (((2 ^ 16 - 1 : Nat)) : Int) = 65535 := by decide +kernel
  have e3 : (((2 ^ 16 : Nat)) : Int) = 65536 := by decide +kernel
  rw [e2, e3] at hm
  rw [hm]
  have h0 := Int.emod_nonneg at_ (show (65536 : Int) ≠ 0 by decide)
  have h1 := Int.emod_lt_of_pos at_ (show (0 : Int) < 65536 by decide)
  have h2 := Int.emod_nonneg (at_ % 65536) (show (n : Int) - 2 ≠ 0 by omega)
  have h3 := Int.emod_lt_of_pos (at_ % 65536) (show (0 : Int) < (n : Int) - 2 by omega)
  exact ⟨((at_ % 65536) % ((n : Int) - 2)).toNat, by omega, by omega, by omega, by omega⟩
theorem burst_by (y : Int) : bits .and .i64 y 16777215 = y % 16777216 := by
  have hm := and_mask_i64 y 24 (by decide)
  have e2 : (((2 ^ 24 - 1 : Nat)) : Int) = 16777215 := by decide +kernel
  have e3 : (((2 ^ 24 : Nat)) : Int) = 16777216 := by decide +kernel
  rwa [e2, e3] at hm

set_option maxHeartbeats 1000000 in
theorem CrcBurst_walk (s : ByteArray) (at_ y : Int) (w : World) (hs : s.size ≤ 140737488351232) (_ha : (Lit.int .i64 at_).wf = true) (_hy : (Lit.int .i64 y).wf = true) :
    Calls Try.prog 4 #[.string s, .int .i64 at_, .int .i64 y] w fun e w' => e = .returned (.bool true) ∧ Below w.heap.size w w' := by
  clear _ha _hy
  by_cases h1 : s.size < 3
  · go_enter Try.func4, Try.ntmps4
    go_wp2_with fail
    refine (crcAwake_any _).mono ?_
    rintro e w1 ⟨rfl, hb1⟩
    go_wp2
    go_ret
    exact ⟨rfl, hb1⟩
  · have h1' : 3 ≤ s.size := by omega
    by_cases h2 : 4096 < s.size
    · go_enter Try.func4, Try.ntmps4
      go_wp2_with fail
      refine (crcAwake_any _).mono ?_
      rintro e w1 ⟨rfl, hb1⟩
      go_wp2
      go_ret
      exact ⟨rfl, hb1⟩
    · have h2' : s.size ≤ 4096 := by omega
      by_cases h3 : y % 16777216 = 0
      · have h3' : (bits .and .i64 y 16777215 == 0) = true := by rw [burst_by, h3]; rfl
        clear h3
        go_enter Try.func4, Try.ntmps4
        go_wp2_with fail
        refine (crcAwake_any _).mono ?_
        rintro e w1 ⟨rfl, hb1⟩
        go_wp2
        go_ret
        exact ⟨rfl, hb1⟩
      · have h3' : (bits .and .i64 y 16777215 == 0) = false := by rw [burst_by]; simpa using h3
        have H3 := veil h3
        clear h3 h1 h2
        obtain ⟨k, hk, hk3, hk0, hk1⟩ := burst_idx at_ s.size h1'
        have hconv := fun wx => run_bytes_of_string (P := Try.prog) wx 9 25 5 s Try.underlying9 Try.underlying25 Try.underlying5
        go_enter Try.func4, Try.ntmps4
        go_wp2_with fail
        rw [hk]
        clear hk hconv h3'
        obtain ⟨cap, hcap, hc1⟩ : ∃ cap, grownCap w s.size 0 5 = cap ∧ s.size ≤ cap := ⟨_, rfl, grownCap_ge _ _ _ _⟩
        rw [hcap]
        clear hcap
        have Hcap := veil hc1
        clear hc1
        go_loopw [9] (fun i wr => ∃ j : Nat, j ≤ 3 ∧ i = .int .i64 j ∧ BlkM wr w.heap.size (burstArr s k y cap j) 5 ((bytesRow s cap).size, (bytesRow s cap).size + 1) ∧ Below w.heap.size w wr) (fun i _ => 3 - (intOf i).toNat)
        case atStart => exact ⟨0, by omega, rfl, (BlkM.new _ _ _ _).drew, ((Below.refl _ _).alloc (Nat.le_refl _) _).drew⟩
        case round =>
          obtain ⟨j, hj, rfl, hblk, hbel⟩ := hrel
          have Hblk := veil hblk
          have Hbel := veil hbel
          by_cases hlt : j < 3
          · have hcell : wr.cell? ⟨w.heap.size, k + j, none⟩ = some (.int .u8 ((s.data.toList.getD (k + j) 0).toNat : Int)) := by
              rw [hblk.cell, burstArr_at s k y cap (k + j) (by omega) j, if_neg (by omega)]
            have hfree : wr.frozen? ⟨w.heap.size, k + j, none⟩ = false := hblk.free (by have := bytesRow_size s cap; show k + j < (bytesRow s cap).size; omega)
            clear hblk hbel
            have hi0 : (0 : Int) ≤ (k : Int) + j := by omega
            have hi1 : (k : Int) + j < (s.size : Int) := by omega
            go_wp2
            go_region
            go_wp2
            go_roundw
            case rel =>
              refine ⟨j + 1, by omega, by go_num, ?_, (Hbel.out.setCell (Nat.le_refl _) _).drew⟩
              rw [burst_val s y (k + j) j]
              exact (Hblk.out.set _ _).drew
            case measure => simp [intOf]; omega
          · obtain rfl : j = 3 := by omega
            have HL : Veil ((burstL s k y).length ≤ 140737488351232) := veil (by rw [burstL_length s k y hk3]; exact hs)
            have hll := burstL_length s k y hk3
            have hcv : ∀ x : Later wr, (convert 25 9 (.slice (some ⟨w.heap.size, 0, none⟩) s.size cap)).run Try.prog x.1 = .ok (.string ⟨(burstL s k y).toArray⟩) x.1 := by
              intro x
              have hx := hblk.below x.2 hblk.lt
              have := run_convert_bytes_back (P := Try.prog) x.1 25 9 5 ⟨w.heap.size, 0, none⟩ cap (burstL s k y) Try.underlying25 Try.underlying5 Try.underlying9 (fun i hi => by
                rw [Addr.add_lit, hx.cell, Nat.zero_add]
                exact burstL_at s k y hk3 cap i hi)
              rwa [hll] at this
            have hne := burst_differs s k y hk3 H3.out
            obtain ⟨c0, hc0⟩ : ∃ c0 : Int, ((crcSum s.data.toList : Nat) : Int) = c0 := ⟨_, rfl⟩
            obtain ⟨c1, hc1⟩ : ∃ c0 : Int, ((crcSum (burstL s k y) : Nat) : Int) = c0 := ⟨_, rfl⟩
            have heq : (c0 != c1) = true := by rw [bne_iff_ne, ← hc0, ← hc1]; omega
            generalize burstL s k y = l at *
            have HC0 := veil hc0
            have HC1 := veil hc1
            clear hblk hbel hc0 hc1 hne hll
            go_wp2
            refine wp_region_later (by kernel_rfl) (by kernel_rfl) ?_
            go_big_quiet_step (fail)
            go_big_quiet_step ((exact Later.call (codeSum_eq _ c0 _ hs HC0.out)))
            iterate 2 go_big_quiet_step (fail)
            go_big_quiet_step ((exact Later.call (codeSum_eq _ c1 _ HL.out HC1.out)))
            iterate 2 go_big_quiet_step (fail)
            go_big_quiet_step ((exact Later.call (crcAwake_any _)))
            iterate 2 go_big_quiet_step (fail)
            refine wpQuiet_nil ?_
            rintro w' ⟨x, rfl⟩
            go_wp2
            go_ret
            exact ⟨rfl, Hbel.out.trans (x.2.mono Hbel.out.size)⟩
end Go.Proofs.Ytpbkclopmiplpaa
