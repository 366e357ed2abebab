/- Bytes that are laid over a text: the cells, and the law that no checksum stays. -/
import Derived.Test.YtifbpchakoljaaaDoorFrmP
import Derived.Test.YtifbpchakoljaaaDoorCrcN
import Derived.Test.YtifbpchakoljaaaDoorAid
import Derived.WalkSpells
import Derived.WalkLawsBesides
namespace Go.Proofs.YtifbpchakoljaaaDoor.Tells
open Go.RowKit Go.Lib Go.Proofs.YtifbpchakoljaaaDoor.Giv Go.Proofs.YtifbpchakoljaaaDoor.Hx Go.Proofs.YtifbpchakoljaaaDoorW.PrintWords
set_option linter.unusedVariables false
set_option linter.unusedSimpArgs false

theorem xor_u8 (a b : UInt8) : bits .xor .u8 (a.toNat : Int) (b.toNat : Int) = ((a ^^^ b).toNat : Int) := by
  rw [u8_xor_nat _ _ a.toNat_lt b.toNat_lt, UInt8.toNat_xor]

/-- the byte that is laid over the i-th one -/
def burstD (by_ : Int) (i : Nat) : UInt8 := UInt8.ofNat ((by_ / ((2 ^ (8 * i) : Nat) : Int)) % 256).toNat
theorem burstD_val (by_ : Int) (i : Nat) : ((burstD by_ i).toNat : Int) = (by_ / ((2 ^ (8 * i) : Nat) : Int)) % 256 := by
  unfold burstD
  have h0 := Int.emod_nonneg (by_ / ((2 ^ (8 * i) : Nat) : Int)) (show (256 : Int) ≠ 0 by decide)
  have h1 := Int.emod_lt_of_pos (by_ / ((2 ^ (8 * i) : Nat) : Int)) (show (0 : Int) < 256 by decide)
  rw [UInt8.toNat_ofNat']
  omega
/-- b's cells behind j rounds -/
def burstArr (s : ByteArray) (k : Nat) (y : Int) (cap : Nat) : Nat → Array Value
  | 0 => bytesRow s cap
  | j + 1 => (burstArr s k y cap j).setIfInBounds (k + j) (.int .u8 ((s.data.toList.getD (k + j) 0 ^^^ burstD y j : UInt8).toNat : Int))
theorem bytesRow_at (s : ByteArray) (cap i : Nat) (h : i < s.size) : (bytesRow s cap)[i]? = some (.int .u8 ((s.data.toList.getD i 0).toNat : Int)) := by
  have h' : i < s.data.size := h
  unfold bytesRow
  rw [Array.getElem?_append_left (by simpa using h')]
  simp [Array.getElem?_eq_getElem h']
theorem bytesRow_size (s : ByteArray) (cap : Nat) : s.size ≤ (bytesRow s cap).size := by
  have : s.data.size = s.size := rfl
  simp [bytesRow]
theorem burstArr_size (s : ByteArray) (k : Nat) (y : Int) (cap : Nat) : ∀ j, (burstArr s k y cap j).size = (bytesRow s cap).size
  | 0 => rfl
  | j + 1 => by rw [burstArr, Array.size_setIfInBounds, burstArr_size s k y cap j]
theorem burstArr_at (s : ByteArray) (k : Nat) (y : Int) (cap : Nat) (i : Nat) (h : i < s.size) : ∀ j, (burstArr s k y cap j)[i]? =
    some (.int .u8 ((if k ≤ i ∧ i < k + j then s.data.toList.getD i 0 ^^^ burstD y (i - k) else s.data.toList.getD i 0 : UInt8).toNat : Int))
  | 0 => by rw [burstArr, bytesRow_at s cap i h, if_neg (by omega)]
  | j + 1 => by
    rw [burstArr, Array.getElem?_setIfInBounds]
    by_cases e : k + j = i
    · subst e
      rw [if_pos rfl, if_pos (by rw [burstArr_size]; have := bytesRow_size s cap; omega), if_pos (by omega)]
      simp
    · rw [if_neg e, burstArr_at s k y cap i h j]
      by_cases h1 : k ≤ i ∧ i < k + j
      · rw [if_pos h1, if_pos (by omega)]
      · rw [if_neg h1, if_neg (by omega)]

theorem burst_val (s : ByteArray) (y : Int) (i j : Nat) : bits .xor .u8 ((s.data[i]?.getD 0).toNat : Int) (bits .and .i64 (y / 2 ^ (8 * j)) 255 % 256) = ((s.data.toList.getD i 0 ^^^ burstD y j : UInt8).toNat : Int) := by
  have hm := and_mask_i64 (y / 2 ^ (8 * j)) 8 (by decide)
  have e2 : (((2 ^ 8 - 1 : Nat)) : Int) = 255 := by decide +kernel
  have e3 : (((2 ^ 8 : Nat)) : Int) = 256 := by decide +kernel
  rw [e2, e3] at hm
  have e4 : ((2 ^ (8 * j) : Nat) : Int) = (2 : Int) ^ (8 * j) := by simp
  have h1 := burstD_val y j
  rw [e4] at h1
  rw [hm, Int.emod_emod_of_dvd _ (Int.dvd_refl _), ← h1, xor_u8]
  simp

def tellL (f : List UInt8) (k : Nat) (y : Int) (m : Nat) : List UInt8 := (List.range f.length).map fun i => if k ≤ i ∧ i < k + m then f.getD i 0 ^^^ burstD y (i - k) else f.getD i 0
theorem tell_len (f : List UInt8) (k : Nat) (y : Int) (m : Nat) : (tellL f k y m).length = f.length := by simp [tellL]
theorem tell_at (f : List UInt8) (k : Nat) (y : Int) (m i : Nat) (h : i < f.length) : (tellL f k y m)[i]? = some (if k ≤ i ∧ i < k + m then f.getD i 0 ^^^ burstD y (i - k) else f.getD i 0) := by
  simp only [tellL, List.getElem?_map]
  rw [List.getElem?_range h]
  rfl
theorem tell_front (A B : List UInt8) (k : Nat) (y : Int) (m : Nat) : tellL (A ++ B) (A.length + k) y m = A ++ tellL B k y m := by
  apply List.ext_getElem?
  intro i
  by_cases h : i < (A ++ B).length
  · rw [tell_at _ _ _ _ _ h]
    rw [List.length_append] at h
    by_cases c : i < A.length
    · rw [List.getElem?_append_left c, if_neg (by omega), List.getD_eq_getElem?_getD, List.getElem?_append_left c, List.getElem?_eq_getElem c]
      rfl
    · rw [List.getElem?_append_right (by omega), tell_at _ _ _ _ _ (by omega)]
      have e : (A ++ B).getD i 0 = B.getD (i - A.length) 0 := by rw [List.getD_eq_getElem?_getD, List.getElem?_append_right (by omega), ← List.getD_eq_getElem?_getD]
      rw [e]
      by_cases d : k ≤ i - A.length ∧ i - A.length < k + m
      · rw [if_pos d, if_pos (by omega), show i - (A.length + k) = i - A.length - k by omega]
      · rw [if_neg d, if_neg (by omega)]
  · rw [List.getElem?_eq_none (by rw [tell_len]; omega), List.getElem?_eq_none (by rw [List.length_append, tell_len]; rw [List.length_append] at h; omega)]
theorem tell_back (B D : List UInt8) (k : Nat) (y : Int) (m : Nat) (hk : k + m ≤ B.length) : tellL (B ++ D) k y m = tellL B k y m ++ D := by
  apply List.ext_getElem?
  intro i
  by_cases h : i < (B ++ D).length
  · rw [tell_at _ _ _ _ _ h]
    rw [List.length_append] at h
    by_cases c : i < B.length
    · rw [List.getElem?_append_left (by rw [tell_len]; exact c), tell_at _ _ _ _ _ c]
      have e : (B ++ D).getD i 0 = B.getD i 0 := by rw [List.getD_eq_getElem?_getD, List.getElem?_append_left c, ← List.getD_eq_getElem?_getD]
      rw [e]
    · rw [List.getElem?_append_right (by rw [tell_len]; omega), if_neg (by omega), tell_len, List.getD_eq_getElem?_getD, List.getElem?_append_right (by omega), List.getElem?_eq_getElem (by omega)]
      rfl
  · rw [List.getElem?_eq_none (by rw [tell_len]; omega), List.getElem?_eq_none (by rw [List.length_append, tell_len]; rw [List.length_append] at h; omega)]
def allZ (y : Int) : Nat → Bool
  | 0 => true
  | j + 1 => allZ y j && (burstD y j == 0)
theorem allZ_at (y : Int) : ∀ m, allZ y m = false → ∃ i, i < m ∧ burstD y i ≠ 0
  | 0, h => by cases h
  | m + 1, h => by
    simp only [allZ, Bool.and_eq_false_iff] at h
    rcases h with h | h
    · obtain ⟨i, h1, h2⟩ := allZ_at y m h; exact ⟨i, by omega, h2⟩
    · exact ⟨m, by omega, by simpa using h⟩
/-- no checksum stays -/
theorem tell_sum (l : List UInt8) (k : Nat) (y : Int) (m : Nat) (hm : m ≤ 3) (hk : k + m ≤ l.length) (hm1 : 1 ≤ m) (hz : allZ y m = false) : crcSum (tellL l k y m) ≠ crcSum l := by
  intro hc
  obtain ⟨i, hi, hne⟩ := allZ_at y m hz
  let e : Nat → UInt8 := fun j => if j < m then burstD y j else 0
  have hl : (l ++ [0, 0]).length = l.length + 2 := by simp
  have hcat : crcSum (tellL l k y m ++ [0, 0]) = crcSum (l ++ [0, 0]) := by
    unfold crcSum at hc ⊢
    rw [List.foldl_append, List.foldl_append, hc]
  rw [← tell_back l [0, 0] k y m hk] at hcat
  generalize hL : l ++ [0, 0] = L at *
  have hself : L = L.take k ++ ([L.getD k 0, L.getD (k + 1) 0, L.getD (k + 2) 0] ++ L.drop (k + 3)) := by
    conv => lhs; rw [← List.take_append_drop k L]
    congr 1
    rw [List.drop_eq_getElem_cons (by omega), List.drop_eq_getElem_cons (by omega), List.drop_eq_getElem_cons (by omega)]
    simp [List.getD_eq_getElem?_getD, List.getElem?_eq_getElem (show k < L.length by omega), List.getElem?_eq_getElem (show k + 1 < L.length by omega), List.getElem?_eq_getElem (show k + 2 < L.length by omega)]
  have htell : tellL L k y m = L.take k ++ ([L.getD k 0 ^^^ e 0, L.getD (k + 1) 0 ^^^ e 1, L.getD (k + 2) 0 ^^^ e 2] ++ L.drop (k + 3)) := by
    apply List.ext_getElem?
    intro i
    by_cases h : i < L.length
    · rw [tell_at _ _ _ _ _ h]
      have ht : (L.take k).length = k := by rw [List.length_take]; omega
      by_cases c1 : i < k
      · rw [if_neg (by omega), List.getElem?_append_left (by omega), List.getElem?_take_of_lt c1, List.getD_eq_getElem?_getD, List.getElem?_eq_getElem h]
        rfl
      · rw [List.getElem?_append_right (by omega), ht]
        obtain ⟨d, rfl⟩ : ∃ d, i = k + d := ⟨i - k, by omega⟩
        rw [Nat.add_sub_cancel_left]
        have hg : ∀ d, (if k ≤ k + d ∧ k + d < k + m then L.getD (k + d) 0 ^^^ burstD y d else L.getD (k + d) 0) = L.getD (k + d) 0 ^^^ (if d < m then burstD y d else 0) := by
          intro d
          by_cases hd : d < m
          · rw [if_pos (by omega), if_pos hd]
          · rw [if_neg (by omega), if_neg hd]; simp
        rw [hg]
        match d with
        | 0 => rfl
        | 1 => rfl
        | 2 => rfl
        | d + 3 =>
          rw [if_neg (by omega), List.getElem?_append_right (by simp), List.getElem?_drop]
          simp only [List.length_cons, List.length_nil]
          rw [show k + 3 + (d + 3 - (0 + 1 + 1 + 1)) = k + (d + 3) by omega, List.getD_eq_getElem?_getD, List.getElem?_eq_getElem h]
          simp
    · rw [List.getElem?_eq_none (by rw [tell_len]; omega), List.getElem?_eq_none (by simp; omega)]
  rw [htell] at hcat
  conv at hcat => rhs; rw [hself]
  refine crcBurst (L.take k) (L.drop (k + 3)) _ _ _ (e 0) (e 1) (e 2) ?_ hcat.symm
  rintro ⟨h0, h1, h2⟩
  have : i = 0 ∨ i = 1 ∨ i = 2 := by omega
  rcases this with rfl | rfl | rfl
  · exact hne (by have := h0; simp only [e] at this; rwa [if_pos hi] at this)
  · exact hne (by have := h1; simp only [e] at this; rwa [if_pos hi] at this)
  · exact hne (by have := h2; simp only [e] at this; rwa [if_pos hi] at this)
/-- a frame whose text is another one -/
theorem take_other (n c : Nat) (l : List UInt8) (hn : l.length = n) (h1 : n ≤ 262144) (hc : c < 16777216) (hs : crcSum l ≠ c) :
    takeF ⟨(hexL n 6 ++ (hexL c 6 ++ (124 :: (l ++ [10])))).toArray⟩ = (nothing, 0, 41) := by
  generalize hF : (⟨(hexL n 6 ++ (hexL c 6 ++ (124 :: (l ++ [10])))).toArray⟩ : ByteArray) = F
  have hd : F.data.toList = hexL n 6 ++ (hexL c 6 ++ (124 :: (l ++ [10]))) := by rw [← hF]
  have hsz : F.size = n + 14 := by rw [← list_size, hd]; simp [hexL_len]; omega
  have e1 : F.extract 0 6 = hx n := data_ext (by rw [data_extract, hd, List.take_left' (hexL_len _)]; rfl)
  have e2 : F.extract 6 12 = hx c := data_ext (by
    rw [data_extract, hd, ← List.append_assoc, List.take_left' (by simp [hexL_len]), List.drop_left' (hexL_len _)]; rfl)
  have e3 : bt F 12 = 124 := by
    have := bt_data F 12
    rw [hd, ← List.append_assoc, List.getD_eq_getElem?_getD, List.getElem?_append_right (by simp [hexL_len])] at this
    simpa [hexL_len] using this
  have e4 : (F.extract 13 F.size).data.toList = l ++ [10] := by
    rw [data_extract, hd, List.take_of_length_le (by rw [hsz]; simp [hexL_len]; omega)]
    rw [show hexL n 6 ++ (hexL c 6 ++ 124 :: (l ++ [10])) = (hexL n 6 ++ hexL c 6 ++ [124]) ++ (l ++ [10]) by simp]
    rw [List.drop_left' (by simp [hexL_len])]
  unfold takeF
  rw [if_neg (by omega), e1, e2, e3, unhex_hx (by omega), unhex_hx hc, if_pos ⟨rfl, rfl, by simpa using (by omega : (n : Int) ≤ 262144), rfl⟩]
  generalize F.extract 13 F.size = rest at e4
  have hr : rest.size = n + 1 := by rw [← list_size, e4]; simp; omega
  have hb : bt rest (n : Int) = 10 := by
    rw [bt_data, e4, List.getD_eq_getElem?_getD, List.getElem?_append_right (by omega), hn, Nat.sub_self]
    rfl
  have hx0 : (rest.extract 0 n).data.toList = l := by rw [data_extract, e4, List.take_left' hn]; rfl
  show restT rest (n : Int) (c : Int) = _
  unfold restT
  rw [if_neg (by omega), hb, if_neg (by simp), Int.toNat_natCast, hx0, if_pos (by omega)]
end Go.Proofs.YtifbpchakoljaaaDoor.Tells
