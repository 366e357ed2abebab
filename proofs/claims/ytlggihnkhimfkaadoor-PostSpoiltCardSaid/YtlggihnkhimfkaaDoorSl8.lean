/- Texts put together by prune.py: FrmU, PsK, PsV, Opn, PsO, LayP, PsL, PsN. -/
import Derived.WalkSpells
import Derived.WalkLawsBesides
import Derived.ChangeArms
import Derived.DataReads
import Derived.SizedLaws
import Derived.Test.YtlggihnkhimfkaaDoorRows
import Derived.Lib.LaidIn
import Derived.Lib.LaidU8T
import Derived.Deep.DeepHandedRow
import Derived.Deep.DeepWitnessRowRef
import Derived.ProofKit
import Derived.Stop.LaidErr
import Derived.Lib.LaidTab
import Derived.Test.YtlggihnkhimfkaaDoorSl7
namespace Go.Proofs.YtlggihnkhimfkaaDoor.Tells
open Go.RowKit Go.Lib Go.Proofs.YtlggihnkhimfkaaDoor.Giv Go.Proofs.YtlggihnkhimfkaaDoor.Hx Go.Proofs.YtlggihnkhimfkaaDoorW.PrintWords
set_option linter.unusedVariables false
set_option linter.unusedSimpArgs false
theorem xor_u8 (a b : UInt8) : bits .xor .u8 (a.toNat : Int) (b.toNat : Int) = ((a ^^^ b).toNat : Int) := by
  rw [u8_xor_nat _ _ a.toNat_lt b.toNat_lt, UInt8.toNat_xor]
def burstD (by_ : Int) (i : Nat) : UInt8 := UInt8.ofNat ((by_ / ((2 ^ (8 * i) : Nat) : Int)) % 256).toNat
theorem burstD_val (by_ : Int) (i : Nat) : ((burstD by_ i).toNat : Int) = (by_ / ((2 ^ (8 * i) : Nat) : Int)) % 256 := by
  unfold burstD
  have h0 := Int.emod_nonneg (by_ / ((2 ^ (8 * i) : Nat) : Int)) (show (256 : Int) ≠ 0 by decide)
  have h1 := Int.emod_lt_of_pos (by_ / ((2 ^ (8 * i) : Nat) : Int)) (show (0 : Int) < 256 by decide)
  rw [UInt8.toNat_ofNat']
  omega
def burstArr (s : ByteArray) (k : Nat) (y : Int) (cap : Nat) : Nat → Array Value
  | 0 => bytesRow s cap
  | j + 1 => (burstArr s k y cap j).setIfInBounds (k + j) (.int .u8 ((s.data.toList.getD (k + j) 0 ^^^ burstD y j : UInt8).toNat : Int))
theorem bytesRow_at (s : ByteArray) (cap i : Nat) (h : i < s.size) : (bytesRow s cap)[i]? = some (.int .u8 ((s.data.toList.getD i 0).toNat : Int)) := by
  have h' : i < s.data.size := h
  unfold bytesRow
  rw [Array.getElem?_append_left (by simpa using h')]
  simp [Array.getElem?_eq_getElem h']
theorem bytesRow_size (s : ByteArray) (cap : Nat) : s.size ≤ (bytesRow s cap).size := by
  have : s.data.size = s.size := rfl
  simp [bytesRow]
theorem burstArr_size (s : ByteArray) (k : Nat) (y : Int) (cap : Nat) : ∀ j, (burstArr s k y cap j).size = (bytesRow s cap).size
  | 0 => rfl
  | j + 1 => by rw [burstArr, Array.size_setIfInBounds, burstArr_size s k y cap j]
theorem burstArr_at (s : ByteArray) (k : Nat) (y : Int) (cap : Nat) (i : Nat) (h : i < s.size) : ∀ j, (burstArr s k y cap j)[i]? =
    some (.int .u8 ((if k ≤ i ∧ i < k + j then s.data.toList.getD i 0 ^^^ burstD y (i - k) else s.data.toList.getD i 0 : UInt8).toNat : Int))
  | 0 => by rw [burstArr, bytesRow_at s cap i h, if_neg (by omega)]
  | j + 1 => by
    rw [burstArr, Array.getElem?_setIfInBounds]
    by_cases e : k + j = i
    · subst e
      rw [if_pos rfl, if_pos (by rw [burstArr_size]; have := bytesRow_size s cap; omega), if_pos (by omega)]
      simp
    · rw [if_neg e, burstArr_at s k y cap i h j]
      by_cases h1 : k ≤ i ∧ i < k + j
      · rw [if_pos h1, if_pos (by omega)]
      · rw [if_neg h1, if_neg (by omega)]
def tellL (f : List UInt8) (k : Nat) (y : Int) (m : Nat) : List UInt8 := (List.range f.length).map fun i => if k ≤ i ∧ i < k + m then f.getD i 0 ^^^ burstD y (i - k) else f.getD i 0
theorem tell_len (f : List UInt8) (k : Nat) (y : Int) (m : Nat) : (tellL f k y m).length = f.length := by simp [tellL]
theorem tell_at (f : List UInt8) (k : Nat) (y : Int) (m i : Nat) (h : i < f.length) : (tellL f k y m)[i]? = some (if k ≤ i ∧ i < k + m then f.getD i 0 ^^^ burstD y (i - k) else f.getD i 0) := by
  simp only [tellL, List.getElem?_map]
  rw [List.getElem?_range h]
  rfl
theorem tell_front (A B : List UInt8) (k : Nat) (y : Int) (m : Nat) : tellL (A ++ B) (A.length + k) y m = A ++ tellL B k y m := by
  apply List.ext_getElem?
  intro i
  by_cases h : i < (A ++ B).length
  · rw [tell_at _ _ _ _ _ h]
    rw [List.length_append] at h
    by_cases c : i < A.length
    · rw [List.getElem?_append_left c, if_neg (by omega), List.getD_eq_getElem?_getD, List.getElem?_append_left c, List.getElem?_eq_getElem c]
      rfl
    · rw [List.getElem?_append_right (by omega), tell_at _ _ _ _ _ (by omega)]
      have e : (A ++ B).getD i 0 = B.getD (i - A.length) 0 := by rw [List.getD_eq_getElem?_getD, List.getElem?_append_right (by omega), ← List.getD_eq_getElem?_getD]
      rw [e]
      by_cases d : k ≤ i - A.length ∧ i - A.length < k + m
      · rw [if_pos d, if_pos (by omega), show i - (A.length + k) = i - A.length - k by omega]
      · rw [if_neg d, if_neg (by omega)]
  · rw [List.getElem?_eq_none (by rw [tell_len]; omega), List.getElem?_eq_none (by rw [List.length_append, tell_len]; rw [List.length_append] at h; omega)]
theorem tell_back (B D : List UInt8) (k : Nat) (y : Int) (m : Nat) (hk : k + m ≤ B.length) : tellL (B ++ D) k y m = tellL B k y m ++ D := by
  apply List.ext_getElem?
  intro i
  by_cases h : i < (B ++ D).length
  · rw [tell_at _ _ _ _ _ h]
    rw [List.length_append] at h
    by_cases c : i < B.length
    · rw [List.getElem?_append_left (by rw [tell_len]; exact c), tell_at _ _ _ _ _ c]
      have e : (B ++ D).getD i 0 = B.getD i 0 := by rw [List.getD_eq_getElem?_getD, List.getElem?_append_left c, ← List.getD_eq_getElem?_getD]
      rw [e]
    · rw [List.getElem?_append_right (by rw [tell_len]; omega), if_neg (by omega), tell_len, List.getD_eq_getElem?_getD, List.getElem?_append_right (by omega), List.getElem?_eq_getElem (by omega)]
      rfl
  · rw [List.getElem?_eq_none (by rw [tell_len]; omega), List.getElem?_eq_none (by rw [List.length_append, tell_len]; rw [List.length_append] at h; omega)]
def allZ (y : Int) : Nat → Bool
  | 0 => true
  | j + 1 => allZ y j && (burstD y j == 0)
theorem allZ_at (y : Int) : ∀ m, allZ y m = false → ∃ i, i < m ∧ burstD y i ≠ 0
  | 0, h => by cases h
  | m + 1, h => by
    simp only [allZ, Bool.and_eq_false_iff] at h
    rcases h with h | h
    · obtain ⟨i, h1, h2⟩ := allZ_at y m h; exact ⟨i, by omega, h2⟩
    · exact ⟨m, by omega, by simpa using h⟩
theorem tell_sum (l : List UInt8) (k : Nat) (y : Int) (m : Nat) (hm : m ≤ 3) (hk : k + m ≤ l.length) (hm1 : 1 ≤ m) (hz : allZ y m = false) : crcSum (tellL l k y m) ≠ crcSum l := by
  intro hc
  obtain ⟨i, hi, hne⟩ := allZ_at y m hz
  let e : Nat → UInt8 := fun j => if j < m then burstD y j else 0
  have hl : (l ++ [0, 0]).length = l.length + 2 := by simp
  have hcat : crcSum (tellL l k y m ++ [0, 0]) = crcSum (l ++ [0, 0]) := by
    unfold crcSum at hc ⊢
    rw [List.foldl_append, List.foldl_append, hc]
  rw [← tell_back l [0, 0] k y m hk] at hcat
  generalize hL : l ++ [0, 0] = L at *
  have hself : L = L.take k ++ ([L.getD k 0, L.getD (k + 1) 0, L.getD (k + 2) 0] ++ L.drop (k + 3)) := by
    conv => lhs; rw [← List.take_append_drop k L]
    congr 1
    rw [List.drop_eq_getElem_cons (by omega), List.drop_eq_getElem_cons (by omega), List.drop_eq_getElem_cons (by omega)]
    simp [List.getD_eq_getElem?_getD, List.getElem?_eq_getElem (show k < L.length by omega), List.getElem?_eq_getElem (show k + 1 < L.length by omega), List.getElem?_eq_getElem (show k + 2 < L.length by omega)]
  have htell : tellL L k y m = L.take k ++ ([L.getD k 0 ^^^ e 0, L.getD (k + 1) 0 ^^^ e 1, L.getD (k + 2) 0 ^^^ e 2] ++ L.drop (k + 3)) := by
    apply List.ext_getElem?
    intro i
    by_cases h : i < L.length
    · rw [tell_at _ _ _ _ _ h]
      have ht : (L.take k).length = k := by rw [List.length_take]; omega
      by_cases c1 : i < k
      · rw [if_neg (by omega), List.getElem?_append_left (by omega), List.getElem?_take_of_lt c1, List.getD_eq_getElem?_getD, List.getElem?_eq_getElem h]
        rfl
      · rw [List.getElem?_append_right (by omega), ht]
        obtain ⟨d, rfl⟩ : ∃ d, i = k + d := ⟨i - k, by omega⟩
        rw [Nat.add_sub_cancel_left]
        have hg : ∀ d, (if k ≤ k + d ∧ k + d < k + m then L.getD (k + d) 0 ^^^ burstD y d else L.getD (k + d) 0) = L.getD (k + d) 0 ^^^ (if d < m then burstD y d else 0) := by
          intro d
          by_cases hd : d < m
          · rw [if_pos (by omega), if_pos hd]
          · rw [if_neg (by omega), if_neg hd]; simp
        rw [hg]
        match d with
        | 0 => rfl
        | 1 => rfl
        | 2 => rfl
        | d + 3 =>
          rw [if_neg (by omega), List.getElem?_append_right (by simp), List.getElem?_drop]
          simp only [List.length_cons, List.length_nil]
          rw [show k + 3 + (d + 3 - (0 + 1 + 1 + 1)) = k + (d + 3) by omega, List.getD_eq_getElem?_getD, List.getElem?_eq_getElem h]
          simp
    · rw [List.getElem?_eq_none (by rw [tell_len]; omega), List.getElem?_eq_none (by simp; omega)]
  rw [htell] at hcat
  conv at hcat => rhs; rw [hself]
  refine crcBurst (L.take k) (L.drop (k + 3)) _ _ _ (e 0) (e 1) (e 2) ?_ hcat.symm
  rintro ⟨h0, h1, h2⟩
  have : i = 0 ∨ i = 1 ∨ i = 2 := by omega
  rcases this with rfl | rfl | rfl
  · exact hne (by have := h0; simp only [e] at this; rwa [if_pos hi] at this)
  · exact hne (by have := h1; simp only [e] at this; rwa [if_pos hi] at this)
  · exact hne (by have := h2; simp only [e] at this; rwa [if_pos hi] at this)
end Go.Proofs.YtlggihnkhimfkaaDoor.Tells
namespace Go.Proofs.YtlggihnkhimfkaaDoor.Pure
open Go.RowKit Go.Lib Go.Proofs.YtlggihnkhimfkaaDoor.Giv Go.Proofs.YtlggihnkhimfkaaDoor.Hx Go.Proofs.YtlggihnkhimfkaaDoor.P Go.Proofs.YtlggihnkhimfkaaDoor.Tells Go.Proofs.YtlggihnkhimfkaaDoorW.PrintWords Go.Proofs.YtlggihnkhimfkaaDoorW.PrintLast Go.Proofs.YtlggihnkhimfkaaDoorW.PrintMore
set_option linter.unusedVariables false
set_option linter.unusedSimpArgs false
theorem hexL_inj {n m : Nat} (hn : n < 16777216) (hm : m < 16777216) (h : hexL n 6 = hexL m 6) : n = m := by
  have e : hx n = hx m := data_ext h
  have h1 := unhex_hx hn
  rw [e, unhex_hx hm] at h1
  have := (Prod.mk.inj h1).1
  omega
theorem put6 (t : ByteArray) : (putF t).data.toList.take 6 = hexL t.size 6 := by
  rw [putF_data, List.take_left' (hexL_len _)]
theorem cut_bad (y t : ByteArray) (hy : y.size ≤ 262144) (k : Nat) (hk : k < (putF y).size) (ht : t.data.toList = (putF y).data.toList.take k) : (takeF t).2.2 ≠ 0 := by
  intro h
  obtain ⟨h1, h2, h3, h4⟩ := put_take h
  generalize (takeF t).1 = u at *
  have hz := putF_size y
  have htl : t.size ≤ k := by rw [← data_size, ht, List.length_take]; omega
  have e1 : t.data.toList.take 6 = hexL u.size 6 := by
    have := congrArg (List.take 6) h4
    rwa [List.take_take, Nat.min_eq_left (by omega), put6] at this
  rw [ht, List.take_take, Nat.min_eq_left (by omega), put6] at e1
  have := hexL_inj (by omega) (by omega) e1
  omega
theorem mid {α : Type} (A B R : List α) (a b : Nat) (hA : A.length = a) (hB : B.length = b) : ((A ++ (B ++ R)).take (a + b)).drop a = B := by
  rw [← List.append_assoc, List.take_left' (by simp [hA, hB]), List.drop_left' hA]
theorem head_bad (s : ByteArray) (n c : Nat) (l tail : List UInt8) (hd : s.data.toList = hexL n 6 ++ (hexL c 6 ++ (124 :: (l ++ (10 :: tail))))) (hl : l.length = n) (hn : n < 16777216) (hc : c < 16777216) (hs : crcSum l ≠ c) : (takeF s).2.2 ≠ 0 := by
  intro h
  obtain ⟨h1, h2, h3, h4⟩ := put_take h
  generalize (takeF s).1 = u at *
  have e1 := congrArg (List.take 6) h4
  rw [List.take_take, Nat.min_eq_left (by omega), put6, hd, List.take_left' (hexL_len _)] at e1
  have hnu := hexL_inj hn (by omega) e1
  have e2 : ((s.data.toList.take (u.size + 14)).take (6 + 6)).drop 6 = ((putF u).data.toList.take (6 + 6)).drop 6 := by rw [h4]
  rw [List.take_take, Nat.min_eq_left (by omega), hd, putF_data, mid _ _ _ 6 6 (hexL_len _) (hexL_len _), mid _ _ _ 6 6 (hexL_len _) (hexL_len _)] at e2
  have hcu := hexL_inj hc (crcSum_lt _) e2
  have e3 : ((s.data.toList.take (u.size + 14)).take (13 + n)).drop 13 = ((putF u).data.toList.take (13 + n)).drop 13 := by rw [h4]
  have f1 : hexL n 6 ++ (hexL c 6 ++ (124 :: (l ++ (10 :: tail)))) = (hexL n 6 ++ hexL c 6 ++ [124]) ++ (l ++ (10 :: tail)) := by simp
  have f2 : (putF u).data.toList = (hexL u.size 6 ++ hexL (crcSum u.data.toList) 6 ++ [124]) ++ (u.data.toList ++ [10]) := by rw [putF_data]; simp
  have g1 : (hexL n 6 ++ hexL c 6 ++ [124]).length = 13 := by simp [hexL_len]
  have g2 : (hexL u.size 6 ++ hexL (crcSum u.data.toList) 6 ++ [124]).length = 13 := by simp [hexL_len]
  have hu := data_size u
  rw [List.take_take, Nat.min_eq_left (by omega), hd, f1, f2, mid _ _ _ 13 n g1 hl, mid _ _ _ 13 n g2 (by omega)] at e3
  rw [e3] at hs
  exact hs hcu.symm
def zeroM : Ms := ⟨0, 0, 0, 0, 0, 0, 0, 0, 0, 0, [], 0, 0, false, [], ⟨#[]⟩⟩
theorem take_none (t : ByteArray) (hs : t.size ≤ 1000000) (L : List ByteArray) (n : Nat) (h : allS t 0 = (L, n)) (hL : L.length < 2) : post_Take.f t = some (zeroM.kd, zeroM.sh, zeroM.ep, zeroM.cl, zeroM.sq, zeroM.nn, zeroM.ve, zeroM.li, zeroM.ok, zeroM.id, zeroM.v, zeroM.kk, zeroM.er, zeroM.was, zeroM.hits, zeroM.text, 130) := by
  unfold post_Take.f
  rw [PurF.all_yes hs, h, Option.bind_some]
  match L, hL with
  | [], _ => rfl
  | [a], _ => rfl
theorem data_len (a : ByteArray) : a.data.toList.length = a.size := data_size a
theorem spoilt_cut (m : Ms) (hw : wfM m) (hm : mayB m = true) (k : Nat) (hk : k < (msgT m).size) : post_Take.f ((msgT m).extract 0 k) = some (zeroM.kd, zeroM.sh, zeroM.ep, zeroM.cl, zeroM.sq, zeroM.nn, zeroM.ve, zeroM.li, zeroM.ok, zeroM.id, zeroM.v, zeroM.kk, zeroM.er, zeroM.was, zeroM.hits, zeroM.text, 130) := by
  obtain ⟨h1, h2, h3, h4, h5, h6⟩ := msg_facts m hw hm
  have hs := may_small' hm
  have hz := msgT_size m
  have ht : ((msgT m).extract 0 k).data.toList = (msgT m).data.toList.take k := by rw [data_extract, List.drop_zero]
  have htz : ((msgT m).extract 0 k).size = k := by rw [ByteArray.size_extract]; omega
  generalize (msgT m).extract 0 k = t at *
  have hxs : (⟨(enc (msgV m)).toArray⟩ : ByteArray).size ≤ 262144 := by rw [encA_size]; omega
  have hA : (putF ⟨(enc (msgV m)).toArray⟩).size = (enc (msgV m)).length + 14 := by rw [putF_size, encA_size (enc (msgV m))]
  have hB := putF_size m.text
  unfold msgT at ht
  rw [frm_app] at ht
  by_cases hc : k < (putF ⟨(enc (msgV m)).toArray⟩).size
  · rw [List.take_append_of_le_length (by rw [data_len]; omega)] at ht
    exact take_none t (by omega) [] 0 (allS_bad (by rw [ext_all]; exact cut_bad _ t hxs k hc ht)) (by decide)
  · rw [List.take_append, List.take_of_length_le (l := (putF ⟨(enc (msgV m)).toArray⟩).data.toList) (by rw [data_len]; omega), data_len] at ht
    generalize hr : (⟨((putF m.text).data.toList.take (k - (putF ⟨(enc (msgV m)).toArray⟩).size)).toArray⟩ : ByteArray) = rest
    have hrd : rest.data.toList = (putF m.text).data.toList.take (k - (putF ⟨(enc (msgV m)).toArray⟩).size) := by rw [← hr]
    have et : t = putF ⟨(enc (msgV m)).toArray⟩ ++ rest := data_ext (by rw [frm_app, ht, hrd])
    have hrs : rest.size = k - (putF ⟨(enc (msgV m)).toArray⟩).size := by
      have := data_len rest
      rw [hrd, List.length_take, data_len] at this
      omega
    have t1 := take_put ⟨(enc (msgV m)).toArray⟩ rest hxs
    have hstep : allS t 0 = ([⟨(enc (msgV m)).toArray⟩], (putF ⟨(enc (msgV m)).toArray⟩).size) := by
      have t1' : takeF (t.extract 0 t.size) = (⟨(enc (msgV m)).toArray⟩, ((putF ⟨(enc (msgV m)).toArray⟩).size : Int), 0) := by rw [ext_all, et, t1]
      rw [allS_step (by omega) (by rw [t1']), t1', Nat.zero_add]
      rw [show ((putF ⟨(enc (msgV m)).toArray⟩).size : Int).toNat = (putF ⟨(enc (msgV m)).toArray⟩).size from Int.toNat_natCast _]
      by_cases he : k = (putF ⟨(enc (msgV m)).toArray⟩).size
      · rw [allS_end (by omega)]
      · rw [allS_bad]
        rw [et, ext_app]
        exact cut_bad m.text rest hs.2.2 _ (by omega) hrd
    exact take_none t (by omega) _ _ hstep (by simp)
theorem allZ1 (y : Int) : allZ y 1 = (burstD y 0 == 0) := by rw [allZ, allZ]; rfl
theorem tell_none (f : List UInt8) (k : Nat) (y : Int) (h : burstD y 0 = 0) : tellL f k y 1 = f := by
  refine List.ext_getElem? fun i => ?_
  by_cases hi : i < f.length
  · rw [tell_at f k y 1 i hi]
    by_cases c : k ≤ i ∧ i < k + 1
    · rw [if_pos c, show i - k = 0 by omega, h, List.getElem?_eq_getElem hi, List.getD_eq_getElem?_getD, List.getElem?_eq_getElem hi]
      simp
    · rw [if_neg c, List.getElem?_eq_getElem hi, List.getD_eq_getElem?_getD, List.getElem?_eq_getElem hi]
      simp
  · rw [List.getElem?_eq_none (by rw [tell_len]; omega), List.getElem?_eq_none (by omega)]
theorem enc_3 (m : Ms) (hw : wfM m) : 3 ≤ (enc (msgV m)).length := by
  unfold msgV
  rw [enc_lis, msgL_eq]
  rw [List.map_cons, List.cons_append, encs_cons, enc_int]
  simp <;> omega
theorem spoilt_byte (m : Ms) (hw : wfM m) (hm : mayB m = true) (j : Nat) (hj : j < 3) (y : Int) (hy : ¬ burstD y 0 = 0) : post_Take.f ⟨(tellL (msgT m).data.toList (13 + j) y 1).toArray⟩ = some (zeroM.kd, zeroM.sh, zeroM.ep, zeroM.cl, zeroM.sq, zeroM.nn, zeroM.ve, zeroM.li, zeroM.ok, zeroM.id, zeroM.v, zeroM.kk, zeroM.er, zeroM.was, zeroM.hits, zeroM.text, 130) := by
  obtain ⟨h1, h2, h3, h4, h5, h6⟩ := msg_facts m hw hm
  have hs := may_small' hm
  have hz := msgT_size m
  have h3' := enc_3 m hw
  generalize ht : (⟨(tellL (msgT m).data.toList (13 + j) y 1).toArray⟩ : ByteArray) = t
  have htd : t.data.toList = tellL (msgT m).data.toList (13 + j) y 1 := by rw [← ht]
  have hts : t.size = (msgT m).size := by rw [← data_len, htd, tell_len, data_len]
  generalize hl : enc (msgV m) = l at *
  have hxd : (⟨l.toArray⟩ : ByteArray).data.toList = l := by simp
  have hxs : (⟨l.toArray⟩ : ByteArray).size = l.length := encA_size l
  have e1 : (msgT m).data.toList = (hexL l.length 6 ++ hexL (crcSum l) 6 ++ [124]) ++ (l ++ (10 :: (putF m.text).data.toList)) := by
    unfold msgT
    rw [hl, frm_app, putF_data, hxd, hxs]
    simp
  have e2 : (hexL l.length 6 ++ hexL (crcSum l) 6 ++ [124]).length = 13 := by simp [hexL_len]
  have e3 := tell_front (hexL l.length 6 ++ hexL (crcSum l) 6 ++ [124]) (l ++ (10 :: (putF m.text).data.toList)) j y 1
  rw [e2, ← e1, tell_back l (10 :: (putF m.text).data.toList) j y 1 (by omega), ← htd] at e3
  have hsum := tell_sum l j y 1 (by decide) (by omega) (by decide) (by rw [allZ1]; simpa using hy)
  have hb := head_bad t l.length (crcSum l) (tellL l j y 1) (putF m.text).data.toList (by rw [e3]; simp) (tell_len _ _ _ _) (by omega) (crcSum_lt _) hsum
  exact take_none t (by omega) [] 0 (allS_bad (by rw [ext_all]; exact hb)) (by decide)
theorem spoilt_same (m : Ms) (j : Nat) (y : Int) (hy : burstD y 0 = 0) : (⟨(tellL (msgT m).data.toList (13 + j) y 1).toArray⟩ : ByteArray) = msgT m := by
  refine data_ext ?_
  rw [tell_none _ _ _ hy]
end Go.Proofs.YtlggihnkhimfkaaDoor.Pure
namespace Go.Proofs.YtlggihnkhimfkaaDoor.Pure
open Go.RowKit Go.Lib Go.Proofs.YtlggihnkhimfkaaDoor.Giv Go.Proofs.YtlggihnkhimfkaaDoor.P Go.Proofs.YtlggihnkhimfkaaDoor.Tells Go.Proofs.YtlggihnkhimfkaaDoorW.PrintWords Go.Proofs.YtlggihnkhimfkaaDoorW.PrintLast Go.Proofs.YtlggihnkhimfkaaDoorW.PrintMore
set_option linter.unusedVariables false
set_option linter.unusedSimpArgs false
theorem and16 (x : Int) : 0 ≤ bits .and .i64 x 65535 ∧ bits .and .i64 x 65535 ≤ 65535 := by
  have hm := and_mask_i64 x 16 (by decide)
  have e2 : (((2 ^ 16 - 1 : Nat)) : Int) = 65535 := by decide +kernel
  have e3 : (((2 ^ 16 : Nat)) : Int) = 65536 := by decide +kernel
  rw [e2, e3] at hm
  rw [hm]
  have h0 := Int.emod_nonneg x (show (65536 : Int) ≠ 0 by decide)
  have h1 := Int.emod_lt_of_pos x (show (0 : Int) < 65536 by decide)
  omega
theorem zero_byte (y : Int) : (bits .and .i64 y 255 % 256 == 0) = (burstD y 0 == 0) := by
  have hm := and_mask_i64 y 8 (by decide)
  have e2 : (((2 ^ 8 - 1 : Nat)) : Int) = 255 := by decide +kernel
  have e3 : (((2 ^ 8 : Nat)) : Int) = 256 := by decide +kernel
  rw [e2, e3] at hm
  rw [hm, show y % 256 % 256 = y % 256 by omega]
  have hv := burstD_val y 0
  have e : y / (((2 ^ (8 * 0) : Nat)) : Int) = y := by rw [show ((2 ^ (8 * 0) : Nat) : Int) = 1 from rfl]; exact Int.ediv_one y
  rw [e] at hv
  rw [← hv]
  refine Bool.eq_iff_iff.2 ?_
  rw [beq_iff_eq, beq_iff_eq]
  constructor
  · intro h
    exact UInt8.toNat.inj (by have : (burstD y 0).toNat = 0 := by omega
                              rw [this]; rfl)
  · intro h; rw [h]; rfl
theorem byte_val (s : ByteArray) (y : Int) (i : Nat) : bits .xor .u8 ((s.data[i]?.getD 0).toNat : Int) (bits .and .i64 y 255 % 256) = ((s.data.toList.getD i 0 ^^^ burstD y 0 : UInt8).toNat : Int) := by
  have hm := and_mask_i64 y 8 (by decide)
  have e2 : (((2 ^ 8 - 1 : Nat)) : Int) = 255 := by decide +kernel
  have e3 : (((2 ^ 8 : Nat)) : Int) = 256 := by decide +kernel
  rw [e2, e3] at hm
  rw [hm, show y % 256 % 256 = y % 256 by omega]
  have hv := burstD_val y 0
  have e : y / (((2 ^ (8 * 0) : Nat)) : Int) = y := by rw [show ((2 ^ (8 * 0) : Nat) : Int) = 1 from rfl]; exact Int.ediv_one y
  rw [e] at hv
  rw [← hv, show s.data[i]?.getD 0 = s.data.toList.getD i 0 from by simp, xor_u8]
set_option maxHeartbeats 8000000 in
set_option maxRecDepth 100000 in
theorem spoilt_dark (m : Ms) (Av : Option Addr) (cv : Nat) (Ah : Option Addr) (ch : Nat) (at_ y : Int) (w : World) (hL : LaidW w) (hv : Kd.C (Kd.int .i64) w Av m.v.length m.v) (hcv : m.v.length ≤ cv) (hh : Kd.C k52 w Ah m.hits.length m.hits) (hch : m.hits.length ≤ ch) (hl : lightB m = false) :
    Calls Tryd.prog 5 #[.agg #[.int .i64 m.kd, .int .i64 m.sh, .int .i64 m.ep, .int .i64 m.cl, .int .i64 m.sq, .int .i64 m.nn, .int .i64 m.ve, .int .i64 m.li, .int .i64 m.ok, .int .i64 m.id, .slice Av m.v.length cv, .int .i64 m.kk, .int .i64 m.er, .bool m.was, .slice Ah m.hits.length ch, .string m.text], .int .i64 at_, .int .i64 y] w fun e w' => e = .returned (.bool true) ∧ Below w.heap.size w w' := by
  have HV := Aside0.mk hv
  have HH := Aside0.mk hh
  have HCV := Aside0.mk hcv
  have HCH := Aside0.mk hch
  have HL := Aside0.mk hL
  have HLT := Aside0.mk hl
  clear hv hh hcv hch hL hl
  go_enter Tryd.func5, Tryd.ntmps5
  go_wp2_with (first | ((with_reducible refine gate_dst (N := 3) rfl ?_); refine box_event ?hg (N := 3) ?hd (cs := #[.int .i64 m.kd, .int .i64 m.sh, .int .i64 m.ep, .int .i64 m.cl, .int .i64 m.sq, .int .i64 m.nn, .int .i64 m.ve, .int .i64 m.li, .int .i64 m.ok, .int .i64 m.id, .slice Av m.v.length cv, .int .i64 m.kk, .int .i64 m.er, .bool m.was, .slice Ah m.hits.length ch, .string m.text]) (t := 30) ?hr ?_; (case hd => rfl); (case hg => rfl); (case hr => first | (go_simp; done) | (go_simp; rfl)); intro gb hg w1 hbox hb; have HB0 := Aside0.mk (below_step (Below.refl w.heap.size w) hb); have BK0 := Aside0.mk hbox; have GE := Aside0.mk (Nat.le_of_eq hg.symm); clear hg hbox hb) | ((with_reducible refine gate_dst (N := 17) rfl ?_); refine ev_load rfl 30 (.tmp 3) rfl _ rfl (fun w => by kernel_rfl) gb 0 rfl [.int .i64 m.kd, .int .i64 m.sh, .int .i64 m.ep, .int .i64 m.cl, .int .i64 m.sq, .int .i64 m.nn, .int .i64 m.ve, .int .i64 m.li, .int .i64 m.ok, .int .i64 m.id, .slice Av m.v.length cv, .int .i64 m.kk, .int .i64 m.er, .bool m.was, .slice Ah m.hits.length ch, .string m.text] (by kernel_rfl) (cells_all BK0.out) ?_) | (go_at_call 7; refine (light_c m Av cv Ah ch _ (Kd.C_below HV.out HB0.out) HCV.out (Kd.C_below HH.out HB0.out) HCH.out _ HLT.out).mono ?_; rintro e w2 ⟨rfl, hb⟩; have HB1 := Aside0.mk (below_step HB0.out hb); have BK1 := Aside0.mk (blk_below BK0.out hb); clear hb) | (go_at_call 8; refine (awake_c _ (LaidW.below HL.out HB1.out)).mono ?_; rintro e w3 ⟨rfl, hb⟩; have HB2 := Aside0.mk (below_step HB1.out hb); have BK2 := Aside0.mk (blk_below BK1.out hb); clear hb) | fail)
  go_ret
  exact ⟨rfl, HB2.out⟩
set_option maxHeartbeats 8000000 in
set_option maxRecDepth 100000 in
theorem spoilt_bad (m : Ms) (Av : Option Addr) (cv : Nat) (Ah : Option Addr) (ch : Nat) (at_ y : Int) (w : World) (hL : LaidW w) (hv : Kd.C (Kd.int .i64) w Av m.v.length m.v) (hcv : m.v.length ≤ cv) (hh : Kd.C k52 w Ah m.hits.length m.hits) (hch : m.hits.length ≤ ch) (hl : lightB m = true) (hw : wfM m) (hp : putV m = (⟨#[]⟩, 1)) :
    Calls Tryd.prog 5 #[.agg #[.int .i64 m.kd, .int .i64 m.sh, .int .i64 m.ep, .int .i64 m.cl, .int .i64 m.sq, .int .i64 m.nn, .int .i64 m.ve, .int .i64 m.li, .int .i64 m.ok, .int .i64 m.id, .slice Av m.v.length cv, .int .i64 m.kk, .int .i64 m.er, .bool m.was, .slice Ah m.hits.length ch, .string m.text], .int .i64 at_, .int .i64 y] w fun e w' => e = .returned (.bool true) ∧ Below w.heap.size w w' := by
  have HV := Aside0.mk hv
  have HH := Aside0.mk hh
  have HCV := Aside0.mk hcv
  have HCH := Aside0.mk hch
  have HL := Aside0.mk hL
  have HLT := Aside0.mk hl
  clear hv hh hcv hch hL hl
  have HW := Aside0.mk hw
  have HP := Aside0.mk hp
  clear hw hp
  go_enter Tryd.func5, Tryd.ntmps5
  go_wp2_with (first | ((with_reducible refine gate_dst (N := 3) rfl ?_); refine box_event ?hg (N := 3) ?hd (cs := #[.int .i64 m.kd, .int .i64 m.sh, .int .i64 m.ep, .int .i64 m.cl, .int .i64 m.sq, .int .i64 m.nn, .int .i64 m.ve, .int .i64 m.li, .int .i64 m.ok, .int .i64 m.id, .slice Av m.v.length cv, .int .i64 m.kk, .int .i64 m.er, .bool m.was, .slice Ah m.hits.length ch, .string m.text]) (t := 30) ?hr ?_; (case hd => rfl); (case hg => rfl); (case hr => first | (go_simp; done) | (go_simp; rfl)); intro gb hg w1 hbox hb; have HB0 := Aside0.mk (below_step (Below.refl w.heap.size w) hb); have BK0 := Aside0.mk hbox; have GE := Aside0.mk (Nat.le_of_eq hg.symm); clear hg hbox hb) | ((with_reducible refine gate_dst (N := 17) rfl ?_); refine ev_load rfl 30 (.tmp 3) rfl _ rfl (fun w => by kernel_rfl) gb 0 rfl [.int .i64 m.kd, .int .i64 m.sh, .int .i64 m.ep, .int .i64 m.cl, .int .i64 m.sq, .int .i64 m.nn, .int .i64 m.ve, .int .i64 m.li, .int .i64 m.ok, .int .i64 m.id, .slice Av m.v.length cv, .int .i64 m.kk, .int .i64 m.er, .bool m.was, .slice Ah m.hits.length ch, .string m.text] (by kernel_rfl) (cells_all BK0.out) ?_) | (go_at_call 7; refine (light_c m Av cv Ah ch _ (Kd.C_below HV.out HB0.out) HCV.out (Kd.C_below HH.out HB0.out) HCH.out _ HLT.out).mono ?_; rintro e w2 ⟨rfl, hb⟩; have HB1 := Aside0.mk (below_step HB0.out hb); have BK1 := Aside0.mk (blk_below BK0.out hb); clear hb) | ((with_reducible refine gate_dst (N := 22) rfl ?_); refine ev_load rfl 30 (.tmp 3) rfl _ rfl (fun w => by kernel_rfl) gb 0 rfl [.int .i64 m.kd, .int .i64 m.sh, .int .i64 m.ep, .int .i64 m.cl, .int .i64 m.sq, .int .i64 m.nn, .int .i64 m.ve, .int .i64 m.li, .int .i64 m.ok, .int .i64 m.id, .slice Av m.v.length cv, .int .i64 m.kk, .int .i64 m.er, .bool m.was, .slice Ah m.hits.length ch, .string m.text] (by kernel_rfl) (cells_all BK1.out) ?_) | (go_at_call 9; refine (put_c m Av cv Ah ch _ (LaidW.below HL.out HB1.out) (Kd.C_below HV.out HB1.out) HCV.out (Kd.C_below HH.out HB1.out) HCH.out HW.out _ _ HP.out).mono ?_; rintro e w3 ⟨rfl, hb⟩; have HB2 := Aside0.mk (below_step HB1.out hb); have BK2 := Aside0.mk (blk_below BK1.out hb); clear hb) | (go_at_call 8; refine (awake_c _ (LaidW.below HL.out HB2.out)).mono ?_; rintro e w4 ⟨rfl, hb⟩; have HB3 := Aside0.mk (below_step HB2.out hb); have BK3 := Aside0.mk (blk_below BK2.out hb); clear hb) | fail)
  go_ret
  exact ⟨rfl, HB3.out⟩
set_option maxHeartbeats 8000000 in
set_option maxRecDepth 100000 in
theorem spoilt_ok (m : Ms) (Av : Option Addr) (cv : Nat) (Ah : Option Addr) (ch : Nat) (at_ y : Int) (w : World) (hL : LaidW w) (hv : Kd.C (Kd.int .i64) w Av m.v.length m.v) (hcv : m.v.length ≤ cv) (hh : Kd.C k52 w Ah m.hits.length m.hits) (hch : m.hits.length ≤ ch) (hl : lightB m = true) (hw : wfM m) (S : ByteArray) (hp : putV m = (S, 0)) (k j : Nat) (hk : bits .and .i64 at_ 65535 % (S.size : Int) = (k : Int)) (hkS : k < S.size) (hj : bits .and .i64 at_ 65535 % 3 = (j : Int)) (hj3 : j < 3) (h30 : 30 ≤ S.size) (hSz : S.size ≤ 1000000) (ht : post_Take.f (S.extract 0 k) = some (zeroM.kd, zeroM.sh, zeroM.ep, zeroM.cl, zeroM.sq, zeroM.nn, zeroM.ve, zeroM.li, zeroM.ok, zeroM.id, zeroM.v, zeroM.kk, zeroM.er, zeroM.was, zeroM.hits, zeroM.text, 130)) (n : Ms) (ge : Int) (hn : post_Take.f ⟨(tellL S.data.toList (13 + j) y 1).toArray⟩ = some (n.kd, n.sh, n.ep, n.cl, n.sq, n.nn, n.ve, n.li, n.ok, n.id, n.v, n.kk, n.er, n.was, n.hits, n.text, ge)) (hge : ge = 0 ∧ burstD y 0 = 0 ∨ ge = 130 ∧ ¬ burstD y 0 = 0 ∧ n = zeroM) :
    Calls Tryd.prog 5 #[.agg #[.int .i64 m.kd, .int .i64 m.sh, .int .i64 m.ep, .int .i64 m.cl, .int .i64 m.sq, .int .i64 m.nn, .int .i64 m.ve, .int .i64 m.li, .int .i64 m.ok, .int .i64 m.id, .slice Av m.v.length cv, .int .i64 m.kk, .int .i64 m.er, .bool m.was, .slice Ah m.hits.length ch, .string m.text], .int .i64 at_, .int .i64 y] w fun e w' => e = .returned (.bool true) ∧ Below w.heap.size w w' := by
  have HV := Aside0.mk hv
  have HH := Aside0.mk hh
  have HCV := Aside0.mk hcv
  have HCH := Aside0.mk hch
  have HL := Aside0.mk hL
  have HLT := Aside0.mk hl
  clear hv hh hcv hch hL hl
  have HW := Aside0.mk hw
  have HP := Aside0.mk hp
  clear hw hp
  have HT := Aside0.mk ht
  have HN := Aside0.mk hn
  have HGE := Aside0.mk hge
  clear ht hn hge
  have h16 := and16 at_
  have hk0 := h16.1
  have hk1 := h16.2
  clear h16
  have hs30 : ¬ ((S.size : Int) < 30) := by omega
  have hS0 : (S.size : Int) ≠ 0 := by omega
  go_enter Tryd.func5, Tryd.ntmps5
  go_upto_region 7 with (first | ((with_reducible refine gate_dst (N := 3) rfl ?_); refine box_event ?hg (N := 3) ?hd (cs := #[.int .i64 m.kd, .int .i64 m.sh, .int .i64 m.ep, .int .i64 m.cl, .int .i64 m.sq, .int .i64 m.nn, .int .i64 m.ve, .int .i64 m.li, .int .i64 m.ok, .int .i64 m.id, .slice Av m.v.length cv, .int .i64 m.kk, .int .i64 m.er, .bool m.was, .slice Ah m.hits.length ch, .string m.text]) (t := 30) ?hr ?_; (case hd => rfl); (case hg => rfl); (case hr => first | (go_simp; done) | (go_simp; rfl)); intro gb hg w1 hbox hb; have HB0 := Aside0.mk (below_step (Below.refl w.heap.size w) hb); have BK0 := Aside0.mk hbox; have GE := Aside0.mk (Nat.le_of_eq hg.symm); clear hg hbox hb) | ((with_reducible refine gate_dst (N := 17) rfl ?_); refine ev_load rfl 30 (.tmp 3) rfl _ rfl (fun w => by kernel_rfl) gb 0 rfl [.int .i64 m.kd, .int .i64 m.sh, .int .i64 m.ep, .int .i64 m.cl, .int .i64 m.sq, .int .i64 m.nn, .int .i64 m.ve, .int .i64 m.li, .int .i64 m.ok, .int .i64 m.id, .slice Av m.v.length cv, .int .i64 m.kk, .int .i64 m.er, .bool m.was, .slice Ah m.hits.length ch, .string m.text] (by kernel_rfl) (cells_all BK0.out) ?_) | (go_at_call 7; refine (light_c m Av cv Ah ch _ (Kd.C_below HV.out HB0.out) HCV.out (Kd.C_below HH.out HB0.out) HCH.out _ HLT.out).mono ?_; rintro e w2 ⟨rfl, hb⟩; have HB1 := Aside0.mk (below_step HB0.out hb); have BK1 := Aside0.mk (blk_below BK0.out hb); clear hb) | ((with_reducible refine gate_dst (N := 22) rfl ?_); refine ev_load rfl 30 (.tmp 3) rfl _ rfl (fun w => by kernel_rfl) gb 0 rfl [.int .i64 m.kd, .int .i64 m.sh, .int .i64 m.ep, .int .i64 m.cl, .int .i64 m.sq, .int .i64 m.nn, .int .i64 m.ve, .int .i64 m.li, .int .i64 m.ok, .int .i64 m.id, .slice Av m.v.length cv, .int .i64 m.kk, .int .i64 m.er, .bool m.was, .slice Ah m.hits.length ch, .string m.text] (by kernel_rfl) (cells_all BK1.out) ?_) | (go_at_call 9; refine (put_c m Av cv Ah ch _ (LaidW.below HL.out HB1.out) (Kd.C_below HV.out HB1.out) HCV.out (Kd.C_below HH.out HB1.out) HCH.out HW.out _ _ HP.out).mono ?_; rintro e w3 ⟨rfl, hb⟩; have HB2 := Aside0.mk (below_step HB1.out hb); have BK2 := Aside0.mk (blk_below BK1.out hb); clear hb) | fail)
  rw [hk]
  go_upto_region 8 with (first | (go_at_call 12; refine (take_c (S.extract 0 k) zeroM 130 _ (LaidW.below HL.out HB2.out) HT.out).mono ?_; rintro e w4 ⟨Bv, dv, Bh, dh, rfl, k1, k2, k3, k4, hb⟩; have HB3 := Aside0.mk (below_step HB2.out hb); clear k1 k2 k3 k4 hb) | ((with_reducible refine gate_dst (N := 10) rfl ?_); refine box_event ?hg (N := 10) ?hd (cs := #[.int .i64 0, .int .i64 0, .int .i64 0, .int .i64 0, .int .i64 0, .int .i64 0, .int .i64 0, .int .i64 0, .int .i64 0, .int .i64 0, .slice none 0 0, .int .i64 0, .int .i64 0, .bool false, .slice none 0 0, .string ⟨#[]⟩]) (t := 30) ?hr ?_; (case hd => rfl); (case hg => rfl); (case hr => first | (go_simp; done) | (go_simp; rfl)); intro g1 hg w5 hbox hb; have HB4 := Aside0.mk (below_step HB3.out hb); have BG4 := Aside0.mk hbox; have G1 := Aside0.mk (Nat.le_trans (below_size HB3.out) (Nat.le_of_eq hg.symm)); clear hg hbox hb) | ((with_reducible refine gate_store (ty := 30) (x := .tmp 10) rfl ?_); refine ev_store rfl rfl 30 (.tmp 10) _ rfl _ rfl g1 30 rfl [.int .i64 zeroM.kd, .int .i64 zeroM.sh, .int .i64 zeroM.ep, .int .i64 zeroM.cl, .int .i64 zeroM.sq, .int .i64 zeroM.nn, .int .i64 zeroM.ve, .int .i64 zeroM.li, .int .i64 zeroM.ok, .int .i64 zeroM.id, .slice Bv zeroM.v.length dv, .int .i64 zeroM.kk, .int .i64 zeroM.er, .bool zeroM.was, .slice Bh zeroM.hits.length dh, .string zeroM.text] [.int .i64 0, .int .i64 0, .int .i64 0, .int .i64 0, .int .i64 0, .int .i64 0, .int .i64 0, .int .i64 0, .int .i64 0, .int .i64 0, .slice none 0 0, .int .i64 0, .int .i64 0, .bool false, .slice none 0 0, .string ⟨#[]⟩] rfl rfl (by simp [Value.oneCell']) rfl BG4.out ?_; intro w6 a6 b6; have HB5 := Aside0.mk (b6.1 _ _ HB4.out G1.out); clear a6 b6) | fail)
  have hconv := fun wx => run_bytes_of_string (P := Tryd.prog) wx 9 39 5 S Tryd.underlying9 Tryd.underlying39 Tryd.underlying5
  go_upto_region 9 with fail
  clear hconv
  obtain ⟨cap, hcap, hc1⟩ : ∃ cap, grownCap w6 S.size 0 5 = cap ∧ S.size ≤ cap := ⟨_, rfl, grownCap_ge _ _ _ _⟩
  rw [hcap]
  clear hcap
  have HC1 := Aside0.mk hc1
  clear hc1
  have HB6 := Aside0.mk ((HB5.out.alloc HB5.out.size (.cells (bytesRow S cap) 5 ((bytesRow S cap).size, (bytesRow S cap).size + 1))).drew)
  have BM6 := Aside0.mk ((BlkM.new w6 (bytesRow S cap) 5 ((bytesRow S cap).size, (bytesRow S cap).size + 1)).drew)
  have G2 := Aside0.mk HB5.out.size
  generalize (w6.alloc (.cells (bytesRow S cap) 5 ((bytesRow S cap).size, (bytesRow S cap).size + 1))).drew = w7 at *
  generalize w6.heap.size = g2 at *
  have hj0 : (0 : Int) ≤ bits .and .i64 at_ 65535 % 3 := by rw [hj]; omega
  have hj1 : bits .and .i64 at_ 65535 % 3 < 3 := by rw [hj]; omega
  go_upto_region 10 with fail
  rw [hj]
  clear hj0 hj1 hj
  go_upto_region 11 with fail
  have hcell : w7.cell? ⟨g2, 13 + j, none⟩ = some (.int .u8 ((S.data.toList.getD (13 + j) 0).toNat : Int)) := by rw [BM6.out.cell, Tells.bytesRow_at S cap (13 + j) (show 13 + j < S.size by omega)]
  have hfree : w7.frozen? ⟨g2, 13 + j, none⟩ = false := BM6.out.free (by have := Tells.bytesRow_size S cap; show 13 + j < (bytesRow S cap).size; omega)
  have hi0 : (0 : Int) ≤ 13 + (j : Int) := by omega
  have hi1 : 13 + (j : Int) < (S.size : Int) := by omega
  go_upto_region 12 with fail
  rw [byte_val]
  clear hcell hfree hi0 hi1
  have HB7 := Aside0.mk (HB6.out.setCell (p := ⟨g2, 13 + j, none⟩) G2.out (.int .u8 ((S.data.toList.getD (13 + j) 0 ^^^ burstD y 0 : UInt8).toNat : Int)))
  have BM7 := Aside0.mk (show BlkM (w7.setCell ⟨g2, 13 + j, none⟩ (.int .u8 ((S.data.toList.getD (13 + j) 0 ^^^ burstD y 0 : UInt8).toNat : Int))) g2 (burstArr S (13 + j) y cap 1) 5 ((bytesRow S cap).size, (bytesRow S cap).size + 1) from BM6.out.set (13 + j) _)
  generalize w7.setCell ⟨g2, 13 + j, none⟩ (.int .u8 ((S.data.toList.getD (13 + j) 0 ^^^ burstD y 0 : UInt8).toNat : Int)) = w8 at *
  have hlen : (tellL S.data.toList (13 + j) y 1).length = S.size := by rw [tell_len, data_len]
  have hcv : (convert 39 9 (.slice (some ⟨g2, 0, none⟩) S.size cap)).run Tryd.prog w8 = .ok (.string ⟨(tellL S.data.toList (13 + j) y 1).toArray⟩) w8 := by
    have := run_convert_bytes_back (P := Tryd.prog) w8 39 9 5 ⟨g2, 0, none⟩ cap (tellL S.data.toList (13 + j) y 1) Tryd.underlying39 Tryd.underlying5 Tryd.underlying9 (fun i hi => by
      rw [Addr.add_lit, BM7.out.cell, Nat.zero_add]
      have hi' : i < S.size := by omega
      rw [burstArr_at S (13 + j) y cap i hi' 1]
      have ht := tell_at S.data.toList (13 + j) y 1 i (by rw [data_len]; exact hi')
      rw [List.getElem?_eq_getElem hi] at ht
      rw [Option.some.inj ht])
    rwa [hlen] at this
  clear hlen BM6 BM7 HB6
  generalize (⟨(tellL S.data.toList (13 + j) y 1).toArray⟩ : ByteArray) = S2 at *
  have hzb := zero_byte y
  generalize bits .and .i64 y 255 % 256 = xb at *
  obtain ⟨rfl, hz⟩ | ⟨rfl, hz, rfl⟩ := HGE.out
  · have hx : (xb == 0) = true := by rw [hzb]; simpa using hz
    clear hzb HGE hz
    as_aux_lemma =>
    go_wp2_with (first | (go_at_call 12; refine (take_c S2 n 0 _ (LaidW.below HL.out HB7.out) HN.out).mono ?_; rintro e w9 ⟨Cv, ev, Ch, eh, rfl, k1, k2, k3, k4, hb⟩; have HB8 := Aside0.mk (below_step HB7.out hb); have K1 := Aside0.mk k1; have K2 := Aside0.mk k2; have K3 := Aside0.mk k3; have K4 := Aside0.mk k4; clear k1 k2 k3 k4 hb) | ((with_reducible refine gate_dst (N := 15) rfl ?_); refine box_event ?hg (N := 15) ?hd (cs := #[.int .i64 0, .int .i64 0, .int .i64 0, .int .i64 0, .int .i64 0, .int .i64 0, .int .i64 0, .int .i64 0, .int .i64 0, .int .i64 0, .slice none 0 0, .int .i64 0, .int .i64 0, .bool false, .slice none 0 0, .string ⟨#[]⟩]) (t := 30) ?hr ?_; (case hd => rfl); (case hg => rfl); (case hr => first | (go_simp; done) | (go_simp; rfl)); intro g3 hg w10 hbox hb; have HB9 := Aside0.mk (below_step HB8.out hb); have BG9 := Aside0.mk hbox; have HX9 := Aside0.mk (below_step (Below.refl w9.heap.size w9) hb); have G3 := Aside0.mk (Nat.le_of_eq hg.symm); clear hg hbox hb) | ((with_reducible refine gate_store (ty := 30) (x := .tmp 15) rfl ?_); refine ev_store rfl rfl 30 (.tmp 15) _ rfl _ rfl g3 30 rfl [.int .i64 n.kd, .int .i64 n.sh, .int .i64 n.ep, .int .i64 n.cl, .int .i64 n.sq, .int .i64 n.nn, .int .i64 n.ve, .int .i64 n.li, .int .i64 n.ok, .int .i64 n.id, .slice Cv n.v.length ev, .int .i64 n.kk, .int .i64 n.er, .bool n.was, .slice Ch n.hits.length eh, .string n.text] [.int .i64 0, .int .i64 0, .int .i64 0, .int .i64 0, .int .i64 0, .int .i64 0, .int .i64 0, .int .i64 0, .int .i64 0, .int .i64 0, .slice none 0 0, .int .i64 0, .int .i64 0, .bool false, .slice none 0 0, .string ⟨#[]⟩] rfl rfl (by simp [Value.oneCell']) rfl BG9.out ?_; intro w11 a11 b11; have HB10 := Aside0.mk (b11.1 _ _ HB9.out (Nat.le_trans (below_size HB8.out) G3.out)); have HX10 := Aside0.mk (b11.1 _ _ HX9.out G3.out); have BX10 := Aside0.mk a11; clear a11 b11) | (go_at_call 8; refine (awake_c _ (LaidW.below HL.out HB10.out)).mono ?_; rintro e w12 ⟨rfl, hb⟩; have HB11 := Aside0.mk (below_step HB10.out hb); have BX11 := Aside0.mk (blk_below BX10.out hb); clear hb) | fail)
    go_ret
    exact ⟨rfl, HB11.out⟩
  · have hx : (xb == 0) = false := by rw [hzb]; simpa using hz
    clear hzb HGE hz
    as_aux_lemma =>
    go_wp2_with (first | (go_at_call 12; refine (take_c S2 zeroM 130 _ (LaidW.below HL.out HB7.out) HN.out).mono ?_; rintro e w9 ⟨Cv, ev, Ch, eh, rfl, k1, k2, k3, k4, hb⟩; have HB8 := Aside0.mk (below_step HB7.out hb); have K1 := Aside0.mk k1; have K2 := Aside0.mk k2; have K3 := Aside0.mk k3; have K4 := Aside0.mk k4; clear k1 k2 k3 k4 hb) | ((with_reducible refine gate_dst (N := 15) rfl ?_); refine box_event ?hg (N := 15) ?hd (cs := #[.int .i64 0, .int .i64 0, .int .i64 0, .int .i64 0, .int .i64 0, .int .i64 0, .int .i64 0, .int .i64 0, .int .i64 0, .int .i64 0, .slice none 0 0, .int .i64 0, .int .i64 0, .bool false, .slice none 0 0, .string ⟨#[]⟩]) (t := 30) ?hr ?_; (case hd => rfl); (case hg => rfl); (case hr => first | (go_simp; done) | (go_simp; rfl)); intro g3 hg w10 hbox hb; have HB9 := Aside0.mk (below_step HB8.out hb); have BG9 := Aside0.mk hbox; have HX9 := Aside0.mk (below_step (Below.refl w9.heap.size w9) hb); have G3 := Aside0.mk (Nat.le_of_eq hg.symm); clear hg hbox hb) | ((with_reducible refine gate_store (ty := 30) (x := .tmp 15) rfl ?_); refine ev_store rfl rfl 30 (.tmp 15) _ rfl _ rfl g3 30 rfl [.int .i64 zeroM.kd, .int .i64 zeroM.sh, .int .i64 zeroM.ep, .int .i64 zeroM.cl, .int .i64 zeroM.sq, .int .i64 zeroM.nn, .int .i64 zeroM.ve, .int .i64 zeroM.li, .int .i64 zeroM.ok, .int .i64 zeroM.id, .slice Cv zeroM.v.length ev, .int .i64 zeroM.kk, .int .i64 zeroM.er, .bool zeroM.was, .slice Ch zeroM.hits.length eh, .string zeroM.text] [.int .i64 0, .int .i64 0, .int .i64 0, .int .i64 0, .int .i64 0, .int .i64 0, .int .i64 0, .int .i64 0, .int .i64 0, .int .i64 0, .slice none 0 0, .int .i64 0, .int .i64 0, .bool false, .slice none 0 0, .string ⟨#[]⟩] rfl rfl (by simp [Value.oneCell']) rfl BG9.out ?_; intro w11 a11 b11; have HB10 := Aside0.mk (b11.1 _ _ HB9.out (Nat.le_trans (below_size HB8.out) G3.out)); have HX10 := Aside0.mk (b11.1 _ _ HX9.out G3.out); have BX10 := Aside0.mk a11; have cz0 : w11.cell? ⟨g3, 0, none⟩ = some (.int .i64 zeroM.kd) := (blk_cell a11 0).trans rfl; have cz1 : w11.cell? ⟨g3, 1, none⟩ = some (.int .i64 zeroM.sh) := (blk_cell a11 1).trans rfl; have cz2 : w11.cell? ⟨g3, 2, none⟩ = some (.int .i64 zeroM.ep) := (blk_cell a11 2).trans rfl; have cz3 : w11.cell? ⟨g3, 3, none⟩ = some (.int .i64 zeroM.cl) := (blk_cell a11 3).trans rfl; have cz4 : w11.cell? ⟨g3, 4, none⟩ = some (.int .i64 zeroM.sq) := (blk_cell a11 4).trans rfl; have cz5 : w11.cell? ⟨g3, 5, none⟩ = some (.int .i64 zeroM.nn) := (blk_cell a11 5).trans rfl; have cz6 : w11.cell? ⟨g3, 6, none⟩ = some (.int .i64 zeroM.ve) := (blk_cell a11 6).trans rfl; have cz7 : w11.cell? ⟨g3, 7, none⟩ = some (.int .i64 zeroM.li) := (blk_cell a11 7).trans rfl; have cz8 : w11.cell? ⟨g3, 8, none⟩ = some (.int .i64 zeroM.ok) := (blk_cell a11 8).trans rfl; have cz9 : w11.cell? ⟨g3, 9, none⟩ = some (.int .i64 zeroM.id) := (blk_cell a11 9).trans rfl; have cz10 : w11.cell? ⟨g3, 10, none⟩ = some (.slice Cv zeroM.v.length ev) := (blk_cell a11 10).trans rfl; have cz11 : w11.cell? ⟨g3, 11, none⟩ = some (.int .i64 zeroM.kk) := (blk_cell a11 11).trans rfl; have cz12 : w11.cell? ⟨g3, 12, none⟩ = some (.int .i64 zeroM.er) := (blk_cell a11 12).trans rfl; have cz13 : w11.cell? ⟨g3, 13, none⟩ = some (.bool zeroM.was) := (blk_cell a11 13).trans rfl; have cz14 : w11.cell? ⟨g3, 14, none⟩ = some (.slice Ch zeroM.hits.length eh) := (blk_cell a11 14).trans rfl; have cz15 : w11.cell? ⟨g3, 15, none⟩ = some (.string zeroM.text) := (blk_cell a11 15).trans rfl; clear a11 b11) | (go_at_call 13; refine (same_c zeroM zeroM Cv ev Ch eh none 0 none 0 _ (Kd.C_below K1.out HX10.out) K2.out (Kd.C_below K3.out HX10.out) K4.out (Kd.R_reads' (Kd.R_nil (Kd.int .i64) 3 _ 0 (fun _ => True))).2.2 (Nat.le_refl _) (Kd.R_reads' (Kd.R_nil k52 52 _ 0 (fun _ => True))).2.2 (Nat.le_refl _) (by decide) (by decide) true (iff_of_true rfl rfl)).mono ?_; rintro e w12 ⟨rfl, hb⟩; have HB11 := Aside0.mk (below_step HB10.out hb); have BX11 := Aside0.mk (blk_below BX10.out hb); clear hb) | (go_at_call 8; refine (awake_c _ (LaidW.below HL.out HB11.out)).mono ?_; rintro e w13 ⟨rfl, hb⟩; have HB12 := Aside0.mk (below_step HB11.out hb); have BX12 := Aside0.mk (blk_below BX11.out hb); clear hb) | fail)
    go_ret
    exact ⟨rfl, HB12.out⟩
theorem idx_of (x : Int) (n : Nat) (h : 1 ≤ n) : ∃ k : Nat, bits .and .i64 x 65535 % (n : Int) = (k : Int) ∧ k < n := by
  have h2 := Int.emod_nonneg (bits .and .i64 x 65535) (show (n : Int) ≠ 0 by omega)
  have h3 := Int.emod_lt_of_pos (bits .and .i64 x 65535) (show (0 : Int) < (n : Int) by omega)
  exact ⟨(bits .and .i64 x 65535 % (n : Int)).toNat, by omega, by omega⟩
theorem PostSpoilt_walk (m : Ms) (Av : Option Addr) (cv : Nat) (Ah : Option Addr) (ch : Nat) (at_ y : Int) (w : World) (hL : LaidW w) (hv : Kd.C (Kd.int .i64) w Av m.v.length m.v) (hcv : m.v.length ≤ cv) (hh : Kd.C k52 w Ah m.hits.length m.hits) (hch : m.hits.length ≤ ch) (hw : wfM m) :
    Calls Tryd.prog 5 #[.agg #[.int .i64 m.kd, .int .i64 m.sh, .int .i64 m.ep, .int .i64 m.cl, .int .i64 m.sq, .int .i64 m.nn, .int .i64 m.ve, .int .i64 m.li, .int .i64 m.ok, .int .i64 m.id, .slice Av m.v.length cv, .int .i64 m.kk, .int .i64 m.er, .bool m.was, .slice Ah m.hits.length ch, .string m.text], .int .i64 at_, .int .i64 y] w fun e w' => e = .returned (.bool true) ∧ Below w.heap.size w w' := by
  cases hl : lightB m
  · exact spoilt_dark m Av cv Ah ch at_ y w hL hv hcv hh hch hl
  · by_cases hm : mayB m = true
    · obtain ⟨h1, h2, h3, h4, h5, h6⟩ := msg_facts m hw hm
      have hs := may_small' hm
      have hz := msgT_size m
      have h30 := msgT_30 m
      obtain ⟨k, hk, hkS⟩ := idx_of at_ (msgT m).size (by omega)
      obtain ⟨j, hj, hj3⟩ := idx_of at_ 3 (by decide)
      by_cases hb : burstD y 0 = 0
      · exact spoilt_ok m Av cv Ah ch at_ y w hL hv hcv hh hch hl hw (msgT m) (if_pos hm) k j hk hkS hj hj3 h30 (by omega) (spoilt_cut m hw hm k hkS) m 0 (by rw [spoilt_same m j y hb]; exact take_msg m hw hm) (.inl ⟨rfl, hb⟩)
      · exact spoilt_ok m Av cv Ah ch at_ y w hL hv hcv hh hch hl hw (msgT m) (if_pos hm) k j hk hkS hj hj3 h30 (by omega) (spoilt_cut m hw hm k hkS) zeroM 130 (spoilt_byte m hw hm j hj3 y hb) (.inr ⟨rfl, hb, rfl⟩)
    · exact spoilt_bad m Av cv Ah ch at_ y w hL hv hcv hh hch hl hw (if_neg hm)
end Go.Proofs.YtlggihnkhimfkaaDoor.Pure
namespace Go.Proofs.YtlggihnkhimfkaaDoor.Opn
open Go.RowKit Go.Proofs.YtlggihnkhimfkaaDoorW.PrintWords
set_option linter.unusedVariables false
def OpensAt {α : Type} (P : Program) (n : Nat) (t : TypeId) (d : Kd α) (G : α → Prop) : Prop :=
  ∀ {H : Type} {enc : TypeId × Value → H} {w : World} {base : Nat} {spare : Nat → Bool} {held : Bool} {cs : List Value} {dd : DataW H} {ps : List MemPlace},
    DataW.trod enc P w base spare held n t cs = some (dd, ps) → (∀ x ∈ dd.weights P t, x ≤ reachBytes) → ∃ a, d.K w a cs ∧ G a
def FieldsAt {α : Type} (P : Program) (n : Nat) (fs : List Field) (start : Nat) (d : Kd α) (G : α → Prop) : Prop :=
  ∀ {H : Type} {enc : TypeId × Value → H} {w : World} {base : Nat} {spare : Nat → Bool} {held : Bool} {cs : List Value} {xs : List (DataW H × List MemPlace)},
    xs.length = fs.length → (∀ (i : Nat) (f : Field), fs[i]? = some f → DataW.trod enc P w base spare held n f.type ((cs.drop f.offset).take (P.cellsOf f.type)) = xs[i]?) →
    (∀ x ∈ DataW.weightsEach P (fs.map Field.type) (xs.map (·.1)), x ≤ reachBytes) → cs.length = start + d.sz → ∃ a, d.K w a (cs.drop start) ∧ G a
section
variable {α β : Type} {P : Program} {n : Nat} {t e : TypeId} {d : Kd α} {G : α → Prop}
theorem OpensAt.map {d' : Kd β} {G' : β → Prop} (g : α → β) (h : OpensAt P n t d G) (hg : ∀ w a cs, d.K w a cs → G a → d'.K w (g a) cs ∧ G' (g a)) : OpensAt P n t d' G' := by
  intro H enc w base spare held cs dd ps ht hw
  obtain ⟨a, h1, h2⟩ := h ht hw
  exact ⟨g a, (hg _ _ _ h1 h2).1, (hg _ _ _ h1 h2).2⟩
theorem opens_int {k : IntKind} (hu : P.underlying t = some (.int k)) : OpensAt P n t (Kd.int k) (fun z => (Lit.int k z).wf = true) := by
  intro H enc w base spare held cs dd ps ht hw
  obtain ⟨z, rfl, _, hz⟩ := DataW.trod_int hu ht
  exact ⟨z, rfl, hz⟩
theorem opens_bool (hu : P.underlying t = some .bool) : OpensAt P n t Kd.bool (fun _ => True) := by
  intro H enc w base spare held cs dd ps ht hw
  obtain ⟨z, rfl, _⟩ := DataW.trod_bool hu ht
  exact ⟨z, rfl, trivial⟩
theorem opens_string (hu : P.underlying t = some .string) : OpensAt P n t Kd.string (fun s => s.size ≤ 140737488351232) := by
  intro H enc w base spare held cs dd ps ht hw
  obtain ⟨z, rfl, hx, _⟩ := DataW.trod_string hu ht
  obtain ⟨rfl, _⟩ := Prod.mk.inj hx
  refine ⟨z, rfl, ?_⟩
  have h1 : z.data.toList.length ≤ reachBytes := hw z.data.toList.length (by rw [DataW.weights]; exact List.mem_singleton_self _)
  rw [Array.length_toList] at h1
  exact h1
theorem mem_weightsAll {H : Type} {P : Program} {e : TypeId} : ∀ {l : List (DataW H)} {x : DataW H}, x ∈ l → ∀ y ∈ x.weights P e, y ∈ DataW.weightsAll P e l
  | [], _, h, _, _ => absurd h (List.not_mem_nil)
  | a :: l, x, h, y, hy => by
    rw [DataW.weightsAll]
    rcases List.mem_cons.1 h with rfl | h
    · exact List.mem_append_left _ hy
    · exact List.mem_append_right _ (mem_weightsAll h y hy)
theorem choose_list {γ : Type} (L : Nat) (Q : Nat → γ → Prop) (h : ∀ i, i < L → ∃ a, Q i a) : ∃ l : List γ, l.length = L ∧ ∀ i a, l[i]? = some a → Q i a := by
  induction L with
  | zero => exact ⟨[], rfl, fun i a hi => by simp at hi⟩
  | succ L ih =>
    obtain ⟨l, h1, h2⟩ := ih (fun i hi => h i (by omega))
    obtain ⟨a, ha⟩ := h L (by omega)
    refine ⟨l ++ [a], by simp [h1], fun i b hi => ?_⟩
    by_cases hl : i < l.length
    · rw [List.getElem?_append_left hl] at hi
      exact h2 i b hi
    · rw [List.getElem?_append_right (by omega)] at hi
      have : i - l.length = 0 := by
        cases hq : i - l.length with
        | zero => rfl
        | succ m => rw [hq] at hi; simp at hi
      rw [this] at hi
      simp at hi
      subst hi
      obtain rfl : i = L := by omega
      exact ha
theorem addr_add_add (a : Addr) (i j : Nat) : (a.add i).add j = a.add (i + j) := by
  unfold Addr.add
  by_cases h1 : i = 0
  · subst h1; simp
  · by_cases h2 : j = 0
    · subst h2; simp
    · have h3 : ¬ i + j = 0 := by omega
      simp [h1, h2, Nat.add_assoc]
theorem cells_all {w : World} {base : Nat} {a : Addr} {m : Nat} {cs : List Value} (h : w.cells? base a m = some cs) : cs.length = m ∧ ∀ i u, cs[i]? = some u → w.cell? (a.add i) = some u := by
  obtain ⟨_, h1, h2⟩ := World.cells?_some h
  refine ⟨h1, fun i u hu => ?_⟩
  have hi : i < m := by rw [← h1]; exact (List.getElem?_eq_some_iff.1 hu).1
  rw [h2 i hi]
  exact hu
theorem opens_slice (hu : P.underlying t = some (.slice e)) (hc : P.cellsOf e = d.sz) (B : Nat) (hB : P.bytesOf e = B) (h : ∀ m, m < n → OpensAt P m e d G) :
    OpensAt P n t (Kd.slice e d) (fun l => (∀ x ∈ l, G x) ∧ l.length * B ≤ 140737488351232) := by
  intro H enc w base spare held cs dd ps ht hw
  rcases DataW.trod_slice hu ht with ⟨rfl, hx⟩ | ⟨a, len, cap, elems, rest, m, rfl, rfl, hx, _, hl, hm, hlen, hel, _, _⟩
  · exact ⟨[], ⟨none, 0, rfl, Nat.le_refl _, rfl, by simp, fun h => absurd h (Nat.lt_irrefl 0)⟩, by simp, by simp⟩
  · obtain ⟨rfl, _⟩ := Prod.mk.inj hx
    rw [DataW.weights, hu] at hw
    dsimp only at hw
    have hB' := hw _ List.mem_cons_self
    rw [hB] at hB'
    simp only [List.length_map, hlen] at hB'
    have hb : len * B ≤ 140737488351232 := Nat.le_trans (Nat.mul_le_mul_right _ (Nat.le_add_right _ _)) hB'
    obtain ⟨l, h1, h2⟩ := choose_list (γ := α) len (fun i y => ∃ c, c.length = d.sz ∧ d.K w y c ∧ (∀ q u, c[q]? = some u → w.cell? (a.add (i * d.sz + q)) = some u) ∧ G y) (fun i hi => by
      have hi' := hel i hi
      rw [List.getElem?_eq_getElem (by omega)] at hi'
      obtain ⟨c, hc1, hc2⟩ := Option.bind_eq_some_iff.1 hi'
      obtain ⟨k1, k2⟩ := cells_all hc1
      obtain ⟨y, y1, y2⟩ := h m (Nat.lt_succ_self _) hc2 (fun x hx => hw x (List.mem_cons_of_mem _ (List.mem_append_left _ (mem_weightsAll (List.mem_map_of_mem (List.getElem_mem (by omega))) x hx))))
      refine ⟨y, c, by rw [k1, hc], y1, fun q u hq => ?_, y2⟩
      have := k2 q u hq
      rw [hc] at this
      rw [← addr_add_add]
      exact this)
    refine ⟨l, ⟨some a, cap, by rw [h1], by omega, rfl, by unfold maxLen at hm; omega, fun _ => ⟨a, rfl, fun j p hp => ?_⟩⟩, fun x hx => ?_, by rw [h1]; exact hb⟩
    · obtain ⟨c, c1, c2, c3, _⟩ := h2 j p hp
      exact ⟨c, c1, c2, c3⟩
    · obtain ⟨i, hi, rfl⟩ := List.getElem_of_mem hx
      obtain ⟨_, _, _, _, g⟩ := h2 i _ (List.getElem?_eq_getElem hi)
      exact g
theorem fields_one {f : Field} {start : Nat} (ho : f.offset = start) (hc : P.cellsOf f.type = d.sz) (h : OpensAt P n f.type d G) : FieldsAt P n [f] start d G := by
  intro H enc w base spare held cs xs hl ht hw hlen
  match xs, hl with
  | [x], _ =>
    have h0 := ht 0 f rfl
    rw [ho, hc, List.take_of_length_le (by rw [List.length_drop]; omega)] at h0
    exact h (dd := x.1) (ps := x.2) h0 (fun y hy => hw y (by simpa [DataW.weightsEach] using hy))
theorem fields_cons {f : Field} {fs : List Field} {start : Nat} {d2 : Kd β} {G2 : β → Prop} (ho : f.offset = start) (hc : P.cellsOf f.type = d.sz) (h : OpensAt P n f.type d G) (h2 : FieldsAt P n fs (start + d.sz) d2 G2) :
    FieldsAt P n (f :: fs) start (Kd.pair d d2) (fun a => G a.1 ∧ G2 a.2) := by
  intro H enc w base spare held cs xs hl ht hw hlen
  match xs, hl with
  | x :: xs, hl =>
    have hs : (Kd.pair d d2).sz = d.sz + d2.sz := rfl
    rw [hs] at hlen
    have h0 := ht 0 f rfl
    rw [ho, hc] at h0
    have hw' : ∀ y ∈ DataW.weights P f.type x.1 ++ DataW.weightsEach P (fs.map Field.type) (xs.map (·.1)), y ≤ reachBytes := by
      intro y hy
      exact hw y (by simpa [DataW.weightsEach] using hy)
    obtain ⟨a, a1, a2⟩ := h (dd := x.1) (ps := x.2) h0 (fun y hy => hw' y (List.mem_append_left _ hy))
    obtain ⟨b, b1, b2⟩ := h2 (cs := cs) (xs := xs) (by simpa using hl) (fun i g hg => ht (i + 1) g hg) (fun y hy => hw' y (List.mem_append_right _ hy)) (by omega)
    refine ⟨(a, b), ⟨(cs.drop start).take d.sz, cs.drop (start + d.sz), ?_, a1, b1⟩, a2, b2⟩
    rw [← List.drop_drop, List.take_append_drop]
theorem opens_struct {fs : Array Field} (hu : P.underlying t = some (.struct fs)) (hc : P.cellsOf t = d.sz) (h : ∀ m, m < n → FieldsAt P m fs.toList 0 d G) : OpensAt P n t d G := by
  intro H enc w base spare held cs dd ps ht hw
  obtain ⟨xs, m, rfl, hx, hl, hxs, hf⟩ := DataW.trod_struct hu ht
  obtain ⟨rfl, _⟩ := Prod.mk.inj hx
  rw [DataW.weights, hu] at hw
  obtain ⟨a, a1, a2⟩ := h m (Nat.lt_succ_self _) (cs := cs) (xs := xs) (by simpa using hxs) (fun i f hi => hf i f (by simpa using hi)) hw (by rw [hl, hc]; omega)
  exact ⟨a, by simpa using a1, a2⟩
end
theorem weights_of {H : Type} {P : Program} {ts : List TypeId} {ds : List (DataW H)} {j : Nat} {t : TypeId} {d : DataW H} (hsz : (DataW.weightsEach P ts ds).all (· ≤ reachBytes) = true) (ht : ts[j]? = some t) (hd : ds[j]? = some d) : ∀ x ∈ d.weights P t, x ≤ reachBytes := by
  intro x hx
  have := List.all_eq_true.1 hsz x (DataW.weights_mem_each ht hd x hx)
  simpa using this
end Go.Proofs.YtlggihnkhimfkaaDoor.Opn
namespace Go.Proofs.YtlggihnkhimfkaaDoor.Opn
open Go.RowKit Go.Proofs.YtlggihnkhimfkaaDoorW.PrintWords Go.Proofs.YtlggihnkhimfkaaDoor.P Go.Proofs.YtlggihnkhimfkaaDoor.Giv Go.Proofs.YtlggihnkhimfkaaDoor.Pure
set_option linter.unusedVariables false
theorem opens_hit : ∀ n, OpensAt Tryd.prog n 52 k52 (fun h => inR h.f0 ∧ inR h.f1) := fun n =>
  OpensAt.map (d := Kd.pair (Kd.int .i64) (Kd.int .i64)) (fun a => (⟨a.1, a.2⟩ : Hit)) (opens_struct Tryd.underlying52 (by kernel_rfl) (fun m hm => fields_cons rfl (by kernel_rfl) (opens_int (by kernel_rfl)) (fields_one rfl (by kernel_rfl) (opens_int (by kernel_rfl))))) (by
    rintro w ⟨a0, a1⟩ cs ⟨_, _, rfl, rfl, rfl⟩ ⟨h0, h1⟩
    exact ⟨k52_mk w ⟨a0, a1⟩, bounds_i64 h0, bounds_i64 h1⟩)
abbrev opK := Kd.pair (Kd.int .i64) (Kd.pair (Kd.int .i64) (Kd.pair (Kd.slice 3 (Kd.int .i64)) (Kd.int .i64)))
abbrev replyK := Kd.pair (Kd.int .i64) (Kd.pair Kd.bool (Kd.slice 52 k52))
theorem opens_op : ∀ n, OpensAt Tryd.prog n 24 opK (fun a => (Lit.int .i64 a.1).wf = true ∧ (Lit.int .i64 a.2.1).wf = true ∧ ((∀ x ∈ a.2.2.1, (Lit.int .i64 x).wf = true) ∧ a.2.2.1.length * 8 ≤ 140737488351232) ∧ (Lit.int .i64 a.2.2.2).wf = true) := fun n =>
  opens_struct Tryd.underlying24 (by kernel_rfl) (fun m hm => fields_cons rfl (by kernel_rfl) (opens_int (by kernel_rfl)) (fields_cons rfl (by kernel_rfl) (opens_int (by kernel_rfl)) (fields_cons rfl (by kernel_rfl) (opens_slice (e := 3) (by kernel_rfl) (by kernel_rfl) 8 (by kernel_rfl) (fun q hq => opens_int (by kernel_rfl))) (fields_one rfl (by kernel_rfl) (opens_int (by kernel_rfl))))))
theorem opens_reply : ∀ n, OpensAt Tryd.prog n 28 replyK (fun a => (Lit.int .i64 a.1).wf = true ∧ True ∧ ((∀ x ∈ a.2.2, inR x.f0 ∧ inR x.f1) ∧ a.2.2.length * 16 ≤ 140737488351232)) := fun n =>
  opens_struct Tryd.underlying28 (by kernel_rfl) (fun m hm => fields_cons rfl (by kernel_rfl) (opens_int (by kernel_rfl)) (fields_cons rfl (by kernel_rfl) (opens_bool (by kernel_rfl)) (fields_one rfl (by kernel_rfl) (opens_slice (e := 52) (by kernel_rfl) (by kernel_rfl) 16 (by kernel_rfl) (fun q hq => opens_hit q)))))
abbrev msgK := Kd.pair (Kd.int .i64) (Kd.pair (Kd.int .i64) (Kd.pair (Kd.int .i64) (Kd.pair (Kd.int .i64) (Kd.pair (Kd.int .i64) (Kd.pair (Kd.int .i64) (Kd.pair (Kd.int .i64) (Kd.pair (Kd.int .i64) (Kd.pair opK (Kd.pair replyK Kd.string)))))))))
abbrev wfI (x : Int) : Prop := (Lit.int .i64 x).wf = true
theorem opens_msg : ∀ n, OpensAt Tryd.prog n 30 msgK (fun a => wfI a.1 ∧ wfI a.2.1 ∧ wfI a.2.2.1 ∧ wfI a.2.2.2.1 ∧ wfI a.2.2.2.2.1 ∧ wfI a.2.2.2.2.2.1 ∧ wfI a.2.2.2.2.2.2.1 ∧ wfI a.2.2.2.2.2.2.2.1 ∧
    (wfI a.2.2.2.2.2.2.2.2.1.1 ∧ wfI a.2.2.2.2.2.2.2.2.1.2.1 ∧ ((∀ x ∈ a.2.2.2.2.2.2.2.2.1.2.2.1, wfI x) ∧ a.2.2.2.2.2.2.2.2.1.2.2.1.length * 8 ≤ 140737488351232) ∧ wfI a.2.2.2.2.2.2.2.2.1.2.2.2) ∧
    (wfI a.2.2.2.2.2.2.2.2.2.1.1 ∧ True ∧ ((∀ x ∈ a.2.2.2.2.2.2.2.2.2.1.2.2, inR x.f0 ∧ inR x.f1) ∧ a.2.2.2.2.2.2.2.2.2.1.2.2.length * 16 ≤ 140737488351232)) ∧ a.2.2.2.2.2.2.2.2.2.2.size ≤ 140737488351232) := fun n =>
  opens_struct Tryd.underlying30 (by kernel_rfl) (fun m hm => fields_cons rfl (by kernel_rfl) (opens_int (by kernel_rfl)) (fields_cons rfl (by kernel_rfl) (opens_int (by kernel_rfl)) (fields_cons rfl (by kernel_rfl) (opens_int (by kernel_rfl)) (fields_cons rfl (by kernel_rfl) (opens_int (by kernel_rfl)) (fields_cons rfl (by kernel_rfl) (opens_int (by kernel_rfl)) (fields_cons rfl (by kernel_rfl) (opens_int (by kernel_rfl)) (fields_cons rfl (by kernel_rfl) (opens_int (by kernel_rfl)) (fields_cons rfl (by kernel_rfl) (opens_int (by kernel_rfl)) (fields_cons rfl (by kernel_rfl) (opens_op m) (fields_cons rfl (by kernel_rfl) (opens_reply m) (fields_one rfl (by kernel_rfl) (opens_string (by kernel_rfl)))))))))))))
set_option maxRecDepth 100000 in
theorem open_msg {H : Type} {enc : TypeId × Value → H} {W : World} {base : Nat} {spare : Nat → Bool} {held : Bool} {v : Value} {d : DataW H} {ps : List MemPlace} {r : Reach} {b0 : Nat}
    (hval : Value.okWide Tryd.prog W r b0 30 v) (hd : DataW.Trod enc Tryd.prog W base spare held 30 v d ps) (hw : ∀ x ∈ d.weights Tryd.prog 30, x ≤ reachBytes) :
    ∃ (m : Ms) (A3 : Option Addr) (c3 : Nat) (A4 : Option Addr) (c4 : Nat), v = .agg #[.int .i64 m.kd, .int .i64 m.sh, .int .i64 m.ep, .int .i64 m.cl, .int .i64 m.sq, .int .i64 m.nn, .int .i64 m.ve, .int .i64 m.li, .int .i64 m.ok, .int .i64 m.id, .slice A3 m.v.length c3, .int .i64 m.kk, .int .i64 m.er, .bool m.was, .slice A4 m.hits.length c4, .string m.text] ∧
      Kd.C (Kd.int .i64) W A3 m.v.length m.v ∧ m.v.length ≤ c3 ∧ Kd.C k52 W A4 m.hits.length m.hits ∧ m.hits.length ≤ c4 ∧ wfM m := by
  obtain ⟨cs, rfl, _⟩ := Go.WideShapes.okWide_struct Tryd.underlying30 hval
  obtain ⟨n, hn⟩ := hd
  obtain ⟨⟨a0, a1, a2, a3, a4, a5, a6, a7, ⟨b0, b1, b2, b3⟩, ⟨e0, e1, e2⟩, tx⟩, hK, h0, h1, h2, h3, h4, h5, h6, h7, ⟨h8, h9, ⟨h10, h10l⟩, h11⟩, ⟨h12, _, ⟨h14, h14l⟩⟩, h15⟩ := opens_msg n hn hw
  obtain ⟨_, _, he, rfl, ⟨_, _, rfl, rfl, ⟨_, _, rfl, rfl, ⟨_, _, rfl, rfl, ⟨_, _, rfl, rfl, ⟨_, _, rfl, rfl, ⟨_, _, rfl, rfl, ⟨_, _, rfl, rfl, ⟨_, _, rfl, ⟨_, _, rfl, rfl, ⟨_, _, rfl, rfl, ⟨_, _, rfl, ⟨A3, c3, rfl, l3, g3⟩, rfl⟩⟩⟩, ⟨_, _, rfl, ⟨_, _, rfl, rfl, ⟨_, _, rfl, rfl, ⟨A4, c4, rfl, l4, g4⟩⟩⟩, rfl⟩⟩⟩⟩⟩⟩⟩⟩⟩⟩ := hK
  dsimp only at h0 h1 h2 h3 h4 h5 h6 h7 h8 h9 h10 h10l h11 h12 h14 h14l h15 l3 g3 l4 g4
  refine ⟨⟨a0, a1, a2, a3, a4, a5, a6, a7, b0, b1, b2, b3, e0, e1, e2, tx⟩, A3, c3, A4, c4, ?_, g3, l3, g4, l4, ?_⟩
  · have : cs.toList = [.int .i64 a0, .int .i64 a1, .int .i64 a2, .int .i64 a3, .int .i64 a4, .int .i64 a5, .int .i64 a6, .int .i64 a7, .int .i64 b0, .int .i64 b1, .slice A3 b2.length c3, .int .i64 b3, .int .i64 e0, .bool e1, .slice A4 e2.length c4, .string tx] := he
    congr 1
    exact Array.toList_inj.1 this
  · refine ⟨?_, fun x hx => bounds_i64 (h10 x hx), bounds_i64 h12, h14, ?_, ?_, h15⟩
    · intro x hx
      simp only [List.mem_cons, List.not_mem_nil, or_false] at hx
      rcases hx with rfl | rfl | rfl | rfl | rfl | rfl | rfl | rfl | rfl | rfl | rfl <;> exact bounds_i64 (by assumption)
    · dsimp only; omega
    · dsimp only; omega
end Go.Proofs.YtlggihnkhimfkaaDoor.Opn
namespace Go.Proofs.YtlggihnkhimfkaaDoor.Lay
open Go.RowKit Go.Lib
def LL : List (String × DataW Unit) := [("math/bits.deBruijn32tab", Rows.laid_math_bits_deBruijn32tab), ("math/bits.deBruijn64tab", Rows.laid_math_bits_deBruijn64tab), ("internal/strconv.uint64pow10", Rows.laid_internal_strconv_uint64pow10), ("strconv.ErrRange", Rows.laid_strconv_ErrRange), ("strconv.ErrSyntax", Rows.laid_strconv_ErrSyntax)]
def cellsOf : DataW Unit → List Value
  | .agg l => l.map fun | .lit (.int k z) => .int k z | _ => .nilIface
  | _ => []
noncomputable def low : Nat := (World.holding Tryd.prog default ⟨#[], #[], []⟩).heap.size
noncomputable def laidWorld (os : Os) : World :=
  let w0 := World.holding Tryd.prog os ⟨#[.cells #[.string ⟨#[118, 97, 108, 117, 101, 32, 111, 117, 116, 32, 111, 102, 32, 114, 97, 110, 103, 101]⟩] 146, .cells #[.string ⟨#[105, 110, 118, 97, 108, 105, 100, 32, 115, 121, 110, 116, 97, 120]⟩] 146], #[], []⟩
  let put (h : Array Obj) (g : Nat) (cs : Array Value) : Array Obj := h.modify g fun
    | .cells _ t frozen => .cells cs t frozen
    | o => o
  let h1 := put w0.heap 1 (cellsOf Rows.laid_math_bits_deBruijn32tab).toArray
  let h2 := put h1 2 (cellsOf Rows.laid_math_bits_deBruijn64tab).toArray
  let h3 := put h2 0 (cellsOf Rows.laid_internal_strconv_uint64pow10).toArray
  let h4 := put h3 4 #[.iface 144 (.pointer (some ⟨low, 0, none⟩))]
  let h5 := put h4 3 #[.iface 144 (.pointer (some ⟨low + 1, 0, none⟩))]
  { w0 with heap := h5 }
theorem laid_met (os : Os) (args : Array Value) : laidMet Tryd.prog LL ((laidWorld os).forCall (fun _ _ => 0) ⟨#[], args, []⟩).memory :=
  (LaidIn.of_run (l := LL) [1, 2, 0, 4, 3, low, low + 1] 8 (by kernel_rfl) (by kernel_rfl) (by kernel_rfl) (by kernel_rfl)).met
def tab64 : List Int := Lib.deBruijn64tab.map Int.ofNat
theorem eqB : (Rows.laid_math_bits_deBruijn64tab : DataW Unit) = Lib.tabData .u8 tab64 := by kernel_rfl
theorem eqP : (Rows.laid_internal_strconv_uint64pow10 : DataW Unit) = Lib.tabData .u64 Lib.pow10Tab := by kernel_rfl
theorem star : "*" ++ "errors.errorString" = "*errors.errorString" := by decide
theorem rowE (u : TypeId) (h : Tryd.prog.typeName? 3 u = some "*errors.errorString") : u = 144 :=
  typeName_ptr_named (nm := "errors.errorString") (by rw [star]; kernel_rfl) (by kernel_rfl) (by decide) u (by rw [star]; exact h)
theorem nR : Tryd.prog.globalNamed "strconv.ErrRange" = some 4 := by kernel_rfl
theorem nS : Tryd.prog.globalNamed "strconv.ErrSyntax" = some 3 := by kernel_rfl
theorem nB : Tryd.prog.globalNamed "math/bits.deBruijn64tab" = some 2 := by kernel_rfl
set_option maxRecDepth 100000 in
theorem tabIs_of_reads {name : String} {k : IntKind} {zs : List Int} {W : World} {g : Nat} {t e : TypeId} {n : Nat} (hg : Tryd.prog.globalNamed name = some g) (hty : (Tryd.prog.globals[g]?).map (·.type) = some t) (ht : Tryd.prog.underlying t = some (.array n e)) (he : Tryd.prog.underlying e = some (.int k)) (hce : Tryd.prog.cellsOf e = 1) (hct : Tryd.prog.cellsOf t = n)
    (h : VarReads Tryd.prog W name (tabData k zs)) : Lib.TabIs Tryd.prog W name k zs := by
  obtain ⟨g', t', cs, fuel, p, h1, h2, h3, h4⟩ := h
  obtain rfl : g' = g := by rw [hg] at h1; exact (Option.some.inj h1).symm
  obtain rfl : t' = t := by rw [hty] at h2; exact (Option.some.inj h2).symm
  have := cells_of_tab ht he hce hct h4
  unfold Lib.TabIs
  rw [h3]
  congr 1
  apply Array.toList_inj.1
  rw [this]
set_option maxRecDepth 100000 in
theorem tabAt_of {W : World} (h : Lib.TabIs Tryd.prog W "math/bits.deBruijn64tab" .u8 tab64) : TabAt 2 Lib.deBruijn64tab W := by
  intro j hj
  have h0 := World.var?_cell nB h j
  rw [h0]
  have hl : Lib.deBruijn64tab.length = 64 := by decide
  simp only [List.getElem?_toArray, List.getElem?_map, tab64]
  rw [List.getElem?_eq_getElem hj]
  simp [List.getD_eq_getElem?_getD, List.getElem?_eq_getElem hj]
set_option maxRecDepth 100000 in
theorem laidW_of {W : World} (hL : laidMetH Tryd.prog LL W) : Giv.LaidW W := by
  have h1 := Lib.laidMet.reads hL (.tail _ (.head _))
  have h0 := Lib.laidMet.reads hL (.tail _ (.tail _ (.head _)))
  rw [eqP] at h0
  rw [eqB] at h1
  have hR := laidMet.tail (laidMet.tail (laidMet.tail hL))
  have hS := laidMet.tail hR
  obtain ⟨a1, s1, hv1, -, -, -⟩ := laid_sentinel hR nR (ti := 89) (by kernel_rfl) Tryd.underlying89 rowE Tryd.underlying144 Tryd.underlying146 rfl rfl Tryd.underlying9 (by kernel_rfl) (by kernel_rfl)
  obtain ⟨a2, s2, hv2, -, -, -⟩ := laid_sentinel hS nS (ti := 89) (by kernel_rfl) Tryd.underlying89 rowE Tryd.underlying144 Tryd.underlying146 rfl rfl Tryd.underlying9 (by kernel_rfl) (by kernel_rfl)
  refine ⟨tabIs_of_reads (t := 124) (e := 115) (n := 20) Giv.pow10_named (by kernel_rfl) Tryd.underlying124 Tryd.underlying115 (by kernel_rfl) (by kernel_rfl) h0, tabAt_of (tabIs_of_reads (t := 137) (e := 5) (n := 64) nB (by kernel_rfl) Tryd.underlying137 Tryd.underlying5 (by kernel_rfl) (by kernel_rfl) h1), ⟨_, by have := World.var?_cell nS hv2 0; simpa using this, .inr ⟨_, _, rfl⟩⟩, ⟨_, by have := World.var?_cell nR hv1 0; simpa using this, .inr ⟨_, _, rfl⟩⟩⟩
theorem own : ownKnob Tryd.prog.godebug = none := by kernel_rfl
theorem laidOut : laidOutB Tryd.prog = true := by kernel_rfl
end Go.Proofs.YtlggihnkhimfkaaDoor.Lay
namespace Go.Proofs.YtlggihnkhimfkaaDoor.Pure
open Go.RowKit Go.Lib Go.Proofs.YtlggihnkhimfkaaDoor.Giv Go.Proofs.YtlggihnkhimfkaaDoor.P Go.Proofs.YtlggihnkhimfkaaDoorW.PrintWords Go.Proofs.YtlggihnkhimfkaaDoorW.PrintLast Go.Proofs.YtlggihnkhimfkaaDoorW.PrintMore
set_option linter.unusedVariables false
set_option linter.unusedSimpArgs false
def longM (s : ByteArray) (n : Nat) : Ms := ⟨3, 3, 7, 0, 0, 9, 0, 5, 3, 0, [1, -2], 4, 0, false, List.replicate n z52, s⟩
theorem long_wf (s : ByteArray) (n : Nat) (hs : s.size ≤ 1000000) (hn : n ≤ 1000) : wfM (longM s n) := by
  refine ⟨?_, ?_, ⟨show (-9223372036854775808 : Int) ≤ 0 by decide, show (0 : Int) ≤ 9223372036854775807 by decide⟩, ?_, show [1, -2].length ≤ _ by decide, ?_, ?_⟩
  · intro x hx
    unfold inR
    simp [longM] at hx
    omega
  · intro x hx
    unfold inR
    simp [longM] at hx
    omega
  · intro h hh
    have e : h = z52 := List.eq_of_mem_replicate hh
    rw [e]
    exact ⟨⟨by decide, by decide⟩, ⟨by decide, by decide⟩⟩
  · show (List.replicate n z52).length ≤ _
    rw [List.length_replicate]; omega
  · show s.size ≤ _
    omega
theorem long_may (s : ByteArray) (n : Nat) : mayB (longM s n) = true ↔ n ≤ 64 ∧ s.size ≤ 262144 := by
  rw [mayB_iff]
  have hlen : (longM s n).hits.length = n := List.length_replicate
  have ht : (longM s n).text = s := rfl
  constructor
  · rintro ⟨_, ⟨_, h1⟩, h2⟩
    unfold lastP at h2
    rw [ht] at h2
    rw [hlen] at h1
    omega
  · rintro ⟨h1, h2⟩
    refine ⟨show ([7, 0, 0, 9, 0, 5] : List Int).any oddP = false by decide, ⟨fun x hx => ?_, by rw [hlen]; exact h1⟩, ?_⟩
    · have e : x = z52 := List.eq_of_mem_replicate hx
      rw [e]; decide
    · unfold lastP
      rw [ht]
      exact ⟨show ¬ (3 : Int) < 1 by decide, show ¬ (3 : Int) > 19 by decide, show ¬ (3 : Int) < 0 by decide, show ¬ (3 : Int) > 15 by decide, fun _ => show isV [1, -2] = true by decide, show (3 : Int) ≥ 0 by decide, show (3 : Int) ≤ 3 by decide, show (4 : Int) ≥ 0 by decide, show (4 : Int) ≤ 64 by decide, show (0 : Int) ≥ 0 by decide, show (0 : Int) ≤ 255 by decide, by omega⟩
abbrev withM (m : Ms) (h : List Hit) (s : ByteArray) : Ms := ⟨m.kd, m.sh, m.ep, m.cl, m.sq, m.nn, m.ve, m.li, m.ok, m.id, m.v, m.kk, m.er, m.was, h, s⟩
set_option maxHeartbeats 8000000 in
set_option maxRecDepth 100000 in
theorem long_calls (m : Ms) (hm : m = someM) (a : Int) (j : Nat) (hj : bits .and .i64 a 3 = (j : Int)) (hj3 : j ≤ 3) (w : World) (hL : LaidW w) :
    Calls Tryd.prog 6 #[.int .i64 a] w fun e w' => e = .returned (.bool true) ∧ Below w.heap.size w w' := by
  have HM := Aside0.mk hm
  have HL := Aside0.mk hL
  clear hm hL
  go_enter Tryd.func6, Tryd.ntmps6
  go_upto_region 2 with fail
  clear hj
  go_upto_region 3 with (first | (go_at_call 14; refine (some_c m HM.out _).mono ?_; rintro e w1 ⟨Va, ca, Ha, da, rfl, k1, k2, k3, k4, hb⟩; have HB1 := Aside0.mk hb; have K1 := Aside0.mk k1; have K2 := Aside0.mk k2; have K3 := Aside0.mk k3; have K4 := Aside0.mk k4; clear k1 k2 k3 k4 hb) | ((with_reducible refine gate_dst (N := 4) rfl ?_); refine box_event ?hg (N := 4) ?hd (cs := #[.int .i64 0, .int .i64 0, .int .i64 0, .int .i64 0, .int .i64 0, .int .i64 0, .int .i64 0, .int .i64 0, .int .i64 0, .int .i64 0, .slice none 0 0, .int .i64 0, .int .i64 0, .bool false, .slice none 0 0, .string ⟨#[]⟩]) (t := 30) ?hr ?_; (case hd => rfl); (case hg => rfl); (case hr => first | (go_simp; done) | (go_simp; rfl)); intro gm hg w2 hbox hb; have HB2 := Aside0.mk (below_step HB1.out hb); have BM2 := Aside0.mk hbox; have HX2 := Aside0.mk (below_step (Below.refl w1.heap.size w1) hb); have GM := Aside0.mk (Nat.le_of_eq hg.symm); clear hg hbox hb) | ((with_reducible refine gate_store (ty := 30) (x := .tmp 4) rfl ?_); refine ev_store rfl rfl 30 (.tmp 4) _ rfl _ rfl gm 30 rfl [.int .i64 m.kd, .int .i64 m.sh, .int .i64 m.ep, .int .i64 m.cl, .int .i64 m.sq, .int .i64 m.nn, .int .i64 m.ve, .int .i64 m.li, .int .i64 m.ok, .int .i64 m.id, .slice Va m.v.length ca, .int .i64 m.kk, .int .i64 m.er, .bool m.was, .slice Ha m.hits.length da, .string m.text] [.int .i64 0, .int .i64 0, .int .i64 0, .int .i64 0, .int .i64 0, .int .i64 0, .int .i64 0, .int .i64 0, .int .i64 0, .int .i64 0, .slice none 0 0, .int .i64 0, .int .i64 0, .bool false, .slice none 0 0, .string ⟨#[]⟩] rfl rfl (by simp [Value.oneCell']) rfl BM2.out ?_; intro w3 a3 b3; have BM3 := Aside0.mk a3; have HX3 := Aside0.mk (b3.1 _ _ HX2.out GM.out); have HB3 := Aside0.mk (b3.1 _ _ HB2.out (Nat.le_trans (below_size HB1.out) GM.out)); clear a3 b3) | fail)
  have hji : (j : Int) ≤ 3 := by omega
  go_upto_region 4 with (first | ((with_reducible refine gate_dst (N := 14) rfl ?_); refine Kd.R_make (Kd.int .u8) _ 5 rfl (N := 14) rfl 39 _ _ rfl (262143 + (j : Int)) rfl rfl Tryd.underlying39 (.int .u8 0) 1 info5 rfl (by decide) (by omega) 0 (ok := fun _ => True) (okp := fun _ => True) rfl (fun _ hk => hk) trivial (by omega) (by omega) (Below.refl _ _) (Nat.le_refl _) ?_; intro v4 w4 ho hb hg_ hnew_; clear hg_ hnew_; have HB4 := Aside0.mk (below_step HB3.out hb); have HX4 := Aside0.mk (below_step HX3.out hb); have BM4 := Aside0.mk (blk_below BM3.out hb); have hcv := own_string (P := Tryd.prog) Tryd.underlying39 Tryd.underlying5 Tryd.underlying9 (Kd.own_of_R ho); have hc15 : w4.cell? ⟨gm, 15, none⟩ = some (.string m.text) := (blk_cell BM4.out 15).trans rfl; have hf15 := blk_frozen BM4.out 15; clear hb ho) | fail)
  clear hc15 hf15 hcv
  have hsz : (strOfNums (List.replicate (262143 + j) 0)).size = 262143 + j := by rw [strOfNums_size, List.length_replicate]
  generalize strOfNums (List.replicate (262143 + j) 0) = s at *
  have BM5 := Aside0.mk (show (w4.setCell ⟨gm, 15, none⟩ (.string s)).heap[gm]? = some (.cells #[.int .i64 m.kd, .int .i64 m.sh, .int .i64 m.ep, .int .i64 m.cl, .int .i64 m.sq, .int .i64 m.nn, .int .i64 m.ve, .int .i64 m.li, .int .i64 m.ok, .int .i64 m.id, .slice Va m.v.length ca, .int .i64 m.kk, .int .i64 m.er, .bool m.was, .slice Ha m.hits.length da, .string s] 30 (0, 0)) from blk_put (cs := #[.int .i64 m.kd, .int .i64 m.sh, .int .i64 m.ep, .int .i64 m.cl, .int .i64 m.sq, .int .i64 m.nn, .int .i64 m.ve, .int .i64 m.li, .int .i64 m.ok, .int .i64 m.id, .slice Va m.v.length ca, .int .i64 m.kk, .int .i64 m.er, .bool m.was, .slice Ha m.hits.length da, .string m.text]) BM4.out 15 _ rfl)
  have HB5 := Aside0.mk (HB4.out.setCell (p := ⟨gm, 15, none⟩) (Nat.le_trans (below_size HB1.out) GM.out) (.string s))
  have HX5 := Aside0.mk (HX4.out.setCell (p := ⟨gm, 15, none⟩) GM.out (.string s))
  generalize w4.setCell ⟨gm, 15, none⟩ (.string s) = w5 at *
  clear BM4 HB4 HX4 BM3 HB3 HX3 BM2 HB2 HX2
  go_upto_region 5 with (first | ((with_reducible refine gate_dst (N := 17) rfl ?_); refine Kd.R_make k52 _ 52 rfl (N := 17) rfl 26 _ _ rfl 64 rfl rfl Tryd.underlying26 (.agg #[(.int .i64 0), (.int .i64 0)]) 16 info52 rfl (by decide) (by omega) z52 (ok := fun _ => True) (okp := fun _ => True) (k52_mkM _ _ _ z52) (fun _ hk => hk) trivial (by omega) (by omega) (Below.refl _ _) (Nat.le_refl _) ?_; intro v6 w6 ho hb hg_ hnew_; clear hg_ hnew_; simp only [Int.reduceToNat] at ho; obtain ⟨h64, hh64⟩ : ∃ h, h = List.replicate 64 z52 := ⟨_, rfl⟩; rw [← hh64] at ho; have HH64 := Aside0.mk hh64; clear hh64; obtain ⟨Hb, db, rfl⟩ := Kd.R_slice ho; have HB6 := Aside0.mk (below_step HB5.out hb); have HX6 := Aside0.mk (below_step HX5.out hb); have BM6 := Aside0.mk (blk_below BM5.out hb); have HO6 := Aside0.mk ho; have hc14 : w6.cell? ⟨gm, 14, none⟩ = some (.slice Ha m.hits.length da) := (blk_cell BM6.out 14).trans rfl; have hf14 := blk_frozen BM6.out 14; clear hb ho) | fail)
  clear hc14 hf14
  have BM7 := Aside0.mk (show (w6.setCell ⟨gm, 14, none⟩ (.slice Hb h64.length db)).heap[gm]? = some (.cells #[.int .i64 m.kd, .int .i64 m.sh, .int .i64 m.ep, .int .i64 m.cl, .int .i64 m.sq, .int .i64 m.nn, .int .i64 m.ve, .int .i64 m.li, .int .i64 m.ok, .int .i64 m.id, .slice Va m.v.length ca, .int .i64 m.kk, .int .i64 m.er, .bool m.was, .slice Hb h64.length db, .string s] 30 (0, 0)) from blk_put (cs := #[.int .i64 m.kd, .int .i64 m.sh, .int .i64 m.ep, .int .i64 m.cl, .int .i64 m.sq, .int .i64 m.nn, .int .i64 m.ve, .int .i64 m.li, .int .i64 m.ok, .int .i64 m.id, .slice Va m.v.length ca, .int .i64 m.kk, .int .i64 m.er, .bool m.was, .slice Ha m.hits.length da, .string s]) BM6.out 14 _ rfl)
  have HB7 := Aside0.mk (HB6.out.setCell (p := ⟨gm, 14, none⟩) (Nat.le_trans (below_size HB1.out) GM.out) (.slice Hb h64.length db))
  have HX7 := Aside0.mk (HX6.out.setCell (p := ⟨gm, 14, none⟩) GM.out (.slice Hb h64.length db))
  have C7 := Aside0.mk (Kd.R_reads' (Kd.R_far (p := ⟨gm, 14, none⟩) (Kd.R_types HO6.out BM6.out (by decide)) (fun _ hk => hk.2) (.slice Hb h64.length db)))
  generalize w6.setCell ⟨gm, 14, none⟩ (.slice Hb h64.length db) = w7 at *
  clear BM6 HB6 HX6 HO6 BM5 HB5 HX5
  have hn : withM m h64 s = longM s 64 := by rw [HM.out, HH64.out]; rfl
  have hn5 : ∀ h, h = List.replicate 65 z52 → withM m h s = longM s 65 := fun h e => by rw [HM.out, e]; rfl
  have HW := Aside0.mk (show wfM (withM m h64 s) by rw [hn]; exact long_wf s 64 (by omega) (by decide))
  have HK := Aside0.mk (fun h (e : h = List.replicate 65 z52) => (show (putV (withM m h s)).2 = 1 by rw [hn5 h e]; unfold putV; rw [if_neg (by rw [long_may]; omega)]))
  by_cases c : 1 < j
  · have HP := Aside0.mk (show putV (withM m h64 s) = (⟨#[]⟩, 1) by rw [hn]; exact if_neg (by rw [long_may]; omega))
    have c' : (j : Int) > 1 := by omega
    clear hn hn5 c hsz
    as_aux_lemma =>
    go_wp2_with (first | ((with_reducible refine gate_dst (N := 21) rfl ?_); refine ev_load rfl 30 (.tmp 4) rfl _ rfl (fun w => by kernel_rfl) gm 0 rfl [.int .i64 m.kd, .int .i64 m.sh, .int .i64 m.ep, .int .i64 m.cl, .int .i64 m.sq, .int .i64 m.nn, .int .i64 m.ve, .int .i64 m.li, .int .i64 m.ok, .int .i64 m.id, .slice Va m.v.length ca, .int .i64 m.kk, .int .i64 m.er, .bool m.was, .slice Hb h64.length db, .string s] (by kernel_rfl) (cells_all BM7.out) ?_) | (go_at_call 9; refine (put_c (withM m h64 s) Va ca Hb db _ (LaidW.below HL.out HB7.out) (Kd.C_below K1.out HX7.out) K2.out C7.out.2.2 C7.out.2.1 HW.out _ _ HP.out).mono ?_; rintro e w8 ⟨rfl, hb⟩; have HB8 := Aside0.mk (below_step HB7.out hb); have HX8 := Aside0.mk (below_step HX7.out hb); have BM8 := Aside0.mk (blk_below BM7.out hb); clear hb) | (go_at_call 8; refine (awake_c _ (LaidW.below HL.out HB8.out)).mono ?_; rintro e w9 ⟨rfl, hb⟩; have HB9 := Aside0.mk (below_step HB8.out hb); clear hb) | fail)
    go_ret
    exact ⟨rfl, HB9.out⟩
  · have hmay : mayB (longM s 64) = true := (long_may s 64).2 ⟨Nat.le_refl _, by omega⟩
    obtain ⟨S, hS⟩ : ∃ S, msgT (longM s 64) = S := ⟨_, rfl⟩
    have HP := Aside0.mk (show putV (withM m h64 s) = (S, 0) by rw [hn, ← hS]; exact if_pos hmay)
    have HT := Aside0.mk (show post_Take.f S = some ((withM m h64 s).kd, (withM m h64 s).sh, (withM m h64 s).ep, (withM m h64 s).cl, (withM m h64 s).sq, (withM m h64 s).nn, (withM m h64 s).ve, (withM m h64 s).li, (withM m h64 s).ok, (withM m h64 s).id, (withM m h64 s).v, (withM m h64 s).kk, (withM m h64 s).er, (withM m h64 s).was, (withM m h64 s).hits, (withM m h64 s).text, 0) by rw [hn, ← hS]; exact take_msg (longM s 64) (long_wf s 64 (by omega) (by decide)) hmay)
    have c' : ¬ (j : Int) > 1 := by omega
    have hss : (s.toList == s.toList) = true := by simp
    have hl64 : h64.length = 64 := by rw [HH64.out, List.length_replicate]
    have hl64' : ((h64.length : Int) == 64) = true := by rw [hl64]; rfl
    have HL64 := Aside0.mk hl64'
    clear hl64 hl64'
    clear hn hn5 c hsz hS hmay
    as_aux_lemma =>
    go_upto_region 10 with (first | ((with_reducible refine gate_dst (N := 21) rfl ?_); refine ev_load rfl 30 (.tmp 4) rfl _ rfl (fun w => by kernel_rfl) gm 0 rfl [.int .i64 m.kd, .int .i64 m.sh, .int .i64 m.ep, .int .i64 m.cl, .int .i64 m.sq, .int .i64 m.nn, .int .i64 m.ve, .int .i64 m.li, .int .i64 m.ok, .int .i64 m.id, .slice Va m.v.length ca, .int .i64 m.kk, .int .i64 m.er, .bool m.was, .slice Hb h64.length db, .string s] (by kernel_rfl) (cells_all BM7.out) ?_) | (go_at_call 9; refine (put_c (withM m h64 s) Va ca Hb db _ (LaidW.below HL.out HB7.out) (Kd.C_below K1.out HX7.out) K2.out C7.out.2.2 C7.out.2.1 HW.out _ _ HP.out).mono ?_; rintro e w8 ⟨rfl, hb⟩; have HB8 := Aside0.mk (below_step HB7.out hb); have HX8 := Aside0.mk (below_step HX7.out hb); have BM8 := Aside0.mk (blk_below BM7.out hb); clear hb) | (go_at_call 12; refine (take_c S (withM m h64 s) 0 _ (LaidW.below HL.out HB8.out) HT.out).mono ?_; rintro e w9 ⟨Vc, cc, Hc, dc, rfl, k1, k2, k3, k4, hb⟩; have HB9 := Aside0.mk (below_step HB8.out hb); have HX9 := Aside0.mk (below_step HX8.out hb); have BM9 := Aside0.mk (blk_below BM8.out hb); clear k1 k2 k3 k4 hb) | ((with_reducible refine gate_dst (N := 7) rfl ?_); refine box_event ?hg (N := 7) ?hd (cs := #[.int .i64 0, .int .i64 0, .int .i64 0, .int .i64 0, .int .i64 0, .int .i64 0, .int .i64 0, .int .i64 0, .int .i64 0, .int .i64 0, .slice none 0 0, .int .i64 0, .int .i64 0, .bool false, .slice none 0 0, .string ⟨#[]⟩]) (t := 30) ?hr ?_; (case hd => rfl); (case hg => rfl); (case hr => first | (go_simp; done) | (go_simp; rfl)); intro gn hg w10 hbox hb; have HB10 := Aside0.mk (below_step HB9.out hb); have HX10 := Aside0.mk (below_step HX9.out hb); have BM10 := Aside0.mk (blk_below BM9.out hb); have BN10 := Aside0.mk hbox; have GN := Aside0.mk (Nat.le_of_eq hg.symm); have NE := Aside0.mk (show gm ≠ gn from fun h => absurd (blk_lt BM9.out) (by rw [h, hg]; exact Nat.lt_irrefl _)); clear hg hbox hb) | ((with_reducible refine gate_store (ty := 30) (x := .tmp 7) rfl ?_); refine ev_store rfl rfl 30 (.tmp 7) _ rfl _ rfl gn 30 rfl [.int .i64 (withM m h64 s).kd, .int .i64 (withM m h64 s).sh, .int .i64 (withM m h64 s).ep, .int .i64 (withM m h64 s).cl, .int .i64 (withM m h64 s).sq, .int .i64 (withM m h64 s).nn, .int .i64 (withM m h64 s).ve, .int .i64 (withM m h64 s).li, .int .i64 (withM m h64 s).ok, .int .i64 (withM m h64 s).id, .slice Vc (withM m h64 s).v.length cc, .int .i64 (withM m h64 s).kk, .int .i64 (withM m h64 s).er, .bool (withM m h64 s).was, .slice Hc (withM m h64 s).hits.length dc, .string (withM m h64 s).text] [.int .i64 0, .int .i64 0, .int .i64 0, .int .i64 0, .int .i64 0, .int .i64 0, .int .i64 0, .int .i64 0, .int .i64 0, .int .i64 0, .slice none 0 0, .int .i64 0, .int .i64 0, .bool false, .slice none 0 0, .string ⟨#[]⟩] rfl rfl (by simp [Value.oneCell']) rfl BN10.out ?_; intro w11 a11 b11; have BN11 := Aside0.mk a11; have HX11 := Aside0.mk (b11.1 _ _ HX10.out (Nat.le_trans (below_size HX9.out) GN.out)); have HB11 := Aside0.mk (b11.1 _ _ HB10.out (Nat.le_trans (below_size HB9.out) GN.out)); have BM11 := Aside0.mk (b11.2 _ _ NE.out BM10.out); clear a11 b11) | ((with_reducible refine gate_dst (N := 41) rfl ?_); refine Kd.R_make k52 _ 52 rfl (N := 41) rfl 26 _ _ rfl 65 rfl rfl Tryd.underlying26 (.agg #[(.int .i64 0), (.int .i64 0)]) 16 info52 rfl (by decide) (by omega) z52 (ok := fun _ => True) (okp := fun _ => True) (k52_mkM _ _ _ z52) (fun _ hk => hk) trivial (by omega) (by omega) (Below.refl _ _) (Nat.le_refl _) ?_; intro v12 w12 ho hb hg_ hnew_; clear hg_ hnew_; simp only [Int.reduceToNat] at ho; obtain ⟨h65, hh65⟩ : ∃ h, h = List.replicate 65 z52 := ⟨_, rfl⟩; rw [← hh65] at ho; have HH65 := Aside0.mk hh65; clear hh65; obtain ⟨He, de, rfl⟩ := Kd.R_slice ho; have HB12 := Aside0.mk (below_step HB11.out hb); have HX12 := Aside0.mk (below_step HX11.out hb); have BM12 := Aside0.mk (blk_below BM11.out hb); have BN12 := Aside0.mk (blk_below BN11.out hb); have HO12 := Aside0.mk ho; have hc14' : w12.cell? ⟨gm, 14, none⟩ = some (.slice Hb h64.length db) := (blk_cell BM12.out 14).trans rfl; have hf14' := blk_frozen BM12.out 14; clear hb ho) | fail)
    clear hc14' hf14'
    have BM13 := Aside0.mk (show (w12.setCell ⟨gm, 14, none⟩ (.slice He h65.length de)).heap[gm]? = some (.cells #[.int .i64 m.kd, .int .i64 m.sh, .int .i64 m.ep, .int .i64 m.cl, .int .i64 m.sq, .int .i64 m.nn, .int .i64 m.ve, .int .i64 m.li, .int .i64 m.ok, .int .i64 m.id, .slice Va m.v.length ca, .int .i64 m.kk, .int .i64 m.er, .bool m.was, .slice He h65.length de, .string s] 30 (0, 0)) from blk_put (cs := #[.int .i64 m.kd, .int .i64 m.sh, .int .i64 m.ep, .int .i64 m.cl, .int .i64 m.sq, .int .i64 m.nn, .int .i64 m.ve, .int .i64 m.li, .int .i64 m.ok, .int .i64 m.id, .slice Va m.v.length ca, .int .i64 m.kk, .int .i64 m.er, .bool m.was, .slice Hb h64.length db, .string s]) BM12.out 14 _ rfl)
    have BN13 := Aside0.mk (show (w12.setCell ⟨gm, 14, none⟩ (.slice He h65.length de)).heap[gn]? = some (.cells #[.int .i64 (withM m h64 s).kd, .int .i64 (withM m h64 s).sh, .int .i64 (withM m h64 s).ep, .int .i64 (withM m h64 s).cl, .int .i64 (withM m h64 s).sq, .int .i64 (withM m h64 s).nn, .int .i64 (withM m h64 s).ve, .int .i64 (withM m h64 s).li, .int .i64 (withM m h64 s).ok, .int .i64 (withM m h64 s).id, .slice Vc (withM m h64 s).v.length cc, .int .i64 (withM m h64 s).kk, .int .i64 (withM m h64 s).er, .bool (withM m h64 s).was, .slice Hc (withM m h64 s).hits.length dc, .string (withM m h64 s).text] 30 (0, 0)) from (Below.heap_setCell w12 ⟨gm, 14, none⟩ _ gn (Ne.symm NE.out)).trans BN12.out)
    have HB13 := Aside0.mk (HB12.out.setCell (p := ⟨gm, 14, none⟩) (Nat.le_trans (below_size HB1.out) GM.out) (.slice He h65.length de))
    have HX13 := Aside0.mk (HX12.out.setCell (p := ⟨gm, 14, none⟩) GM.out (.slice He h65.length de))
    have C13 := Aside0.mk (Kd.R_reads' (Kd.R_far (p := ⟨gm, 14, none⟩) (Kd.R_types HO12.out BM12.out (by decide)) (fun _ hk => hk.2) (.slice He h65.length de)))
    generalize w12.setCell ⟨gm, 14, none⟩ (.slice He h65.length de) = w13 at *
    have cz0 : w13.cell? ⟨gm, 0, none⟩ = some (.int .i64 m.kd) := (blk_cell BM13.out 0).trans rfl
    have cz1 : w13.cell? ⟨gm, 1, none⟩ = some (.int .i64 m.sh) := (blk_cell BM13.out 1).trans rfl
    have cz2 : w13.cell? ⟨gm, 2, none⟩ = some (.int .i64 m.ep) := (blk_cell BM13.out 2).trans rfl
    have cz3 : w13.cell? ⟨gm, 3, none⟩ = some (.int .i64 m.cl) := (blk_cell BM13.out 3).trans rfl
    have cz4 : w13.cell? ⟨gm, 4, none⟩ = some (.int .i64 m.sq) := (blk_cell BM13.out 4).trans rfl
    have cz5 : w13.cell? ⟨gm, 5, none⟩ = some (.int .i64 m.nn) := (blk_cell BM13.out 5).trans rfl
    have cz6 : w13.cell? ⟨gm, 6, none⟩ = some (.int .i64 m.ve) := (blk_cell BM13.out 6).trans rfl
    have cz7 : w13.cell? ⟨gm, 7, none⟩ = some (.int .i64 m.li) := (blk_cell BM13.out 7).trans rfl
    have cz8 : w13.cell? ⟨gm, 8, none⟩ = some (.int .i64 m.ok) := (blk_cell BM13.out 8).trans rfl
    have cz9 : w13.cell? ⟨gm, 9, none⟩ = some (.int .i64 m.id) := (blk_cell BM13.out 9).trans rfl
    have cz10 : w13.cell? ⟨gm, 10, none⟩ = some (.slice Va m.v.length ca) := (blk_cell BM13.out 10).trans rfl
    have cz11 : w13.cell? ⟨gm, 11, none⟩ = some (.int .i64 m.kk) := (blk_cell BM13.out 11).trans rfl
    have cz12 : w13.cell? ⟨gm, 12, none⟩ = some (.int .i64 m.er) := (blk_cell BM13.out 12).trans rfl
    have cz13 : w13.cell? ⟨gm, 13, none⟩ = some (.bool m.was) := (blk_cell BM13.out 13).trans rfl
    have cz14 : w13.cell? ⟨gm, 14, none⟩ = some (.slice He h65.length de) := (blk_cell BM13.out 14).trans rfl
    have cz15 : w13.cell? ⟨gm, 15, none⟩ = some (.string s) := (blk_cell BM13.out 15).trans rfl
    have cn14 : w13.cell? ⟨gn, 14, none⟩ = some (.slice Hc h64.length dc) := (blk_cell BN13.out 14).trans rfl
    have cn15 : w13.cell? ⟨gn, 15, none⟩ = some (.string s) := (blk_cell BN13.out 15).trans rfl
    have hl64 := HL64.out
    go_wp2_with (first | (go_at_call 11; refine (check_c (withM m h65 s) Va ca He de _ (Kd.C_below K1.out HX13.out) K2.out C13.out.2.2 C13.out.2.1 1 (HK.out h65 HH65.out)).mono ?_; rintro e w14 ⟨rfl, hb⟩; have HB14 := Aside0.mk (below_step HB13.out hb); clear hb) | (go_at_call 8; refine (awake_c _ (LaidW.below HL.out HB14.out)).mono ?_; rintro e w15 ⟨rfl, hb⟩; have HB15 := Aside0.mk (below_step HB14.out hb); clear hb) | fail)
    go_ret
    exact ⟨rfl, HB15.out⟩
theorem PostLong_walk (a : Int) (w : World) (hL : LaidW w) :
    Calls Tryd.prog 6 #[.int .i64 a] w fun e w' => e = .returned (.bool true) ∧ Below w.heap.size w w' := by
  have hm := and_mask_i64 a 2 (by decide)
  have e2 : (((2 ^ 2 - 1 : Nat)) : Int) = 3 := by decide +kernel
  have e3 : (((2 ^ 2 : Nat)) : Int) = 4 := by decide +kernel
  rw [e2, e3] at hm
  have h0 := Int.emod_nonneg a (show (4 : Int) ≠ 0 by decide)
  have h1 := Int.emod_lt_of_pos a (show (0 : Int) < 4 by decide)
  exact long_calls someM rfl a (a % 4).toNat (by rw [hm]; omega) (by omega) w hL
end Go.Proofs.YtlggihnkhimfkaaDoor.Pure
namespace Go.Proofs.YtlggihnkhimfkaaDoor.Pure
open Go.RowKit Go.Lib Go.Proofs.YtlggihnkhimfkaaDoor.Giv Go.Proofs.YtlggihnkhimfkaaDoor.P Go.Proofs.YtlggihnkhimfkaaDoorW.PrintWords Go.Proofs.YtlggihnkhimfkaaDoorW.PrintLast Go.Proofs.YtlggihnkhimfkaaDoorW.PrintMore
set_option linter.unusedVariables false
set_option linter.unusedSimpArgs false
set_option maxHeartbeats 8000000 in
set_option maxRecDepth 100000 in
theorem apart_1 (a : Ms) (Av : Option Addr) (cv : Nat) (Ah : Option Addr) (ch : Nat) (b : Ms) (Bv : Option Addr) (dv : Nat) (Bh : Option Addr) (dh : Nat) (w : World) (hL : LaidW w) (hv : Kd.C (Kd.int .i64) w Av a.v.length a.v) (hcv : a.v.length ≤ cv) (hh : Kd.C k52 w Ah a.hits.length a.hits) (hch : a.hits.length ≤ ch) (hv' : Kd.C (Kd.int .i64) w Bv b.v.length b.v) (hcv' : b.v.length ≤ dv) (hh' : Kd.C k52 w Bh b.hits.length b.hits) (hch' : b.hits.length ≤ dh) (hla : lightB a = false) :
    Calls Tryd.prog 4 #[.agg #[.int .i64 a.kd, .int .i64 a.sh, .int .i64 a.ep, .int .i64 a.cl, .int .i64 a.sq, .int .i64 a.nn, .int .i64 a.ve, .int .i64 a.li, .int .i64 a.ok, .int .i64 a.id, .slice Av a.v.length cv, .int .i64 a.kk, .int .i64 a.er, .bool a.was, .slice Ah a.hits.length ch, .string a.text], .agg #[.int .i64 b.kd, .int .i64 b.sh, .int .i64 b.ep, .int .i64 b.cl, .int .i64 b.sq, .int .i64 b.nn, .int .i64 b.ve, .int .i64 b.li, .int .i64 b.ok, .int .i64 b.id, .slice Bv b.v.length dv, .int .i64 b.kk, .int .i64 b.er, .bool b.was, .slice Bh b.hits.length dh, .string b.text]] w fun e w' => e = .returned (.bool true) ∧ Below w.heap.size w w' := by
  have HV := Aside0.mk hv
  have HH := Aside0.mk hh
  have HCV := Aside0.mk hcv
  have HCH := Aside0.mk hch
  have HV' := Aside0.mk hv'
  have HH' := Aside0.mk hh'
  have HCV' := Aside0.mk hcv'
  have HCH' := Aside0.mk hch'
  have HL := Aside0.mk hL
  have HLA := Aside0.mk hla
  clear hv hh hcv hch hv' hh' hcv' hch' hL hla
  go_enter Tryd.func4, Tryd.ntmps4
  go_wp2_with (first | ((with_reducible refine gate_dst (N := 2) rfl ?_); refine box_event ?hg (N := 2) ?hd (cs := #[.int .i64 a.kd, .int .i64 a.sh, .int .i64 a.ep, .int .i64 a.cl, .int .i64 a.sq, .int .i64 a.nn, .int .i64 a.ve, .int .i64 a.li, .int .i64 a.ok, .int .i64 a.id, .slice Av a.v.length cv, .int .i64 a.kk, .int .i64 a.er, .bool a.was, .slice Ah a.hits.length ch, .string a.text]) (t := 30) ?hr ?_; (case hd => rfl); (case hg => rfl); (case hr => first | (go_simp; done) | (go_simp; rfl)); intro ga hg w1 hbox hb; have HB1 := Aside0.mk (below_step (Below.refl w.heap.size w) hb); have BA1 := Aside0.mk hbox; clear hg hbox hb) | ((with_reducible refine gate_dst (N := 3) rfl ?_); refine box_event ?hg (N := 3) ?hd (cs := #[.int .i64 b.kd, .int .i64 b.sh, .int .i64 b.ep, .int .i64 b.cl, .int .i64 b.sq, .int .i64 b.nn, .int .i64 b.ve, .int .i64 b.li, .int .i64 b.ok, .int .i64 b.id, .slice Bv b.v.length dv, .int .i64 b.kk, .int .i64 b.er, .bool b.was, .slice Bh b.hits.length dh, .string b.text]) (t := 30) ?hr ?_; (case hd => rfl); (case hg => rfl); (case hr => first | (go_simp; done) | (go_simp; rfl)); intro gb hg w2 hbox hb; have HB2 := Aside0.mk (below_step HB1.out hb); have BA2 := Aside0.mk (blk_below BA1.out hb); have BB2 := Aside0.mk hbox; clear hg hbox hb) | ((with_reducible refine gate_dst (N := 9) rfl ?_); refine ev_load rfl 30 (.tmp 2) rfl _ rfl (fun w => by kernel_rfl) ga 0 rfl [.int .i64 a.kd, .int .i64 a.sh, .int .i64 a.ep, .int .i64 a.cl, .int .i64 a.sq, .int .i64 a.nn, .int .i64 a.ve, .int .i64 a.li, .int .i64 a.ok, .int .i64 a.id, .slice Av a.v.length cv, .int .i64 a.kk, .int .i64 a.er, .bool a.was, .slice Ah a.hits.length ch, .string a.text] (by kernel_rfl) (cells_all BA2.out) ?_) | (go_at_call 7; with_reducible refine (light_c a Av cv Ah ch _ (Kd.C_below HV.out HB2.out) HCV.out (Kd.C_below HH.out HB2.out) HCH.out _ HLA.out).mono ?_; rintro e w3 ⟨rfl, hb⟩; have HB3 := Aside0.mk (below_step HB2.out hb); have BA3 := Aside0.mk (blk_below BA2.out hb); have BB3 := Aside0.mk (blk_below BB2.out hb); have cz0 : w3.cell? ⟨gb, 0, none⟩ = some (.int .i64 b.kd) := (blk_cell BB3.out 0).trans rfl; have cz1 : w3.cell? ⟨gb, 1, none⟩ = some (.int .i64 b.sh) := (blk_cell BB3.out 1).trans rfl; have cz2 : w3.cell? ⟨gb, 2, none⟩ = some (.int .i64 b.ep) := (blk_cell BB3.out 2).trans rfl; have cz3 : w3.cell? ⟨gb, 3, none⟩ = some (.int .i64 b.cl) := (blk_cell BB3.out 3).trans rfl; have cz4 : w3.cell? ⟨gb, 4, none⟩ = some (.int .i64 b.sq) := (blk_cell BB3.out 4).trans rfl; have cz5 : w3.cell? ⟨gb, 5, none⟩ = some (.int .i64 b.nn) := (blk_cell BB3.out 5).trans rfl; have cz6 : w3.cell? ⟨gb, 6, none⟩ = some (.int .i64 b.ve) := (blk_cell BB3.out 6).trans rfl; have cz7 : w3.cell? ⟨gb, 7, none⟩ = some (.int .i64 b.li) := (blk_cell BB3.out 7).trans rfl; have cz8 : w3.cell? ⟨gb, 8, none⟩ = some (.int .i64 b.ok) := (blk_cell BB3.out 8).trans rfl; have cz9 : w3.cell? ⟨gb, 9, none⟩ = some (.int .i64 b.id) := (blk_cell BB3.out 9).trans rfl; have cz10 : w3.cell? ⟨gb, 10, none⟩ = some (.slice Bv b.v.length dv) := (blk_cell BB3.out 10).trans rfl; have cz11 : w3.cell? ⟨gb, 11, none⟩ = some (.int .i64 b.kk) := (blk_cell BB3.out 11).trans rfl; have cz12 : w3.cell? ⟨gb, 12, none⟩ = some (.int .i64 b.er) := (blk_cell BB3.out 12).trans rfl; have cz13 : w3.cell? ⟨gb, 13, none⟩ = some (.bool b.was) := (blk_cell BB3.out 13).trans rfl; have cz14 : w3.cell? ⟨gb, 14, none⟩ = some (.slice Bh b.hits.length dh) := (blk_cell BB3.out 14).trans rfl; have cz15 : w3.cell? ⟨gb, 15, none⟩ = some (.string b.text) := (blk_cell BB3.out 15).trans rfl; clear hb) | (go_at_call 8; with_reducible refine (awake_c _ (LaidW.below HL.out HB3.out)).mono ?_; rintro e w5 ⟨rfl, hb⟩; have HB4 := Aside0.mk (below_step HB3.out hb); have BA4 := Aside0.mk (blk_below BA3.out hb); have BB4 := Aside0.mk (blk_below BB3.out hb); clear hb) | fail)
  go_ret
  exact ⟨rfl, HB4.out⟩
set_option maxHeartbeats 8000000 in
set_option maxRecDepth 100000 in
theorem apart_2 (a : Ms) (Av : Option Addr) (cv : Nat) (Ah : Option Addr) (ch : Nat) (b : Ms) (Bv : Option Addr) (dv : Nat) (Bh : Option Addr) (dh : Nat) (w : World) (hL : LaidW w) (hv : Kd.C (Kd.int .i64) w Av a.v.length a.v) (hcv : a.v.length ≤ cv) (hh : Kd.C k52 w Ah a.hits.length a.hits) (hch : a.hits.length ≤ ch) (hv' : Kd.C (Kd.int .i64) w Bv b.v.length b.v) (hcv' : b.v.length ≤ dv) (hh' : Kd.C k52 w Bh b.hits.length b.hits) (hch' : b.hits.length ≤ dh) (hla : lightB a = true) (hlb : lightB b = false) :
    Calls Tryd.prog 4 #[.agg #[.int .i64 a.kd, .int .i64 a.sh, .int .i64 a.ep, .int .i64 a.cl, .int .i64 a.sq, .int .i64 a.nn, .int .i64 a.ve, .int .i64 a.li, .int .i64 a.ok, .int .i64 a.id, .slice Av a.v.length cv, .int .i64 a.kk, .int .i64 a.er, .bool a.was, .slice Ah a.hits.length ch, .string a.text], .agg #[.int .i64 b.kd, .int .i64 b.sh, .int .i64 b.ep, .int .i64 b.cl, .int .i64 b.sq, .int .i64 b.nn, .int .i64 b.ve, .int .i64 b.li, .int .i64 b.ok, .int .i64 b.id, .slice Bv b.v.length dv, .int .i64 b.kk, .int .i64 b.er, .bool b.was, .slice Bh b.hits.length dh, .string b.text]] w fun e w' => e = .returned (.bool true) ∧ Below w.heap.size w w' := by
  have HV := Aside0.mk hv
  have HH := Aside0.mk hh
  have HCV := Aside0.mk hcv
  have HCH := Aside0.mk hch
  have HV' := Aside0.mk hv'
  have HH' := Aside0.mk hh'
  have HCV' := Aside0.mk hcv'
  have HCH' := Aside0.mk hch'
  have HL := Aside0.mk hL
  have HLA := Aside0.mk hla
  have HLB := Aside0.mk hlb
  clear hv hh hcv hch hv' hh' hcv' hch' hL hla hlb
  go_enter Tryd.func4, Tryd.ntmps4
  go_wp2_with (first | ((with_reducible refine gate_dst (N := 2) rfl ?_); refine box_event ?hg (N := 2) ?hd (cs := #[.int .i64 a.kd, .int .i64 a.sh, .int .i64 a.ep, .int .i64 a.cl, .int .i64 a.sq, .int .i64 a.nn, .int .i64 a.ve, .int .i64 a.li, .int .i64 a.ok, .int .i64 a.id, .slice Av a.v.length cv, .int .i64 a.kk, .int .i64 a.er, .bool a.was, .slice Ah a.hits.length ch, .string a.text]) (t := 30) ?hr ?_; (case hd => rfl); (case hg => rfl); (case hr => first | (go_simp; done) | (go_simp; rfl)); intro ga hg w1 hbox hb; have HB1 := Aside0.mk (below_step (Below.refl w.heap.size w) hb); have BA1 := Aside0.mk hbox; clear hg hbox hb) | ((with_reducible refine gate_dst (N := 3) rfl ?_); refine box_event ?hg (N := 3) ?hd (cs := #[.int .i64 b.kd, .int .i64 b.sh, .int .i64 b.ep, .int .i64 b.cl, .int .i64 b.sq, .int .i64 b.nn, .int .i64 b.ve, .int .i64 b.li, .int .i64 b.ok, .int .i64 b.id, .slice Bv b.v.length dv, .int .i64 b.kk, .int .i64 b.er, .bool b.was, .slice Bh b.hits.length dh, .string b.text]) (t := 30) ?hr ?_; (case hd => rfl); (case hg => rfl); (case hr => first | (go_simp; done) | (go_simp; rfl)); intro gb hg w2 hbox hb; have HB2 := Aside0.mk (below_step HB1.out hb); have BA2 := Aside0.mk (blk_below BA1.out hb); have BB2 := Aside0.mk hbox; clear hg hbox hb) | ((with_reducible refine gate_dst (N := 9) rfl ?_); refine ev_load rfl 30 (.tmp 2) rfl _ rfl (fun w => by kernel_rfl) ga 0 rfl [.int .i64 a.kd, .int .i64 a.sh, .int .i64 a.ep, .int .i64 a.cl, .int .i64 a.sq, .int .i64 a.nn, .int .i64 a.ve, .int .i64 a.li, .int .i64 a.ok, .int .i64 a.id, .slice Av a.v.length cv, .int .i64 a.kk, .int .i64 a.er, .bool a.was, .slice Ah a.hits.length ch, .string a.text] (by kernel_rfl) (cells_all BA2.out) ?_) | (go_at_call 7; with_reducible refine (light_c a Av cv Ah ch _ (Kd.C_below HV.out HB2.out) HCV.out (Kd.C_below HH.out HB2.out) HCH.out _ HLA.out).mono ?_; rintro e w3 ⟨rfl, hb⟩; have HB3 := Aside0.mk (below_step HB2.out hb); have BA3 := Aside0.mk (blk_below BA2.out hb); have BB3 := Aside0.mk (blk_below BB2.out hb); have cz0 : w3.cell? ⟨gb, 0, none⟩ = some (.int .i64 b.kd) := (blk_cell BB3.out 0).trans rfl; have cz1 : w3.cell? ⟨gb, 1, none⟩ = some (.int .i64 b.sh) := (blk_cell BB3.out 1).trans rfl; have cz2 : w3.cell? ⟨gb, 2, none⟩ = some (.int .i64 b.ep) := (blk_cell BB3.out 2).trans rfl; have cz3 : w3.cell? ⟨gb, 3, none⟩ = some (.int .i64 b.cl) := (blk_cell BB3.out 3).trans rfl; have cz4 : w3.cell? ⟨gb, 4, none⟩ = some (.int .i64 b.sq) := (blk_cell BB3.out 4).trans rfl; have cz5 : w3.cell? ⟨gb, 5, none⟩ = some (.int .i64 b.nn) := (blk_cell BB3.out 5).trans rfl; have cz6 : w3.cell? ⟨gb, 6, none⟩ = some (.int .i64 b.ve) := (blk_cell BB3.out 6).trans rfl; have cz7 : w3.cell? ⟨gb, 7, none⟩ = some (.int .i64 b.li) := (blk_cell BB3.out 7).trans rfl; have cz8 : w3.cell? ⟨gb, 8, none⟩ = some (.int .i64 b.ok) := (blk_cell BB3.out 8).trans rfl; have cz9 : w3.cell? ⟨gb, 9, none⟩ = some (.int .i64 b.id) := (blk_cell BB3.out 9).trans rfl; have cz10 : w3.cell? ⟨gb, 10, none⟩ = some (.slice Bv b.v.length dv) := (blk_cell BB3.out 10).trans rfl; have cz11 : w3.cell? ⟨gb, 11, none⟩ = some (.int .i64 b.kk) := (blk_cell BB3.out 11).trans rfl; have cz12 : w3.cell? ⟨gb, 12, none⟩ = some (.int .i64 b.er) := (blk_cell BB3.out 12).trans rfl; have cz13 : w3.cell? ⟨gb, 13, none⟩ = some (.bool b.was) := (blk_cell BB3.out 13).trans rfl; have cz14 : w3.cell? ⟨gb, 14, none⟩ = some (.slice Bh b.hits.length dh) := (blk_cell BB3.out 14).trans rfl; have cz15 : w3.cell? ⟨gb, 15, none⟩ = some (.string b.text) := (blk_cell BB3.out 15).trans rfl; clear hb) | (go_at_call 7; with_reducible refine (light_c b Bv dv Bh dh _ (Kd.C_below HV'.out HB3.out) HCV'.out (Kd.C_below HH'.out HB3.out) HCH'.out _ HLB.out).mono ?_; rintro e w4 ⟨rfl, hb⟩; have HB4 := Aside0.mk (below_step HB3.out hb); have BA4 := Aside0.mk (blk_below BA3.out hb); have BB4 := Aside0.mk (blk_below BB3.out hb); clear hb) | (go_at_call 8; with_reducible refine (awake_c _ (LaidW.below HL.out HB4.out)).mono ?_; rintro e w6 ⟨rfl, hb⟩; have HB5 := Aside0.mk (below_step HB4.out hb); have BA5 := Aside0.mk (blk_below BA4.out hb); have BB5 := Aside0.mk (blk_below BB4.out hb); clear hb) | fail)
  go_ret
  exact ⟨rfl, HB5.out⟩
set_option maxHeartbeats 8000000 in
set_option maxRecDepth 100000 in
theorem apart_3 (a : Ms) (Av : Option Addr) (cv : Nat) (Ah : Option Addr) (ch : Nat) (b : Ms) (Bv : Option Addr) (dv : Nat) (Bh : Option Addr) (dh : Nat) (w : World) (hL : LaidW w) (hv : Kd.C (Kd.int .i64) w Av a.v.length a.v) (hcv : a.v.length ≤ cv) (hh : Kd.C k52 w Ah a.hits.length a.hits) (hch : a.hits.length ≤ ch) (hv' : Kd.C (Kd.int .i64) w Bv b.v.length b.v) (hcv' : b.v.length ≤ dv) (hh' : Kd.C k52 w Bh b.hits.length b.hits) (hch' : b.hits.length ≤ dh) (hla : lightB a = true) (hlb : lightB b = true) (hwa : wfM a) (hwb : wfM b) (S T : ByteArray) (e0 f0 : Int) (hpa : putV a = (S, e0)) (hpb : putV b = (T, f0)) (he : e0 = 1) :
    Calls Tryd.prog 4 #[.agg #[.int .i64 a.kd, .int .i64 a.sh, .int .i64 a.ep, .int .i64 a.cl, .int .i64 a.sq, .int .i64 a.nn, .int .i64 a.ve, .int .i64 a.li, .int .i64 a.ok, .int .i64 a.id, .slice Av a.v.length cv, .int .i64 a.kk, .int .i64 a.er, .bool a.was, .slice Ah a.hits.length ch, .string a.text], .agg #[.int .i64 b.kd, .int .i64 b.sh, .int .i64 b.ep, .int .i64 b.cl, .int .i64 b.sq, .int .i64 b.nn, .int .i64 b.ve, .int .i64 b.li, .int .i64 b.ok, .int .i64 b.id, .slice Bv b.v.length dv, .int .i64 b.kk, .int .i64 b.er, .bool b.was, .slice Bh b.hits.length dh, .string b.text]] w fun e w' => e = .returned (.bool true) ∧ Below w.heap.size w w' := by
  have HV := Aside0.mk hv
  have HH := Aside0.mk hh
  have HCV := Aside0.mk hcv
  have HCH := Aside0.mk hch
  have HV' := Aside0.mk hv'
  have HH' := Aside0.mk hh'
  have HCV' := Aside0.mk hcv'
  have HCH' := Aside0.mk hch'
  have HL := Aside0.mk hL
  have HLA := Aside0.mk hla
  have HLB := Aside0.mk hlb
  have HWA := Aside0.mk hwa
  have HWB := Aside0.mk hwb
  have HPA := Aside0.mk hpa
  have HPB := Aside0.mk hpb
  clear hv hh hcv hch hv' hh' hcv' hch' hL hla hlb hwa hwb hpa hpb
  subst he
  go_enter Tryd.func4, Tryd.ntmps4
  go_wp2_with (first | ((with_reducible refine gate_dst (N := 2) rfl ?_); refine box_event ?hg (N := 2) ?hd (cs := #[.int .i64 a.kd, .int .i64 a.sh, .int .i64 a.ep, .int .i64 a.cl, .int .i64 a.sq, .int .i64 a.nn, .int .i64 a.ve, .int .i64 a.li, .int .i64 a.ok, .int .i64 a.id, .slice Av a.v.length cv, .int .i64 a.kk, .int .i64 a.er, .bool a.was, .slice Ah a.hits.length ch, .string a.text]) (t := 30) ?hr ?_; (case hd => rfl); (case hg => rfl); (case hr => first | (go_simp; done) | (go_simp; rfl)); intro ga hg w1 hbox hb; have HB1 := Aside0.mk (below_step (Below.refl w.heap.size w) hb); have BA1 := Aside0.mk hbox; clear hg hbox hb) | ((with_reducible refine gate_dst (N := 3) rfl ?_); refine box_event ?hg (N := 3) ?hd (cs := #[.int .i64 b.kd, .int .i64 b.sh, .int .i64 b.ep, .int .i64 b.cl, .int .i64 b.sq, .int .i64 b.nn, .int .i64 b.ve, .int .i64 b.li, .int .i64 b.ok, .int .i64 b.id, .slice Bv b.v.length dv, .int .i64 b.kk, .int .i64 b.er, .bool b.was, .slice Bh b.hits.length dh, .string b.text]) (t := 30) ?hr ?_; (case hd => rfl); (case hg => rfl); (case hr => first | (go_simp; done) | (go_simp; rfl)); intro gb hg w2 hbox hb; have HB2 := Aside0.mk (below_step HB1.out hb); have BA2 := Aside0.mk (blk_below BA1.out hb); have BB2 := Aside0.mk hbox; clear hg hbox hb) | ((with_reducible refine gate_dst (N := 9) rfl ?_); refine ev_load rfl 30 (.tmp 2) rfl _ rfl (fun w => by kernel_rfl) ga 0 rfl [.int .i64 a.kd, .int .i64 a.sh, .int .i64 a.ep, .int .i64 a.cl, .int .i64 a.sq, .int .i64 a.nn, .int .i64 a.ve, .int .i64 a.li, .int .i64 a.ok, .int .i64 a.id, .slice Av a.v.length cv, .int .i64 a.kk, .int .i64 a.er, .bool a.was, .slice Ah a.hits.length ch, .string a.text] (by kernel_rfl) (cells_all BA2.out) ?_) | (go_at_call 7; with_reducible refine (light_c a Av cv Ah ch _ (Kd.C_below HV.out HB2.out) HCV.out (Kd.C_below HH.out HB2.out) HCH.out _ HLA.out).mono ?_; rintro e w3 ⟨rfl, hb⟩; have HB3 := Aside0.mk (below_step HB2.out hb); have BA3 := Aside0.mk (blk_below BA2.out hb); have BB3 := Aside0.mk (blk_below BB2.out hb); have cz0 : w3.cell? ⟨gb, 0, none⟩ = some (.int .i64 b.kd) := (blk_cell BB3.out 0).trans rfl; have cz1 : w3.cell? ⟨gb, 1, none⟩ = some (.int .i64 b.sh) := (blk_cell BB3.out 1).trans rfl; have cz2 : w3.cell? ⟨gb, 2, none⟩ = some (.int .i64 b.ep) := (blk_cell BB3.out 2).trans rfl; have cz3 : w3.cell? ⟨gb, 3, none⟩ = some (.int .i64 b.cl) := (blk_cell BB3.out 3).trans rfl; have cz4 : w3.cell? ⟨gb, 4, none⟩ = some (.int .i64 b.sq) := (blk_cell BB3.out 4).trans rfl; have cz5 : w3.cell? ⟨gb, 5, none⟩ = some (.int .i64 b.nn) := (blk_cell BB3.out 5).trans rfl; have cz6 : w3.cell? ⟨gb, 6, none⟩ = some (.int .i64 b.ve) := (blk_cell BB3.out 6).trans rfl; have cz7 : w3.cell? ⟨gb, 7, none⟩ = some (.int .i64 b.li) := (blk_cell BB3.out 7).trans rfl; have cz8 : w3.cell? ⟨gb, 8, none⟩ = some (.int .i64 b.ok) := (blk_cell BB3.out 8).trans rfl; have cz9 : w3.cell? ⟨gb, 9, none⟩ = some (.int .i64 b.id) := (blk_cell BB3.out 9).trans rfl; have cz10 : w3.cell? ⟨gb, 10, none⟩ = some (.slice Bv b.v.length dv) := (blk_cell BB3.out 10).trans rfl; have cz11 : w3.cell? ⟨gb, 11, none⟩ = some (.int .i64 b.kk) := (blk_cell BB3.out 11).trans rfl; have cz12 : w3.cell? ⟨gb, 12, none⟩ = some (.int .i64 b.er) := (blk_cell BB3.out 12).trans rfl; have cz13 : w3.cell? ⟨gb, 13, none⟩ = some (.bool b.was) := (blk_cell BB3.out 13).trans rfl; have cz14 : w3.cell? ⟨gb, 14, none⟩ = some (.slice Bh b.hits.length dh) := (blk_cell BB3.out 14).trans rfl; have cz15 : w3.cell? ⟨gb, 15, none⟩ = some (.string b.text) := (blk_cell BB3.out 15).trans rfl; clear hb) | (go_at_call 7; with_reducible refine (light_c b Bv dv Bh dh _ (Kd.C_below HV'.out HB3.out) HCV'.out (Kd.C_below HH'.out HB3.out) HCH'.out _ HLB.out).mono ?_; rintro e w4 ⟨rfl, hb⟩; have HB4 := Aside0.mk (below_step HB3.out hb); have BA4 := Aside0.mk (blk_below BA3.out hb); have BB4 := Aside0.mk (blk_below BB3.out hb); clear hb) | ((with_reducible refine gate_dst (N := 19) rfl ?_); refine ev_load rfl 30 (.tmp 2) rfl _ rfl (fun w => by kernel_rfl) ga 0 rfl [.int .i64 a.kd, .int .i64 a.sh, .int .i64 a.ep, .int .i64 a.cl, .int .i64 a.sq, .int .i64 a.nn, .int .i64 a.ve, .int .i64 a.li, .int .i64 a.ok, .int .i64 a.id, .slice Av a.v.length cv, .int .i64 a.kk, .int .i64 a.er, .bool a.was, .slice Ah a.hits.length ch, .string a.text] (by kernel_rfl) (cells_all BA4.out) ?_) | (go_at_call 9; with_reducible refine (put_c a Av cv Ah ch _ (LaidW.below HL.out HB4.out) (Kd.C_below HV.out HB4.out) HCV.out (Kd.C_below HH.out HB4.out) HCH.out HWA.out _ _ HPA.out).mono ?_; rintro e w5 ⟨rfl, hb⟩; have HB5 := Aside0.mk (below_step HB4.out hb); have BA5 := Aside0.mk (blk_below BA4.out hb); have BB5 := Aside0.mk (blk_below BB4.out hb); clear hb) | ((with_reducible refine gate_dst (N := 24) rfl ?_); refine ev_load rfl 30 (.tmp 3) rfl _ rfl (fun w => by kernel_rfl) gb 0 rfl [.int .i64 b.kd, .int .i64 b.sh, .int .i64 b.ep, .int .i64 b.cl, .int .i64 b.sq, .int .i64 b.nn, .int .i64 b.ve, .int .i64 b.li, .int .i64 b.ok, .int .i64 b.id, .slice Bv b.v.length dv, .int .i64 b.kk, .int .i64 b.er, .bool b.was, .slice Bh b.hits.length dh, .string b.text] (by kernel_rfl) (cells_all BB5.out) ?_) | (go_at_call 9; with_reducible refine (put_c b Bv dv Bh dh _ (LaidW.below HL.out HB5.out) (Kd.C_below HV'.out HB5.out) HCV'.out (Kd.C_below HH'.out HB5.out) HCH'.out HWB.out _ _ HPB.out).mono ?_; rintro e w6 ⟨rfl, hb⟩; have HB6 := Aside0.mk (below_step HB5.out hb); have BA6 := Aside0.mk (blk_below BA5.out hb); have BB6 := Aside0.mk (blk_below BB5.out hb); clear hb) | (go_at_call 8; with_reducible refine (awake_c _ (LaidW.below HL.out HB6.out)).mono ?_; rintro e w8 ⟨rfl, hb⟩; have HB7 := Aside0.mk (below_step HB6.out hb); have BA7 := Aside0.mk (blk_below BA6.out hb); have BB7 := Aside0.mk (blk_below BB6.out hb); clear hb) | fail)
  go_ret
  exact ⟨rfl, HB7.out⟩
set_option maxHeartbeats 8000000 in
set_option maxRecDepth 100000 in
theorem apart_4 (a : Ms) (Av : Option Addr) (cv : Nat) (Ah : Option Addr) (ch : Nat) (b : Ms) (Bv : Option Addr) (dv : Nat) (Bh : Option Addr) (dh : Nat) (w : World) (hL : LaidW w) (hv : Kd.C (Kd.int .i64) w Av a.v.length a.v) (hcv : a.v.length ≤ cv) (hh : Kd.C k52 w Ah a.hits.length a.hits) (hch : a.hits.length ≤ ch) (hv' : Kd.C (Kd.int .i64) w Bv b.v.length b.v) (hcv' : b.v.length ≤ dv) (hh' : Kd.C k52 w Bh b.hits.length b.hits) (hch' : b.hits.length ≤ dh) (hla : lightB a = true) (hlb : lightB b = true) (hwa : wfM a) (hwb : wfM b) (S T : ByteArray) (e0 f0 : Int) (hpa : putV a = (S, e0)) (hpb : putV b = (T, f0)) (he : e0 = 0) (hf : f0 = 1) :
    Calls Tryd.prog 4 #[.agg #[.int .i64 a.kd, .int .i64 a.sh, .int .i64 a.ep, .int .i64 a.cl, .int .i64 a.sq, .int .i64 a.nn, .int .i64 a.ve, .int .i64 a.li, .int .i64 a.ok, .int .i64 a.id, .slice Av a.v.length cv, .int .i64 a.kk, .int .i64 a.er, .bool a.was, .slice Ah a.hits.length ch, .string a.text], .agg #[.int .i64 b.kd, .int .i64 b.sh, .int .i64 b.ep, .int .i64 b.cl, .int .i64 b.sq, .int .i64 b.nn, .int .i64 b.ve, .int .i64 b.li, .int .i64 b.ok, .int .i64 b.id, .slice Bv b.v.length dv, .int .i64 b.kk, .int .i64 b.er, .bool b.was, .slice Bh b.hits.length dh, .string b.text]] w fun e w' => e = .returned (.bool true) ∧ Below w.heap.size w w' := by
  have HV := Aside0.mk hv
  have HH := Aside0.mk hh
  have HCV := Aside0.mk hcv
  have HCH := Aside0.mk hch
  have HV' := Aside0.mk hv'
  have HH' := Aside0.mk hh'
  have HCV' := Aside0.mk hcv'
  have HCH' := Aside0.mk hch'
  have HL := Aside0.mk hL
  have HLA := Aside0.mk hla
  have HLB := Aside0.mk hlb
  have HWA := Aside0.mk hwa
  have HWB := Aside0.mk hwb
  have HPA := Aside0.mk hpa
  have HPB := Aside0.mk hpb
  clear hv hh hcv hch hv' hh' hcv' hch' hL hla hlb hwa hwb hpa hpb
  subst he
  subst hf
  go_enter Tryd.func4, Tryd.ntmps4
  go_wp2_with (first | ((with_reducible refine gate_dst (N := 2) rfl ?_); refine box_event ?hg (N := 2) ?hd (cs := #[.int .i64 a.kd, .int .i64 a.sh, .int .i64 a.ep, .int .i64 a.cl, .int .i64 a.sq, .int .i64 a.nn, .int .i64 a.ve, .int .i64 a.li, .int .i64 a.ok, .int .i64 a.id, .slice Av a.v.length cv, .int .i64 a.kk, .int .i64 a.er, .bool a.was, .slice Ah a.hits.length ch, .string a.text]) (t := 30) ?hr ?_; (case hd => rfl); (case hg => rfl); (case hr => first | (go_simp; done) | (go_simp; rfl)); intro ga hg w1 hbox hb; have HB1 := Aside0.mk (below_step (Below.refl w.heap.size w) hb); have BA1 := Aside0.mk hbox; clear hg hbox hb) | ((with_reducible refine gate_dst (N := 3) rfl ?_); refine box_event ?hg (N := 3) ?hd (cs := #[.int .i64 b.kd, .int .i64 b.sh, .int .i64 b.ep, .int .i64 b.cl, .int .i64 b.sq, .int .i64 b.nn, .int .i64 b.ve, .int .i64 b.li, .int .i64 b.ok, .int .i64 b.id, .slice Bv b.v.length dv, .int .i64 b.kk, .int .i64 b.er, .bool b.was, .slice Bh b.hits.length dh, .string b.text]) (t := 30) ?hr ?_; (case hd => rfl); (case hg => rfl); (case hr => first | (go_simp; done) | (go_simp; rfl)); intro gb hg w2 hbox hb; have HB2 := Aside0.mk (below_step HB1.out hb); have BA2 := Aside0.mk (blk_below BA1.out hb); have BB2 := Aside0.mk hbox; clear hg hbox hb) | ((with_reducible refine gate_dst (N := 9) rfl ?_); refine ev_load rfl 30 (.tmp 2) rfl _ rfl (fun w => by kernel_rfl) ga 0 rfl [.int .i64 a.kd, .int .i64 a.sh, .int .i64 a.ep, .int .i64 a.cl, .int .i64 a.sq, .int .i64 a.nn, .int .i64 a.ve, .int .i64 a.li, .int .i64 a.ok, .int .i64 a.id, .slice Av a.v.length cv, .int .i64 a.kk, .int .i64 a.er, .bool a.was, .slice Ah a.hits.length ch, .string a.text] (by kernel_rfl) (cells_all BA2.out) ?_) | (go_at_call 7; with_reducible refine (light_c a Av cv Ah ch _ (Kd.C_below HV.out HB2.out) HCV.out (Kd.C_below HH.out HB2.out) HCH.out _ HLA.out).mono ?_; rintro e w3 ⟨rfl, hb⟩; have HB3 := Aside0.mk (below_step HB2.out hb); have BA3 := Aside0.mk (blk_below BA2.out hb); have BB3 := Aside0.mk (blk_below BB2.out hb); have cz0 : w3.cell? ⟨gb, 0, none⟩ = some (.int .i64 b.kd) := (blk_cell BB3.out 0).trans rfl; have cz1 : w3.cell? ⟨gb, 1, none⟩ = some (.int .i64 b.sh) := (blk_cell BB3.out 1).trans rfl; have cz2 : w3.cell? ⟨gb, 2, none⟩ = some (.int .i64 b.ep) := (blk_cell BB3.out 2).trans rfl; have cz3 : w3.cell? ⟨gb, 3, none⟩ = some (.int .i64 b.cl) := (blk_cell BB3.out 3).trans rfl; have cz4 : w3.cell? ⟨gb, 4, none⟩ = some (.int .i64 b.sq) := (blk_cell BB3.out 4).trans rfl; have cz5 : w3.cell? ⟨gb, 5, none⟩ = some (.int .i64 b.nn) := (blk_cell BB3.out 5).trans rfl; have cz6 : w3.cell? ⟨gb, 6, none⟩ = some (.int .i64 b.ve) := (blk_cell BB3.out 6).trans rfl; have cz7 : w3.cell? ⟨gb, 7, none⟩ = some (.int .i64 b.li) := (blk_cell BB3.out 7).trans rfl; have cz8 : w3.cell? ⟨gb, 8, none⟩ = some (.int .i64 b.ok) := (blk_cell BB3.out 8).trans rfl; have cz9 : w3.cell? ⟨gb, 9, none⟩ = some (.int .i64 b.id) := (blk_cell BB3.out 9).trans rfl; have cz10 : w3.cell? ⟨gb, 10, none⟩ = some (.slice Bv b.v.length dv) := (blk_cell BB3.out 10).trans rfl; have cz11 : w3.cell? ⟨gb, 11, none⟩ = some (.int .i64 b.kk) := (blk_cell BB3.out 11).trans rfl; have cz12 : w3.cell? ⟨gb, 12, none⟩ = some (.int .i64 b.er) := (blk_cell BB3.out 12).trans rfl; have cz13 : w3.cell? ⟨gb, 13, none⟩ = some (.bool b.was) := (blk_cell BB3.out 13).trans rfl; have cz14 : w3.cell? ⟨gb, 14, none⟩ = some (.slice Bh b.hits.length dh) := (blk_cell BB3.out 14).trans rfl; have cz15 : w3.cell? ⟨gb, 15, none⟩ = some (.string b.text) := (blk_cell BB3.out 15).trans rfl; clear hb) | (go_at_call 7; with_reducible refine (light_c b Bv dv Bh dh _ (Kd.C_below HV'.out HB3.out) HCV'.out (Kd.C_below HH'.out HB3.out) HCH'.out _ HLB.out).mono ?_; rintro e w4 ⟨rfl, hb⟩; have HB4 := Aside0.mk (below_step HB3.out hb); have BA4 := Aside0.mk (blk_below BA3.out hb); have BB4 := Aside0.mk (blk_below BB3.out hb); clear hb) | ((with_reducible refine gate_dst (N := 19) rfl ?_); refine ev_load rfl 30 (.tmp 2) rfl _ rfl (fun w => by kernel_rfl) ga 0 rfl [.int .i64 a.kd, .int .i64 a.sh, .int .i64 a.ep, .int .i64 a.cl, .int .i64 a.sq, .int .i64 a.nn, .int .i64 a.ve, .int .i64 a.li, .int .i64 a.ok, .int .i64 a.id, .slice Av a.v.length cv, .int .i64 a.kk, .int .i64 a.er, .bool a.was, .slice Ah a.hits.length ch, .string a.text] (by kernel_rfl) (cells_all BA4.out) ?_) | (go_at_call 9; with_reducible refine (put_c a Av cv Ah ch _ (LaidW.below HL.out HB4.out) (Kd.C_below HV.out HB4.out) HCV.out (Kd.C_below HH.out HB4.out) HCH.out HWA.out _ _ HPA.out).mono ?_; rintro e w5 ⟨rfl, hb⟩; have HB5 := Aside0.mk (below_step HB4.out hb); have BA5 := Aside0.mk (blk_below BA4.out hb); have BB5 := Aside0.mk (blk_below BB4.out hb); clear hb) | ((with_reducible refine gate_dst (N := 24) rfl ?_); refine ev_load rfl 30 (.tmp 3) rfl _ rfl (fun w => by kernel_rfl) gb 0 rfl [.int .i64 b.kd, .int .i64 b.sh, .int .i64 b.ep, .int .i64 b.cl, .int .i64 b.sq, .int .i64 b.nn, .int .i64 b.ve, .int .i64 b.li, .int .i64 b.ok, .int .i64 b.id, .slice Bv b.v.length dv, .int .i64 b.kk, .int .i64 b.er, .bool b.was, .slice Bh b.hits.length dh, .string b.text] (by kernel_rfl) (cells_all BB5.out) ?_) | (go_at_call 9; with_reducible refine (put_c b Bv dv Bh dh _ (LaidW.below HL.out HB5.out) (Kd.C_below HV'.out HB5.out) HCV'.out (Kd.C_below HH'.out HB5.out) HCH'.out HWB.out _ _ HPB.out).mono ?_; rintro e w6 ⟨rfl, hb⟩; have HB6 := Aside0.mk (below_step HB5.out hb); have BA6 := Aside0.mk (blk_below BA5.out hb); have BB6 := Aside0.mk (blk_below BB5.out hb); clear hb) | (go_at_call 8; with_reducible refine (awake_c _ (LaidW.below HL.out HB6.out)).mono ?_; rintro e w8 ⟨rfl, hb⟩; have HB7 := Aside0.mk (below_step HB6.out hb); have BA7 := Aside0.mk (blk_below BA6.out hb); have BB7 := Aside0.mk (blk_below BB6.out hb); clear hb) | fail)
  go_ret
  exact ⟨rfl, HB7.out⟩
set_option maxHeartbeats 8000000 in
set_option maxRecDepth 100000 in
theorem apart_5 (a : Ms) (Av : Option Addr) (cv : Nat) (Ah : Option Addr) (ch : Nat) (b : Ms) (Bv : Option Addr) (dv : Nat) (Bh : Option Addr) (dh : Nat) (w : World) (hL : LaidW w) (hv : Kd.C (Kd.int .i64) w Av a.v.length a.v) (hcv : a.v.length ≤ cv) (hh : Kd.C k52 w Ah a.hits.length a.hits) (hch : a.hits.length ≤ ch) (hv' : Kd.C (Kd.int .i64) w Bv b.v.length b.v) (hcv' : b.v.length ≤ dv) (hh' : Kd.C k52 w Bh b.hits.length b.hits) (hch' : b.hits.length ≤ dh) (hla : lightB a = true) (hlb : lightB b = true) (hwa : wfM a) (hwb : wfM b) (S T : ByteArray) (e0 f0 : Int) (hpa : putV a = (S, e0)) (hpb : putV b = (T, f0)) (he : e0 = 0) (hf : f0 = 0) (hs1 : a.v.length ≤ 1000000) (hs2 : a.hits.length ≤ 1000000) (r : Bool) (hr : r = true ↔ a = b) (hx : (S.toList == T.toList) = r) :
    Calls Tryd.prog 4 #[.agg #[.int .i64 a.kd, .int .i64 a.sh, .int .i64 a.ep, .int .i64 a.cl, .int .i64 a.sq, .int .i64 a.nn, .int .i64 a.ve, .int .i64 a.li, .int .i64 a.ok, .int .i64 a.id, .slice Av a.v.length cv, .int .i64 a.kk, .int .i64 a.er, .bool a.was, .slice Ah a.hits.length ch, .string a.text], .agg #[.int .i64 b.kd, .int .i64 b.sh, .int .i64 b.ep, .int .i64 b.cl, .int .i64 b.sq, .int .i64 b.nn, .int .i64 b.ve, .int .i64 b.li, .int .i64 b.ok, .int .i64 b.id, .slice Bv b.v.length dv, .int .i64 b.kk, .int .i64 b.er, .bool b.was, .slice Bh b.hits.length dh, .string b.text]] w fun e w' => e = .returned (.bool true) ∧ Below w.heap.size w w' := by
  have HV := Aside0.mk hv
  have HH := Aside0.mk hh
  have HCV := Aside0.mk hcv
  have HCH := Aside0.mk hch
  have HV' := Aside0.mk hv'
  have HH' := Aside0.mk hh'
  have HCV' := Aside0.mk hcv'
  have HCH' := Aside0.mk hch'
  have HL := Aside0.mk hL
  have HLA := Aside0.mk hla
  have HLB := Aside0.mk hlb
  have HWA := Aside0.mk hwa
  have HWB := Aside0.mk hwb
  have HPA := Aside0.mk hpa
  have HPB := Aside0.mk hpb
  have HS1 := Aside0.mk hs1
  have HS2 := Aside0.mk hs2
  have HR := Aside0.mk hr
  clear hv hh hcv hch hv' hh' hcv' hch' hL hla hlb hwa hwb hpa hpb hs1 hs2 hr
  subst he
  subst hf
  have hrr : (r == r) = true := by simp
  go_enter Tryd.func4, Tryd.ntmps4
  go_wp2_with (first | ((with_reducible refine gate_dst (N := 2) rfl ?_); refine box_event ?hg (N := 2) ?hd (cs := #[.int .i64 a.kd, .int .i64 a.sh, .int .i64 a.ep, .int .i64 a.cl, .int .i64 a.sq, .int .i64 a.nn, .int .i64 a.ve, .int .i64 a.li, .int .i64 a.ok, .int .i64 a.id, .slice Av a.v.length cv, .int .i64 a.kk, .int .i64 a.er, .bool a.was, .slice Ah a.hits.length ch, .string a.text]) (t := 30) ?hr ?_; (case hd => rfl); (case hg => rfl); (case hr => first | (go_simp; done) | (go_simp; rfl)); intro ga hg w1 hbox hb; have HB1 := Aside0.mk (below_step (Below.refl w.heap.size w) hb); have BA1 := Aside0.mk hbox; clear hg hbox hb) | ((with_reducible refine gate_dst (N := 3) rfl ?_); refine box_event ?hg (N := 3) ?hd (cs := #[.int .i64 b.kd, .int .i64 b.sh, .int .i64 b.ep, .int .i64 b.cl, .int .i64 b.sq, .int .i64 b.nn, .int .i64 b.ve, .int .i64 b.li, .int .i64 b.ok, .int .i64 b.id, .slice Bv b.v.length dv, .int .i64 b.kk, .int .i64 b.er, .bool b.was, .slice Bh b.hits.length dh, .string b.text]) (t := 30) ?hr ?_; (case hd => rfl); (case hg => rfl); (case hr => first | (go_simp; done) | (go_simp; rfl)); intro gb hg w2 hbox hb; have HB2 := Aside0.mk (below_step HB1.out hb); have BA2 := Aside0.mk (blk_below BA1.out hb); have BB2 := Aside0.mk hbox; clear hg hbox hb) | ((with_reducible refine gate_dst (N := 9) rfl ?_); refine ev_load rfl 30 (.tmp 2) rfl _ rfl (fun w => by kernel_rfl) ga 0 rfl [.int .i64 a.kd, .int .i64 a.sh, .int .i64 a.ep, .int .i64 a.cl, .int .i64 a.sq, .int .i64 a.nn, .int .i64 a.ve, .int .i64 a.li, .int .i64 a.ok, .int .i64 a.id, .slice Av a.v.length cv, .int .i64 a.kk, .int .i64 a.er, .bool a.was, .slice Ah a.hits.length ch, .string a.text] (by kernel_rfl) (cells_all BA2.out) ?_) | (go_at_call 7; with_reducible refine (light_c a Av cv Ah ch _ (Kd.C_below HV.out HB2.out) HCV.out (Kd.C_below HH.out HB2.out) HCH.out _ HLA.out).mono ?_; rintro e w3 ⟨rfl, hb⟩; have HB3 := Aside0.mk (below_step HB2.out hb); have BA3 := Aside0.mk (blk_below BA2.out hb); have BB3 := Aside0.mk (blk_below BB2.out hb); have cz0 : w3.cell? ⟨gb, 0, none⟩ = some (.int .i64 b.kd) := (blk_cell BB3.out 0).trans rfl; have cz1 : w3.cell? ⟨gb, 1, none⟩ = some (.int .i64 b.sh) := (blk_cell BB3.out 1).trans rfl; have cz2 : w3.cell? ⟨gb, 2, none⟩ = some (.int .i64 b.ep) := (blk_cell BB3.out 2).trans rfl; have cz3 : w3.cell? ⟨gb, 3, none⟩ = some (.int .i64 b.cl) := (blk_cell BB3.out 3).trans rfl; have cz4 : w3.cell? ⟨gb, 4, none⟩ = some (.int .i64 b.sq) := (blk_cell BB3.out 4).trans rfl; have cz5 : w3.cell? ⟨gb, 5, none⟩ = some (.int .i64 b.nn) := (blk_cell BB3.out 5).trans rfl; have cz6 : w3.cell? ⟨gb, 6, none⟩ = some (.int .i64 b.ve) := (blk_cell BB3.out 6).trans rfl; have cz7 : w3.cell? ⟨gb, 7, none⟩ = some (.int .i64 b.li) := (blk_cell BB3.out 7).trans rfl; have cz8 : w3.cell? ⟨gb, 8, none⟩ = some (.int .i64 b.ok) := (blk_cell BB3.out 8).trans rfl; have cz9 : w3.cell? ⟨gb, 9, none⟩ = some (.int .i64 b.id) := (blk_cell BB3.out 9).trans rfl; have cz10 : w3.cell? ⟨gb, 10, none⟩ = some (.slice Bv b.v.length dv) := (blk_cell BB3.out 10).trans rfl; have cz11 : w3.cell? ⟨gb, 11, none⟩ = some (.int .i64 b.kk) := (blk_cell BB3.out 11).trans rfl; have cz12 : w3.cell? ⟨gb, 12, none⟩ = some (.int .i64 b.er) := (blk_cell BB3.out 12).trans rfl; have cz13 : w3.cell? ⟨gb, 13, none⟩ = some (.bool b.was) := (blk_cell BB3.out 13).trans rfl; have cz14 : w3.cell? ⟨gb, 14, none⟩ = some (.slice Bh b.hits.length dh) := (blk_cell BB3.out 14).trans rfl; have cz15 : w3.cell? ⟨gb, 15, none⟩ = some (.string b.text) := (blk_cell BB3.out 15).trans rfl; clear hb) | (go_at_call 7; with_reducible refine (light_c b Bv dv Bh dh _ (Kd.C_below HV'.out HB3.out) HCV'.out (Kd.C_below HH'.out HB3.out) HCH'.out _ HLB.out).mono ?_; rintro e w4 ⟨rfl, hb⟩; have HB4 := Aside0.mk (below_step HB3.out hb); have BA4 := Aside0.mk (blk_below BA3.out hb); have BB4 := Aside0.mk (blk_below BB3.out hb); clear hb) | ((with_reducible refine gate_dst (N := 19) rfl ?_); refine ev_load rfl 30 (.tmp 2) rfl _ rfl (fun w => by kernel_rfl) ga 0 rfl [.int .i64 a.kd, .int .i64 a.sh, .int .i64 a.ep, .int .i64 a.cl, .int .i64 a.sq, .int .i64 a.nn, .int .i64 a.ve, .int .i64 a.li, .int .i64 a.ok, .int .i64 a.id, .slice Av a.v.length cv, .int .i64 a.kk, .int .i64 a.er, .bool a.was, .slice Ah a.hits.length ch, .string a.text] (by kernel_rfl) (cells_all BA4.out) ?_) | (go_at_call 9; with_reducible refine (put_c a Av cv Ah ch _ (LaidW.below HL.out HB4.out) (Kd.C_below HV.out HB4.out) HCV.out (Kd.C_below HH.out HB4.out) HCH.out HWA.out _ _ HPA.out).mono ?_; rintro e w5 ⟨rfl, hb⟩; have HB5 := Aside0.mk (below_step HB4.out hb); have BA5 := Aside0.mk (blk_below BA4.out hb); have BB5 := Aside0.mk (blk_below BB4.out hb); clear hb) | ((with_reducible refine gate_dst (N := 24) rfl ?_); refine ev_load rfl 30 (.tmp 3) rfl _ rfl (fun w => by kernel_rfl) gb 0 rfl [.int .i64 b.kd, .int .i64 b.sh, .int .i64 b.ep, .int .i64 b.cl, .int .i64 b.sq, .int .i64 b.nn, .int .i64 b.ve, .int .i64 b.li, .int .i64 b.ok, .int .i64 b.id, .slice Bv b.v.length dv, .int .i64 b.kk, .int .i64 b.er, .bool b.was, .slice Bh b.hits.length dh, .string b.text] (by kernel_rfl) (cells_all BB5.out) ?_) | (go_at_call 9; with_reducible refine (put_c b Bv dv Bh dh _ (LaidW.below HL.out HB5.out) (Kd.C_below HV'.out HB5.out) HCV'.out (Kd.C_below HH'.out HB5.out) HCH'.out HWB.out _ _ HPB.out).mono ?_; rintro e w6 ⟨rfl, hb⟩; have HB6 := Aside0.mk (below_step HB5.out hb); have BA6 := Aside0.mk (blk_below BA5.out hb); have BB6 := Aside0.mk (blk_below BB5.out hb); clear hb) | ((with_reducible refine gate_dst (N := 38) rfl ?_); refine ev_load rfl 30 (.tmp 2) rfl _ rfl (fun w => by kernel_rfl) ga 0 rfl [.int .i64 a.kd, .int .i64 a.sh, .int .i64 a.ep, .int .i64 a.cl, .int .i64 a.sq, .int .i64 a.nn, .int .i64 a.ve, .int .i64 a.li, .int .i64 a.ok, .int .i64 a.id, .slice Av a.v.length cv, .int .i64 a.kk, .int .i64 a.er, .bool a.was, .slice Ah a.hits.length ch, .string a.text] (by kernel_rfl) (cells_all BA6.out) ?_) | ((with_reducible refine gate_dst (N := 39) rfl ?_); refine ev_load rfl 30 (.tmp 3) rfl _ rfl (fun w => by kernel_rfl) gb 0 rfl [.int .i64 b.kd, .int .i64 b.sh, .int .i64 b.ep, .int .i64 b.cl, .int .i64 b.sq, .int .i64 b.nn, .int .i64 b.ve, .int .i64 b.li, .int .i64 b.ok, .int .i64 b.id, .slice Bv b.v.length dv, .int .i64 b.kk, .int .i64 b.er, .bool b.was, .slice Bh b.hits.length dh, .string b.text] (by kernel_rfl) (cells_all BB6.out) ?_) | (go_at_call 13; with_reducible refine (same_c a b Av cv Ah ch Bv dv Bh dh _ (Kd.C_below HV.out HB6.out) HCV.out (Kd.C_below HH.out HB6.out) HCH.out (Kd.C_below HV'.out HB6.out) HCV'.out (Kd.C_below HH'.out HB6.out) HCH'.out HS1.out HS2.out _ HR.out).mono ?_; rintro e w7 ⟨rfl, hb⟩; have HB7 := Aside0.mk (below_step HB6.out hb); have BA7 := Aside0.mk (blk_below BA6.out hb); have BB7 := Aside0.mk (blk_below BB6.out hb); clear hb) | (go_at_call 8; with_reducible refine (awake_c _ (LaidW.below HL.out HB7.out)).mono ?_; rintro e w9 ⟨rfl, hb⟩; have HB8 := Aside0.mk (below_step HB7.out hb); have BA8 := Aside0.mk (blk_below BA7.out hb); have BB8 := Aside0.mk (blk_below BB7.out hb); clear hb) | fail)
  go_ret
  exact ⟨rfl, HB8.out⟩
theorem msg_inj {a b : Ms} (ha : wfM a) (hb : wfM b) (h1 : mayB a = true) (h2 : mayB b = true) (h : msgT a = msgT b) : a = b := by
  have e1 := take_msg a ha h1
  rw [h, take_msg b hb h2] at e1
  have e := (Option.some.inj e1).symm
  cases a; cases b
  simp only [Prod.mk.injEq] at e
  obtain ⟨rfl, rfl, rfl, rfl, rfl, rfl, rfl, rfl, rfl, rfl, rfl, rfl, rfl, rfl, rfl, rfl, _⟩ := e
  rfl
theorem apart_small {m : Ms} (h : lightB m = true) : m.v.length ≤ 1000000 ∧ m.hits.length ≤ 1000000 := by
  simp [lightB] at h; omega
theorem PostApart_walk (a : Ms) (Av : Option Addr) (cv : Nat) (Ah : Option Addr) (ch : Nat) (b : Ms) (Bv : Option Addr) (dv : Nat) (Bh : Option Addr) (dh : Nat) (w : World) (hL : LaidW w) (hv : Kd.C (Kd.int .i64) w Av a.v.length a.v) (hcv : a.v.length ≤ cv) (hh : Kd.C k52 w Ah a.hits.length a.hits) (hch : a.hits.length ≤ ch) (hwa : wfM a) (hv' : Kd.C (Kd.int .i64) w Bv b.v.length b.v) (hcv' : b.v.length ≤ dv) (hh' : Kd.C k52 w Bh b.hits.length b.hits) (hch' : b.hits.length ≤ dh) (hwb : wfM b) :
    Calls Tryd.prog 4 #[.agg #[.int .i64 a.kd, .int .i64 a.sh, .int .i64 a.ep, .int .i64 a.cl, .int .i64 a.sq, .int .i64 a.nn, .int .i64 a.ve, .int .i64 a.li, .int .i64 a.ok, .int .i64 a.id, .slice Av a.v.length cv, .int .i64 a.kk, .int .i64 a.er, .bool a.was, .slice Ah a.hits.length ch, .string a.text], .agg #[.int .i64 b.kd, .int .i64 b.sh, .int .i64 b.ep, .int .i64 b.cl, .int .i64 b.sq, .int .i64 b.nn, .int .i64 b.ve, .int .i64 b.li, .int .i64 b.ok, .int .i64 b.id, .slice Bv b.v.length dv, .int .i64 b.kk, .int .i64 b.er, .bool b.was, .slice Bh b.hits.length dh, .string b.text]] w fun e w' => e = .returned (.bool true) ∧ Below w.heap.size w w' := by
  cases hla : lightB a
  · exact apart_1 a Av cv Ah ch b Bv dv Bh dh w hL hv hcv hh hch hv' hcv' hh' hch' hla
  · cases hlb : lightB b
    · exact apart_2 a Av cv Ah ch b Bv dv Bh dh w hL hv hcv hh hch hv' hcv' hh' hch' hla hlb
    · by_cases ha : mayB a = true
      · by_cases hb : mayB b = true
        · have hs := apart_small hla
          obtain ⟨r, hr⟩ : ∃ r : Bool, r = true ↔ a = b := by
            by_cases e : a = b
            · exact ⟨true, iff_of_true rfl e⟩
            · exact ⟨false, iff_of_false (by decide) e⟩
          refine apart_5 a Av cv Ah ch b Bv dv Bh dh w hL hv hcv hh hch hv' hcv' hh' hch' hla hlb hwa hwb _ _ _ _ (if_pos ha) (if_pos hb) rfl rfl hs.1 hs.2 r hr ?_
          refine Bool.eq_iff_iff.2 ?_
          rw [hr, toList_eq]
          exact ⟨fun e => msg_inj hwa hwb ha hb e, fun e => by rw [e]⟩
        · exact apart_4 a Av cv Ah ch b Bv dv Bh dh w hL hv hcv hh hch hv' hcv' hh' hch' hla hlb hwa hwb _ _ _ _ (if_pos ha) (if_neg hb) rfl rfl
      · obtain ⟨T, f0, hp⟩ : ∃ T f0, putV b = (T, f0) := ⟨_, _, rfl⟩
        exact apart_3 a Av cv Ah ch b Bv dv Bh dh w hL hv hcv hh hch hv' hcv' hh' hch' hla hlb hwa hwb _ _ _ _ (if_neg ha) hp rfl
end Go.Proofs.YtlggihnkhimfkaaDoor.Pure
