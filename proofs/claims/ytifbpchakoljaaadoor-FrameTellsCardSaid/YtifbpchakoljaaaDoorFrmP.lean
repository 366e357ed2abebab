/- The plain law of frames: a frame that is put is taken back; a frame that is taken is the one that would be put. -/
import Derived.Test.YtifbpchakoljaaaDoorFrmA
import Derived.Lib.SmallJoins
namespace Go.Proofs.YtifbpchakoljaaaDoor.Giv
open Go.RowKit Go.Lib Go.Proofs.YtifbpchakoljaaaDoor.Hx Go.Proofs.YtifbpchakoljaaaDoorW.PrintWords
set_option linter.unusedVariables false
set_option linter.unusedSimpArgs false

def hx (n : Nat) : ByteArray := ⟨(hexL n 6).toArray⟩
def putF (s : ByteArray) : ByteArray := (((hx s.size ++ hx (crcSum s.data.toList)) ++ (⟨#[124]⟩ : ByteArray)) ++ s) ++ (⟨#[10]⟩ : ByteArray)
theorem data_app (a b : ByteArray) : (a ++ b).data.toList = a.data.toList ++ b.data.toList := by
  rw [ByteArray.data_append, Array.toList_append]
theorem data_ext {a b : ByteArray} (h : a.data.toList = b.data.toList) : a = b := by
  cases a; cases b
  simp at h
  rw [h]
theorem data_extract (a : ByteArray) (i j : Nat) : (a.extract i j).data.toList = (a.data.toList.take j).drop i := by
  rw [ByteArray.data_extract, Array.toList_extract, List.extract_eq_take_drop, List.drop_take]
theorem hx_data (n : Nat) : (hx n).data.toList = hexL n 6 := rfl
theorem hx_size (n : Nat) : (hx n).size = 6 := by simp [hx, hexL, ByteArray.size]
theorem hexL_len (n : Nat) : (hexL n 6).length = 6 := by simp [hexL]
theorem putF_data (s : ByteArray) : (putF s).data.toList = hexL s.size 6 ++ (hexL (crcSum s.data.toList) 6 ++ (124 :: (s.data.toList ++ [10]))) := by
  unfold putF
  rw [data_app, data_app, data_app, data_app, hx_data, hx_data]
  simp
theorem putF_size (s : ByteArray) : (putF s).size = s.size + 14 := by
  rw [← list_size, putF_data]
  simp [hexL_len, list_size]
  omega
theorem bt_data (s : ByteArray) (i : Nat) : bt s (i : Int) = ((s.data.toList.getD i 0).toNat : Int) := by
  unfold bt
  rw [Int.toNat_natCast]
  split
  · rename_i h
    have h' : i < s.data.toList.length := by rw [list_size]; exact h
    rw [List.getD_eq_getElem?_getD, List.getElem?_eq_getElem h', Option.getD_some]
    rfl
  · rename_i h
    have h' : s.data.toList.length ≤ i := by rw [list_size]; exact Nat.le_of_not_lt h
    rw [List.getD_eq_getElem?_getD, List.getElem?_eq_none h']
    rfl
theorem unhex_hx {n : Nat} (h : n < 16777216) : unhexF (hx n) = ((n : Int), 0) := by
  unfold unhexF
  rw [if_pos (hx_size n), hx_data, hexL_fold n h]
/-- what is put is taken back, whatever stands behind -/
theorem take_put (s tail : ByteArray) (hs : s.size ≤ 262144) : takeF (putF s ++ tail) = (s, ((putF s).size : Int), 0) := by
  have hc := crcSum_lt s.data.toList
  generalize hcs : crcSum s.data.toList = c at hc
  have hd : (putF s ++ tail).data.toList = hexL s.size 6 ++ (hexL c 6 ++ (124 :: (s.data.toList ++ (10 :: tail.data.toList)))) := by
    rw [data_app, putF_data, hcs]; simp
  have hsz : (putF s ++ tail).size = s.size + 14 + tail.size := by rw [ByteArray.size_append, putF_size]
  have e1 : (putF s ++ tail).extract 0 6 = hx s.size := data_ext (by rw [data_extract, hd, List.take_left' (hexL_len _)]; rfl)
  have e2 : (putF s ++ tail).extract 6 12 = hx c := data_ext (by
    rw [data_extract, hd, ← List.append_assoc, List.take_left' (by simp [hexL_len]), List.drop_left' (hexL_len _)]; rfl)
  have e3 : bt (putF s ++ tail) 12 = 124 := by
    have := bt_data (putF s ++ tail) 12
    rw [hd, ← List.append_assoc, List.getD_eq_getElem?_getD, List.getElem?_append_right (by simp [hexL_len])] at this
    simpa [hexL_len] using this
  have e4 : ((putF s ++ tail).extract 13 (putF s ++ tail).size).data.toList = s.data.toList ++ (10 :: tail.data.toList) := by
    rw [data_extract, hd, List.take_of_length_le (by rw [hsz]; simp [hexL_len, list_size]; omega)]
    rw [show hexL s.size 6 ++ (hexL c 6 ++ 124 :: (s.data.toList ++ 10 :: tail.data.toList)) = (hexL s.size 6 ++ hexL c 6 ++ [124]) ++ (s.data.toList ++ 10 :: tail.data.toList) by simp]
    rw [List.drop_left' (by simp [hexL_len])]
  unfold takeF
  rw [if_neg (by omega), e1, e2, e3, unhex_hx (by omega), unhex_hx hc, if_pos ⟨rfl, rfl, by simpa using (by omega : (s.size : Int) ≤ 262144), rfl⟩]
  generalize (putF s ++ tail).extract 13 (putF s ++ tail).size = rest at e4
  have hr : rest.size = s.size + 1 + tail.size := by rw [← list_size, e4]; simp [list_size]; omega
  have hb : bt rest (s.size : Int) = 10 := by
    rw [bt_data, e4, List.getD_eq_getElem?_getD, List.getElem?_append_right (by rw [list_size]; omega)]
    simp [list_size]
  have hx0 : rest.extract 0 s.size = s := data_ext (by rw [data_extract, e4, List.take_left' (list_size s)]; rfl)
  show restT rest (s.size : Int) (c : Int) = _
  unfold restT
  rw [if_neg (by omega), hb, if_neg (by simp), Int.toNat_natCast, hx0, hcs, if_neg (by simp), putF_size]
  congr 2
  omega
set_option maxHeartbeats 4000000 in
/-- what is taken is the frame of its text -/
theorem put_take {s : ByteArray} (h : (takeF s).2.2 = 0) : (takeF s).1.size ≤ 262144 ∧ ((takeF s).2.1 = ((takeF s).1.size : Int) + 14) ∧ (takeF s).1.size + 14 ≤ s.size ∧ s.data.toList.take ((takeF s).1.size + 14) = (putF (takeF s).1).data.toList := by
  unfold takeF at h
  have hT : takeF s = takeF s := rfl
  conv at hT => rhs; unfold takeF
  split at h
  · cases h
  · rename_i h13
    rw [if_neg h13] at hT
    split at h
    · rename_i hc
      rw [if_pos hc] at hT
      obtain ⟨c1, c2, c3, c4⟩ := hc
      rcases unhex_cases (s.extract 0 6) with e | ⟨n, hn, e⟩
      · rw [e] at c1; cases c1
      · rcases unhex_cases (s.extract 6 12) with e' | ⟨c, hcc, e'⟩
        · rw [e'] at c2; cases c2
        · rw [e, e'] at h hT
          rw [e] at c3
          obtain ⟨h1, h2, h3, h4⟩ := restT_used (by simp) h
          have hh : takeF s = ((s.extract 13 s.size).extract 0 n, 13 + (n : Int) + 1, 0) := hT.trans h2
          simp only [Int.toNat_natCast] at h1 h3 h4 c3
          have hsz : (s.extract 13 s.size).size = s.size - 13 := by rw [ByteArray.size_extract]; omega
          have hts : ((s.extract 13 s.size).extract 0 n).size = n := by rw [ByteArray.size_extract, hsz]; omega
          rw [hh]
          simp only [hts]
          have u1 := fold_hexL (s.extract 0 6).data.toList (by rw [list_size, ByteArray.size_extract]; omega)
          have u2 := fold_hexL (s.extract 6 12).data.toList (by rw [list_size, ByteArray.size_extract]; omega)
          have v1 : hexFold 0 (s.extract 0 6).data.toList = some n := by
            unfold unhexF at e
            rw [if_pos (by rw [ByteArray.size_extract]; omega)] at e
            cases hx : hexFold 0 (s.extract 0 6).data.toList with
            | none => rw [hx] at e; simp at e
            | some N => rw [hx] at e; simp at e; congr 1; omega
          have v2 : hexFold 0 (s.extract 6 12).data.toList = some c := by
            unfold unhexF at e'
            rw [if_pos (by rw [ByteArray.size_extract]; omega)] at e'
            cases hx : hexFold 0 (s.extract 6 12).data.toList with
            | none => rw [hx] at e'; simp at e'
            | some N => rw [hx] at e'; simp at e'; congr 1; omega
          have w1 := (u1 n v1).2
          have w2 := (u2 c v2).2
          refine ⟨by omega, by omega, by omega, ?_⟩
          rw [putF_data, hts]
          have h4' : crcSum ((s.extract 13 s.size).extract 0 n).data.toList = c := by omega
          rw [h4', ← w1, ← w2]
          simp only [data_extract]
          have hlen := list_size s
          have c4' : (s.data.toList.getD 12 0).toNat = 124 := by
            have := bt_data s 12
            rw [show ((12 : Nat) : Int) = 12 from rfl, c4] at this
            omega
          have h3' : (s.data.toList.getD (13 + n) 0).toNat = 10 := by
            have := bt_data (s.extract 13 s.size) n
            rw [h3, data_extract, List.take_of_length_le (by omega), List.getD_eq_getElem?_getD, List.getElem?_drop, ← List.getD_eq_getElem?_getD] at this
            omega
          generalize s.data.toList = l at *
          have z1 : l.getD 12 0 = 124 := UInt8.toNat_inj.1 c4'
          have z2 : l.getD (13 + n) 0 = 10 := UInt8.toNat_inj.1 h3'
          rw [List.take_of_length_le (show l.length ≤ s.size by omega)]
          apply List.ext_getElem?
          intro i
          have hn2 : 13 + n < l.length := by omega
          have t1 : ((l.take 6).drop 0).length = 6 := by simp; omega
          have t2 : ((l.take 12).drop 6).length = 6 := by simp; omega
          have t3 : (((l.drop 13).take n).drop 0).length = n := by simp; omega
          by_cases i1 : i < n + 14
          · rw [List.getElem?_take_of_lt i1]
            by_cases i2 : i < 6
            · rw [List.getElem?_append_left (by omega), List.drop_zero, List.getElem?_take_of_lt i2]
            · rw [List.getElem?_append_right (by omega), t1]
              by_cases i3 : i < 12
              · rw [List.getElem?_append_left (by omega), List.getElem?_drop, List.getElem?_take_of_lt (by omega)]
                congr 1; omega
              · rw [List.getElem?_append_right (by omega), t2]
                by_cases i4 : i = 12
                · subst i4
                  simp only [Nat.sub_self, show 12 - 6 - 6 = 0 from rfl, List.getElem?_cons_zero]
                  rw [List.getD_eq_getElem?_getD, List.getElem?_eq_getElem (by omega), Option.getD_some] at z1
                  rw [List.getElem?_eq_getElem (by omega), z1]
                · rw [show i - 6 - 6 = (i - 13) + 1 by omega, List.getElem?_cons_succ]
                  by_cases i5 : i < 13 + n
                  · rw [List.getElem?_append_left (by omega), List.drop_zero, List.getElem?_take_of_lt (by omega), List.getElem?_drop]
                    congr 1; omega
                  · obtain rfl : i = 13 + n := by omega
                    rw [List.getElem?_append_right (by omega), t3, show 13 + n - 13 - n = 0 by omega, List.getElem?_cons_zero]
                    rw [List.getD_eq_getElem?_getD, List.getElem?_eq_getElem (by omega), Option.getD_some] at z2
                    rw [List.getElem?_eq_getElem (by omega), z2]
          · rw [List.getElem?_eq_none (by simp; omega), List.getElem?_eq_none (by simp; omega)]
    · cases h
end Go.Proofs.YtifbpchakoljaaaDoor.Giv
