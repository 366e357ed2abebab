/- The reference's reading of one rune is the decoder's. -/
import Derived.Test.YtnfjhfhdiknccaaDoorPx3
namespace Go.Proofs.YtnfjhfhdiknccaaDoor.Pure
open Go.RowKit Go.Lib Go.Proofs.YtnfjhfhdiknccaaDoor.Giv Go.Proofs.YtnfjhfhdiknccaaDoor.P Go.Proofs.YtnfjhfhdiknccaaDoorW.PrintWords Go.Proofs.YtnfjhfhdiknccaaDoorW.PrintLast

theorem some_bool {b c : Bool} (h : b = true ↔ c = true) : some b = some c := congrArg some (Bool.eq_iff_iff.2 h)
theorem is_spec (n : Int) : ploverref01_is.f n = some (okRune n) := by
  unfold ploverref01_is.f
  repeat' split
  all_goals (apply some_bool; rw [okRune_iff]; simp only [decide_eq_true_eq, Bool.false_eq_true, true_iff, false_iff]; omega)
def wideM (n : Int) : Int := if n ≤ 127 then 1 else if n ≤ 2047 then 2 else if n ≤ 65535 then 3 else 4
theorem wide_spec (n : Int) : ploverref01_wide.f n = some (wideM n) := by
  unfold ploverref01_wide.f wideM
  repeat' split
  all_goals rfl
theorem bt_list (a : ByteArray) (i : Nat) : bt a (i : Int) = ((a.data.toList.getD i 0).toNat : Int) := by
  unfold bt
  rw [Int.toNat_natCast]
  split
  · rename_i h
    have h' : i < a.data.toList.length := by rw [Array.length_toList]; exact h
    rw [List.getD_eq_getElem?_getD, List.getElem?_eq_getElem h', Option.getD_some]
    rfl
  · rename_i h
    have h' : a.data.toList.length ≤ i := by rw [Array.length_toList]; exact Nat.le_of_not_lt h
    rw [List.getD_eq_getElem?_getD, List.getElem?_eq_none h']
    rfl
theorem w64 {n : Int} (h0 : -9223372036854775808 ≤ n) (h1 : n ≤ 9223372036854775807) : wrap64 n = n := by unfold wrap64; omega

def endM (x5 x6 : Int) : Int × Int := if okRune x5 = true ∧ wideM x5 = x6 then (x5, x6) else (0, 0)
theorem l0_end (k : Nat) (a : ByteArray) (x5 x6 : Int) : ploverref01_take.l0 (k + 1) a x5 x6 x6 = some (endM x5 x6) := by
  simp only [ploverref01_take.l0]
  rw [if_neg (by omega), is_spec, Option.bind_some]
  unfold endM
  cases h : okRune x5
  · simp
  · rw [if_pos rfl, wide_spec, Option.bind_some]
    by_cases h2 : wideM x5 = x6
    · simp [h2]
    · simp [h2]
theorem l0_step (k : Nat) (a : ByteArray) (x5 x6 : Int) (i B : Nat) (hB : bt a (i : Int) = (B : Int)) (hB2 : B < 256) (h1 : (i : Int) < x6) (h2 : i < a.size) (h3 : 0 ≤ x5) (h4 : x5 ≤ 1000000) (h5 : i ≤ 10) :
    ploverref01_take.l0 (k + 1) a x5 x6 (i : Int) = if B < 128 ∨ 192 ≤ B then some (0, 0) else ploverref01_take.l0 k a (x5 * 64 + B - 128) x6 ((i + 1 : Nat) : Int) := by
  simp only [ploverref01_take.l0]
  rw [if_pos h1, if_pos (by omega), if_pos (by omega), hB, w64 (n := (B : Int)) (by omega) (by omega)]
  by_cases c1 : B < 128
  · rw [if_pos (by omega), if_pos (.inl c1)]
  · rw [if_neg (by omega)]
    by_cases c2 : 192 ≤ B
    · rw [if_pos (by omega), if_pos (.inr c2)]
    · rw [if_neg (by omega), if_neg (by omega), w64 (n := x5 * 64) (by omega) (by omega), w64 (n := x5 * 64 + B) (by omega) (by omega), w64 (n := x5 * 64 + B - 128) (by omega) (by omega), w64 (n := (i : Int) + 1) (by omega) (by omega)]
      rfl

def takeM (n b0 b1 b2 b3 : Nat) : Int × Int :=
  if (decodeN n b0 b1 b2 b3).1 = 65533 ∧ (decodeN n b0 b1 b2 b3).2 = 1 then (0, 0) else (((decodeN n b0 b1 b2 b3).1 : Int), ((decodeN n b0 b1 b2 b3).2 : Int))

theorem takeM_bad {n b0 b1 b2 b3 : Nat} (h : decodeN n b0 b1 b2 b3 = (65533, 1)) : takeM n b0 b1 b2 b3 = (0, 0) := by unfold takeM; rw [h]; rfl
theorem takeM_good {n b0 b1 b2 b3 x w : Nat} (h : decodeN n b0 b1 b2 b3 = (x, w)) (hw : x ≠ 65533 ∨ w ≠ 1) : takeM n b0 b1 b2 b3 = ((x : Int), (w : Int)) := by unfold takeM; rw [h]; rw [if_neg (by simp only; omega)]

theorem endM_eq {x5 x6 : Int} {n b0 b1 b2 b3 w x : Nat} (hx : x5 = (x : Int)) (hw : x6 = (w : Int)) (hw2 : 2 ≤ w) (hd : decodeN n b0 b1 b2 b3 = if okRune x5 = true ∧ wideM x5 = x6 then (x, w) else (65533, 1)) : endM x5 x6 = takeM n b0 b1 b2 b3 := by
  unfold endM
  split
  · rename_i h
    rw [if_pos h] at hd
    rw [takeM_good hd (by omega), hx, hw]
  · rename_i h
    rw [if_neg h] at hd
    rw [takeM_bad hd]

set_option maxHeartbeats 4000000 in
theorem take_spec (a : ByteArray) (h0 : 0 < a.size) (k : Nat) :
    ploverref01_take.f (k + 10) a = some (takeM a.size (a.data.toList.getD 0 0).toNat (a.data.toList.getD 1 0).toNat (a.data.toList.getD 2 0).toNat (a.data.toList.getD 3 0).toNat) := by
  have e0 := bt_list a 0
  have e1 := bt_list a 1
  have e2 := bt_list a 2
  have e3 := bt_list a 3
  have l0 := (a.data.toList.getD 0 0).toNat_lt
  have l1 := (a.data.toList.getD 1 0).toNat_lt
  have l2 := (a.data.toList.getD 2 0).toNat_lt
  have l3 := (a.data.toList.getD 3 0).toNat_lt
  generalize (a.data.toList.getD 0 0).toNat = b0 at *
  generalize (a.data.toList.getD 1 0).toNat = b1 at *
  generalize (a.data.toList.getD 2 0).toNat = b2 at *
  generalize (a.data.toList.getD 3 0).toNat = b3 at *
  have e0' : bt a 0 = (b0 : Int) := e0
  unfold ploverref01_take.f
  rw [if_pos (by omega), e0', w64 (n := (b0 : Int)) (by omega) (by omega)]
  by_cases c0 : b0 < 128
  · rw [if_neg (by omega)]
    simp only [ploverref01_take.j0]
    rw [if_neg (by decide), if_neg (by omega)]
    simp only [ploverref01_take.j1]
    rw [if_neg (by decide), if_neg (by omega)]
    simp only [ploverref01_take.j2]
    rw [if_neg (by decide), if_neg (by omega)]
    simp only [ploverref01_take.j3]
    rw [if_neg (by omega), l0_end]
    have hd : decodeN a.size b0 b1 b2 b3 = (b0, 1) := by unfold decodeN; rw [if_pos c0]
    rw [takeM_good hd (by omega)]
    unfold endM
    rw [if_pos ⟨okRune_iff.2 (by omega), by unfold wideM; rw [if_pos (by omega)]⟩]
    rfl
  · by_cases c1 : b0 < 192
    · rw [if_neg (by omega)]
      simp only [ploverref01_take.j0]
      rw [if_neg (by decide), if_neg (by omega)]
      simp only [ploverref01_take.j1]
      rw [if_neg (by decide), if_neg (by omega)]
      simp only [ploverref01_take.j2]
      rw [if_neg (by decide), if_pos (by omega)]
      have hd : decodeN a.size b0 b1 b2 b3 = (65533, 1) := by unfold decodeN; rw [if_neg (by omega), if_neg (by omega), if_neg (by omega), if_neg (by omega)]
      rw [takeM_bad hd]
    · by_cases c2 : b0 < 224
      · rw [if_neg (by omega)]
        simp only [ploverref01_take.j0]
        rw [if_neg (by decide), if_neg (by omega)]
        simp only [ploverref01_take.j1]
        rw [if_neg (by decide), if_pos (by omega)]
        simp only [ploverref01_take.j2]
        rw [if_pos (decide_eq_true (by omega)), w64 (n := (b0 : Int) - 192) (by omega) (by omega)]
        simp only [ploverref01_take.j3]
        by_cases s : a.size < 2
        · rw [if_pos (by omega)]
          have hd : decodeN a.size b0 b1 b2 b3 = (65533, 1) := by unfold decodeN; rw [if_neg (by omega), if_neg (by omega), if_neg (by omega), if_neg (by omega)]
          rw [takeM_bad hd]
        · rw [if_neg (by omega), show (1 : Int) = ((1 : Nat) : Int) from rfl, l0_step _ _ _ _ 1 b1 e1 (by omega) (by omega) (by omega) (by omega) (by omega) (by omega)]
          by_cases d1 : b1 < 128 ∨ 192 ≤ b1
          · rw [if_pos d1]
            have hd : decodeN a.size b0 b1 b2 b3 = (65533, 1) := by unfold decodeN; rw [if_neg (by omega), if_neg (by omega), if_neg (by omega), if_neg (by omega)]
            rw [takeM_bad hd]
          · rw [if_neg d1, show ((1 + 1 : Nat) : Int) = 2 from rfl, l0_end]
            refine congrArg some (endM_eq (x := b0 % 32 * 64 + b1 % 64) (w := 2) (by omega) rfl (by omega) ?_)
            unfold decodeN
            rw [if_neg (by omega), if_pos (by omega)]
            by_cases q : b0 % 32 * 64 + b1 % 64 ≥ 128
            · rw [if_pos q, if_pos ⟨okRune_iff.2 (by omega), by unfold wideM; rw [if_neg (by omega), if_pos (by omega)]⟩]
            · rw [if_neg q, if_neg]
              rintro ⟨_, h⟩
              unfold wideM at h
              rw [if_pos (by omega)] at h
              omega
      · by_cases c3 : b0 < 240
        · rw [if_neg (by omega)]
          simp only [ploverref01_take.j0]
          rw [if_neg (by decide), if_pos (by omega)]
          simp only [ploverref01_take.j1]
          rw [if_pos (decide_eq_true (by omega)), w64 (n := (b0 : Int) - 224) (by omega) (by omega)]
          simp only [ploverref01_take.j3]
          by_cases s : a.size < 3
          · rw [if_pos (by omega)]
            have hd : decodeN a.size b0 b1 b2 b3 = (65533, 1) := by unfold decodeN; rw [if_neg (by omega), if_neg (by omega), if_neg (by omega), if_neg (by omega)]
            rw [takeM_bad hd]
          · rw [if_neg (by omega), show (1 : Int) = ((1 : Nat) : Int) from rfl, l0_step _ _ _ _ 1 b1 e1 (by omega) (by omega) (by omega) (by omega) (by omega) (by omega)]
            by_cases d1 : b1 < 128 ∨ 192 ≤ b1
            · rw [if_pos d1]
              have hd : decodeN a.size b0 b1 b2 b3 = (65533, 1) := by unfold decodeN; rw [if_neg (by omega), if_neg (by omega), if_neg (by omega), if_neg (by omega)]
              rw [takeM_bad hd]
            · rw [if_neg d1, l0_step _ _ _ _ (1 + 1) b2 e2 (by omega) (by omega) (by omega) (by omega) (by omega) (by omega)]
              by_cases d2 : b2 < 128 ∨ 192 ≤ b2
              · rw [if_pos d2]
                have hd : decodeN a.size b0 b1 b2 b3 = (65533, 1) := by unfold decodeN; rw [if_neg (by omega), if_neg (by omega), if_neg (by omega), if_neg (by omega)]
                rw [takeM_bad hd]
              · rw [if_neg d2, show ((1 + 1 + 1 : Nat) : Int) = 3 from rfl, l0_end]
                refine congrArg some (endM_eq (x := b0 % 16 * 4096 + b1 % 64 * 64 + b2 % 64) (w := 3) (by omega) rfl (by omega) ?_)
                unfold decodeN
                rw [if_neg (by omega), if_neg (by omega), if_pos (by omega)]
                by_cases q : b0 % 16 * 4096 + b1 % 64 * 64 + b2 % 64 ≥ 2048 ∧ (b0 % 16 * 4096 + b1 % 64 * 64 + b2 % 64 < 55296 ∨ (57344 ≤ b0 % 16 * 4096 + b1 % 64 * 64 + b2 % 64 ∧ b0 % 16 * 4096 + b1 % 64 * 64 + b2 % 64 ≤ 1114111))
                · rw [if_pos q, if_pos ⟨okRune_iff.2 (by omega), by unfold wideM; rw [if_neg (by omega), if_neg (by omega), if_pos (by omega)]⟩]
                · rw [if_neg q, if_neg]
                  rintro ⟨g, h⟩
                  have g := okRune_iff.1 g
                  unfold wideM at h
                  split at h
                  · omega
                  · split at h <;> omega
        · by_cases c4 : b0 < 248
          · rw [if_pos (by omega)]
            simp only [ploverref01_take.j0]
            rw [if_pos (decide_eq_true (by omega)), w64 (n := (b0 : Int) - 240) (by omega) (by omega)]
            simp only [ploverref01_take.j3]
            by_cases s : a.size < 4
            · rw [if_pos (by omega)]
              have hd : decodeN a.size b0 b1 b2 b3 = (65533, 1) := by unfold decodeN; rw [if_neg (by omega), if_neg (by omega), if_neg (by omega), if_neg (by omega)]
              rw [takeM_bad hd]
            · rw [if_neg (by omega), show (1 : Int) = ((1 : Nat) : Int) from rfl, l0_step _ _ _ _ 1 b1 e1 (by omega) (by omega) (by omega) (by omega) (by omega) (by omega)]
              by_cases d1 : b1 < 128 ∨ 192 ≤ b1
              · rw [if_pos d1]
                have hd : decodeN a.size b0 b1 b2 b3 = (65533, 1) := by unfold decodeN; rw [if_neg (by omega), if_neg (by omega), if_neg (by omega), if_neg (by omega)]
                rw [takeM_bad hd]
              · rw [if_neg d1, l0_step _ _ _ _ (1 + 1) b2 e2 (by omega) (by omega) (by omega) (by omega) (by omega) (by omega)]
                by_cases d2 : b2 < 128 ∨ 192 ≤ b2
                · rw [if_pos d2]
                  have hd : decodeN a.size b0 b1 b2 b3 = (65533, 1) := by unfold decodeN; rw [if_neg (by omega), if_neg (by omega), if_neg (by omega), if_neg (by omega)]
                  rw [takeM_bad hd]
                · rw [if_neg d2, l0_step _ _ _ _ (1 + 1 + 1) b3 e3 (by omega) (by omega) (by omega) (by omega) (by omega) (by omega)]
                  by_cases d3 : b3 < 128 ∨ 192 ≤ b3
                  · rw [if_pos d3]
                    have hd : decodeN a.size b0 b1 b2 b3 = (65533, 1) := by unfold decodeN; rw [if_neg (by omega), if_neg (by omega), if_neg (by omega), if_neg (by omega)]
                    rw [takeM_bad hd]
                  · rw [if_neg d3, show ((1 + 1 + 1 + 1 : Nat) : Int) = 4 from rfl, l0_end]
                    refine congrArg some (endM_eq (x := b0 % 8 * 262144 + b1 % 64 * 4096 + b2 % 64 * 64 + b3 % 64) (w := 4) (by omega) rfl (by omega) ?_)
                    unfold decodeN
                    rw [if_neg (by omega), if_neg (by omega), if_neg (by omega), if_pos (by omega)]
                    by_cases q : b0 % 8 * 262144 + b1 % 64 * 4096 + b2 % 64 * 64 + b3 % 64 ≥ 65536 ∧ (b0 % 8 * 262144 + b1 % 64 * 4096 + b2 % 64 * 64 + b3 % 64 < 55296 ∨ (57344 ≤ b0 % 8 * 262144 + b1 % 64 * 4096 + b2 % 64 * 64 + b3 % 64 ∧ b0 % 8 * 262144 + b1 % 64 * 4096 + b2 % 64 * 64 + b3 % 64 ≤ 1114111))
                    · rw [if_pos q, if_pos ⟨okRune_iff.2 (by omega), by unfold wideM; rw [if_neg (by omega), if_neg (by omega), if_neg (by omega)]⟩]
                    · rw [if_neg q, if_neg]
                      rintro ⟨g, h⟩
                      have g := okRune_iff.1 g
                      unfold wideM at h
                      split at h
                      · omega
                      · split at h
                        · omega
                        · split at h <;> omega
          · rw [if_pos (by omega)]
            simp only [ploverref01_take.j0]
            rw [if_neg (by simp; omega), if_pos (by omega)]
            simp only [ploverref01_take.j1]
            rw [if_neg (by simp; omega), if_pos (by omega)]
            simp only [ploverref01_take.j2]
            rw [if_neg (by simp; omega), if_pos (by omega)]
            have hd : decodeN a.size b0 b1 b2 b3 = (65533, 1) := by unfold decodeN; rw [if_neg (by omega), if_neg (by omega), if_neg (by omega), if_neg (by omega)]
            rw [takeM_bad hd]
end Go.Proofs.YtnfjhfhdiknccaaDoor.Pure
