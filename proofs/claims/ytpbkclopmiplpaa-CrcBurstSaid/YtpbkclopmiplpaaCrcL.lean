/- The walks of three laws of the checksum. -/
import Derived.Test.YtpbkclopmiplpaaCrcX
namespace Go.Proofs.Ytpbkclopmiplpaa
open Go.RowKit

theorem crc_awake : ((crcSum [49, 50, 51, 52, 53, 54, 55, 56, 57] : Nat) : Int) = 2215682 := by decide +kernel

set_option maxHeartbeats 400000 in
theorem crcAwake_any (w : World) :
    Calls Try.prog 15 #[] w fun e w' => e = .returned (.bool true) ∧ Below w.heap.size w w' := by
  have H := veil crc_awake
  go_enter Try.func15, Try.ntmps15
  go_wp2_with fail
  refine (codeSum_any _ _ (by decide)).mono ?_
  rintro e w1 ⟨rfl, hb1⟩
  rw [show (((crcSum (ByteArray.data { data := #[49, 50, 51, 52, 53, 54, 55, 56, 57] }).toList : Nat) : Int)) = 2215682 from H.out]
  go_wp2
  go_ret
  exact ⟨rfl, hb1⟩

set_option maxHeartbeats 400000 in
theorem CrcSums_walk (s : ByteArray) (w : World) (hs : s.size ≤ 140737488351232) :
    Calls Try.prog 3 #[.string s] w fun e w' => e = .returned (.bool true) ∧ Below w.heap.size w w' := by
  by_cases h : 8192 < s.size
  · go_enter Try.func3, Try.ntmps3
    go_wp2_with fail
    refine (crcAwake_any _).mono ?_
    rintro e w1 ⟨rfl, hb1⟩
    go_wp2
    go_ret
    exact ⟨rfl, hb1⟩
  · go_enter Try.func3, Try.ntmps3
    go_wp2_with fail
    refine (codeSum_any _ _ hs).mono ?_
    rintro e w1 ⟨rfl, hb1⟩
    go_wp2_with fail
    refine (refSum_any _ _ hs).mono ?_
    rintro e w2 ⟨rfl, rfl⟩
    go_wp2_with fail
    refine (crcAwake_any _).mono ?_
    rintro e w3 ⟨rfl, hb3⟩
    go_wp2
    go_ret
    exact ⟨rfl, hb1.trans (hb3.mono hb1.size)⟩
end Go.Proofs.Ytpbkclopmiplpaa
