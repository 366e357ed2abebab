/- The walks of layer 5: whether numbers are a vector. -/
import Derived.Test.YtpbkclopmiplpaaProg
import Derived.Test.YtpbkclopmiplpaaInts
import Derived.WalkSpells
import Derived.WalkLawsBesides
namespace Go.Proofs.Ytpbkclopmiplpaa
open Go.RowKit

set_option maxHeartbeats 400000 in
theorem odd_any (x : Int) (w : World) (b : Bool) (hb : oddN x = b) :
    Calls Try.prog 55 #[.int .i64 x] w fun e w' => e = .returned (.bool b) ∧ w = w' := by
  unfold oddN at hb
  by_cases h1 : x < -2147483648
  · obtain rfl : b = true := by rw [← hb]; simp [h1]
    clear hb
    go_enter Try.func55, Try.ntmps55
    go_wp2
    go_ret
    exact ⟨rfl, rfl⟩
  · by_cases h2 : 2147483647 < x
    · obtain rfl : b = true := by rw [← hb]; simp [h2]
      clear hb
      go_enter Try.func55, Try.ntmps55
      go_wp2
      go_ret
      exact ⟨rfl, rfl⟩
    · obtain rfl : b = false := by rw [← hb]; simp [h1, h2]
      clear hb
      go_enter Try.func55, Try.ntmps55
      go_wp2
      go_ret
      exact ⟨rfl, rfl⟩

set_option maxHeartbeats 400000 in
theorem indexFunc_any (ao : Option Addr) (xs : List Int) (cap : Nat) (w : World) (hx : IntRow w ao xs) :
    Calls Try.prog 58 #[.slice ao xs.length cap, .func (.func 55) #[] #[]] w fun e w' => e = .returned (.int .i64 (oddAt xs)) ∧ w = w' := by
  have h8 := hx.1
  go_enter Try.func58, Try.ntmps58
  go_wp2
  go_loop [5, 8] (fun _ i => ∃ k : Nat, k ≤ xs.length ∧ i = .int .i64 k ∧ Veil (∀ i, i < k → oddN (xs.getD i 0) = false)) (fun _ i => xs.length - (intOf i).toNat)
  case atStart => exact ⟨0, Nat.zero_le _, rfl, veil (fun i hi => by omega)⟩
  case round =>
    obtain ⟨k, hk, rfl, Hk⟩ := hrel
    by_cases hlt : k < xs.length
    · obtain ⟨b, off, rfl, hb, hc⟩ := hx.open (by omega)
      have hcell := hc k hlt
      clear hc
      generalize hxk : xs.getD k 0 = x at *
      have Hx := veil hxk
      clear hxk
      by_cases ho : oddN x = true
      · have Ho := veil ho
        clear ho
        go_wp2_with fail
        refine (odd_any _ _ true Ho.out).mono ?_
        rintro e w' ⟨rfl, rfl⟩
        go_wp2
        go_ret
        exact ⟨ret_int (oddAt_hit xs k Hk.out hlt (by rw [Hx.out]; exact Ho.out)).symm, rfl⟩
      · have Ho : Veil (oddN x = false) := veil (by simpa using ho)
        clear ho
        go_wp2_with fail
        refine (odd_any _ _ false Ho.out).mono ?_
        rintro e w' ⟨rfl, rfl⟩
        go_wp2
        go_round
        case rel =>
          refine ⟨k + 1, by omega, by go_num, veil fun i hi => ?_⟩
          by_cases e : i = k
          · subst e; rw [Hx.out]; exact Ho.out
          · exact Hk.out i (by omega)
        case measure => simp [intOf]; omega
    · obtain rfl : k = xs.length := by omega
      clear hx
      go_wp2
      go_ret
      exact ⟨ret_int (oddAt_none xs Hk.out).symm, rfl⟩

set_option maxHeartbeats 400000 in
theorem containsFunc_any (ao : Option Addr) (xs : List Int) (cap : Nat) (w : World) (b : Bool) (hx : IntRow w ao xs) (hb : xs.any oddN = b) :
    Calls Try.prog 56 #[.slice ao xs.length cap, .func (.func 55) #[] #[]] w fun e w' => e = .returned (.bool b) ∧ w = w' := by
  have Hx := veil hx
  have Hb := veil ((oddAt_any xs).trans hb)
  clear hx hb
  go_enter Try.func56, Try.ntmps56
  go_wp2_with fail
  refine (indexFunc_any _ _ _ _ Hx.out).mono ?_
  rintro e w' ⟨rfl, rfl⟩
  go_wp2
  go_ret
  exact ⟨ret_bool Hb.out, rfl⟩

theorem isV_some {xs : List Int} (h0 : 0 < xs.length) (h1 : xs.length ≤ 16) : isV xs = !xs.any oddN := by simp [isV, h0, h1]
theorem isV_none {xs : List Int} (h : xs.length = 0 ∨ 16 < xs.length) : isV xs = false := by
  rcases h with h | h
  · simp [isV, h]
  · simp [isV, show ¬ xs.length ≤ 16 by omega]

set_option maxHeartbeats 400000 in
theorem is_any (ao : Option Addr) (xs : List Int) (cap : Nat) (w : World) (b : Bool) (hx : IntRow w ao xs) (hb : isV xs = b) :
    Calls Try.prog 43 #[.slice ao xs.length cap] w fun e w' => e = .returned (.bool b) ∧ w = w' := by
  have Hx := veil hx
  clear hx
  by_cases h0 : 0 < xs.length
  · by_cases h1 : xs.length ≤ 16
    · have Hb := veil ((isV_some h0 h1).symm.trans hb)
      clear hb
      go_enter Try.func43, Try.ntmps43
      go_wp2_with fail
      refine (containsFunc_any _ _ _ _ _ Hx.out rfl).mono ?_
      rintro e w' ⟨rfl, rfl⟩
      go_wp2
      go_ret
      exact ⟨ret_bool Hb.out, rfl⟩
    · obtain rfl : b = false := hb.symm.trans (isV_none (by omega))
      clear hb
      have h1' : 16 < xs.length := by omega
      go_enter Try.func43, Try.ntmps43
      go_wp2
      go_ret
      exact ⟨rfl, rfl⟩
  · obtain rfl : b = false := hb.symm.trans (isV_none (by omega))
    clear hb
    have h1' : xs.length = 0 := by omega
    go_enter Try.func43, Try.ntmps43
    go_wp2
    go_ret
    exact ⟨rfl, rfl⟩

set_option maxHeartbeats 400000 in
theorem check_any (ao : Option Addr) (xs : List Int) (cap : Nat) (d : Int) (w : World) (c : Int) (hx : IntRow w ao xs) (hc : (if isV xs = true ∧ (xs.length : Int) = d then 0 else 50) = c) :
    Calls Try.prog 20 #[.slice ao xs.length cap, .int .i64 d] w fun e w' => e = .returned (.int .i64 c) ∧ w = w' := by
  have Hx := veil hx
  clear hx
  by_cases h0 : isV xs = true
  · have H0 := veil h0
    by_cases h1 : (xs.length : Int) = d
    · obtain rfl : c = 0 := by rw [← hc, if_pos ⟨h0, h1⟩]
      have h1' : ((xs.length : Int) != d) = false := by simpa using h1
      clear hc h1 h0
      go_enter Try.func20, Try.ntmps20
      go_wp2_with fail
      refine (is_any _ _ _ _ true Hx.out H0.out).mono ?_
      rintro e w' ⟨rfl, rfl⟩
      go_wp2
      go_ret
      exact ⟨rfl, rfl⟩
    · obtain rfl : c = 50 := by rw [← hc, if_neg (fun h => h1 h.2)]
      have h1' : ((xs.length : Int) != d) = true := by simpa using h1
      clear hc h1 h0
      go_enter Try.func20, Try.ntmps20
      go_wp2_with fail
      refine (is_any _ _ _ _ true Hx.out H0.out).mono ?_
      rintro e w' ⟨rfl, rfl⟩
      go_wp2
      go_ret
      exact ⟨rfl, rfl⟩
  · obtain rfl : c = 50 := by rw [← hc, if_neg (fun h => h0 h.1)]
    have H0 : Veil (isV xs = false) := veil (by simpa using h0)
    clear hc h0
    go_enter Try.func20, Try.ntmps20
    go_wp2_with fail
    refine (is_any _ _ _ _ false Hx.out H0.out).mono ?_
    rintro e w' ⟨rfl, rfl⟩
    go_wp2
    go_ret
    exact ⟨rfl, rfl⟩
end Go.Proofs.Ytpbkclopmiplpaa
