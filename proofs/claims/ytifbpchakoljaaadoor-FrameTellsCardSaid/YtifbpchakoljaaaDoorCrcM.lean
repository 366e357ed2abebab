/- The plain law of the checksum: bits, bytes, texts; that it is linear, and that no bit of it is lost. -/
import Derived.Test.YtifbpchakoljaaaDoorAid
namespace Go.Proofs.YtifbpchakoljaaaDoor

def crcBit (n : Nat) : Nat := if 2 * n < 16777216 then 2 * n else (2 * n) ^^^ 25578747
def crcBits : Nat → Nat → Nat
  | 0, n => n
  | k + 1, n => crcBit (crcBits k n)
def crcByte (n : Nat) (c : UInt8) : Nat := crcBits 8 (n ^^^ (c.toNat * 65536))
def crcSum (l : List UInt8) : Nat := l.foldl crcByte 11994318

theorem xor_lt24 {a b : Nat} (ha : a < 2 ^ 25) (hb : b < 2 ^ 25) (ha' : a.testBit 24 = true) (hb' : b.testBit 24 = true) : a ^^^ b < 2 ^ 24 := by
  refine Nat.lt_pow_two_of_testBit _ fun i hi => ?_
  rw [Nat.testBit_xor]
  by_cases e : i = 24
  · subst e; rw [ha', hb']; rfl
  · have h : 2 ^ 25 ≤ 2 ^ i := Nat.pow_le_pow_right (by decide) (by omega)
    rw [Nat.testBit_lt_two_pow (Nat.lt_of_lt_of_le ha h), Nat.testBit_lt_two_pow (Nat.lt_of_lt_of_le hb h)]; rfl
theorem bit24 {a : Nat} (ha : a < 2 ^ 25) (h : 2 ^ 24 ≤ a) : a.testBit 24 = true := by
  rw [Nat.testBit_eq_decide_div_mod_eq]
  have : a / 2 ^ 24 = 1 := by omega
  simp [this]
theorem crcBit_lt {n : Nat} (h : n < 16777216) : crcBit n < 16777216 := by
  unfold crcBit
  split
  · assumption
  · exact xor_lt24 (by omega) (by decide) (bit24 (by omega) (by omega)) (by decide)

theorem crcBits_lt (k : Nat) {n : Nat} (h : n < 16777216) : crcBits k n < 16777216 := by
  induction k with
  | zero => exact h
  | succ k ih => exact crcBit_lt ih
theorem crcXor_lt {n : Nat} (h : n < 16777216) (c : UInt8) : n ^^^ (c.toNat * 65536) < 16777216 := by
  have hc := c.toNat_lt
  exact Nat.xor_lt_two_pow (n := 24) (by omega) (by omega)
theorem crcByte_lt {n : Nat} (h : n < 16777216) (c : UInt8) : crcByte n c < 16777216 := by unfold crcByte; exact crcBits_lt 8 (crcXor_lt h c)
theorem crcFold_lt (l : List UInt8) : ∀ {n : Nat}, n < 16777216 → l.foldl crcByte n < 16777216 := by
  induction l with
  | nil => intro n h; exact h
  | cons c l ih => intro n h; rw [List.foldl_cons]; exact ih (crcByte_lt h c)
theorem crcSum_lt (l : List UInt8) : crcSum l < 16777216 := by unfold crcSum; exact crcFold_lt l (by omega)
theorem crcSum_snoc (l : List UInt8) (c : UInt8) : crcSum (l ++ [c]) = crcByte (crcSum l) c := by simp [crcSum]
theorem crcSum_take0 (l : List UInt8) : (11994318 : Int) = ((crcSum (l.take 0) : Nat) : Int) := by rw [List.take_zero]; simp [crcSum]
theorem crcBits_add (a b n : Nat) : crcBits (a + b) n = crcBits a (crcBits b n) := by
  induction a with
  | zero => rw [Nat.zero_add]; rfl
  | succ a ih => rw [Nat.succ_add, crcBits, crcBits, ih]

/-! LINEAR -/
theorem crcBit_eq {n : Nat} (h : n < 2 ^ 24) : crcBit n = (2 * n) ^^^ (if n.testBit 23 then 25578747 else 0) := by
  have e : n.testBit 23 = decide (2 ^ 23 ≤ n) := by
    rw [Nat.testBit_eq_decide_div_mod_eq]
    by_cases h2 : 2 ^ 23 ≤ n
    · have : n / 2 ^ 23 = 1 := by omega
      simp [this, h2]
    · have : n / 2 ^ 23 = 0 := by omega
      simp [this, h2]
  unfold crcBit
  by_cases h2 : 2 ^ 23 ≤ n
  · rw [if_neg (by omega), e]; simp [h2]
  · rw [if_pos (by omega), e]; simp [h2]
theorem two_xor (a b : Nat) : 2 * (a ^^^ b) = (2 * a) ^^^ (2 * b) := by
  apply Nat.eq_of_testBit_eq
  intro i
  rw [Nat.testBit_xor]
  cases i with
  | zero => simp
  | succ i => rw [Nat.mul_comm 2, Nat.mul_comm 2, Nat.mul_comm 2]; simp [Nat.testBit_succ]
theorem crcBit_xor {a b : Nat} (ha : a < 2 ^ 24) (hb : b < 2 ^ 24) : crcBit (a ^^^ b) = crcBit a ^^^ crcBit b := by
  rw [crcBit_eq ha, crcBit_eq hb, crcBit_eq (Nat.xor_lt_two_pow ha hb), two_xor, Nat.testBit_xor]
  cases h1 : a.testBit 23 <;> cases h2 : b.testBit 23 <;> simp
  · rw [Nat.xor_assoc]
  · rw [Nat.xor_assoc, Nat.xor_assoc, Nat.xor_comm (2 * b)]
  · rw [Nat.xor_assoc, Nat.xor_comm (2 * b) 25578747, ← Nat.xor_assoc 25578747, Nat.xor_self, Nat.zero_xor]
theorem crcBits_xor (k : Nat) {a b : Nat} (ha : a < 2 ^ 24) (hb : b < 2 ^ 24) : crcBits k (a ^^^ b) = crcBits k a ^^^ crcBits k b := by
  induction k with
  | zero => rfl
  | succ k ih => rw [crcBits, crcBits, crcBits, ih, crcBit_xor (crcBits_lt k ha) (crcBits_lt k hb)]

/-! NOTHING IS LOST -/
theorem crcBit_zero {n : Nat} (h0 : crcBit n = 0) : n = 0 := by
  unfold crcBit at h0
  split at h0
  · omega
  · have : 2 * n = 25578747 := by
      have e := congrArg (fun x => x ^^^ 25578747) h0
      simpa [Nat.xor_assoc] using e
    omega
theorem crcBits_zero (k : Nat) {n : Nat} (h0 : crcBits k n = 0) : n = 0 := by
  induction k with
  | zero => exact h0
  | succ k ih => exact ih (crcBit_zero h0)

/-! FOUR BITS AT ONCE -/
theorem crcBits_low (k : Nat) : ∀ {n : Nat}, n * 2 ^ k < 16777216 → crcBits k n = n * 2 ^ k := by
  induction k with
  | zero => intro n _; simp [crcBits]
  | succ k ih =>
    intro n h
    have e : n * 2 ^ (k + 1) = 2 * (n * 2 ^ k) := by rw [Nat.pow_succ, ← Nat.mul_assoc, Nat.mul_comm]
    rw [e] at h ⊢
    rw [crcBits, ih (by omega), crcBit, if_pos h]
theorem crcFour {n : Nat} (h : n < 16777216) : crcBits 4 n = (n * 16 % 16777216) ^^^ crcBits 4 (n / 1048576 * 1048576) := by
  have e : n = (n % 1048576) ^^^ (n / 1048576 * 1048576) := by
    have h1 : n = 2 ^ 20 * (n / 1048576) + n % 1048576 := by omega
    have h2 := Nat.two_pow_add_eq_or_of_lt (show n % 1048576 < 2 ^ 20 by omega) (n / 1048576)
    apply Nat.eq_of_testBit_eq
    intro i
    have h3 : n / 1048576 * 1048576 = 2 ^ 20 * (n / 1048576) := by omega
    rw [Nat.testBit_xor, h3, Nat.testBit_two_pow_mul]
    have h4 : n % 1048576 = n % 2 ^ 20 := rfl
    have h5 : n / 1048576 = n / 2 ^ 20 := rfl
    rw [h4, h5, Nat.testBit_mod_two_pow, Nat.testBit_div_two_pow]
    by_cases h6 : i < 20
    · simp [h6, show ¬ 20 ≤ i by omega]
    · have h7 : i - 20 + 20 = i := by omega
      simp [h6, show 20 ≤ i by omega, h7]
  have hlo : crcBits 4 (n % 1048576) = n * 16 % 16777216 := by rw [crcBits_low 4 (by omega)]; omega
  calc crcBits 4 n = crcBits 4 ((n % 1048576) ^^^ (n / 1048576 * 1048576)) := by rw [← e]
    _ = crcBits 4 (n % 1048576) ^^^ crcBits 4 (n / 1048576 * 1048576) := crcBits_xor 4 (by omega) (by omega)
    _ = _ := by rw [hlo]
end Go.Proofs.YtifbpchakoljaaaDoor
