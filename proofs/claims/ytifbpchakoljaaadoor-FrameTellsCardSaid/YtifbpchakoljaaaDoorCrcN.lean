/- The plain laws: the sum of three texts, one xor the others; a burst is told. -/
import Derived.Test.YtifbpchakoljaaaDoorCrcM
namespace Go.Proofs.YtifbpchakoljaaaDoor

theorem mul_xor (a b : Nat) : (a ^^^ b) * 65536 = (a * 65536) ^^^ (b * 65536) := by
  have h := Nat.shiftLeft_xor_distrib (a := a) (b := b) (i := 16)
  simpa [Nat.shiftLeft_eq] using h

theorem xor_nat (a b : UInt8) : (a ^^^ b).toNat = a.toNat ^^^ b.toNat := UInt8.toNat_xor a b

theorem c24 (c : UInt8) : c.toNat * 65536 < 2 ^ 24 := by have := c.toNat_lt; omega

theorem crcByte_xor {n m : Nat} (hn : n < 2 ^ 24) (hm : m < 2 ^ 24) (c d : UInt8) : crcByte (n ^^^ m) (c ^^^ d) = crcByte n c ^^^ crcByte m d := by
  unfold crcByte
  rw [← crcBits_xor 8 (Nat.xor_lt_two_pow hn (c24 c)) (Nat.xor_lt_two_pow hm (c24 d)), xor_nat, mul_xor]
  congr 1
  rw [Nat.xor_assoc, Nat.xor_assoc, ← Nat.xor_assoc m, Nat.xor_comm m, Nat.xor_assoc]

/-- two lists of one length, one xor the other -/
def xorL : List UInt8 → List UInt8 → List UInt8 := List.zipWith (· ^^^ ·)

theorem crcFold_xor : ∀ (a b : List UInt8) (n m : Nat), a.length = b.length → n < 2 ^ 24 → m < 2 ^ 24 → (xorL a b).foldl crcByte (n ^^^ m) = a.foldl crcByte n ^^^ b.foldl crcByte m
  | [], [], _, _, _, _, _ => rfl
  | [], _ :: _, _, _, h, _, _ => by simp at h
  | _ :: _, [], _, _, h, _, _ => by simp at h
  | c :: a, d :: b, n, m, h, hn, hm => by
    simp only [xorL, List.zipWith_cons_cons, List.foldl_cons]
    rw [crcByte_xor hn hm]
    exact crcFold_xor a b _ _ (by simpa using h) (crcByte_lt hn c) (crcByte_lt hm d)

theorem crcSum_xor3 (a b c : List UInt8) (h1 : a.length = b.length) (h2 : b.length = c.length) : crcSum (xorL (xorL a b) c) = crcSum a ^^^ crcSum b ^^^ crcSum c := by
  unfold crcSum
  have e : (11994318 : Nat) = (11994318 ^^^ 11994318) ^^^ 11994318 := by decide +kernel
  conv => lhs; rw [e]
  rw [crcFold_xor (xorL a b) c _ _ (by simp [xorL]; omega) (by decide) (by decide), crcFold_xor a b _ _ h1 (by decide) (by decide)]

/-! A BURST -/
/-- what is fed behind -/
theorem crcFold_apart : ∀ (l : List UInt8) (n m : Nat), n < 2 ^ 24 → m < 2 ^ 24 → n ≠ m → l.foldl crcByte n ≠ l.foldl crcByte m
  | [], _, _, _, _, h => h
  | c :: l, n, m, hn, hm, h => by
    simp only [List.foldl_cons]
    refine crcFold_apart l _ _ (crcByte_lt hn c) (crcByte_lt hm c) fun e => h ?_
    have h0 : crcByte (n ^^^ m) (c ^^^ c) = 0 := by rw [crcByte_xor hn hm, e, Nat.xor_self]
    have h1 : n ^^^ m = 0 := by
      unfold crcByte at h0
      have := crcBits_zero 8 h0
      simpa using this
    have h2 : (n ^^^ m) ^^^ m = 0 ^^^ m := by rw [h1]
    rwa [Nat.xor_assoc, Nat.xor_self, Nat.xor_zero, Nat.zero_xor] at h2

theorem shl8_24 {b : Nat} (h : b < 256) : b * 256 < 16777216 := by omega
theorem shl16_24 {b : Nat} (h : b < 256) : b * 65536 < 16777216 := by omega
theorem shl8_8 {b : Nat} (h : b < 256) : b * 65536 = crcBits 8 (b * 256) := by
  have := crcBits_low 8 (n := b * 256) (by omega)
  rw [this, Nat.mul_assoc]
theorem shl16_16 {b : Nat} (h : b < 256) : b * 65536 = crcBits 16 b := by
  have := crcBits_low 16 (n := b) (by omega)
  rw [this]

/-- three bytes at once -/
theorem crcThreeN (n : Nat) (hn : n < 16777216) (a b c : Nat) (ha : a < 256) (hb : b < 256) (hc : c < 256) :
    crcBits 8 (crcBits 8 (crcBits 8 (n ^^^ a * 65536) ^^^ b * 65536) ^^^ c * 65536) = crcBits 24 (n ^^^ (a * 65536 ^^^ b * 256 ^^^ c)) := by
  have hna : n ^^^ a * 65536 < 16777216 := Nat.xor_lt_two_pow (n := 24) hn (shl16_24 ha)
  have hnb : n ^^^ a * 65536 ^^^ b * 256 < 16777216 := Nat.xor_lt_two_pow (n := 24) hna (shl8_24 hb)
  rw [shl8_8 hb, ← crcBits_xor 8 hna (shl8_24 hb), shl16_16 hc, ← crcBits_add 8 8, ← crcBits_xor (8 + 8) hnb (Nat.lt_trans hc (by decide)), ← crcBits_add 8 (8 + 8)]
  rw [Nat.xor_assoc, Nat.xor_assoc, Nat.xor_assoc]
theorem crcThree (n : Nat) (hn : n < 16777216) (a b c : UInt8) : [a, b, c].foldl crcByte n = crcBits 24 (n ^^^ (a.toNat * 65536 ^^^ b.toNat * 256 ^^^ c.toNat)) := by
  simp only [List.foldl_cons, List.foldl_nil, crcByte]
  exact crcThreeN n hn a.toNat b.toNat c.toNat a.toNat_lt b.toNat_lt c.toNat_lt

theorem or_xor_far {x y k : Nat} (h : y < 2 ^ k) : 2 ^ k * x ^^^ y = 2 ^ k * x + y := by
  rw [Nat.two_pow_add_eq_or_of_lt h]
  apply Nat.eq_of_testBit_eq
  intro i
  rw [Nat.testBit_xor, Nat.testBit_or, Nat.testBit_two_pow_mul]
  by_cases hi : k ≤ i
  · have : y.testBit i = false := Nat.testBit_lt_two_pow (Nat.lt_of_lt_of_le h (Nat.pow_le_pow_right (by decide) hi))
    simp [hi, this]
  · simp [hi]
theorem three_zeroN {a b c : Nat} (hb : b < 256) (hc : c < 256) (h : a * 65536 ^^^ b * 256 ^^^ c = 0) : a = 0 ∧ b = 0 ∧ c = 0 := by
  have e1 : a * 65536 = 2 ^ 16 * a := by omega
  rw [e1, or_xor_far (k := 16) (by omega)] at h
  have e2 : 2 ^ 16 * a + b * 256 = 2 ^ 8 * (256 * a + b) := by omega
  rw [e2, or_xor_far (k := 8) (by omega)] at h
  omega
theorem three_zero {a b c : UInt8} (h : a.toNat * 65536 ^^^ b.toNat * 256 ^^^ c.toNat = 0) : a = 0 ∧ b = 0 ∧ c = 0 := by
  obtain ⟨h1, h2, h3⟩ := three_zeroN b.toNat_lt c.toNat_lt h
  exact ⟨UInt8.toNat_inj.1 (by simpa using h1), UInt8.toNat_inj.1 (by simpa using h2), UInt8.toNat_inj.1 (by simpa using h3)⟩

/-- a text, and another one that differs from it in three bytes one behind the other, not all of them 0 -/
theorem crcBurst (p q : List UInt8) (x y z a b c : UInt8) (h : ¬ (a = 0 ∧ b = 0 ∧ c = 0)) :
    crcSum (p ++ ([x, y, z] ++ q)) ≠ crcSum (p ++ ([x ^^^ a, y ^^^ b, z ^^^ c] ++ q)) := by
  unfold crcSum
  rw [List.foldl_append, List.foldl_append, List.foldl_append, List.foldl_append]
  have hn : p.foldl crcByte 11994318 < 16777216 := crcFold_lt p (by omega)
  generalize p.foldl crcByte 11994318 = n at *
  refine crcFold_apart q _ _ (crcFold_lt _ hn) (crcFold_lt _ hn) fun e => h (three_zero ?_)
  have e2 : [x ^^^ a, y ^^^ b, z ^^^ c].foldl crcByte (n ^^^ 0) = [x, y, z].foldl crcByte n ^^^ [a, b, c].foldl crcByte 0 :=
    crcFold_xor [x, y, z] [a, b, c] n 0 rfl hn (by decide)
  rw [Nat.xor_zero] at e2
  have e3 : [a, b, c].foldl crcByte 0 = 0 := by
    have := congrArg (fun t => [x, y, z].foldl crcByte n ^^^ t) (e.trans e2)
    rw [Nat.xor_self, ← Nat.xor_assoc, Nat.xor_self, Nat.zero_xor] at this
    exact this.symm
  rw [crcThree 0 (by decide) a b c, Nat.zero_xor] at e3
  exact crcBits_zero 24 e3
end Go.Proofs.YtifbpchakoljaaaDoor
