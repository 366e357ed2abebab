/- Six digits: the code's, the reference's, and their order. -/
import Derived.Test.YtdgbfmblnkjmjaaDoorDx
import Derived.Test.YtdgbfmblnkjmjaaDoorAid
import Derived.Lib.SmallJoins
namespace Go.Proofs.YtdgbfmblnkjmjaaDoor.Pure
open Go.RowKit Go.Lib Go.Proofs.YtdgbfmblnkjmjaaDoor.Giv Go.Proofs.YtdgbfmblnkjmjaaDoor.Hx Go.Proofs.YtdgbfmblnkjmjaaDoor.D Go.Proofs.YtdgbfmblnkjmjaaDoorW.PrintWords Go.Proofs.YtdgbfmblnkjmjaaDoorW.PrintLast Go.Proofs.YtdgbfmblnkjmjaaDoorW.PrintMore

theorem w64 {n : Int} (h0 : -9223372036854775808 ≤ n) (h1 : n ≤ 9223372036854775807) : wrap64 n = n := by unfold wrap64; omega
theorem bounds {n : Int} (h : (Lit.int .i64 n).wf = true) : -9223372036854775808 ≤ n ∧ n ≤ 9223372036854775807 := by
  have h9 := h
  simp [Lit.wf, show IntKind.i64.min = -9223372036854775808 from rfl, show IntKind.i64.max = 9223372036854775807 from rfl] at h9
  exact h9
theorem hex_yes {n : Int} (h0 : -9223372036854775808 ≤ n) (h1 : n ≤ 9223372036854775807) : crc_Hex.f n = some (hexF n) := by unfold crc_Hex.f; rw [if_pos ⟨h0, h1⟩]
theorem unhex_yes {s : ByteArray} (h : s.size ≤ 140737488351232) : crc_Unhex.f s = some (unhexF s) := by unfold crc_Unhex.f; rw [if_pos h]
theorem digits_yes : ploverlaw03_digits.f = some true := by
  unfold ploverlaw03_digits.f
  rw [hex_yes (by decide) (by decide), Option.bind_some, unhex_yes (by decide), Option.bind_some]
  have e1 : hexF 2215682 = (⟨#[50, 49, 99, 102, 48, 50]⟩, 0) := by decide +kernel
  have e2 : unhexF (⟨#[48, 48, 48, 48, 102, 102]⟩ : ByteArray) = (255, 0) := by decide +kernel
  rw [e1, e2, if_pos (by rw [toList_data]), if_pos rfl, if_pos rfl]
  rfl

/-! the order of digits -/
theorem less_chr (d e : Nat) (r s : List UInt8) (hd : d < 16) (he : e < 16) : Op.bytesLess (chr d :: r) (chr e :: s) = if d < e then true else if e < d then false else Op.bytesLess r s := by
  have h1 := chr_nat d
  have h2 := chr_nat e
  rw [Nat.mod_eq_of_lt hd] at h1
  rw [Nat.mod_eq_of_lt he] at h2
  rw [show Op.bytesLess (chr d :: r) (chr e :: s) = (decide (chr d < chr e) || (chr d == chr e && Op.bytesLess r s)) from rfl]
  have l1 : (chr d < chr e) ↔ d < e := by
    rw [UInt8.lt_iff_toNat_lt, h1, h2]; unfold hexDig; split <;> split <;> omega
  have l2 : (chr d = chr e) ↔ d = e := by
    rw [← UInt8.toNat_inj, h1, h2]; unfold hexDig; split <;> split <;> omega
  by_cases c : d < e
  · simp [l1, c]
  · by_cases c2 : e < d
    · simp [l1, l2, c, c2, show d ≠ e by omega]
    · simp [show d = e by omega]
theorem hexL_mod (n : Nat) : hexL n 6 = [chr (n / 1048576 % 16), chr (n / 65536 % 16), chr (n / 4096 % 16), chr (n / 256 % 16), chr (n / 16 % 16), chr (n % 16)] := by
  rw [hexL_six]
  rw [chr_mod (n / 1048576) (n / 1048576 % 16) (by omega), chr_mod (n / 65536) (n / 65536 % 16) (by omega), chr_mod (n / 4096) (n / 4096 % 16) (by omega), chr_mod (n / 256) (n / 256 % 16) (by omega), chr_mod (n / 16) (n / 16 % 16) (by omega), chr_mod n (n % 16) (by omega)]
theorem lex1 (d e : Nat) : (if d < e then true else if e < d then false else false) = decide (d < e) := by
  by_cases h : d < e
  · rw [if_pos h, decide_eq_true h]
  · rw [if_neg h, decide_eq_false h]; split <;> rfl
theorem lexN (B d e x y : Nat) (hx : x < B) (hy : y < B) : (if d < e then true else if e < d then false else decide (x < y)) = decide (d * B + x < e * B + y) := by
  by_cases h : d < e
  · have := Nat.mul_le_mul_right B (show d + 1 ≤ e from h)
    rw [Nat.add_mul, Nat.one_mul] at this
    rw [if_pos h, decide_eq_true (by omega)]
  · rw [if_neg h]
    by_cases h2 : e < d
    · have := Nat.mul_le_mul_right B (show e + 1 ≤ d from h2)
      rw [Nat.add_mul, Nat.one_mul] at this
      rw [if_pos h2, decide_eq_false (by omega)]
    · rw [if_neg h2, show d = e by omega]
      congr 1
      exact propext ⟨fun h => by omega, fun h => by omega⟩
theorem hexL_less (m n : Nat) (hm : m < 16777216) (hn : n < 16777216) : Op.bytesLess (hexL m 6) (hexL n 6) = decide (m < n) := by
  rw [hexL_mod, hexL_mod, less_chr _ _ _ _ (by omega) (by omega), less_chr _ _ _ _ (by omega) (by omega), less_chr _ _ _ _ (by omega) (by omega), less_chr _ _ _ _ (by omega) (by omega), less_chr _ _ _ _ (by omega) (by omega), less_chr _ _ _ _ (by omega) (by omega)]
  rw [show Op.bytesLess [] [] = false from rfl, lex1, lexN 16 _ _ _ _ (by omega) (by omega), lexN 256 _ _ _ _ (by omega) (by omega), lexN 4096 _ _ _ _ (by omega) (by omega), lexN 65536 _ _ _ _ (by omega) (by omega), lexN 1048576 _ _ _ _ (by omega) (by omega)]
  congr 1
  exact propext ⟨fun h => by omega, fun h => by omega⟩
theorem hexL_inj {m n : Nat} (hm : m < 16777216) (hn : n < 16777216) (h : hexL m 6 = hexL n 6) : m = n := by
  have h1 := hexL_fold m hm
  rw [h, hexL_fold n hn] at h1
  exact (Option.some.inj h1).symm
theorem and24 (x : Int) : ∃ m : Nat, Go.bits .and .i64 x 16777215 = (m : Int) ∧ m < 16777216 := by
  have hm := and_mask_i64 x 24 (by decide)
  have e2 : (((2 ^ 24 - 1 : Nat)) : Int) = 16777215 := by decide +kernel
  have e3 : (((2 ^ 24 : Nat)) : Int) = 16777216 := by decide +kernel
  rw [e2, e3] at hm
  exact ⟨(x % 16777216).toNat, by rw [hm]; omega, by omega⟩
theorem hexF_nat {m : Nat} (h : m < 16777216) : hexF (m : Int) = (⟨(hexL m 6).toArray⟩, 0) := by unfold hexF; rw [if_pos (by omega)]; rfl

theorem CrcOrder : ploverlaw03_CrcOrder.Pure := by
  intro a b _ _
  obtain ⟨m, hm, hm2⟩ := and24 a
  obtain ⟨n, hn, hn2⟩ := and24 b
  unfold ploverlaw03_CrcOrder.f
  rw [hm, hn, hex_yes (by omega) (by omega), hex_yes (by omega) (by omega), hexF_nat hm2, hexF_nat hn2, digits_yes]
  simp only [Option.bind_some]
  have el : ∀ k : Nat, (⟨(hexL k 6).toArray⟩ : ByteArray).toList = hexL k 6 := fun k => by rw [toList_data]
  rw [if_pos trivial, if_pos trivial, if_pos (by simp [hexL, ByteArray.size]), el, el, hexL_less m n hm2 hn2]
  rw [show (decide ((m : Int) < (n : Int))) = decide (m < n) from by congr 1; exact propext ⟨fun h => by omega, fun h => by omega⟩, if_pos (beq_self_eq_true _)]
  rw [if_pos]
  rw [beq_iff_eq, Bool.eq_iff_iff, beq_iff_eq, beq_iff_eq]
  constructor
  · intro h; rw [hexL_inj hm2 hn2 h]
  · intro h; rw [show m = n by omega]

/-! the reference's digits -/
theorem shr4 (x : Int) (k : Nat) (hk : k ≤ 5) : Go.bits .and .i64 (shr .i64 x (wrap64 (4 * (k : Int)))) 15 = x / 16 ^ k % 16 := by
  have h64 : IntKind.i64.bits = 64 := rfl
  rw [w64 (by omega) (by omega)]
  unfold shr
  rw [h64, show min (4 * (k : Int)).toNat 64 = 4 * k by omega, show (2 : Int) ^ (4 * k) = 16 ^ k by rw [Int.pow_mul]; rfl]
  have hm := and_mask_i64 (x / 16 ^ k) 4 (by decide)
  have e2 : (((2 ^ 4 - 1 : Nat)) : Int) = 15 := by decide +kernel
  have e3 : (((2 ^ 4 : Nat)) : Int) = 16 := by decide +kernel
  rw [e2, e3] at hm
  exact hm
theorem hexStep (x : Int) (L : List Int) (i : Nat) (hi : i ≤ 5) (hL : L.length ≤ 100) (d : Nat) (hd : x / 16 ^ i % 16 = (d : Int)) (k : Nat) : ploverref03_Hex.l0 (k + 1) x L (i : Int) = ploverref03_Hex.l0 k x (L ++ [(hexDig d : Int)]) ((i : Int) - 1) := by
  have hd16 : d < 16 := by
    have := Int.emod_lt_of_pos (x / 16 ^ i) (show (0 : Int) < 16 by decide)
    omega
  simp only [ploverref03_Hex.l0]
  rw [shr4 x i hi, hd, w64 (n := 4 * (i : Int)) (by omega) (by omega), if_pos (by omega), if_pos (by omega), if_pos (by omega), if_pos (by omega), if_pos (by omega), w64 (n := (i : Int) - 1) (by omega) (by omega)]
  have hb : bt (⟨#[48, 49, 50, 51, 52, 53, 54, 55, 56, 57, 97, 98, 99, 100, 101, 102]⟩ : ByteArray) (d : Int) = (hexDig d : Int) := by
    rcases (by omega : d = 0 ∨ d = 1 ∨ d = 2 ∨ d = 3 ∨ d = 4 ∨ d = 5 ∨ d = 6 ∨ d = 7 ∨ d = 8 ∨ d = 9 ∨ d = 10 ∨ d = 11 ∨ d = 12 ∨ d = 13 ∨ d = 14 ∨ d = 15) with rfl | rfl | rfl | rfl | rfl | rfl | rfl | rfl | rfl | rfl | rfl | rfl | rfl | rfl | rfl | rfl <;> rfl
  rw [hb]
theorem refHex_ev (n : Int) : Ev (fun k => ploverref03_Hex.f k n) (hexF n) := by
  unfold ploverref03_Hex.f
  have bad : Ev (fun k => ploverref03_Hex.j0 k n true) (⟨#[]⟩, 1) := Ev.step (f := fun _ => some (⟨#[]⟩, 1)) (fun k => by simp only [ploverref03_Hex.j0]; rw [if_pos trivial]) (Ev.now _)
  by_cases c : n < 0
  · refine Ev.congr (fun k => if_pos c) ?_
    rw [show hexF n = (⟨#[]⟩, 1) by unfold hexF; rw [if_neg (by omega)]]
    exact bad
  · refine Ev.congr (fun k => if_neg c) ?_
    by_cases c2 : n ≥ 16777216
    · rw [decide_eq_true c2, show hexF n = (⟨#[]⟩, 1) by unfold hexF; rw [if_neg (by omega)]]
      exact bad
    · rw [decide_eq_false c2]
      obtain ⟨m, rfl⟩ : ∃ m : Nat, n = m := ⟨n.toNat, by omega⟩
      rw [hexF_nat (by omega)]
      have st : ∀ (L : List Int) (i : Nat), i ≤ 5 → L.length ≤ 100 → ∀ k, ploverref03_Hex.l0 (k + 1) (m : Int) L (i : Int) = ploverref03_Hex.l0 k (m : Int) (L ++ [(hexDig (m / 16 ^ i % 16) : Int)]) ((i : Int) - 1) := fun L i hi hL k => hexStep (m : Int) L i hi hL (m / 16 ^ i % 16) (by rw [Int.natCast_emod, Int.natCast_ediv, Int.natCast_pow]; rfl) k
      refine Ev.step (f := fun k => ploverref03_Hex.l0 k (m : Int) ([] : List Int) ((5 : Nat) : Int)) (fun k => by simp only [ploverref03_Hex.j0]; rw [if_neg (by decide)]; rfl) ?_
      refine Ev.step (fun k => st _ 5 (by omega) (by simp) k) ?_
      refine Ev.step (fun k => st _ 4 (by omega) (by simp) k) ?_
      refine Ev.step (fun k => st _ 3 (by omega) (by simp) k) ?_
      refine Ev.step (fun k => st _ 2 (by omega) (by simp) k) ?_
      refine Ev.step (fun k => st _ 1 (by omega) (by simp) k) ?_
      refine Ev.step (fun k => st _ 0 (by omega) (by simp) k) ?_
      refine Ev.step (f := fun _ => some (⟨(hexL m 6).toArray⟩, 0)) (fun k => ?_) (Ev.now _)
      simp only [ploverref03_Hex.l0]
      rw [if_neg (by omega)]
      rfl

/-! the reference's number of six digits -/
theorem refUnhex_l0 (s : ByteArray) (h6 : s.size = 6) : ∀ (d i a : Nat), 6 - i ≤ d → i ≤ 6 → a < 16 ^ i → Ev (fun k => ploverref03_Unhex.l0 k s (a : Int) (i : Int)) (match hexFold a (s.data.toList.drop i) with | some N => ((N : Int), 0) | none => (0, 1)) := by
  intro d
  induction d with
  | zero =>
    intro i a h1 h2 h3
    obtain rfl : i = 6 := by omega
    refine Ev.step (f := fun _ => some ((a : Int), 0)) (fun k => ?_) (by rw [List.drop_of_length_le (by rw [list_size]; omega)]; exact Ev.now _)
    simp only [ploverref03_Unhex.l0]
    rw [if_neg (by omega)]
  | succ d ih =>
    intro i a h1 h2 h3
    by_cases hi : i < 6
    · have hlt : i < s.data.toList.length := by rw [list_size]; omega
      rw [List.drop_eq_getElem_cons hlt]
      have hb : bt s (i : Int) = ((s.data.toList[i]'hlt).toNat : Int) := by
        rw [← bt_at s (i : Int) (by simp; omega)]
        simp
        rfl
      generalize s.data.toList[i]'hlt = c at hb
      have hc := c.toNat_lt
      have ha : a < 1048576 := Nat.lt_of_lt_of_le h3 (show 16 ^ i ≤ 16 ^ 5 from Nat.pow_le_pow_right (by decide) (by omega))
      have hp : ∀ e, e < 16 → a * 16 + e < 16 ^ (i + 1) := fun e he => by rw [Nat.pow_succ]; omega
      have e1 : wrap64 (bt s (i : Int)) = (c.toNat : Int) := by rw [hb, w64 (by omega) (by omega)]
      have f0 : ∀ x, Ev (fun k => ploverref03_Unhex.j1 k s (a : Int) (i : Int) (c.toNat : Int) x) (match hexFold a (c :: s.data.toList.drop (i + 1)) with | some N => ((N : Int), 0) | none => (0, 1)) → ((c.toNat : Int) ≥ 48 ∧ x = decide ((c.toNat : Int) ≤ 57) ∨ ¬ (c.toNat : Int) ≥ 48 ∧ x = false) → Ev (fun k => ploverref03_Unhex.l0 k s (a : Int) (i : Int)) (match hexFold a (c :: s.data.toList.drop (i + 1)) with | some N => ((N : Int), 0) | none => (0, 1)) := by
        intro x hx hc
        refine Ev.step (f := fun k => ploverref03_Unhex.j1 k s (a : Int) (i : Int) (c.toNat : Int) x) (fun k => ?_) hx
        simp only [ploverref03_Unhex.l0]
        rw [if_pos (by omega), if_pos (by omega), if_pos (by omega), e1]
        rcases hc with ⟨h, rfl⟩ | ⟨h, rfl⟩
        · rw [if_pos h]
        · rw [if_neg h]
      by_cases hd : 48 ≤ c.toNat ∧ c.toNat ≤ 57
      · refine f0 true ?_ (.inl ⟨by omega, (decide_eq_true (by omega)).symm⟩)
        have hn := ih (i + 1) (a * 16 + (c.toNat - 48)) (by omega) (by omega) (hp _ (by omega))
        refine Ev.step (f := fun k => ploverref03_Unhex.l0 k s ((a * 16 + (c.toNat - 48) : Nat) : Int) ((i + 1 : Nat) : Int)) (fun k => ?_) ?_
        · simp only [ploverref03_Unhex.j1]
          rw [if_pos trivial, w64 (n := 16 * (a : Int)) (by omega) (by omega), w64 (n := 16 * (a : Int) + (c.toNat : Int)) (by omega) (by omega), w64 (n := 16 * (a : Int) + (c.toNat : Int) - 48) (by omega) (by omega), w64 (n := (i : Int) + 1) (by omega) (by omega), show 16 * (a : Int) + (c.toNat : Int) - 48 = ((a * 16 + (c.toNat - 48) : Nat) : Int) by omega]
          rfl
        · simp only [hexFold]
          rw [if_pos hd]
          exact hn
      · refine f0 false ?_ (by
          by_cases h : (c.toNat : Int) ≥ 48
          · exact .inl ⟨h, (decide_eq_false (by omega)).symm⟩
          · exact .inr ⟨h, rfl⟩)
        by_cases hl : 97 ≤ c.toNat ∧ c.toNat ≤ 102
        · have hn := ih (i + 1) (a * 16 + (c.toNat - 87)) (by omega) (by omega) (hp _ (by omega))
          refine Ev.step (f := fun k => ploverref03_Unhex.l0 k s ((a * 16 + (c.toNat - 87) : Nat) : Int) ((i + 1 : Nat) : Int)) (fun k => ?_) ?_
          · simp only [ploverref03_Unhex.j1]
            rw [if_neg (by decide), if_pos (by omega), if_pos (by omega), w64 (n := 16 * (a : Int)) (by omega) (by omega), w64 (n := 16 * (a : Int) + (c.toNat : Int)) (by omega) (by omega), w64 (n := 16 * (a : Int) + (c.toNat : Int) - 97) (by omega) (by omega), w64 (n := 16 * (a : Int) + (c.toNat : Int) - 97 + 10) (by omega) (by omega), w64 (n := (i : Int) + 1) (by omega) (by omega), show 16 * (a : Int) + (c.toNat : Int) - 97 + 10 = ((a * 16 + (c.toNat - 87) : Nat) : Int) by omega]
            rfl
          · simp only [hexFold]
            rw [if_neg hd, if_pos hl]
            exact hn
        · refine Ev.step (f := fun _ => some (0, 1)) (fun k => ?_) ?_
          · simp only [ploverref03_Unhex.j1]
            rw [if_neg (by decide)]
            by_cases h : (c.toNat : Int) ≥ 97
            · rw [if_pos h, if_neg (by omega)]
            · rw [if_neg h]
          · simp only [hexFold]
            rw [if_neg hd, if_neg hl]
            exact Ev.now _
    · obtain rfl : i = 6 := by omega
      refine Ev.step (f := fun _ => some ((a : Int), 0)) (fun k => ?_) (by rw [List.drop_of_length_le (by rw [list_size]; omega)]; exact Ev.now _)
      simp only [ploverref03_Unhex.l0]
      rw [if_neg (by omega)]
theorem refUnhex_ev (s : ByteArray) : Ev (fun k => ploverref03_Unhex.f k s) (unhexF s) := by
  unfold ploverref03_Unhex.f unhexF
  by_cases c : s.size = 6
  · refine Ev.congr (fun k => if_pos (by omega)) ?_
    rw [if_pos c]
    exact refUnhex_l0 s c 6 0 0 (by omega) (by omega) (by decide)
  · refine Ev.congr (fun k => if_neg (by omega)) ?_
    rw [if_neg c]
    exact Ev.now _
theorem CrcDigits : ploverlaw03_CrcDigits.Pure := by
  intro n s hn hs
  have hb := bounds hn
  refine Ev.rounds (g := fun k => ploverlaw03_CrcDigits.f k n s) ?_
  unfold ploverlaw03_CrcDigits.f
  rw [hex_yes hb.1 hb.2, unhex_yes hs]
  simp only [Option.bind_some]
  refine Ev.bind (refHex_ev n) ?_
  refine Ev.bind (refUnhex_ev s) ?_
  refine Ev.congr (fun k => if_pos rfl) (Ev.congr (fun k => if_pos rfl) (Ev.congr (fun k => if_pos rfl) ?_))
  refine Ev.step (f := fun _ => some true) (fun k => ?_) (Ev.now _)
  simp only [ploverlaw03_CrcDigits.j0]
  rw [show ((unhexF s).2 != (unhexF s).2) = false by simp, if_neg (by decide), digits_yes]
  by_cases c : 0 ≤ n ∧ n < 16777216
  · obtain ⟨m, rfl⟩ : ∃ m : Nat, n = m := ⟨n.toNat, by omega⟩
    have hm : m < 16777216 := by omega
    rw [hexF_nat hm, if_pos rfl, unhex_yes (by simp [hexL, ByteArray.size])]
    have hu : unhexF ⟨(hexL m 6).toArray⟩ = ((m : Int), 0) := by
      unfold unhexF
      rw [if_pos (by simp [hexL, ByteArray.size]), show hexFold 0 (⟨(hexL m 6).toArray⟩ : ByteArray).data.toList = some m from hexL_fold m hm]
    rw [hu, Option.bind_some, if_pos rfl, if_pos rfl]
    rfl
  · rw [show hexF n = (⟨#[]⟩, 1) by unfold hexF; rw [if_neg c], if_neg (by decide)]
    rfl
end Go.Proofs.YtdgbfmblnkjmjaaDoor.Pure
