/- The reference's sums and digits are the code's. -/
import Derived.Test.YtifbpchakoljaaaDoorPx
import Derived.Test.YtifbpchakoljaaaDoorFrmP
import Derived.Test.YtifbpchakoljaaaDoorCrcW
import Derived.Test.YtifbpchakoljaaaDoorAid
import Derived.Lib.SmallJoins
namespace Go.Proofs.YtifbpchakoljaaaDoor.Pure
open Go.RowKit Go.Lib Go.Proofs.YtifbpchakoljaaaDoor.Giv Go.Proofs.YtifbpchakoljaaaDoor.Hx Go.Proofs.YtifbpchakoljaaaDoor.P Go.Proofs.YtifbpchakoljaaaDoorW.PrintWords Go.Proofs.YtifbpchakoljaaaDoorW.PrintLast Go.Proofs.YtifbpchakoljaaaDoorW.PrintMore
set_option linter.unusedVariables false
set_option linter.unusedSimpArgs false

theorem w64 {n : Int} (h0 : -9223372036854775808 ≤ n) (h1 : n ≤ 9223372036854775807) : wrap64 n = n := by unfold wrap64; omega
theorem bounds {n : Int} (h : (Lit.int .i64 n).wf = true) : -9223372036854775808 ≤ n ∧ n ≤ 9223372036854775807 := by
  have h9 := h
  simp [Lit.wf, show IntKind.i64.min = -9223372036854775808 from rfl, show IntKind.i64.max = 9223372036854775807 from rfl] at h9
  exact h9
theorem hex_yes {n : Int} (h0 : -9223372036854775808 ≤ n) (h1 : n ≤ 9223372036854775807) : crc_Hex.f n = some (hexF n) := by unfold crc_Hex.f; rw [if_pos ⟨h0, h1⟩]
theorem unhex_yes {s : ByteArray} (h : s.size ≤ 140737488351232) : crc_Unhex.f s = some (unhexF s) := by unfold crc_Unhex.f; rw [if_pos h]
theorem sum_yes {s : ByteArray} (h : s.size ≤ 140737488351232) : crc_Sum.f s = some ((crcSum s.data.toList : Nat) : Int) := by unfold crc_Sum.f; rw [if_pos h]
theorem Ev.to {α : Type} {g : Nat → Option α} {r r' : α} (h : Ev g r) (e : r = r') : Ev g r' := e ▸ h
theorem hexF_nat {m : Nat} (h : m < 16777216) : hexF (m : Int) = (⟨(hexL m 6).toArray⟩, 0) := by unfold hexF; rw [if_pos (by omega)]; rfl

theorem shr4 (x : Int) (k : Nat) (hk : k ≤ 5) : Go.bits .and .i64 (shr .i64 x (wrap64 (4 * (k : Int)))) 15 = x / 16 ^ k % 16 := by
  have h64 : IntKind.i64.bits = 64 := rfl
  rw [w64 (by omega) (by omega)]
  unfold shr
  rw [h64, show min (4 * (k : Int)).toNat 64 = 4 * k by omega, show (2 : Int) ^ (4 * k) = 16 ^ k by rw [Int.pow_mul]; rfl]
  have hm := and_mask_i64 (x / 16 ^ k) 4 (by decide)
  have e2 : (((2 ^ 4 - 1 : Nat)) : Int) = 15 := by decide +kernel
  have e3 : (((2 ^ 4 : Nat)) : Int) = 16 := by decide +kernel
  rw [e2, e3] at hm
  exact hm
theorem hexStep (x : Int) (L : List Int) (i : Nat) (hi : i ≤ 5) (hL : L.length ≤ 100) (d : Nat) (hd : x / 16 ^ i % 16 = (d : Int)) (k : Nat) : ploverref03_Hex.l0 (k + 1) x L (i : Int) = ploverref03_Hex.l0 k x (L ++ [(hexDig d : Int)]) ((i : Int) - 1) := by
  have hd16 : d < 16 := by
    have := Int.emod_lt_of_pos (x / 16 ^ i) (show (0 : Int) < 16 by decide)
    omega
  simp only [ploverref03_Hex.l0]
  rw [shr4 x i hi, hd, w64 (n := 4 * (i : Int)) (by omega) (by omega), if_pos (by omega), if_pos (by omega), if_pos (by omega), if_pos (by omega), if_pos (by omega), w64 (n := (i : Int) - 1) (by omega) (by omega)]
  have hb : bt (⟨#[48, 49, 50, 51, 52, 53, 54, 55, 56, 57, 97, 98, 99, 100, 101, 102]⟩ : ByteArray) (d : Int) = (hexDig d : Int) := by
    rcases (by omega : d = 0 ∨ d = 1 ∨ d = 2 ∨ d = 3 ∨ d = 4 ∨ d = 5 ∨ d = 6 ∨ d = 7 ∨ d = 8 ∨ d = 9 ∨ d = 10 ∨ d = 11 ∨ d = 12 ∨ d = 13 ∨ d = 14 ∨ d = 15) with rfl | rfl | rfl | rfl | rfl | rfl | rfl | rfl | rfl | rfl | rfl | rfl | rfl | rfl | rfl | rfl <;> rfl
  rw [hb]
theorem refHex_ev (n : Int) : Ev (fun k => ploverref03_Hex.f k n) (hexF n) := by
  unfold ploverref03_Hex.f
  have bad : Ev (fun k => ploverref03_Hex.j0 k n true) (⟨#[]⟩, 1) := Ev.step (f := fun _ => some (⟨#[]⟩, 1)) (fun k => by simp only [ploverref03_Hex.j0]; rw [if_pos trivial]) (Ev.now _)
  by_cases c : n < 0
  · refine Ev.congr (fun k => if_pos c) ?_
    rw [show hexF n = (⟨#[]⟩, 1) by unfold hexF; rw [if_neg (by omega)]]
    exact bad
  · refine Ev.congr (fun k => if_neg c) ?_
    by_cases c2 : n ≥ 16777216
    · rw [decide_eq_true c2, show hexF n = (⟨#[]⟩, 1) by unfold hexF; rw [if_neg (by omega)]]
      exact bad
    · rw [decide_eq_false c2]
      obtain ⟨m, rfl⟩ : ∃ m : Nat, n = m := ⟨n.toNat, by omega⟩
      rw [hexF_nat (by omega)]
      have st : ∀ (L : List Int) (i : Nat), i ≤ 5 → L.length ≤ 100 → ∀ k, ploverref03_Hex.l0 (k + 1) (m : Int) L (i : Int) = ploverref03_Hex.l0 k (m : Int) (L ++ [(hexDig (m / 16 ^ i % 16) : Int)]) ((i : Int) - 1) := fun L i hi hL k => hexStep (m : Int) L i hi hL (m / 16 ^ i % 16) (by rw [Int.natCast_emod, Int.natCast_ediv, Int.natCast_pow]; rfl) k
      refine Ev.step (f := fun k => ploverref03_Hex.l0 k (m : Int) ([] : List Int) ((5 : Nat) : Int)) (fun k => by simp only [ploverref03_Hex.j0]; rw [if_neg (by decide)]; rfl) ?_
      refine Ev.step (fun k => st _ 5 (by omega) (by simp) k) ?_
      refine Ev.step (fun k => st _ 4 (by omega) (by simp) k) ?_
      refine Ev.step (fun k => st _ 3 (by omega) (by simp) k) ?_
      refine Ev.step (fun k => st _ 2 (by omega) (by simp) k) ?_
      refine Ev.step (fun k => st _ 1 (by omega) (by simp) k) ?_
      refine Ev.step (fun k => st _ 0 (by omega) (by simp) k) ?_
      refine Ev.step (f := fun _ => some (⟨(hexL m 6).toArray⟩, 0)) (fun k => ?_) (Ev.now _)
      simp only [ploverref03_Hex.l0]
      rw [if_neg (by omega)]
      rfl

/-! the reference's number of six digits -/
theorem refUnhex_l0 (s : ByteArray) (h6 : s.size = 6) : ∀ (d i a : Nat), 6 - i ≤ d → i ≤ 6 → a < 16 ^ i → Ev (fun k => ploverref03_Unhex.l0 k s (a : Int) (i : Int)) (match hexFold a (s.data.toList.drop i) with | some N => ((N : Int), 0) | none => (0, 1)) := by
  intro d
  induction d with
  | zero =>
    intro i a h1 h2 h3
    obtain rfl : i = 6 := by omega
    refine Ev.step (f := fun _ => some ((a : Int), 0)) (fun k => ?_) (by rw [List.drop_of_length_le (by rw [list_size]; omega)]; exact Ev.now _)
    simp only [ploverref03_Unhex.l0]
    rw [if_neg (by omega)]
  | succ d ih =>
    intro i a h1 h2 h3
    by_cases hi : i < 6
    · have hlt : i < s.data.toList.length := by rw [list_size]; omega
      rw [List.drop_eq_getElem_cons hlt]
      have hb : bt s (i : Int) = ((s.data.toList[i]'hlt).toNat : Int) := by
        rw [← bt_at s (i : Int) (by simp; omega)]
        simp
        rfl
      generalize s.data.toList[i]'hlt = c at hb
      have hc := c.toNat_lt
      have ha : a < 1048576 := Nat.lt_of_lt_of_le h3 (show 16 ^ i ≤ 16 ^ 5 from Nat.pow_le_pow_right (by decide) (by omega))
      have hp : ∀ e, e < 16 → a * 16 + e < 16 ^ (i + 1) := fun e he => by rw [Nat.pow_succ]; omega
      have e1 : wrap64 (bt s (i : Int)) = (c.toNat : Int) := by rw [hb, w64 (by omega) (by omega)]
      have f0 : ∀ x, Ev (fun k => ploverref03_Unhex.j1 k s (a : Int) (i : Int) (c.toNat : Int) x) (match hexFold a (c :: s.data.toList.drop (i + 1)) with | some N => ((N : Int), 0) | none => (0, 1)) → ((c.toNat : Int) ≥ 48 ∧ x = decide ((c.toNat : Int) ≤ 57) ∨ ¬ (c.toNat : Int) ≥ 48 ∧ x = false) → Ev (fun k => ploverref03_Unhex.l0 k s (a : Int) (i : Int)) (match hexFold a (c :: s.data.toList.drop (i + 1)) with | some N => ((N : Int), 0) | none => (0, 1)) := by
        intro x hx hc
        refine Ev.step (f := fun k => ploverref03_Unhex.j1 k s (a : Int) (i : Int) (c.toNat : Int) x) (fun k => ?_) hx
        simp only [ploverref03_Unhex.l0]
        rw [if_pos (by omega), if_pos (by omega), if_pos (by omega), e1]
        rcases hc with ⟨h, rfl⟩ | ⟨h, rfl⟩
        · rw [if_pos h]
        · rw [if_neg h]
      by_cases hd : 48 ≤ c.toNat ∧ c.toNat ≤ 57
      · refine f0 true ?_ (.inl ⟨by omega, (decide_eq_true (by omega)).symm⟩)
        have hn := ih (i + 1) (a * 16 + (c.toNat - 48)) (by omega) (by omega) (hp _ (by omega))
        refine Ev.step (f := fun k => ploverref03_Unhex.l0 k s ((a * 16 + (c.toNat - 48) : Nat) : Int) ((i + 1 : Nat) : Int)) (fun k => ?_) ?_
        · simp only [ploverref03_Unhex.j1]
          rw [if_pos trivial, w64 (n := 16 * (a : Int)) (by omega) (by omega), w64 (n := 16 * (a : Int) + (c.toNat : Int)) (by omega) (by omega), w64 (n := 16 * (a : Int) + (c.toNat : Int) - 48) (by omega) (by omega), w64 (n := (i : Int) + 1) (by omega) (by omega), show 16 * (a : Int) + (c.toNat : Int) - 48 = ((a * 16 + (c.toNat - 48) : Nat) : Int) by omega]
          rfl
        · simp only [hexFold]
          rw [if_pos hd]
          exact hn
      · refine f0 false ?_ (by
          by_cases h : (c.toNat : Int) ≥ 48
          · exact .inl ⟨h, (decide_eq_false (by omega)).symm⟩
          · exact .inr ⟨h, rfl⟩)
        by_cases hl : 97 ≤ c.toNat ∧ c.toNat ≤ 102
        · have hn := ih (i + 1) (a * 16 + (c.toNat - 87)) (by omega) (by omega) (hp _ (by omega))
          refine Ev.step (f := fun k => ploverref03_Unhex.l0 k s ((a * 16 + (c.toNat - 87) : Nat) : Int) ((i + 1 : Nat) : Int)) (fun k => ?_) ?_
          · simp only [ploverref03_Unhex.j1]
            rw [if_neg (by decide), if_pos (by omega), if_pos (by omega), w64 (n := 16 * (a : Int)) (by omega) (by omega), w64 (n := 16 * (a : Int) + (c.toNat : Int)) (by omega) (by omega), w64 (n := 16 * (a : Int) + (c.toNat : Int) - 97) (by omega) (by omega), w64 (n := 16 * (a : Int) + (c.toNat : Int) - 97 + 10) (by omega) (by omega), w64 (n := (i : Int) + 1) (by omega) (by omega), show 16 * (a : Int) + (c.toNat : Int) - 97 + 10 = ((a * 16 + (c.toNat - 87) : Nat) : Int) by omega]
            rfl
          · simp only [hexFold]
            rw [if_neg hd, if_pos hl]
            exact hn
        · refine Ev.step (f := fun _ => some (0, 1)) (fun k => ?_) ?_
          · simp only [ploverref03_Unhex.j1]
            rw [if_neg (by decide)]
            by_cases h : (c.toNat : Int) ≥ 97
            · rw [if_pos h, if_neg (by omega)]
            · rw [if_neg h]
          · simp only [hexFold]
            rw [if_neg hd, if_neg hl]
            exact Ev.now _
    · obtain rfl : i = 6 := by omega
      refine Ev.step (f := fun _ => some ((a : Int), 0)) (fun k => ?_) (by rw [List.drop_of_length_le (by rw [list_size]; omega)]; exact Ev.now _)
      simp only [ploverref03_Unhex.l0]
      rw [if_neg (by omega)]
theorem refUnhex_ev (s : ByteArray) : Ev (fun k => ploverref03_Unhex.f k s) (unhexF s) := by
  unfold ploverref03_Unhex.f unhexF
  by_cases c : s.size = 6
  · refine Ev.congr (fun k => if_pos (by omega)) ?_
    rw [if_pos c]
    exact refUnhex_l0 s c 6 0 0 (by omega) (by omega) (by decide)
  · refine Ev.congr (fun k => if_neg (by omega)) ?_
    rw [if_neg c]
    exact Ev.now _
/-! the reference's sum -/
theorem sum_l1 (s : ByteArray) (i m : Nat) (r : Int) (hm : m < 16777216) (h : Ev (fun k => ploverref03_Sum.l0 k s ((crcBits 8 m : Nat) : Int) (wrap64 ((i : Int) + 1))) r) :
    ∀ (d j : Nat), 8 - j ≤ d → j ≤ 8 → Ev (fun k => ploverref03_Sum.l1 k s ((crcBits j m : Nat) : Int) (i : Int) (j : Int)) r := by
  intro d
  induction d with
  | zero =>
    intro j h1 h2
    obtain rfl : j = 8 := by omega
    exact Ev.step (fun k => by simp only [ploverref03_Sum.l1]; rw [if_neg (by omega)]) h
  | succ d ih =>
    intro j h1 h2
    by_cases hj : j < 8
    · have hb := crcBits_lt j hm
      have hn := ih (j + 1) (by omega) (by omega)
      refine Ev.step (f := fun k => ploverref03_Sum.l1 k s ((crcBits (j + 1) m : Nat) : Int) (i : Int) ((j + 1 : Nat) : Int)) (fun k => ?_) hn
      simp only [ploverref03_Sum.l1]
      rw [if_pos (by omega), w64 (n := 2 * _) (by omega) (by omega), w64 (n := (j : Int) + 1) (by omega) (by omega)]
      by_cases c : 2 * ((crcBits j m : Nat) : Int) ≥ 16777216
      · rw [if_pos c, crcBits_yes rfl (by omega) c]; rfl
      · rw [if_neg c, crcBits_no (x := ((crcBits j m : Nat) : Int)) rfl (by omega)]; rfl
    · obtain rfl : j = 8 := by omega
      exact Ev.step (fun k => by simp only [ploverref03_Sum.l1]; rw [if_neg (by omega)]) h
theorem sum_l0 (s : ByteArray) (hs : s.size ≤ 140737488351232) : ∀ (d i : Nat), s.size - i ≤ d → i ≤ s.size → Ev (fun k => ploverref03_Sum.l0 k s ((crcSum (s.data.toList.take i) : Nat) : Int) (i : Int)) ((crcSum s.data.toList : Nat) : Int) := by
  have fin : Ev (fun k => ploverref03_Sum.l0 k s ((crcSum (s.data.toList.take s.size) : Nat) : Int) (s.size : Int)) ((crcSum s.data.toList : Nat) : Int) := by
    refine Ev.step (f := fun _ => some ((crcSum s.data.toList : Nat) : Int)) (fun k => ?_) (Ev.now _)
    simp only [ploverref03_Sum.l0]
    rw [if_neg (by omega), List.take_of_length_le (by simp)]
  intro d
  induction d with
  | zero =>
    intro i h1 h2
    obtain rfl : i = s.size := by omega
    exact fin
  | succ d ih =>
    intro i h1 h2
    by_cases hi : i < s.size
    · have hn := ih (i + 1) (by omega) (by omega)
      rw [take_snoc s i hi, crcSum_snoc] at hn
      have hb : bt s (i : Int) = ((s[i]).toNat : Int) := by rw [← bt_at s (i : Int) (by simpa using hi)]; rfl
      have hlt := crcXor_lt (crcSum_lt (s.data.toList.take i)) s[i]
      refine Ev.step (f := fun k => ploverref03_Sum.l1 k s ((crcBits 0 (crcSum (s.data.toList.take i) ^^^ (s[i].toNat * 65536)) : Nat) : Int) (i : Int) ((0 : Nat) : Int)) (fun k => ?_) (sum_l1 s i _ _ hlt ?_ 8 0 (by omega) (by omega))
      · simp only [ploverref03_Sum.l0]
        rw [if_pos (by omega), if_pos (by omega), hb, crc_in _ _ (crcSum_lt _)]
        rfl
      · rw [w64 (by omega) (by omega)]
        exact hn
    · obtain rfl : i = s.size := by omega
      exact fin
theorem refSum_ev (s : ByteArray) (hs : s.size ≤ 140737488351232) : Ev (fun k => ploverref03_Sum.f k s) ((crcSum s.data.toList : Nat) : Int) := by
  have := sum_l0 s hs s.size 0 (by omega) (by omega)
  rw [← crcSum_take0] at this
  exact this

end Go.Proofs.YtifbpchakoljaaaDoor.Pure
