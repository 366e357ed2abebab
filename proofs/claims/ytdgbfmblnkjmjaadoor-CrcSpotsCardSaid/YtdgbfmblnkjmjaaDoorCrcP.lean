/- Spots on the ring: the code's, the reference's, and the sum of the name. -/
import Derived.Test.YtdgbfmblnkjmjaaDoorPx
import Derived.Test.YtdgbfmblnkjmjaaDoorCrcW
import Derived.Test.YtdgbfmblnkjmjaaDoorAid
import Derived.Lib.ItoaLen
import Derived.Lib.SmallJoins
namespace Go.Proofs.YtdgbfmblnkjmjaaDoor.Pure
open Go.RowKit Go.Lib Go.Proofs.YtdgbfmblnkjmjaaDoor.Giv Go.Proofs.YtdgbfmblnkjmjaaDoor.P Go.Proofs.YtdgbfmblnkjmjaaDoorW.PrintWords Go.Proofs.YtdgbfmblnkjmjaaDoorW.PrintLast

theorem w64 {n : Int} (h0 : -9223372036854775808 ≤ n) (h1 : n ≤ 9223372036854775807) : wrap64 n = n := by unfold wrap64; omega
theorem Ev.to {α : Type} {g : Nat → Option α} {r r' : α} (h : Ev g r) (e : r = r') : Ev g r' := e ▸ h
theorem data_ext {a b : ByteArray} (h : a.data.toList = b.data.toList) : a = b := by
  cases a; cases b
  simp at h
  rw [h]
theorem sum_yes {s : ByteArray} (h : s.size ≤ 140737488351232) : crc_Sum.f s = some ((crcSum s.data.toList : Nat) : Int) := by unfold crc_Sum.f; rw [if_pos h]
theorem itoa_yes {n : Int} (h : (Lit.int .i64 n).wf = true) : strconv_Itoa.f n = some ⟨(itoa n).toArray⟩ ∧ (⟨(itoa n).toArray⟩ : ByteArray).size ≤ 21 := by
  have hr : -9223372036854775808 ≤ n ∧ n ≤ 9223372036854775807 := by
    have h9 := h
    simp [Lit.wf, show IntKind.i64.min = -9223372036854775808 from rfl, show IntKind.i64.max = 9223372036854775807 from rfl] at h9
    exact h9
  refine ⟨by unfold strconv_Itoa.f; rw [if_pos hr], ?_⟩
  have := itoa_length_le n hr.1 hr.2
  simpa [ByteArray.size] using this
theorem crc_awake : ((crcSum [49, 50, 51, 52, 53, 54, 55, 56, 57] : Nat) : Int) = 2215682 := by decide +kernel
theorem awake_yes : ploverlaw03_awake.f = some true := by
  unfold ploverlaw03_awake.f
  rw [sum_yes (by decide), show ((⟨#[49, 50, 51, 52, 53, 54, 55, 56, 57]⟩ : ByteArray)).data.toList = [49, 50, 51, 52, 53, 54, 55, 56, 57] from rfl, crc_awake]
  rfl

/-! the reference's sum -/
theorem sum_l1 (s : ByteArray) (i m : Nat) (r : Int) (hm : m < 16777216) (h : Ev (fun k => ploverref03_Sum.l0 k s ((crcBits 8 m : Nat) : Int) (wrap64 ((i : Int) + 1))) r) :
    ∀ (d j : Nat), 8 - j ≤ d → j ≤ 8 → Ev (fun k => ploverref03_Sum.l1 k s ((crcBits j m : Nat) : Int) (i : Int) (j : Int)) r := by
  intro d
  induction d with
  | zero =>
    intro j h1 h2
    obtain rfl : j = 8 := by omega
    exact Ev.step (fun k => by simp only [ploverref03_Sum.l1]; rw [if_neg (by omega)]) h
  | succ d ih =>
    intro j h1 h2
    by_cases hj : j < 8
    · have hb := crcBits_lt j hm
      have hn := ih (j + 1) (by omega) (by omega)
      refine Ev.step (f := fun k => ploverref03_Sum.l1 k s ((crcBits (j + 1) m : Nat) : Int) (i : Int) ((j + 1 : Nat) : Int)) (fun k => ?_) hn
      simp only [ploverref03_Sum.l1]
      rw [if_pos (by omega), w64 (n := 2 * _) (by omega) (by omega), w64 (n := (j : Int) + 1) (by omega) (by omega)]
      by_cases c : 2 * ((crcBits j m : Nat) : Int) ≥ 16777216
      · rw [if_pos c, crcBits_yes rfl (by omega) c]; rfl
      · rw [if_neg c, crcBits_no (x := ((crcBits j m : Nat) : Int)) rfl (by omega)]; rfl
    · obtain rfl : j = 8 := by omega
      exact Ev.step (fun k => by simp only [ploverref03_Sum.l1]; rw [if_neg (by omega)]) h
theorem sum_l0 (s : ByteArray) (hs : s.size ≤ 140737488351232) : ∀ (d i : Nat), s.size - i ≤ d → i ≤ s.size → Ev (fun k => ploverref03_Sum.l0 k s ((crcSum (s.data.toList.take i) : Nat) : Int) (i : Int)) ((crcSum s.data.toList : Nat) : Int) := by
  have fin : Ev (fun k => ploverref03_Sum.l0 k s ((crcSum (s.data.toList.take s.size) : Nat) : Int) (s.size : Int)) ((crcSum s.data.toList : Nat) : Int) := by
    refine Ev.step (f := fun _ => some ((crcSum s.data.toList : Nat) : Int)) (fun k => ?_) (Ev.now _)
    simp only [ploverref03_Sum.l0]
    rw [if_neg (by omega), List.take_of_length_le (by simp)]
  intro d
  induction d with
  | zero =>
    intro i h1 h2
    obtain rfl : i = s.size := by omega
    exact fin
  | succ d ih =>
    intro i h1 h2
    by_cases hi : i < s.size
    · have hn := ih (i + 1) (by omega) (by omega)
      rw [take_snoc s i hi, crcSum_snoc] at hn
      have hb : bt s (i : Int) = ((s[i]).toNat : Int) := by rw [← bt_at s (i : Int) (by simpa using hi)]; rfl
      have hlt := crcXor_lt (crcSum_lt (s.data.toList.take i)) s[i]
      refine Ev.step (f := fun k => ploverref03_Sum.l1 k s ((crcBits 0 (crcSum (s.data.toList.take i) ^^^ (s[i].toNat * 65536)) : Nat) : Int) (i : Int) ((0 : Nat) : Int)) (fun k => ?_) (sum_l1 s i _ _ hlt ?_ 8 0 (by omega) (by omega))
      · simp only [ploverref03_Sum.l0]
        rw [if_pos (by omega), if_pos (by omega), hb, crc_in _ _ (crcSum_lt _)]
        rfl
      · rw [w64 (by omega) (by omega)]
        exact hn
    · obtain rfl : i = s.size := by omega
      exact fin
theorem refSum_ev (s : ByteArray) (hs : s.size ≤ 140737488351232) : Ev (fun k => ploverref03_Sum.f k s) ((crcSum s.data.toList : Nat) : Int) := by
  have := sum_l0 s hs s.size 0 (by omega) (by omega)
  rw [← crcSum_take0] at this
  exact this

/-- the name of a spot -/
def spotOf (kind : ByteArray) (a b : Int) : ByteArray := (((kind ++ (⟨#[47]⟩ : ByteArray)) ++ ⟨(itoa a).toArray⟩) ++ (⟨#[47]⟩ : ByteArray)) ++ ⟨(itoa b).toArray⟩
theorem spot_size (kind : ByteArray) {a b : Int} (ha : (Lit.int .i64 a).wf = true) (hb : (Lit.int .i64 b).wf = true) : (spotOf kind a b).size ≤ kind.size + 44 := by
  have h1 := (itoa_yes ha).2
  have h2 := (itoa_yes hb).2
  unfold spotOf
  have e : (⟨#[47]⟩ : ByteArray).size = 1 := rfl
  simp only [ByteArray.size_append, e]
  omega
theorem spot_yes {kind : ByteArray} {a b : Int} (hk : kind.size ≤ 1024) (ha : (Lit.int .i64 a).wf = true) (hb : (Lit.int .i64 b).wf = true) :
    crc_Spot.f kind a b = some ((crcSum (spotOf kind a b).data.toList : Nat) : Int) := by
  have h1 := itoa_yes ha
  have h2 := itoa_yes hb
  have h3 := spot_size kind ha hb
  have e : (⟨#[47]⟩ : ByteArray).size = 1 := rfl
  unfold crc_Spot.f
  rw [if_pos (by omega), h1.1, Option.bind_some, if_pos (by simp only [ByteArray.size_append, e]; omega), if_pos (by simp only [ByteArray.size_append, e]; omega), h2.1, Option.bind_some, if_pos (by simp only [ByteArray.size_append, e]; omega)]
  rw [show ((((kind ++ (⟨#[47]⟩ : ByteArray)) ++ ⟨(itoa a).toArray⟩) ++ (⟨#[47]⟩ : ByteArray)) ++ ⟨(itoa b).toArray⟩) = spotOf kind a b from rfl, sum_yes (by omega)]
  rfl
theorem refSpot_yes {kind : ByteArray} {a b : Int} (hk : kind.size ≤ 1024) (ha : (Lit.int .i64 a).wf = true) (hb : (Lit.int .i64 b).wf = true) :
    Ev (fun k => ploverref03_Spot.f k kind a b) ((crcSum (spotOf kind a b).data.toList : Nat) : Int) := by
  have h1 := itoa_yes ha
  have h2 := itoa_yes hb
  have h3 := spot_size kind ha hb
  have e : (⟨#[47]⟩ : ByteArray).size = 1 := rfl
  refine Ev.congr (f := fun k => (ploverref03_Sum.f k (spotOf kind a b)).bind fun t => some t) (fun k => ?_) (Ev.bind (refSum_ev _ (by omega)) (Ev.now _))
  unfold ploverref03_Spot.f
  rw [if_pos (by omega), h1.1, Option.bind_some, if_pos (by simp only [ByteArray.size_append, e]; omega), if_pos (by simp only [ByteArray.size_append, e]; omega), h2.1, Option.bind_some, if_pos (by simp only [ByteArray.size_append, e]; omega)]
  rfl

theorem CrcSpots : ploverlaw03_CrcSpots.Pure := by
  intro kind a b _ ha hb
  refine Ev.rounds (g := fun k => ploverlaw03_CrcSpots.f k kind a b) ?_
  unfold ploverlaw03_CrcSpots.f
  rw [awake_yes]
  by_cases c : (kind.size : Int) > 1024
  · exact Ev.congr (fun k => if_pos c) (Ev.now _)
  · refine Ev.congr (fun k => if_neg c) ?_
    rw [spot_yes (by omega) ha hb]
    simp only [Option.bind_some]
    refine Ev.bind (refSpot_yes (by omega) ha hb) ?_
    have hl := crcSum_lt (spotOf kind a b).data.toList
    refine Ev.congr (f := fun _ => some true) (fun k => ?_) (Ev.now _)
    rw [if_pos rfl, if_pos (by omega), if_pos (by omega)]

/-! the law's own digits -/
theorem data_append (a b : ByteArray) : (a ++ b).data.toList = a.data.toList ++ b.data.toList := by
  rw [ByteArray.data_append, Array.toList_append]
theorem nums1 (z : Int) : (strOfNums [z]).data.toList = [UInt8.ofNat z.toNat] := rfl
theorem digits_l0 (x0 : Int) : ∀ (d u : Nat) (z : Int) (s : ByteArray), u ≤ d → z.natAbs = u → (z = 0 ∨ (z < 0 ↔ x0 < 0)) → u ≤ 9223372036854775808 → -9223372036854775808 ≤ z → z ≤ 9223372036854775807 → s.size + (if u = 0 then 0 else nDigits u) ≤ 100 →
    Ev (fun k => ploverlaw03_digitsOf.l0 k x0 s z) (⟨((if x0 < 0 then [45] else []) ++ ((if u = 0 then [] else decDigits u) ++ s.data.toList)).toArray⟩ : ByteArray) := by
  intro d
  induction d with
  | zero =>
    intro u z s h1 h2 h3 h4 h5 h6 h7
    obtain rfl : u = 0 := by omega
    obtain rfl : z = 0 := by omega
    refine Ev.step (f := fun _ => some _) (fun k => ?_) (Ev.now _)
    simp only [ploverlaw03_digitsOf.l0]
    rw [if_pos trivial]
    by_cases c : x0 < 0
    · rw [if_pos c, if_pos c, if_pos (by omega)]
      congr 1
    · rw [if_neg c, if_neg c]
      congr 1
  | succ d ih =>
    intro u z s h1 h2 h3 h4 h5 h6 h7
    by_cases hz : z = 0
    · subst hz
      obtain rfl : u = 0 := by omega
      refine Ev.step (f := fun _ => some _) (fun k => ?_) (Ev.now _)
      simp only [ploverlaw03_digitsOf.l0]
      rw [if_pos trivial]
      by_cases c : x0 < 0
      · rw [if_pos c, if_pos c, if_pos (by omega)]
        congr 1
      · rw [if_neg c, if_neg c]
        congr 1
    · have hu : u ≠ 0 := by omega
      have h8 : s.size + nDigits u ≤ 100 := by rw [if_neg hu] at h7; exact h7
      clear h7
      have hsign : z < 0 ↔ x0 < 0 := by rcases h3 with h | h; exact absurd h hz; exact h
      have hnd : nDigits (u / 10) ≤ nDigits u := by
        by_cases c : u < 10
        · rw [nDigits_small c, nDigits_small (by omega)]; exact Nat.le_refl _
        · rw [nDigits_big c]; omega
      have hnd3 := nDigits_pos u
      have hbyte : (strOfNums [(wrap64 (48 + ((u % 10 : Nat) : Int))) % 256]).data.toList = [UInt8.ofNat (48 + u % 10)] := by
        rw [nums1, w64 (by omega) (by omega)]
        congr 2
        omega
      have goal : ∀ q : Int, q.natAbs = u / 10 → (q = 0 ∨ (q < 0 ↔ x0 < 0)) → ∀ y : ByteArray, y.data.toList = [UInt8.ofNat (48 + u % 10)] → Ev (fun k => ploverlaw03_digitsOf.l0 k x0 (y ++ s) (wrap64 q)) (⟨((if x0 < 0 then [45] else []) ++ ((if u = 0 then [] else decDigits u) ++ s.data.toList)).toArray⟩ : ByteArray) := by
        intro q hq hqs y hy
        have hys : y.size = 1 := by
          have := congrArg List.length hy
          rw [Array.length_toList] at this
          exact this
        have hlast : u / 10 ≠ 0 → nDigits u = nDigits (u / 10) + 1 := fun c => nDigits_big (by omega)
        have hsz : (y ++ s).size + (if u / 10 = 0 then 0 else nDigits (u / 10)) ≤ 100 := by
          rw [ByteArray.size_append]
          split
          · omega
          · rename_i c; have := hlast c; omega
        rw [w64 (by omega) (by omega)]
        have hn := ih (u / 10) q (y ++ s) (by omega) hq hqs (by omega) (by omega) (by omega) hsz
        refine Ev.to hn ?_
        congr 3
        rw [data_append, hy, if_neg hu]
        by_cases c : u / 10 = 0
        · rw [if_pos c, decDigits, dif_pos (by omega), show u % 10 = u by omega]; rfl
        · rw [if_neg c, decDigits.eq_def u, dif_neg (by omega), List.append_assoc]
      rcases (by omega : z = (u : Int) ∨ z = -(u : Int)) with rfl | rfl
      · have em : Int.tmod (u : Int) 10 = ((u % 10 : Nat) : Int) := rfl
        have ed : Int.tdiv (u : Int) 10 = ((u / 10 : Nat) : Int) := rfl
        refine Ev.congr (f := fun k => ploverlaw03_digitsOf.l0 k x0 s (u : Int)) (fun k => rfl) (Ev.step (fun k => ?_) (goal ((u / 10 : Nat) : Int) (by omega) (by omega) _ hbyte))
        simp only [ploverlaw03_digitsOf.l0]
        rw [if_neg hz, em, ed, if_neg (by omega), Option.bind_some, if_pos (by rw [strOfNums_size]; simp only [List.length_singleton]; omega)]
      · have em : Int.tmod (-(u : Int)) 10 = -((u % 10 : Nat) : Int) := by rw [Int.neg_tmod]; rfl
        have ed : Int.tdiv (-(u : Int)) 10 = -((u / 10 : Nat) : Int) := by rw [Int.neg_tdiv]; rfl
        by_cases c0 : u % 10 = 0
        · refine Ev.step (fun k => ?_) (goal (-((u / 10 : Nat) : Int)) (by omega) (by omega) _ hbyte)
          simp only [ploverlaw03_digitsOf.l0]
          rw [if_neg hz, em, ed, if_neg (by omega), Option.bind_some, if_pos (by rw [strOfNums_size]; simp only [List.length_singleton]; omega), c0]
          rfl
        · refine Ev.step (fun k => ?_) (goal (-((u / 10 : Nat) : Int)) (by omega) (by omega) _ hbyte)
          simp only [ploverlaw03_digitsOf.l0]
          rw [if_neg hz, em, ed, if_pos (by omega), Option.bind_some, Int.neg_neg, w64 (n := ((u % 10 : Nat) : Int)) (by omega) (by omega), if_pos (by rw [strOfNums_size]; simp only [List.length_singleton]; omega)]
theorem digits_ev {a : Int} (h : (Lit.int .i64 a).wf = true) : Ev (fun k => ploverlaw03_digitsOf.f k a) (⟨(itoa a).toArray⟩ : ByteArray) := by
  have hr : -9223372036854775808 ≤ a ∧ a ≤ 9223372036854775807 := by
    have h9 := h
    simp [Lit.wf, show IntKind.i64.min = -9223372036854775808 from rfl, show IntKind.i64.max = 9223372036854775807 from rfl] at h9
    exact h9
  unfold ploverlaw03_digitsOf.f
  by_cases c : a = 0
  · subst c
    exact Ev.congr (f := fun _ => some (⟨(itoa 0).toArray⟩ : ByteArray)) (fun k => by rw [if_pos rfl]; decide +kernel) (Ev.now _)
  · refine Ev.congr (fun k => if_neg c) ?_
    have hl := itoa_length_le a hr.1 hr.2
    have hnd : nDigits a.natAbs ≤ 30 := by
      rw [← decDigits_length]
      unfold itoa at hl
      split at hl
      · rw [List.length_cons] at hl; omega
      · rw [show a.natAbs = a.toNat by omega]; omega
    have := digits_l0 a a.natAbs a.natAbs a (⟨#[]⟩ : ByteArray) (Nat.le_refl _) rfl (.inr Iff.rfl) (by omega) hr.1 hr.2 (by
      rw [show (⟨#[]⟩ : ByteArray).size = 0 from rfl]; split <;> omega)
    refine Ev.to this ?_
    congr 2
    rw [if_neg (show ¬ a.natAbs = 0 by omega)]
    unfold itoa
    by_cases c2 : a < 0
    · rw [if_pos c2, if_pos c2]; simp
    · rw [if_neg c2, if_neg c2, show a.natAbs = a.toNat by omega]; simp

theorem CrcApart : ploverlaw03_CrcApart.Pure := by
  intro a b ha hb
  refine Ev.rounds (g := fun k => ploverlaw03_CrcApart.f k a b) ?_
  unfold ploverlaw03_CrcApart.f
  have e1 : (⟨#[110]⟩ : ByteArray).size = 1 := rfl
  have e2 : (⟨#[110, 47]⟩ : ByteArray).size = 2 := rfl
  have e3 : (⟨#[47]⟩ : ByteArray).size = 1 := rfl
  have h1 := (itoa_yes ha).2
  have h2 := (itoa_yes hb).2
  rw [awake_yes, spot_yes (by rw [e1]; decide) ha hb]
  simp only [Option.bind_some]
  refine Ev.bind (digits_ev ha) ?_
  refine Ev.congr (fun k => if_pos (by omega)) (Ev.congr (fun k => if_pos (by simp only [ByteArray.size_append, e2]; omega)) ?_)
  refine Ev.bind (digits_ev hb) ?_
  refine Ev.congr (f := fun _ => some true) (fun k => ?_) (Ev.now _)
  have e4 : ((((⟨#[110, 47]⟩ : ByteArray) ++ ⟨(itoa a).toArray⟩) ++ (⟨#[47]⟩ : ByteArray)) ++ ⟨(itoa b).toArray⟩) = spotOf (⟨#[110]⟩ : ByteArray) a b := rfl
  have hs := spot_size (⟨#[110]⟩ : ByteArray) ha hb
  rw [if_pos (by simp only [ByteArray.size_append, e2, e3]; omega), e4, sum_yes (by omega), Option.bind_some, if_pos rfl]
end Go.Proofs.YtdgbfmblnkjmjaaDoor.Pure
