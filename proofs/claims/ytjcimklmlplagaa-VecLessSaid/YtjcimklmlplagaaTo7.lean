/- Texts put together by prune.py: VecQ. -/
import Derived.Test.YtjcimklmlplagaaTo6
namespace Go.Proofs.Ytjcimklmlplagaa.Pure
open Go.RowKit Go.Lib Go.Proofs.Ytjcimklmlplagaa.Giv Go.Proofs.Ytjcimklmlplagaa.P Go.Proofs.YtjcimklmlplagaaW.PrintWords Go.Proofs.YtjcimklmlplagaaW.PrintLast
set_option linter.unusedVariables false
set_option linter.unusedSimpArgs false
def cI (a b : Int) : Int := if a < b then -1 else if a > b then 1 else 0
theorem cmp_eq (a b : Int) : cmp_Compare_int.f a b = some (cI a b) := by
  unfold cmp_Compare_int.f cmp_isNaN_int.f cI
  simp only [bne_self_eq_false, Option.bind_some, Bool.false_eq_true, if_false]
  repeat' split
  all_goals rfl
theorem or_spec (p q : Int) : Ev (fun k => cmp_Or_int.f k ([p, q] : List Int)) (if p = 0 then q else p) := by
  unfold cmp_Or_int.f
  have e0 : rd ([p, q] : List Int) 0 = p := rfl
  have e1 : rd ([p, q] : List Int) 1 = q := rfl
  have w0 : wrap64 (0 + 1) = 1 := by rw [w64 (by decide) (by decide)]; rfl
  have w1 : wrap64 (1 + 1) = 2 := by rw [w64 (by decide) (by decide)]; rfl
  have hl : ((([p, q] : List Int).length : Nat) : Int) = 2 := rfl
  by_cases hp : p = 0
  · rw [if_pos hp]
    refine Ev.step (f := fun k => cmp_Or_int.l0 k 0 ([p, q] : List Int) 2 1) (fun k => ?_) ?_
    · simp only [cmp_Or_int.l0]
      rw [hl, if_pos (by decide), if_pos (by decide), if_pos (by decide), e0, if_pos hp, w0]
    · by_cases hq : q = 0
      · refine Ev.step (f := fun k => cmp_Or_int.l0 k 0 ([p, q] : List Int) 2 2) (fun k => ?_) (Ev.step (f := fun _ => some q) (fun k => ?_) (Ev.now _))
        · simp only [cmp_Or_int.l0]
          rw [hl, if_pos (by decide), if_pos (by decide), if_pos (by decide), e1, if_pos hq, w1]
        · simp only [cmp_Or_int.l0]
          rw [if_neg (by decide), hq]
      · refine Ev.step (f := fun _ => some q) (fun k => ?_) (Ev.now _)
        simp only [cmp_Or_int.l0]
        rw [hl, if_pos (by decide), if_pos (by decide), if_pos (by decide), e1, if_neg hq]
  · rw [if_neg hp]
    refine Ev.step (f := fun _ => some p) (fun k => ?_) (Ev.now _)
    simp only [cmp_Or_int.l0]
    rw [hl, if_pos (by decide), if_pos (by decide), if_pos (by decide), e0, if_neg hp]
theorem vecLess_spec (x y : S32) : Ev (fun k => vec_Less.f k x.f0 x.f1 y.f0 y.f1) (ltH x y) := by
  unfold vec_Less.f
  refine Ev.bind (a := if cI x.f1 y.f1 = 0 then cI x.f0 y.f0 else cI x.f1 y.f1) (f := fun n t => some (decide (t < 0))) ?_ ?_
  · unfold vec_order.f
    refine Ev.congr (f := fun k => (cmp_Or_int.f k ([cI x.f1 y.f1, cI x.f0 y.f0] : List Int)).bind fun t124 => (some t124)) (fun k => ?_) (Ev.bind (f := fun n t => some t) (or_spec _ _) (Ev.now _))
    rw [cmp_eq, cmp_eq]; rfl
  · refine Ev.to (Ev.now _) ?_
    unfold cI ltH
    rw [decide_eq_decide]
    repeat' split
    all_goals omega
theorem VecLess_pure (a0 a1 b0 b1 c0 c1 : Int) : ∃ n, ploverlaw05_VecLess.f n a0 a1 b0 b1 c0 c1 = some true := by
  obtain ⟨k1, h1⟩ := vecLess_spec ⟨a0, a1⟩ ⟨a0, a1⟩
  obtain ⟨k2, h2⟩ := vecLess_spec ⟨a0, a1⟩ ⟨b0, b1⟩
  obtain ⟨k3, h3⟩ := vecLess_spec ⟨b0, b1⟩ ⟨a0, a1⟩
  obtain ⟨k4, h4⟩ := vecLess_spec ⟨b0, b1⟩ ⟨c0, c1⟩
  obtain ⟨k5, h5⟩ := vecLess_spec ⟨a0, a1⟩ ⟨c0, c1⟩
  obtain ⟨k6, h6⟩ := tops_spec
  have hr := less_eq ⟨a0, a1⟩ ⟨b0, b1⟩
  simp only at h1 h2 h3 h4 h5 hr
  obtain ⟨K, hK⟩ : ∃ K, K = k1 + k2 + k3 + k4 + k5 + k6 := ⟨_, rfl⟩
  refine ⟨K + 1, ?_⟩
  have a1' := h1 (K + 1) (by omega)
  have a2' := h2 (K + 1) (by omega)
  have a3' := h3 (K + 1) (by omega)
  have b2' := h2 K (by omega)
  have b4' := h4 K (by omega)
  have b5' := h5 K (by omega)
  have b6' := h6 K (by omega)
  clear h1 h2 h3 h4 h5 h6 hK
  have f1 : ltH ⟨a0, a1⟩ ⟨a0, a1⟩ = false := ordH.irr _
  have f2 : ltH ⟨a0, a1⟩ ⟨b0, b1⟩ = true → ltH ⟨b0, b1⟩ ⟨a0, a1⟩ = false := fun h => ordH.asym h
  have f3 : ltH ⟨a0, a1⟩ ⟨b0, b1⟩ = true → ltH ⟨b0, b1⟩ ⟨c0, c1⟩ = true → ltH ⟨a0, a1⟩ ⟨c0, c1⟩ = true := fun h h' => ordH.tr _ _ _ h h'
  have f4 : (!(a0 == b0) || (!(a1 == b1))) = (ltH ⟨a0, a1⟩ ⟨b0, b1⟩ || ltH ⟨b0, b1⟩ ⟨a0, a1⟩) := by
    unfold ltH
    rw [Bool.eq_iff_iff]
    simp only [Bool.or_eq_true, Bool.not_eq_true', beq_eq_false_iff_ne, ne_eq, decide_eq_true_eq]
    omega
  rw [f1] at a1'
  unfold ploverlaw05_VecLess.f
  rw [a1', a2', a3', f4]
  simp only [ploverlaw05_VecLess.j0, b2', b4', b5', b6', hr, Option.bind_some]
  generalize ltH ⟨a0, a1⟩ ⟨b0, b1⟩ = p at *
  generalize ltH ⟨b0, b1⟩ ⟨a0, a1⟩ = q at *
  generalize ltH ⟨b0, b1⟩ ⟨c0, c1⟩ = s at *
  generalize ltH ⟨a0, a1⟩ ⟨c0, c1⟩ = t at *
  clear a1' a2' a3' b2' b4' b5' b6' hr f4 f1
  cases p <;> cases q <;> cases s <;> cases t <;> simp at f2 f3 ⊢
theorem vecLess_walk (a0 a1 b0 b1 c0 c1 : Int) (W : World) : Calls Try.prog 6 #[.agg #[.int .i64 a0, .int .i64 a1], .agg #[.int .i64 b0, .int .i64 b1], .agg #[.int .i64 c0, .int .i64 c1]] W fun e w' => e = .returned (.bool true) ∧ Below W.heap.size W w' := by
  obtain ⟨k, hk⟩ := VecLess_pure a0 a1 b0 b1 c0 c1
  exact ploverlaw05_VecLess.calls k a0 a1 b0 b1 c0 c1 true rfl W hk
def gapsum (a b : List Int) : Int := ((a.zip b).map fun p => (max (p.1 - p.2) (p.2 - p.1))).sum
def distR (a b : List Int) : Int × Int := if isV a = true ∧ isV b = true ∧ a.length = b.length then (gapsum a b, 0) else (0, 50)
theorem rd_in {xs : List Int} (h : ∀ x ∈ xs, -2147483648 ≤ x ∧ x ≤ 2147483647) (i : Nat) (hi : i < xs.length) : rd xs (i : Int) = xs[i] ∧ -2147483648 ≤ xs[i] ∧ xs[i] ≤ 2147483647 := by
  refine ⟨?_, h _ (List.getElem_mem hi)⟩
  unfold rd
  rw [Int.toNat_natCast, List.getD_eq_getElem?_getD, List.getElem?_eq_getElem hi, Option.getD_some]
theorem refIs_spec (l : List Int) (hl : l.length ≤ 1000000000000000) : Ev (fun k => ploverref05_Is.f k l) (isV l) := by
  have : ∀ (d i : Nat), l.length - i ≤ d → i ≤ l.length → Ev (fun k => ploverref05_Is.l0 k l (i : Int)) (!(l.drop i).any oddN && (decide (0 < l.length) && decide (l.length ≤ 16))) := by
    intro d
    have hend : ∀ i : Nat, i = l.length → Ev (fun k => ploverref05_Is.l0 k l (i : Int)) (!(l.drop i).any oddN && (decide (0 < l.length) && decide (l.length ≤ 16))) := by
      intro i hi
      rw [List.drop_of_length_le (by omega), List.any_nil, Bool.not_false, Bool.true_and]
      by_cases h0 : (l.length : Int) ≥ 1
      · refine Ev.step (f := fun _ => some (decide ((l.length : Int) ≤ 16))) (fun k => ?_) (Ev.to (Ev.now _) ?_)
        · simp only [ploverref05_Is.l0]; rw [if_neg (by omega), if_pos h0]
        · rw [decide_eq_true (show 0 < l.length by omega), Bool.true_and, decide_eq_decide]; omega
      · refine Ev.step (f := fun _ => some false) (fun k => ?_) (Ev.to (Ev.now _) ?_)
        · simp only [ploverref05_Is.l0]; rw [if_neg (by omega), if_neg h0]
        · rw [decide_eq_false (show ¬ 0 < l.length by omega), Bool.false_and]
    induction d with
    | zero => intro i h1 h2; exact hend i (by omega)
    | succ d ih =>
      intro i h1 h2
      by_cases hlt : i < l.length
      · have er : rd l (i : Int) = l[i] := by unfold rd; rw [Int.toNat_natCast, List.getD_eq_getElem?_getD, List.getElem?_eq_getElem hlt, Option.getD_some]
        rw [List.drop_eq_getElem_cons hlt, List.any_cons]
        by_cases h1' : l[i] < -2147483648
        · refine Ev.step (f := fun _ => some false) (fun k => ?_) (Ev.to (Ev.now _) ?_)
          · simp only [ploverref05_Is.l0]; rw [if_pos (by omega), if_pos (by omega), er, if_pos h1']
          · simp [oddN, h1']
        · by_cases h2' : l[i] > 2147483647
          · refine Ev.step (f := fun _ => some false) (fun k => ?_) (Ev.to (Ev.now _) ?_)
            · simp only [ploverref05_Is.l0]; rw [if_pos (by omega), if_pos (by omega), er, if_neg h1', if_pos h2']
            · simp [oddN, h1', show 2147483647 < l[i] from h2']
          · have ho : oddN l[i] = false := by simp [oddN]; omega
            rw [ho, Bool.false_or]
            refine Ev.step (f := fun k => ploverref05_Is.l0 k l ((i + 1 : Nat) : Int)) (fun k => ?_) (ih (i + 1) (by omega) (by omega))
            simp only [ploverref05_Is.l0]; rw [if_pos (by omega), if_pos (by omega), er, if_neg h1', if_neg h2', w64_succ i l.length hlt (by omega)]
      · exact hend i (by omega)
  unfold ploverref05_Is.f
  refine Ev.to (this l.length 0 (by omega) (by omega)) ?_
  unfold isV
  rw [List.drop_zero]
  cases l.any oddN <;> cases decide (0 < l.length) <;> cases decide (l.length ≤ 16) <;> rfl
theorem gap_take {a b : List Int} (hab : a.length = b.length) (i : Nat) (hi : i < a.length) : gapsum (a.take (i + 1)) (b.take (i + 1)) = gapsum (a.take i) (b.take i) + max (a[i] - b[i]) (b[i] - a[i]) := by
  unfold gapsum
  have e : (a.take (i + 1)).zip (b.take (i + 1)) = (a.take i).zip (b.take i) ++ [(a[i], b[i])] := by
    rw [List.take_succ_eq_append_getElem hi, List.take_succ_eq_append_getElem (by omega), List.zip_append (by rw [List.length_take, List.length_take]; omega)]
    rfl
  rw [e, List.map_append, List.sum_append]
  simp
theorem gap_bd {a b : List Int} (hab : a.length = b.length) (ha : ∀ x ∈ a, -2147483648 ≤ x ∧ x ≤ 2147483647) (hb : ∀ x ∈ b, -2147483648 ≤ x ∧ x ≤ 2147483647) : ∀ i : Nat, i ≤ a.length → 0 ≤ gapsum (a.take i) (b.take i) ∧ gapsum (a.take i) (b.take i) ≤ 4294967296 * i := by
  intro i
  induction i with
  | zero => intro _; simp [gapsum]
  | succ i ih =>
    intro hi
    have h := ih (by omega)
    have h1 := ha _ (List.getElem_mem (show i < a.length by omega))
    have h2 := hb _ (List.getElem_mem (show i < b.length by omega))
    rw [gap_take hab i (by omega)]
    omega
theorem vecDist_spec (a b : List Int) : Ev (fun k => vec_Dist.f k a b) (distR a b) := by
  have bad : Ev (fun k => vec_Dist.j0 k a b true) (0, 50) := Ev.step (f := fun _ => some (0, 50)) (fun k => by simp only [vec_Dist.j0]; rw [if_pos trivial]) (Ev.now _)
  unfold vec_Dist.f vec_is.f
  simp only [Option.bind_some]
  by_cases h1 : isV a = true
  · refine Ev.congr (fun k => if_pos h1) ?_
    unfold vec_Check.f vec_is.f
    simp only [Option.bind_some]
    by_cases h2 : isV b = true
    · rw [if_pos h2]
      by_cases h3 : a.length = b.length
      · rw [if_pos (by omega)]
        simp only [Option.bind_some]
        unfold distR
        rw [if_pos ⟨h1, h2, h3⟩]
        obtain ⟨p0, p1, pa⟩ := isV_spec h1
        obtain ⟨_, _, pb⟩ := isV_spec h2
        refine Ev.step (f := fun k => vec_Dist.l0 k b (gapsum (a.take 0) (b.take 0)) a (a.length : Int) ((0 : Nat) : Int)) (fun k => ?_) ?_
        · simp only [vec_Dist.j0]; rw [if_neg (by decide)]; rfl
        · have : ∀ (d i : Nat), a.length - i ≤ d → i ≤ a.length → Ev (fun k => vec_Dist.l0 k b (gapsum (a.take i) (b.take i)) a (a.length : Int) (i : Int)) (gapsum a b, 0) := by
            intro d
            have hend : ∀ i : Nat, i = a.length → Ev (fun k => vec_Dist.l0 k b (gapsum (a.take i) (b.take i)) a (a.length : Int) (i : Int)) (gapsum a b, 0) := by
              intro i hi
              rw [List.take_of_length_le (by omega), List.take_of_length_le (by omega)]
              refine Ev.step (f := fun _ => some (gapsum a b, 0)) (fun k => ?_) (Ev.now _)
              simp only [vec_Dist.l0]; rw [if_neg (by omega)]
            induction d with
            | zero => intro i q1 q2; exact hend i (by omega)
            | succ d ih =>
              intro i q1 q2
              by_cases hlt : i < a.length
              · obtain ⟨ea, ea1, ea2⟩ := rd_in pa i hlt
                obtain ⟨eb, eb1, eb2⟩ := rd_in pb i (by omega)
                obtain ⟨g1, g2⟩ := gap_bd h3 pa pb i q2
                refine Ev.step (fun k => ?_) (ih (i + 1) (by omega) (by omega))
                simp only [vec_Dist.l0]
                rw [if_pos (by omega), if_pos (by omega), if_pos (by omega), if_pos (by omega), w64_succ i a.length hlt (by omega), ea, eb, gap_take h3 i hlt, w64 (n := a[i] - b[i]) (by omega) (by omega), w64 (n := b[i] - a[i]) (by omega) (by omega)]
                have em : mx (a[i] - b[i]) (b[i] - a[i]) = max (a[i] - b[i]) (b[i] - a[i]) := by unfold mx; split <;> omega
                rw [em, w64 (by omega) (by omega)]
              · exact hend i (by omega)
          exact this a.length 0 (by omega) (by omega)
      · rw [if_neg (by omega)]
        unfold distR
        rw [if_neg (fun c => h3 c.2.2)]
        exact bad
    · rw [if_neg h2]
      unfold distR
      rw [if_neg (fun c => h2 c.2.1)]
      exact bad
  · refine Ev.congr (fun k => if_neg h1) ?_
    unfold distR
    rw [if_neg (fun c => h1 c.1)]
    exact bad
theorem refDist_spec (a b : List Int) (hla : a.length ≤ 1000000000000000) (hlb : b.length ≤ 1000000000000000) : Ev (fun k => ploverref05_Dist.f k a b) (distR a b) := by
  have bad : Ev (fun k => ploverref05_Dist.j0 k a b true) (0, 50) := Ev.step (f := fun _ => some (0, 50)) (fun k => by simp only [ploverref05_Dist.j0]; rw [if_pos trivial]) (Ev.now _)
  unfold ploverref05_Dist.f
  refine Ev.bind (refIs_spec a hla) ?_
  by_cases h1 : isV a = true
  · refine Ev.congr (fun k => if_pos h1) ?_
    refine Ev.bind (refIs_spec b hlb) ?_
    by_cases h2 : isV b = true
    · refine Ev.congr (fun k => if_pos h2) ?_
      by_cases h3 : a.length = b.length
      · have e : ((a.length : Int) != (b.length : Int)) = false := by rw [h3]; simp
        rw [e]
        unfold distR
        rw [if_pos ⟨h1, h2, h3⟩]
        obtain ⟨p0, p1, pa⟩ := isV_spec h1
        obtain ⟨_, _, pb⟩ := isV_spec h2
        refine Ev.step (f := fun k => ploverref05_Dist.l0 k a b (gapsum (a.take 0) (b.take 0)) ((0 : Nat) : Int)) (fun k => ?_) ?_
        · simp only [ploverref05_Dist.j0]; rw [if_neg (by decide)]; rfl
        · have : ∀ (d i : Nat), a.length - i ≤ d → i ≤ a.length → Ev (fun k => ploverref05_Dist.l0 k a b (gapsum (a.take i) (b.take i)) (i : Int)) (gapsum a b, 0) := by
            intro d
            have hend : ∀ i : Nat, i = a.length → Ev (fun k => ploverref05_Dist.l0 k a b (gapsum (a.take i) (b.take i)) (i : Int)) (gapsum a b, 0) := by
              intro i hi
              rw [List.take_of_length_le (by omega), List.take_of_length_le (by omega)]
              refine Ev.step (f := fun _ => some (gapsum a b, 0)) (fun k => ?_) (Ev.now _)
              simp only [ploverref05_Dist.l0]; rw [if_neg (by omega)]
            induction d with
            | zero => intro i q1 q2; exact hend i (by omega)
            | succ d ih =>
              intro i q1 q2
              by_cases hlt : i < a.length
              · obtain ⟨ea, ea1, ea2⟩ := rd_in pa i hlt
                obtain ⟨eb, eb1, eb2⟩ := rd_in pb i (by omega)
                obtain ⟨g1, g2⟩ := gap_bd h3 pa pb i q2
                refine Ev.step (fun k => ?_) (ih (i + 1) (by omega) (by omega))
                simp only [ploverref05_Dist.l0]
                rw [if_pos (by omega), if_pos (by omega), if_pos (by omega), ea, eb, gap_take h3 i hlt, w64_succ i a.length hlt (by omega)]
                by_cases hc : a[i] > b[i]
                · rw [if_pos hc, w64 (n := gapsum (a.take i) (b.take i) + a[i]) (by omega) (by omega), w64 (by omega) (by omega)]
                  congr 1
                  omega
                · rw [if_neg hc, w64 (n := gapsum (a.take i) (b.take i) + b[i]) (by omega) (by omega), w64 (by omega) (by omega)]
                  congr 1
                  omega
              · exact hend i (by omega)
          exact this a.length 0 (by omega) (by omega)
      · have e : ((a.length : Int) != (b.length : Int)) = true := by rw [bne_iff_ne]; omega
        rw [e]
        unfold distR
        rw [if_neg (fun c => h3 c.2.2)]
        exact bad
    · refine Ev.congr (fun k => if_neg h2) ?_
      unfold distR
      rw [if_neg (fun c => h2 c.2.1)]
      exact bad
  · refine Ev.congr (fun k => if_neg h1) ?_
    unfold distR
    rw [if_neg (fun c => h1 c.1)]
    exact bad
def searchR (v : List Int) (k : Int) : List S46 → List S32 → List S32 × Int
  | [], hits => if k < 1 then ([], 51) else topR hits k
  | p :: t, hits => if (distR v p.f1).2 = 0 then searchR v k t (hits ++ [⟨p.f0, (distR v p.f1).1⟩]) else ([], (distR v p.f1).2)
theorem rd46 (l : List S46) (i : Nat) (h : i < l.length) : rd_T46 l (i : Int) = l[i] := by
  unfold rd_T46
  rw [Int.toNat_natCast, List.getD_eq_getElem?_getD, List.getElem?_eq_getElem h, Option.getD_some]
theorem okH_mk {a b : Int} (h : -9223372036854775808 ≤ a ∧ a ≤ 9223372036854775807) : okH ⟨a, b⟩ = true := by unfold okH; simpa using h
theorem search_l0 (l : List S46) (v : List Int) (k : Int) (hl : l.length ≤ 100) (hok : ∀ x ∈ l, -9223372036854775808 ≤ x.f0 ∧ x.f0 ≤ 9223372036854775807) : ∀ (d i : Nat) (hits : List S32), l.length - i ≤ d → i ≤ l.length → hits.length ≤ i → hits.all okH = true → Ev (fun n => vec_Search.l0 n v k hits l (l.length : Int) (i : Int)) (searchR v k (l.drop i) hits) := by
  intro d
  have hend : ∀ (i : Nat) (hits : List S32), i = l.length → hits.length ≤ i → hits.all okH = true → Ev (fun n => vec_Search.l0 n v k hits l (l.length : Int) (i : Int)) (searchR v k (l.drop i) hits) := by
    intro i hits hi hh ho
    rw [List.drop_of_length_le (by omega)]
    unfold searchR
    by_cases hk : k < 1
    · rw [if_pos hk]
      refine Ev.step (f := fun _ => some ([], 51)) (fun n => ?_) (Ev.now _)
      simp only [vec_Search.l0]; rw [if_neg (by omega), if_pos hk]
    · rw [if_neg hk]
      refine Ev.step (f := fun _ => some (topR hits k)) (fun n => ?_) (Ev.now _)
      simp only [vec_Search.l0]; rw [if_neg (by omega), if_neg hk, topF_spec hits k (by omega) ho]; rfl
  induction d with
  | zero => intro i hits h1 h2 h3 h4; exact hend i hits (by omega) h3 h4
  | succ d ih =>
    intro i hits h1 h2 h3 h4
    by_cases hlt : i < l.length
    · rw [List.drop_eq_getElem_cons hlt, searchR]
      refine Ev.step (f := fun n => (vec_Dist.f n v (l[i]).f1).bind fun bt230 => (if bt230.2 = 0 then (if hits.length < 8796093022208 then (vec_Search.l0 n v k (hits ++ [(⟨(l[i]).f0, bt230.1⟩ : S32)]) l (l.length : Int) ((i + 1 : Nat) : Int)) else (none)) else (some (([] : List S32), bt230.2)))) (fun n => ?_) ?_
      · simp only [vec_Search.l0]
        rw [if_pos (by omega), if_pos (by omega), if_pos (by omega), rd46 l i hlt, w64_succ i l.length hlt (by omega)]
      · refine Ev.bind (vecDist_spec v (l[i]).f1) ?_
        by_cases hd : (distR v (l[i]).f1).2 = 0
        · rw [if_pos hd]
          refine Ev.congr (fun n => (if_pos hd).trans (if_pos (by omega))) ?_
          exact ih (i + 1) _ (by omega) (by omega) (by rw [List.length_append, List.length_singleton]; omega) (by rw [List.all_append, h4]; simpa using okH_mk (hok _ (List.getElem_mem hlt)))
        · rw [if_neg hd]
          exact Ev.congr (fun n => if_neg hd) (Ev.now _)
    · exact hend i hits (by omega) h3 h4
theorem refSearch_l0 (l : List S46) (v : List Int) (k : Int) (hl : l.length ≤ 100) (hv : v.length ≤ 1000000000000000) (hp : ∀ x ∈ l, x.f1.length ≤ 1000000000000000) : ∀ (d i : Nat) (hits : List S32), l.length - i ≤ d → i ≤ l.length → hits.length ≤ i → Ev (fun n => ploverref05_Search.l0 n l v k hits (i : Int)) (searchR v k (l.drop i) hits) := by
  intro d
  have hend : ∀ (i : Nat) (hits : List S32), i = l.length → hits.length ≤ i → Ev (fun n => ploverref05_Search.l0 n l v k hits (i : Int)) (searchR v k (l.drop i) hits) := by
    intro i hits hi hh
    rw [List.drop_of_length_le (by omega)]
    unfold searchR
    by_cases hk : k < 1
    · rw [if_pos hk]
      refine Ev.step (f := fun _ => some ([], 51)) (fun n => ?_) (Ev.now _)
      simp only [ploverref05_Search.l0]; rw [if_neg (by omega), if_pos hk]
    · rw [if_neg hk]
      unfold topR
      by_cases hk2 : k > 64
      · rw [if_pos (.inr hk2)]
        refine Ev.step (f := fun _ => some ([], 51)) (fun n => ?_) (Ev.now _)
        simp only [ploverref05_Search.l0]; rw [if_neg (by omega), if_neg hk, if_pos hk2]
      · rw [if_neg (by omega)]
        refine Ev.step (f := fun n => (ploverref05_top.f n hits k).bind fun t257 => (some (t257, 0))) (fun n => ?_) ?_
        · simp only [ploverref05_Search.l0]; rw [if_neg (by omega), if_neg hk, if_neg hk2]
        · obtain ⟨K, rfl⟩ : ∃ K : Nat, k = K := ⟨k.toNat, by omega⟩
          refine Ev.bind (f := fun n t => some (t, 0)) (refTop_spec hits K (by omega) (by omega)) ?_
          rw [Int.toNat_natCast]
          exact Ev.now _
  induction d with
  | zero => intro i hits h1 h2 h3; exact hend i hits (by omega) h3
  | succ d ih =>
    intro i hits h1 h2 h3
    by_cases hlt : i < l.length
    · rw [List.drop_eq_getElem_cons hlt, searchR]
      refine Ev.step (f := fun n => (ploverref05_Dist.f n v (l[i]).f1).bind fun bt251 => (if bt251.2 = 0 then (if hits.length < 8796093022208 then (ploverref05_Search.l0 n l v k (hits ++ [(⟨(l[i]).f0, bt251.1⟩ : S32)]) ((i + 1 : Nat) : Int)) else (none)) else (some (([] : List S32), bt251.2)))) (fun n => ?_) ?_
      · simp only [ploverref05_Search.l0]
        rw [if_pos (by omega), if_pos (by omega), rd46 l i hlt, w64_succ i l.length hlt (by omega)]
      · refine Ev.bind (refDist_spec v (l[i]).f1 hv (hp _ (List.getElem_mem hlt))) ?_
        by_cases hd : (distR v (l[i]).f1).2 = 0
        · rw [if_pos hd]
          refine Ev.congr (fun n => (if_pos hd).trans (if_pos (by omega))) ?_
          exact ih (i + 1) _ (by omega) (by omega) (by rw [List.length_append, List.length_singleton]; omega)
        · rw [if_neg hd]
          exact Ev.congr (fun n => if_neg hd) (Ev.now _)
    · exact hend i hits (by omega) h3
def searchF (l : List S46) (v : List Int) (k : Int) : List S32 × Int := if isV v = true then searchR v k l [] else ([], 50)
theorem searchR_len (v : List Int) (k : Int) : ∀ (l : List S46) (hits : List S32), hits.length + l.length ≤ 1000 → (searchR v k l hits).1.length ≤ 1000 := by
  intro l
  induction l with
  | nil =>
    intro hits h
    rw [searchR]
    split
    · simp
    · exact topR_len hits k (by simpa using h)
  | cons p t ih =>
    intro hits h
    rw [searchR]
    split
    · exact ih _ (by rw [List.length_append, List.length_singleton]; simp only [List.length_cons] at h; omega)
    · simp
theorem VecSearches_pure (l : List S46) (v : List Int) (k : Int) (hok : ∀ x ∈ l, (-9223372036854775808 ≤ x.f0 ∧ x.f0 ≤ 9223372036854775807) ∧ x.f1.length ≤ 1000000000000000) (hv : v.length ≤ 1000000000000000) (_ : (Lit.int .i64 k).wf = true) : ∃ n, ploverlaw05_VecSearches.f n l v k = some true := by
  refine Ev.rounds ?_
  unfold ploverlaw05_VecSearches.f
  by_cases h : (l.length : Int) > 60
  · exact Ev.congr (fun n => if_pos h) (Ev.bind (f := fun n t => some t) tops_spec (Ev.now _))
  · refine Ev.congr (fun n => if_neg h) ?_
    have e1 : Ev (fun n => vec_Search.f n l v k) (searchF l v k) := by
      unfold vec_Search.f vec_is.f searchF
      simp only [Option.bind_some]
      by_cases hi : isV v = true
      · rw [if_pos hi]
        exact Ev.congr (fun n => if_pos hi) (search_l0 l v k (by omega) (fun x hx => (hok x hx).1) l.length 0 [] (by omega) (by omega) (by simp) rfl)
      · rw [if_neg hi]
        exact Ev.congr (fun n => if_neg hi) (Ev.now _)
    have e2 : Ev (fun n => ploverref05_Search.f n l v k) (searchF l v k) := by
      unfold ploverref05_Search.f searchF
      refine Ev.bind (refIs_spec v hv) ?_
      by_cases hi : isV v = true
      · rw [if_pos hi]
        exact Ev.congr (fun n => if_pos hi) (refSearch_l0 l v k (by omega) hv (fun x hx => (hok x hx).2) l.length 0 [] (by omega) (by omega) (by simp))
      · rw [if_neg hi]
        exact Ev.congr (fun n => if_neg hi) (Ev.now _)
    refine Ev.bind e1 (Ev.bind e2 ?_)
    refine Ev.bind (same_refl _ ?_) ?_
    · unfold searchF
      split
      · exact searchR_len v k l [] (by simp; omega)
      · simp
    · exact Ev.congr (f := fun n => (ploverlaw05_tops.f n).bind fun t => (some t)) (fun n => by simp) tops_end
end Go.Proofs.Ytjcimklmlplagaa.Pure
