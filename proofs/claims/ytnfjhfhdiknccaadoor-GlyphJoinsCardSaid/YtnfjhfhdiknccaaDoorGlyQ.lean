/- What the reference's folding, words and names give. -/
import Derived.Test.YtnfjhfhdiknccaaDoorGlyP
namespace Go.Proofs.YtnfjhfhdiknccaaDoor.Pure
open Go.RowKit Go.Lib Go.Proofs.YtnfjhfhdiknccaaDoor.Giv Go.Proofs.YtnfjhfhdiknccaaDoor.P Go.Proofs.YtnfjhfhdiknccaaDoorW.PrintWords Go.Proofs.YtnfjhfhdiknccaaDoorW.PrintLast

theorem great_spec (n : Int) : ploverref01_great.f n = some (greatR n) := by
  unfold ploverref01_great.f
  repeat' split
  all_goals (apply some_bool; unfold greatR; simp only [Bool.or_eq_true, Bool.and_eq_true, Bool.not_eq_true', decide_eq_true_eq, decide_eq_false_iff_not, Bool.false_eq_true, true_iff, false_iff]; omega)
theorem blank_spec (n : Int) : ploverref01_blank.f n = some (blankR n) := by
  unfold ploverref01_blank.f
  repeat' split
  all_goals (apply some_bool; unfold blankR; simp only [Bool.or_eq_true, decide_eq_true_eq, beq_iff_eq, true_iff]; omega)
theorem letter_spec (n : Int) (h0 : 0 ≤ n) (h1 : n ≤ 1114111) : ploverref01_letter.f n = some (letterR n) := by
  unfold ploverref01_letter.f letterR
  rw [great_spec, Option.bind_some, w64 (by omega) (by omega), great_spec]
  cases greatR n <;> rfl
theorem fold_ok {n : Int} (h : okRune n = true) : okRune (foldR n) = true := by
  rw [okRune_iff] at h ⊢
  unfold foldR
  split
  · rename_i g
    unfold greatR at g
    simp only [Bool.or_eq_true, Bool.and_eq_true, Bool.not_eq_true', decide_eq_true_eq, decide_eq_false_iff_not] at g
    omega
  · exact h
theorem map_fold_ok {L : List Int} (h : L.all okRune = true) : (L.map foldR).all okRune = true := by
  rw [List.all_map, List.all_eq_true] at *
  exact fun x hx => fold_ok (h x hx)
theorem rd_ok {L : List Int} (h : L.all okRune = true) (i : Nat) (hi : i < L.length) : okRune (rd L (i : Int)) = true := by
  unfold rd
  rw [Int.toNat_natCast, List.getD_eq_getElem?_getD, List.getElem?_eq_getElem hi, Option.getD_some]
  exact List.all_eq_true.1 h _ (List.getElem_mem hi)
theorem drop_ok {L : List Int} (h : L.all okRune = true) (i : Nat) : (L.drop i).all okRune = true := by
  rw [List.all_eq_true] at *
  exact fun x hx => h x (List.mem_of_mem_drop hx)

theorem fold_l0 (L : List Int) (hL : L.all okRune = true) (hn : L.length ≤ 1048576) : ∀ (d i : Nat) (acc : List Int), L.length - i ≤ d → i ≤ L.length → acc.length = i → acc.all okRune = true →
    Ev (fun k => ploverref01_Fold.l0 k L acc (i : Int)) (textOf (acc ++ (L.drop i).map foldR), 0) := by
  intro d
  induction d with
  | zero =>
    intro i acc h1 h2 h3 h4
    refine Ev.step (f := fun k => (ploverref01_Text.f k acc).bind fun bt209 => (some (bt209.1, bt209.2))) (fun k => ?_) ?_
    · simp only [ploverref01_Fold.l0]; rw [if_neg (by omega)]
    · refine Ev.bind (text_spec acc (by omega)) ?_
      rw [if_pos h4, List.drop_of_length_le (by omega), List.map_nil, List.append_nil]; exact Ev.now _
  | succ d ih =>
    intro i acc h1 h2 h3 h4
    by_cases hlt : i < L.length
    · have hr := rd_ok hL i hlt
      rw [drop_rd L i hlt]
      generalize hrr : rd L (i : Int) = r at *
      have hb := okRune_iff.1 hr
      refine Ev.step (f := fun k => ploverref01_Fold.l0 k L (acc ++ [foldR r]) ((i + 1 : Nat) : Int)) (fun k => ?_) ?_
      · simp only [ploverref01_Fold.l0]
        rw [if_pos (by omega), if_pos (by omega), hrr, great_spec, Option.bind_some]
        unfold foldR
        cases h : greatR r
        · rw [if_neg (by simp), if_pos (by omega), if_neg (by simp), w64_succ i L.length hlt (by omega)]
        · rw [if_pos rfl, if_pos (by omega), if_pos rfl, w64_succ i L.length hlt (by omega), w64 (by omega) (by omega)]
      · refine Ev.to (ih (i + 1) (acc ++ [foldR r]) (by omega) (by omega) (by simp [h3]) ?_) ?_
        · rw [List.all_append, h4]; simp [fold_ok hr]
        · rw [List.map_cons, List.append_assoc]; rfl
    · exact ih i acc (by omega) h2 h3 h4
def resFold : Option (List Int) → ByteArray × Int
  | some L => (textOf (L.map foldR), 0)
  | none => (⟨#[]⟩, 10)
theorem fold_spec (s : ByteArray) (hs : s.size ≤ 1048576) : Ev (fun k => ploverref01_Fold.f k s) (resFold (decS s)) := by
  unfold ploverref01_Fold.f
  refine Ev.bind (runes_spec s (by omega)) ?_
  cases h : decS s with
  | none => exact Ev.congr (fun k => if_neg (by decide)) (Ev.now _)
  | some L =>
    obtain ⟨h1, h2⟩ := textOf_decS h
    have hl := enc_length L
    rw [← textOf_size, h1] at hl
    refine Ev.congr (fun k => if_pos rfl) ?_
    refine Ev.to (fold_l0 L h2 (by omega) L.length 0 [] (by omega) (by omega) rfl rfl) ?_
    simp [resFold]

theorem textOf_cons_length (L : List Int) : (L.length : Int) > 0 ↔ L ≠ [] := by
  rw [gt_iff_lt]
  constructor
  · intro h e; subst e; simp at h
  · intro h; have := List.length_pos_iff.2 h; omega
theorem words_l0 (L : List Int) (hL : L.all okRune = true) (hn : L.length ≤ 1048576) : ∀ (d i : Nat) (out : List ByteArray) (now : List Int), L.length - i ≤ d → i ≤ L.length → out.length ≤ i → now.length ≤ i → now.all okRune = true →
    Ev (fun k => ploverref01_Words.l0 k L out now (i : Int)) (out ++ (wordsL now (L.drop i)).map textOf, 0) := by
  have fin : ∀ (i : Nat) (out : List ByteArray), L.length < i → Ev (fun k => ploverref01_Words.l0 k L out [] (i : Int)) (out, 0) := by
    intro i out h
    refine Ev.step (f := fun _ => some (out, 0)) (fun k => ?_) (Ev.now _)
    simp only [ploverref01_Words.l0]; rw [if_neg (by omega)]
  intro d
  induction d with
  | zero =>
    intro i out now h1 h2 h3 h4 h5
    obtain rfl : i = L.length := by omega
    refine Ev.step (f := fun k => ploverref01_Words.j1 k L out now (L.length : Int) false) (fun k => ?_) ?_
    · simp only [ploverref01_Words.l0]; rw [if_pos (by omega), if_neg (by omega)]
    · rw [List.drop_length]
      unfold wordsL
      by_cases hne : now = []
      · subst hne
        refine Ev.step (f := fun k => ploverref01_Words.l0 k L out [] ((L.length + 1 : Nat) : Int)) (fun k => ?_) (Ev.to (fin _ _ (by omega)) (by simp))
        simp only [ploverref01_Words.j1]
        rw [if_neg (by decide), if_neg (by decide), w64 (by omega) (by omega)]; rfl
      · refine Ev.step (f := fun k => (ploverref01_Text.f k now).bind fun bt150 => (if out.length < 8796093022208 then (ploverref01_Words.l0 k L (out ++ [bt150.1]) ([] : List Int) (wrap64 ((L.length : Int) + 1))) else (none))) (fun k => ?_) ?_
        · simp only [ploverref01_Words.j1]
          rw [if_neg (by decide), if_pos ((textOf_cons_length now).2 hne)]
        · refine Ev.bind (text_spec now (by omega)) ?_
          rw [if_pos h5]
          refine Ev.congr (f := fun k => ploverref01_Words.l0 k L (out ++ [textOf now]) [] ((L.length + 1 : Nat) : Int)) (fun k => ?_) (Ev.to (fin _ _ (by omega)) (by simp [hne]))
          rw [if_pos (by omega), w64 (by omega) (by omega)]; rfl
  | succ d ih =>
    intro i out now h1 h2 h3 h4 h5
    by_cases hlt : i < L.length
    · have hr := rd_ok hL i hlt
      rw [drop_rd L i hlt]
      generalize hrr : rd L (i : Int) = r at *
      refine Ev.step (f := fun k => ploverref01_Words.j1 k L out now (i : Int) (!blankR r)) (fun k => ?_) ?_
      · simp only [ploverref01_Words.l0]
        rw [if_pos (by omega), if_pos (by omega), if_pos (by omega), hrr, blank_spec, Option.bind_some]
      · unfold wordsL
        cases hb : blankR r
        · refine Ev.step (f := fun k => ploverref01_Words.l0 k L out (now ++ [r]) ((i + 1 : Nat) : Int)) (fun k => ?_) ?_
          · simp only [ploverref01_Words.j1]
            rw [if_pos (by decide), if_pos (by omega), if_pos (by omega), if_pos (by omega), hrr, w64_succ i L.length hlt (by omega)]
          · rw [if_neg (by simp)]
            exact ih (i + 1) out (now ++ [r]) (by omega) (by omega) (by omega) (by simp; omega) (by rw [List.all_append, h5]; simp [hr])
        · rw [if_pos rfl]
          by_cases hne : now = []
          · subst hne
            rw [if_pos rfl]
            refine Ev.step (f := fun k => ploverref01_Words.l0 k L out [] ((i + 1 : Nat) : Int)) (fun k => ?_) (ih (i + 1) out [] (by omega) (by omega) (by omega) (by simp) rfl)
            simp only [ploverref01_Words.j1]
            rw [if_neg (by decide), if_neg (by decide), w64_succ i L.length hlt (by omega)]
          · rw [if_neg hne]
            refine Ev.step (f := fun k => (ploverref01_Text.f k now).bind fun bt150 => (if out.length < 8796093022208 then (ploverref01_Words.l0 k L (out ++ [bt150.1]) ([] : List Int) (wrap64 ((i : Int) + 1))) else (none))) (fun k => ?_) ?_
            · simp only [ploverref01_Words.j1]
              rw [if_neg (by decide), if_pos ((textOf_cons_length now).2 hne)]
            · refine Ev.bind (text_spec now (by omega)) ?_
              rw [if_pos h5]
              refine Ev.congr (f := fun k => ploverref01_Words.l0 k L (out ++ [textOf now]) [] ((i + 1 : Nat) : Int)) (fun k => ?_) (Ev.to (ih (i + 1) (out ++ [textOf now]) [] (by omega) (by omega) (by simp; omega) (by simp) rfl) (by simp))
              rw [if_pos (by omega), w64_succ i L.length hlt (by omega)]
    · exact ih i out now (by omega) h2 h3 h4 h5
def resWords : Option (List Int) → List ByteArray × Int
  | some L => ((wordsL [] L).map textOf, 0)
  | none => ([], 10)
theorem words_spec (s : ByteArray) (hs : s.size ≤ 1048576) : Ev (fun k => ploverref01_Words.f k s) (resWords (decS s)) := by
  unfold ploverref01_Words.f
  refine Ev.bind (runes_spec s (by omega)) ?_
  cases h : decS s with
  | none => exact Ev.congr (fun k => if_neg (by decide)) (Ev.now _)
  | some L =>
    obtain ⟨h1, h2⟩ := textOf_decS h
    have hl := enc_length L
    rw [← textOf_size, h1] at hl
    refine Ev.congr (fun k => if_pos rfl) ?_
    refine Ev.to (words_l0 L h2 (by omega) L.length 0 [] [] (by omega) (by omega) (by simp) (by simp) rfl) ?_
    simp [resWords]

theorem name_l0 (L : List Int) (hL : L.all okRune = true) (hn : L.length ≤ 1048576) : ∀ (d i : Nat), L.length - i ≤ d → i ≤ L.length →
    Ev (fun k => ploverref01_Name.l0 k L (i : Int)) ((L.drop i).all nameOk) := by
  intro d
  induction d with
  | zero =>
    intro i h1 h2
    refine Ev.step (f := fun _ => some true) (fun k => ?_) ?_
    · simp only [ploverref01_Name.l0]; rw [if_neg (by omega)]
    · rw [List.drop_of_length_le (by omega)]; exact Ev.now _
  | succ d ih =>
    intro i h1 h2
    by_cases hlt : i < L.length
    · have hr := rd_ok hL i hlt
      rw [drop_rd L i hlt, List.all_cons]
      generalize hrr : rd L (i : Int) = r at *
      have hb := okRune_iff.1 hr
      have base : ∀ k, ploverref01_Name.l0 (k + 1) L (i : Int) = if nameOk r = true then ploverref01_Name.l0 k L ((i + 1 : Nat) : Int) else some false := by
        intro k
        simp only [ploverref01_Name.l0]
        rw [if_pos (by omega), if_pos (by omega), hrr, letter_spec r hb.1 hb.2.1, Option.bind_some, w64_succ i L.length hlt (by omega)]
        unfold nameOk
        cases letterR r
        · simp only [Bool.false_eq_true, if_false, Bool.false_or, Bool.or_eq_true, Bool.and_eq_true, decide_eq_true_eq]
          by_cases c1 : r < 48
          · rw [if_pos c1]
            by_cases c2 : r = 45
            · rw [if_pos c2, if_pos (.inl c2)]
            · rw [if_neg c2, if_neg (by omega)]
          · rw [if_neg c1]
            by_cases c3 : r > 57
            · rw [if_pos c3]
              by_cases c2 : r = 45
              · rw [if_pos c2, if_pos (.inl c2)]
              · rw [if_neg c2, if_neg (by omega)]
            · rw [if_neg c3, if_pos (by omega)]
        · simp
      cases hk : nameOk r
      · refine Ev.step (f := fun _ => some false) (fun k => ?_) (Ev.now _)
        rw [base, hk]; rfl
      · refine Ev.step (f := fun k => ploverref01_Name.l0 k L ((i + 1 : Nat) : Int)) (fun k => ?_) (ih (i + 1) (by omega) (by omega))
        rw [base, hk]; rfl
    · exact ih i (by omega) h2
theorem nameL_alt (L : List Int) : nameL L = (if L.length < 1 ∨ 16 < L.length then false else (letterR (rd L 0) && L.all nameOk)) := by
  cases L with
  | nil => rfl
  | cons c t =>
    have e : rd (c :: t) 0 = c := rfl
    rw [e]
    show (letterR c && (t.all nameOk && decide (t.length < 16))) = _
    by_cases h : t.length < 16
    · rw [if_neg (by simp; omega), decide_eq_true h, Bool.and_true, List.all_cons]
      cases hl : letterR c
      · rfl
      · simp [nameOk, hl]
    · rw [if_pos (by simp; omega), decide_eq_false h, Bool.and_false, Bool.and_false]
theorem name_spec (s : ByteArray) (hs : s.size ≤ 1048576) : Ev (fun k => ploverref01_Name.f k s) (match decS s with | some L => nameL L | none => false) := by
  have no : ∀ L, Ev (fun k => ploverref01_Name.j0 k L true) false := fun L => Ev.step (f := fun _ => some false) (fun k => by simp only [ploverref01_Name.j0]; rfl) (Ev.now _)
  unfold ploverref01_Name.f
  refine Ev.bind (runes_spec s (by omega)) ?_
  cases h : decS s with
  | none => exact Ev.congr (fun k => if_neg (by decide)) (no _)
  | some L =>
    obtain ⟨h1, h2⟩ := textOf_decS h
    have hl := enc_length L
    rw [← textOf_size, h1] at hl
    refine Ev.congr (fun k => if_pos rfl) ?_
    simp only
    rw [nameL_alt]
    by_cases c1 : L.length < 1
    · rw [if_pos (.inl c1)]
      exact Ev.congr (fun k => if_pos (by omega)) (no _)
    · by_cases c2 : 16 < L.length
      · rw [if_pos (.inr c2)]
        exact Ev.congr (fun k => (if_neg (by omega)).trans (if_pos (by omega))) (no _)
      · rw [if_neg (by omega)]
        have hr : okRune (rd L 0) = true := rd_ok h2 0 (by omega)
        have hb := okRune_iff.1 hr
        refine Ev.congr (f := fun k => ploverref01_Name.j0 k L (!(letterR (rd L 0)))) (fun k => ?_) ?_
        · rw [if_neg (by omega), if_neg (by omega), if_pos (by omega), letter_spec _ hb.1 hb.2.1]; rfl
        · cases hc : letterR (rd L 0)
          · exact no _
          · refine Ev.step (f := fun k => ploverref01_Name.l0 k L 0) (fun k => by simp only [ploverref01_Name.j0]; rfl) ?_
            rw [Bool.true_and]
            exact name_l0 L h2 (by omega) L.length 0 (by omega) (by omega)
end Go.Proofs.YtnfjhfhdiknccaaDoor.Pure
