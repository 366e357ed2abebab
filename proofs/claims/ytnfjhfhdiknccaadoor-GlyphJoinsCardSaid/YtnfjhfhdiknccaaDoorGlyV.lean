/- GlyR, GlyS, GlyU, as one text. -/
import Derived.Test.YtnfjhfhdiknccaaDoorGlyQ
namespace Go.Proofs.YtnfjhfhdiknccaaDoor.Pure
open Go.RowKit Go.Lib Go.Proofs.YtnfjhfhdiknccaaDoor.Giv Go.Proofs.YtnfjhfhdiknccaaDoor.P Go.Proofs.YtnfjhfhdiknccaaDoorW.PrintWords Go.Proofs.YtnfjhfhdiknccaaDoorW.PrintLast

/-- a text out of runes, known whole -/
theorem decS_lit {s : ByteArray} (L : List Int) (h : s.data.toList = enc L) (hL : L.all okRune = true) : decS s = some L := by unfold decS; rw [h]; exact decD_enc L hL
theorem Runes_lit {s : ByteArray} (L : List Int) (h : s.data.toList = enc L) (hL : L.all okRune = true) (hs : s.size ≤ 1048576) : glyph_Runes.f s = some (L, 0) := by
  unfold glyph_Runes.f; rw [if_pos hs, decS_lit L h hL]
theorem Fold_lit {s : ByteArray} (L : List Int) (h : s.data.toList = enc L) (hL : L.all okRune = true) (hs : s.size ≤ 1048576) : glyph_Fold.f s = some (textOf (L.map foldR), 0) := by
  unfold glyph_Fold.f; rw [if_pos hs, decS_lit L h hL]
theorem Words_lit {s : ByteArray} (L : List Int) (h : s.data.toList = enc L) (hL : L.all okRune = true) (hs : s.size ≤ 1048576) : glyph_Words.f s = some ((wordsL [] L).map textOf, 0) := by
  unfold glyph_Words.f; rw [if_pos hs, decS_lit L h hL]
theorem Name_lit {s : ByteArray} (L : List Int) (h : s.data.toList = enc L) (hL : L.all okRune = true) (hs : s.size ≤ 140737488351232) : glyph_Name.f s = some (nameL L) := by
  unfold glyph_Name.f; rw [if_pos hs, decS_lit L h hL]
theorem Text_lit (L : List Int) (hL : L.all okRune = true) (hs : L.length ≤ 1048576) : glyph_Text.f L = some (textOf L, 0) := by
  unfold glyph_Text.f; rw [if_pos hs, if_pos hL]

theorem runes_ev : Ev (fun k => ploverlaw01_runes.f k) true := by
  unfold ploverlaw01_runes.f
  refine Ev.congr (f := fun k => (ploverref01_SameInts.f k [97, 228, 12288] (([97, 228, 12288] : List Int))).bind fun t231 => (if t231 = true then some true else (some false))) (fun k => ?_) ?_
  · rw [Runes_lit [97, 228, 12288] (by decide) (by decide) (by decide), Option.bind_some, Text_lit [97, 228, 65536] (by decide) (by decide), Option.bind_some]
    have e : (textOf [97, 228, 65536]).toList = ([97, 195, 164, 240, 144, 128, 128] : List UInt8) := by rw [toList_data, textOf_list]; decide
    simp only [e, if_true, beq_self_eq_true]
  · exact Ev.bind (sameInts_spec _ _ (by decide)) (Ev.congr (fun k => if_pos (by decide)) (Ev.now _))
theorem folds_ev : ploverlaw01_folds.f = some true := by
  unfold ploverlaw01_folds.f
  rw [Fold_lit [65, 196, 98, 937, 1071] (by decide) (by decide) (by decide), Option.bind_some]
  have e : (textOf ([65, 196, 98, 937, 1071].map foldR)).toList = ([97, 195, 164, 98, 207, 137, 209, 143] : List UInt8) := by rw [toList_data, textOf_list]; decide
  simp only [e, if_true, beq_self_eq_true]
theorem words_ev : Ev (fun k => ploverlaw01_words.f k) true := by
  unfold ploverlaw01_words.f
  refine Ev.congr (f := fun k => (ploverref01_Same.f k [textOf [97], textOf [98]] (([(⟨#[97]⟩ : ByteArray), (⟨#[98]⟩ : ByteArray)] : List ByteArray))).bind fun t110 => (if t110 = true then (some ((0 : Int) == 0)) else (some false))) (fun k => ?_) ?_
  · rw [Words_lit [32, 97, 12288, 98, 10] (by decide) (by decide) (by decide), Option.bind_some]
    have e : (wordsL [] [32, 97, 12288, 98, 10]).map textOf = [textOf [97], textOf [98]] := by
      rw [show wordsL [] [32, 97, 12288, 98, 10] = [[97], [98]] by decide]; rfl
    simp only [e]
  · have e1 : textOf [97] = ⟨#[97]⟩ := bytes_ext (by rw [toList_data, toList_data, textOf_list]; decide)
    have e2 : textOf [98] = ⟨#[98]⟩ := bytes_ext (by rw [toList_data, toList_data, textOf_list]; decide)
    refine Ev.bind (same_spec _ _ (by decide)) ?_
    rw [e1, e2, decide_eq_true rfl]
    exact Ev.congr (fun k => if_pos rfl) (Ev.now _)
theorem thenRunes : Ev (fun k => (ploverlaw01_runes.f k).bind fun t => some t) true := Ev.bind runes_ev (Ev.now _)
theorem thenWords : Ev (fun k => (ploverlaw01_words.f k).bind fun t => some t) true := Ev.bind words_ev (Ev.now _)
theorem thenFolds : ((ploverlaw01_folds.f).bind fun t => some t) = some true := by rw [folds_ev]; rfl
theorem dec_len {s : ByteArray} {L : List Int} (h : decS s = some L) : L.length ≤ s.size ∧ s.size ≤ 4 * L.length := by
  have hl := enc_length L
  rw [← textOf_size, (textOf_decS h).1] at hl
  exact hl

theorem GlyphRunes : ploverlaw01_GlyphRunes.Pure := by
  intro s _
  refine Ev.rounds (g := fun k => ploverlaw01_GlyphRunes.f k s) ?_
  unfold ploverlaw01_GlyphRunes.f
  by_cases c : (s.size : Int) > 4096
  · exact Ev.congr (fun k => if_pos c) thenRunes
  · refine Ev.congr (fun k => if_neg c) ?_
    cases h : decS s with
    | none =>
      refine Ev.congr (f := fun k => (ploverref01_Runes.f k s).bind fun bt237 => ((ploverref01_SameInts.f k [] bt237.1).bind fun t241 => (if t241 = true then (if (10 : Int) = bt237.2 then ((ploverlaw01_runes.f k).bind fun t242 => (some t242)) else (some false)) else (some false)))) (fun k => ?_) ?_
      · unfold glyph_Runes.f; rw [if_pos (by omega), h]; rfl
      · refine Ev.bind (runes_spec s (by omega)) ?_
        rw [h]
        refine Ev.bind (sameInts_spec _ _ (by decide)) ?_
        exact Ev.congr (fun k => (if_pos (by decide)).trans (if_pos rfl)) thenRunes
    | some L =>
      have hl := dec_len h
      refine Ev.congr (f := fun k => (ploverref01_Runes.f k s).bind fun bt237 => ((ploverref01_SameInts.f k L bt237.1).bind fun t241 => (if t241 = true then (if (0 : Int) = bt237.2 then ((ploverlaw01_runes.f k).bind fun t242 => (some t242)) else (some false)) else (some false)))) (fun k => ?_) ?_
      · unfold glyph_Runes.f; rw [if_pos (by omega), h]; rfl
      · refine Ev.bind (runes_spec s (by omega)) ?_
        rw [h]
        refine Ev.bind (sameInts_spec _ _ (by omega)) ?_
        exact Ev.congr (fun k => (if_pos (by simp)).trans (if_pos rfl)) thenRunes

theorem GlyphTexts : ploverlaw01_GlyphTexts.Pure := by
  intro L _ _ _
  refine Ev.rounds (g := fun k => ploverlaw01_GlyphTexts.f k L) ?_
  unfold ploverlaw01_GlyphTexts.f
  by_cases c : (L.length : Int) > 4096
  · exact Ev.congr (fun k => if_pos c) thenRunes
  · refine Ev.congr (fun k => if_neg c) ?_
    have e : glyph_Text.f L = some (if L.all okRune = true then (textOf L, 0) else (⟨#[]⟩, 10)) := by
      unfold glyph_Text.f; rw [if_pos (by omega)]; split <;> rfl
    refine Ev.congr (f := fun k => (ploverref01_Text.f k L).bind fun bt246 => (if (if L.all okRune = true then (textOf L, (0 : Int)) else (⟨#[]⟩, 10)).1.toList = bt246.1.toList then (if (if L.all okRune = true then (textOf L, (0 : Int)) else (⟨#[]⟩, 10)).2 = bt246.2 then ((ploverlaw01_runes.f k).bind fun t248 => (some t248)) else (some false)) else (some false))) (fun k => ?_) ?_
    · rw [e]; rfl
    · refine Ev.bind (text_spec L (by omega)) ?_
      exact Ev.congr (fun k => (if_pos rfl).trans (if_pos rfl)) thenRunes

theorem GlyphFolds : ploverlaw01_GlyphFolds.Pure := by
  intro s _
  refine Ev.rounds (g := fun k => ploverlaw01_GlyphFolds.f k s) ?_
  unfold ploverlaw01_GlyphFolds.f
  by_cases c : (s.size : Int) > 4096
  · exact Ev.congr (fun k => (if_pos c).trans thenFolds) (Ev.now _)
  · refine Ev.congr (fun k => if_neg c) ?_
    have e : glyph_Fold.f s = some (resFold (decS s)) := by
      unfold glyph_Fold.f; rw [if_pos (by omega)]; cases decS s <;> rfl
    have this := fold_spec s (by omega)
    generalize resFold (decS s) = m at *
    refine Ev.congr (f := fun k => (ploverref01_Fold.f k s).bind fun bt214 => (if m.1.toList = bt214.1.toList then (if m.2 = bt214.2 then ((ploverlaw01_folds.f).bind fun t216 => (some t216)) else (some false)) else (some false))) (fun k => ?_) ?_
    · rw [e]; rfl
    · refine Ev.bind this ?_
      exact Ev.congr (fun k => ((if_pos rfl).trans (if_pos rfl)).trans thenFolds) (Ev.now _)

theorem words_count : ∀ (now L : List Int), (wordsL now L).length ≤ now.length + L.length
  | now, [] => by
    unfold wordsL
    by_cases h : now = []
    · simp [h]
    · have := List.length_pos_iff.2 h; simp [h]; omega
  | now, c :: t => by
    unfold wordsL
    have h1 := words_count [] t
    have h2 := words_count (now ++ [c]) t
    simp only [List.length_append, List.length_cons, List.length_nil] at h1 h2 ⊢
    by_cases hb : blankR c = true
    · rw [if_pos hb]
      by_cases h : now = []
      · rw [if_pos h]; omega
      · have := List.length_pos_iff.2 h
        rw [if_neg h]; simp only [List.length_cons]; omega
    · rw [if_neg hb]; omega
theorem GlyphWords : ploverlaw01_GlyphWords.Pure := by
  intro s _
  refine Ev.rounds (g := fun k => ploverlaw01_GlyphWords.f k s) ?_
  unfold ploverlaw01_GlyphWords.f
  by_cases c : (s.size : Int) > 4096
  · exact Ev.congr (fun k => if_pos c) thenWords
  · refine Ev.congr (fun k => if_neg c) ?_
    have e : glyph_Words.f s = some (resWords (decS s)) := by
      unfold glyph_Words.f; rw [if_pos (by omega)]; cases decS s <;> rfl
    have hw := words_spec s (by omega)
    have hlen : (resWords (decS s)).1.length ≤ 4096 := by
      cases h : decS s with
      | none => simp [resWords]
      | some L =>
        have hl := dec_len h
        have := words_count [] L
        simp only [resWords, List.length_map, List.length_nil] at this ⊢; omega
    generalize resWords (decS s) = m at *
    refine Ev.congr (f := fun k => (ploverref01_Words.f k s).bind fun bt160 => ((ploverref01_Same.f k m.1 bt160.1).bind fun t164 => (if t164 = true then (if m.2 = bt160.2 then ((ploverlaw01_words.f k).bind fun t165 => (some t165)) else (some false)) else (some false)))) (fun k => ?_) ?_
    · rw [e]; rfl
    · refine Ev.bind hw (Ev.bind (same_spec _ _ (by omega)) ?_)
      exact Ev.congr (fun k => (if_pos (by simp)).trans (if_pos rfl)) thenWords
end Go.Proofs.YtnfjhfhdiknccaaDoor.Pure
namespace Go.Proofs.YtnfjhfhdiknccaaDoor.Pure
open Go.RowKit Go.Lib Go.Proofs.YtnfjhfhdiknccaaDoor.Giv Go.Proofs.YtnfjhfhdiknccaaDoor.P Go.Proofs.YtnfjhfhdiknccaaDoorW.PrintWords Go.Proofs.YtnfjhfhdiknccaaDoorW.PrintLast

theorem text_yes {L : List Int} (h : L.all okRune = true) (hn : L.length ≤ 1048576) : glyph_Text.f L = some (textOf L, 0) := by unfold glyph_Text.f; rw [if_pos hn, if_pos h]
theorem text_no {L : List Int} (h : ¬ L.all okRune = true) (hn : L.length ≤ 1048576) : glyph_Text.f L = some (⟨#[]⟩, 10) := by unfold glyph_Text.f; rw [if_pos hn, if_neg h]
theorem runes_yes {s : ByteArray} {L : List Int} (h : decS s = some L) (hn : s.size ≤ 1048576) : glyph_Runes.f s = some (L, 0) := by unfold glyph_Runes.f; rw [if_pos hn, h]
theorem runes_no {s : ByteArray} (h : decS s = none) (hn : s.size ≤ 1048576) : glyph_Runes.f s = some ([], 10) := by unfold glyph_Runes.f; rw [if_pos hn, h]
theorem words_yes {s : ByteArray} {L : List Int} (h : decS s = some L) (hn : s.size ≤ 1048576) : glyph_Words.f s = some ((wordsL [] L).map textOf, 0) := by unfold glyph_Words.f; rw [if_pos hn, h]
theorem words_no {s : ByteArray} (h : decS s = none) (hn : s.size ≤ 1048576) : glyph_Words.f s = some ([], 10) := by unfold glyph_Words.f; rw [if_pos hn, h]
theorem fold_yes {s : ByteArray} {L : List Int} (h : decS s = some L) (hn : s.size ≤ 1048576) : glyph_Fold.f s = some (textOf (L.map foldR), 0) := by unfold glyph_Fold.f; rw [if_pos hn, h]
theorem fold_no {s : ByteArray} (h : decS s = none) (hn : s.size ≤ 1048576) : glyph_Fold.f s = some (⟨#[]⟩, 10) := by unfold glyph_Fold.f; rw [if_pos hn, h]
theorem name_yes {s : ByteArray} {L : List Int} (h : decS s = some L) (hn : s.size ≤ 140737488351232) : glyph_Name.f s = some (nameL L) := by unfold glyph_Name.f; rw [if_pos hn, h]
theorem name_no {s : ByteArray} (h : decS s = none) (hn : s.size ≤ 140737488351232) : glyph_Name.f s = some false := by unfold glyph_Name.f; rw [if_pos hn, h]

theorem back_j1 (l : List Int) (hl : l.length ≤ 4096) : Ev (fun k => ploverlaw01_GlyphBack.j1 k l) true := by
  by_cases h : l.all okRune = true
  · refine Ev.step (f := fun k => (ploverref01_SameInts.f k l l).bind fun t262 => (if t262 = true then (if (0 : Int) = 0 then ((ploverlaw01_runes.f k).bind fun t263 => (some t263)) else (some false)) else (some false))) (fun k => ?_) ?_
    · simp only [ploverlaw01_GlyphBack.j1]
      have hs := enc_length l
      rw [text_yes h (by omega), Option.bind_some, if_pos rfl, runes_yes (decS_textOf l h) (by rw [textOf_size]; omega)]
      rfl
    · exact Ev.bind (sameInts_spec l l (by omega)) (Ev.congr (fun k => (if_pos (by simp)).trans (if_pos rfl)) thenRunes)
  · refine Ev.step (f := fun k => (ploverlaw01_runes.f k).bind fun t263 => (some t263)) (fun k => ?_) thenRunes
    simp only [ploverlaw01_GlyphBack.j1]
    rw [text_no h (by omega), Option.bind_some, if_neg (by simp)]
theorem GlyphBack : ploverlaw01_GlyphBack.Pure := by
  intro s l _ _ _ _
  refine Ev.rounds (g := fun k => ploverlaw01_GlyphBack.f k s l) ?_
  unfold ploverlaw01_GlyphBack.f
  have yes : Ev (fun k => ploverlaw01_GlyphBack.j0 k s l true) true := Ev.step (f := fun k => (ploverlaw01_runes.f k).bind fun t => some t) (fun k => by simp only [ploverlaw01_GlyphBack.j0]; rw [if_pos trivial]) thenRunes
  by_cases c : (s.size : Int) > 4096
  · exact Ev.congr (fun k => if_pos c) yes
  · refine Ev.congr (fun k => if_neg c) ?_
    by_cases c2 : (l.length : Int) > 4096
    · rw [decide_eq_true c2]; exact yes
    · rw [decide_eq_false c2]
      refine Ev.step (f := fun k => ploverlaw01_GlyphBack.j1 k l) (fun k => ?_) (back_j1 l (by omega))
      simp only [ploverlaw01_GlyphBack.j0]
      rw [if_neg (by decide)]
      cases h : decS s with
      | none => rw [runes_no h (by omega), Option.bind_some, if_neg (by simp)]
      | some L =>
        obtain ⟨h1, h2⟩ := textOf_decS h
        have hl := dec_len h
        rw [runes_yes h (by omega), Option.bind_some, if_pos rfl]
        simp only
        rw [text_yes h2 (by omega), Option.bind_some, if_pos (by rw [h1]), if_pos rfl, if_neg (by omega), w64 (by omega) (by omega), if_neg (by omega)]

theorem textOf_append (A B : List Int) : textOf A ++ textOf B = textOf (A ++ B) := by
  apply bytes_ext
  rw [toList_data, toList_data, Go.Joins.data_append, textOf_list, textOf_list, textOf_list, enc_append]
theorem GlyphAdds : ploverlaw01_GlyphAdds.Pure := by
  intro a b _ _ _ _ _ _
  refine Ev.rounds (g := fun k => ploverlaw01_GlyphAdds.f k a b) ?_
  unfold ploverlaw01_GlyphAdds.f
  have yes : Ev (fun k => ploverlaw01_GlyphAdds.j0 k a b true) true := Ev.step (f := fun k => (ploverlaw01_runes.f k).bind fun t => some t) (fun k => by simp only [ploverlaw01_GlyphAdds.j0]; rw [if_pos trivial]) thenRunes
  by_cases c : (a.length : Int) > 1024
  · exact Ev.congr (fun k => if_pos c) yes
  · refine Ev.congr (fun k => if_neg c) ?_
    by_cases c2 : (b.length : Int) > 1024
    · rw [decide_eq_true c2]; exact yes
    · rw [decide_eq_false c2]
      have bad : ∀ (s t : ByteArray) (u : ByteArray) (g : Int), u = ⟨#[]⟩ → g = 10 → Ev (fun k => ploverlaw01_GlyphAdds.j1 k s t (a ++ b) u g true) true := fun s t u g hu hg => by
        subst hu hg
        refine Ev.step (f := fun k => (ploverlaw01_runes.f k).bind fun t => some t) (fun k => ?_) thenRunes
        simp only [ploverlaw01_GlyphAdds.j1]
        rw [if_pos trivial, if_pos (by rw [toList_data]), if_pos trivial]
      by_cases ha : a.all okRune = true
      · by_cases hb : b.all okRune = true
        · have hab : (a ++ b).all okRune = true := by rw [List.all_append, ha, hb]; rfl
          have e1 := enc_length a
          have e2 := enc_length b
          have e3 := enc_length (a ++ b)
          rw [List.length_append] at e3
          refine Ev.step (f := fun k => ploverlaw01_GlyphAdds.j1 k (textOf a) (textOf b) (a ++ b) (textOf (a ++ b)) 0 false) (fun k => ?_) ?_
          · simp only [ploverlaw01_GlyphAdds.j0]
            rw [if_neg (by decide), text_yes ha (by omega), Option.bind_some, text_yes hb (by omega), Option.bind_some, if_pos (by simp; omega), Option.bind_some, if_pos (by simp; omega), Option.bind_some, List.nil_append, text_yes hab (by rw [List.length_append]; omega), Option.bind_some, if_pos rfl]
            rfl
          · refine Ev.step (f := fun k => (ploverref01_SameInts.f k (a ++ b) (a ++ b)).bind fun t283 => (if t283 = true then ((ploverlaw01_runes.f k).bind fun t284 => (some t284)) else (some false))) (fun k => ?_) ?_
            · simp only [ploverlaw01_GlyphAdds.j1]
              rw [if_neg (by decide), if_pos (by rw [textOf_size, textOf_size]; omega), textOf_append, runes_yes (decS_textOf _ hab) (by rw [textOf_size]; omega), Option.bind_some, if_pos rfl, if_pos trivial]
              simp only [if_true]
            · exact Ev.bind (sameInts_spec _ _ (by rw [List.length_append]; omega)) (Ev.congr (fun k => (if_pos (by simp))) thenRunes)
        · have hab : ¬ (a ++ b).all okRune = true := by rw [List.all_append, ha]; simpa using hb
          refine Ev.step (f := fun k => ploverlaw01_GlyphAdds.j1 k (textOf a) ⟨#[]⟩ (a ++ b) ⟨#[]⟩ 10 true) (fun k => ?_) (bad _ _ _ _ rfl rfl)
          simp only [ploverlaw01_GlyphAdds.j0]
          rw [if_neg (by decide), text_yes ha (by omega), Option.bind_some, text_no hb (by omega), Option.bind_some, if_pos (by simp; omega), Option.bind_some, if_pos (by simp; omega), Option.bind_some, List.nil_append, text_no hab (by rw [List.length_append]; omega), Option.bind_some, if_pos rfl]
          rfl
      · have hab : ¬ (a ++ b).all okRune = true := by rw [List.all_append, Bool.and_eq_true]; exact fun h => ha h.1
        by_cases hb : b.all okRune = true
        · refine Ev.step (f := fun k => ploverlaw01_GlyphAdds.j1 k ⟨#[]⟩ (textOf b) (a ++ b) ⟨#[]⟩ 10 true) (fun k => ?_) (bad _ _ _ _ rfl rfl)
          simp only [ploverlaw01_GlyphAdds.j0]
          rw [if_neg (by decide), text_no ha (by omega), Option.bind_some, text_yes hb (by omega), Option.bind_some, if_pos (by simp; omega), Option.bind_some, if_pos (by simp; omega), Option.bind_some, List.nil_append, text_no hab (by rw [List.length_append]; omega), Option.bind_some, if_neg (by simp)]
        · refine Ev.step (f := fun k => ploverlaw01_GlyphAdds.j1 k ⟨#[]⟩ ⟨#[]⟩ (a ++ b) ⟨#[]⟩ 10 true) (fun k => ?_) (bad _ _ _ _ rfl rfl)
          simp only [ploverlaw01_GlyphAdds.j0]
          rw [if_neg (by decide), text_no ha (by omega), Option.bind_some, text_no hb (by omega), Option.bind_some, if_pos (by simp; omega), Option.bind_some, if_pos (by simp; omega), Option.bind_some, List.nil_append, text_no hab (by rw [List.length_append]; omega), Option.bind_some, if_neg (by simp)]

/-! small letters -/
theorem great_iff {c : Int} : greatR c = true ↔ (65 ≤ c ∧ c ≤ 90) ∨ (192 ≤ c ∧ c ≤ 222 ∧ c ≠ 215) ∨ (913 ≤ c ∧ c ≤ 937 ∧ c ≠ 930) ∨ (1040 ≤ c ∧ c ≤ 1071) := by
  unfold greatR
  simp only [Bool.or_eq_true, Bool.and_eq_true, Bool.not_eq_true', decide_eq_true_eq, decide_eq_false_iff_not, ne_eq]
theorem great_fold (c : Int) : greatR (foldR c) = false := by
  rw [Bool.eq_false_iff]
  intro h
  rw [great_iff] at h
  unfold foldR at h
  split at h
  · rename_i g
    rw [great_iff] at g
    omega
  · rename_i g
    rw [great_iff] at g
    omega
theorem fold_fold (c : Int) : foldR (foldR c) = foldR c := by
  show (if greatR (foldR c) = true then foldR c + 32 else foldR c) = foldR c
  rw [if_neg (by rw [great_fold]; decide)]
theorem blank_iff {c : Int} : blankR c = true ↔ c = 9 ∨ c = 10 ∨ c = 13 ∨ c = 32 ∨ c = 160 ∨ c = 8195 ∨ c = 12288 := by
  unfold blankR
  simp only [Bool.or_eq_true, decide_eq_true_eq]
theorem blank_fold (c : Int) : blankR (foldR c) = blankR c := by
  rw [Bool.eq_iff_iff, blank_iff, blank_iff]
  unfold foldR
  split
  · rename_i g
    rw [great_iff] at g
    omega
  · exact Iff.rfl
theorem enc_fold_len (c : Int) : (encodeRune (foldR c)).length = (encodeRune c).length := by
  unfold foldR
  split
  · rename_i g
    rw [great_iff] at g
    unfold encodeRune
    rw [List.length_map, List.length_map]
    by_cases c1 : c ≤ 90
    · rw [encodeRuneZ_one (by omega) (by omega), encodeRuneZ_one (by omega) (by omega)]; rfl
    · rw [encodeRuneZ_two (by omega) (by omega), encodeRuneZ_two (by omega) (by omega)]; rfl
  · rfl
theorem enc_map_fold_len : ∀ L : List Int, (enc (L.map foldR)).length = (enc L).length
  | [] => rfl
  | c :: L => by rw [List.map_cons, enc_cons, enc_cons, List.length_append, List.length_append, enc_fold_len, enc_map_fold_len L]
theorem map_fold_fold (L : List Int) : (L.map foldR).map foldR = L.map foldR := by
  rw [List.map_map]; exact List.map_congr_left (fun c _ => fold_fold c)
theorem words_fold_len : ∀ (L now now' : List Int), (now = [] ↔ now' = []) → (wordsL now (L.map foldR)).length = (wordsL now' L).length
  | [], now, now', h => by
    simp only [List.map_nil, wordsL]
    by_cases e : now = []
    · rw [if_pos e, if_pos (h.1 e)]
    · rw [if_neg e, if_neg (fun e' => e (h.2 e'))]; rfl
  | c :: L, now, now', h => by
    simp only [List.map_cons, wordsL]
    rw [blank_fold]
    by_cases hb : blankR c = true
    · rw [if_pos hb, if_pos hb]
      by_cases e : now = []
      · rw [if_pos e, if_pos (h.1 e)]; exact words_fold_len L [] [] Iff.rfl
      · rw [if_neg e, if_neg (fun e' => e (h.2 e')), List.length_cons, List.length_cons, words_fold_len L [] [] Iff.rfl]
    · rw [if_neg hb, if_neg hb]
      exact words_fold_len L _ _ (by simp)
theorem GlyphTwice : ploverlaw01_GlyphTwice.Pure := by
  intro s _
  unfold ploverlaw01_GlyphTwice.f
  by_cases c : (s.size : Int) > 4096
  · rw [if_pos c]; exact thenFolds
  · rw [if_neg c]
    cases h : decS s with
    | none =>
      rw [fold_no h (by omega), Option.bind_some, if_neg (by simp), runes_no h (by omega), Option.bind_some, if_pos (by rw [toList_data]), if_pos rfl]
      exact thenFolds
    | some L =>
      obtain ⟨h1, h2⟩ := textOf_decS h
      have hl := dec_len h
      have hf := map_fold_ok h2
      have hsz : (textOf (L.map foldR)).size = s.size := by rw [textOf_size, enc_map_fold_len, ← textOf_size, h1]
      rw [fold_yes h (by omega), Option.bind_some, if_pos rfl]
      simp only
      rw [fold_yes (decS_textOf _ hf) (by omega), Option.bind_some, words_yes h (by omega), Option.bind_some, words_yes (decS_textOf _ hf) (by omega), Option.bind_some, map_fold_fold, if_pos rfl, if_pos rfl, if_pos (by rw [hsz]), if_pos rfl, if_pos rfl, if_pos (by rw [List.length_map, List.length_map, words_fold_len L [] [] Iff.rfl])]
      exact thenFolds

theorem letter_fold {c : Int} (h : letterR c = true) : letterR (foldR c) = true := by
  unfold letterR at h ⊢
  rw [Bool.or_eq_true] at h
  unfold foldR
  split
  · rename_i g
    rw [show c + 32 - 32 = c by omega, g]; simp
  · rename_i g
    rcases h with h | h
    · exact absurd h g
    · rw [h]; simp
theorem nameOk_fold {c : Int} (h : nameOk c = true) : nameOk (foldR c) = true := by
  unfold nameOk at h ⊢
  rw [Bool.or_eq_true] at h
  rcases h with h | h
  · rw [letter_fold h]; rfl
  · have : foldR c = c := by
      unfold foldR
      rw [if_neg]
      intro g
      rw [great_iff] at g
      simp only [Bool.or_eq_true, Bool.and_eq_true, decide_eq_true_eq] at h
      omega
    rw [this, h]; simp
theorem nameL_fold {L : List Int} (h : nameL L = true) : nameL (L.map foldR) = true := by
  cases L with
  | nil => cases h
  | cons c t =>
    have h' : (letterR c && (t.all nameOk && decide (t.length < 16))) = true := h
    simp only [Bool.and_eq_true, decide_eq_true_eq] at h'
    show (letterR (foldR c) && ((t.map foldR).all nameOk && decide ((t.map foldR).length < 16))) = true
    simp only [Bool.and_eq_true, decide_eq_true_eq, List.length_map]
    refine ⟨letter_fold h'.1, ?_, h'.2.2⟩
    rw [List.all_map, List.all_eq_true]
    exact fun x hx => nameOk_fold (List.all_eq_true.1 h'.2.1 x hx)
theorem nameL_long {L : List Int} (h : 16 < L.length) : nameL L = false := by
  cases L with
  | nil => rfl
  | cons c t =>
    show (letterR c && (t.all nameOk && decide (t.length < 16))) = false
    rw [decide_eq_false (by rw [List.length_cons] at h; omega), Bool.and_false, Bool.and_false]
theorem GlyphNames : ploverlaw01_GlyphNames.Pure := by
  intro s hs0
  have n1 : glyph_Name.f (⟨#[97, 45, 49]⟩ : ByteArray) = some true := by rw [Name_lit [97, 45, 49] (by decide) (by decide) (by decide)]; rfl
  have n2 : glyph_Name.f (⟨#[195, 132, 45, 49]⟩ : ByteArray) = some true := by rw [Name_lit [196, 45, 49] (by decide) (by decide) (by decide)]; rfl
  have n3 : glyph_Name.f (⟨#[49, 97]⟩ : ByteArray) = some false := by rw [Name_lit [49, 97] (by decide) (by decide) (by decide)]; rfl
  refine Ev.rounds (g := fun k => ploverlaw01_GlyphNames.f k s) ?_
  unfold ploverlaw01_GlyphNames.f
  by_cases c : (s.size : Int) > 4096
  · refine Ev.congr (fun k => (if_pos c).trans ?_) (Ev.now true)
    rw [n1, Option.bind_some, if_pos rfl]
    cases h : decS s with
    | none => rw [name_no h hs0]; rfl
    | some L =>
      have hl := dec_len h
      rw [name_yes h hs0, nameL_long (by omega)]; rfl
  · refine Ev.congr (fun k => if_neg c) ?_
    have tail : ((glyph_Name.f (⟨#[195, 132, 45, 49]⟩ : ByteArray)).bind fun t308 => (if t308 = true then ((glyph_Name.f (⟨#[49, 97]⟩ : ByteArray)).bind fun t309 => (some (!t309))) else (some false))) = some true := by
      rw [n2, Option.bind_some, if_pos rfl, n3]; rfl
    cases h : decS s with
    | none =>
      refine Ev.congr (f := fun k => (ploverref01_Name.f k s).bind fun t304 => (if (false == t304) = true then some true else some false)) (fun k => ?_) ?_
      · rw [name_no h hs0, Option.bind_some, fold_no h (by omega), Option.bind_some]
        simp only [tail, Bool.false_eq_true, if_false]
      · have := name_spec s (by omega)
        rw [h] at this
        exact Ev.bind this (Ev.congr (fun k => if_pos rfl) (Ev.now _))
    | some L =>
      obtain ⟨h1, h2⟩ := textOf_decS h
      have hl := dec_len h
      have hf := map_fold_ok h2
      have hsz : (textOf (L.map foldR)).size = s.size := by rw [textOf_size, enc_map_fold_len, ← textOf_size, h1]
      refine Ev.congr (f := fun k => (ploverref01_Name.f k s).bind fun t304 => (if (nameL L == t304) = true then some true else some false)) (fun k => ?_) ?_
      · rw [name_yes h hs0, Option.bind_some, fold_yes h (by omega), Option.bind_some]
        congr 1
        funext t
        split
        · cases hn : nameL L
          · rw [if_neg (by decide)]; exact tail
          · rw [if_pos rfl, name_yes (decS_textOf _ hf) (by omega), nameL_fold hn, Option.bind_some, if_pos rfl]; exact tail
        · rfl
      · have := name_spec s (by omega)
        rw [h] at this
        exact Ev.bind this (Ev.congr (fun k => if_pos (by simp)) (Ev.now _))
end Go.Proofs.YtnfjhfhdiknccaaDoor.Pure
namespace Go.Proofs.YtnfjhfhdiknccaaDoor.Pure
open Go.RowKit Go.Lib Go.Proofs.YtnfjhfhdiknccaaDoor.Giv Go.Proofs.YtnfjhfhdiknccaaDoor.P Go.Proofs.YtnfjhfhdiknccaaDoorW.PrintWords Go.Proofs.YtnfjhfhdiknccaaDoorW.PrintLast

theorem encode_cont (r : Int) (hr : okRune r = true) (i : Nat) (h1 : 1 ≤ i) (x : UInt8) (hx : (encodeRune r)[i]? = some x) : x.toNat / 64 = 2 := by
  obtain ⟨h0, h2, h3⟩ := okRune_iff.1 hr
  have key : ∀ z : Int, 0 ≤ z → z < 64 → (((128 + z).toNat.toUInt8).toNat) / 64 = 2 := fun z z0 z1 => by rw [u8_of _ (by omega) (by omega)]; omega
  by_cases c1 : r ≤ 127
  · have e : encodeRune r = [r.toNat.toUInt8] := by unfold encodeRune; rw [encodeRuneZ_one h0 c1]; rfl
    rw [e] at hx
    obtain ⟨j, rfl⟩ : ∃ j, i = j + 1 := ⟨i - 1, by omega⟩
    simp at hx
  · by_cases c2 : r ≤ 2047
    · have e : encodeRune r = [(192 + r / 64).toNat.toUInt8, (128 + r % 64).toNat.toUInt8] := by unfold encodeRune; rw [encodeRuneZ_two (by omega) c2]; rfl
      rw [e] at hx
      match i, h1 with
      | 1, _ => simp only [List.getElem?_cons_succ, List.getElem?_cons_zero, Option.some.injEq] at hx; rw [← hx]; exact key _ (by omega) (by omega)
      | j + 2, _ => simp at hx
    · by_cases c3 : r ≤ 65535
      · have e : encodeRune r = [(224 + r / 4096).toNat.toUInt8, (128 + r / 64 % 64).toNat.toUInt8, (128 + r % 64).toNat.toUInt8] := by unfold encodeRune; rw [encodeRuneZ_three (by omega)]; rfl
        rw [e] at hx
        match i, h1 with
        | 1, _ => simp only [List.getElem?_cons_succ, List.getElem?_cons_zero, Option.some.injEq] at hx; rw [← hx]; exact key _ (by omega) (by omega)
        | 2, _ => simp only [List.getElem?_cons_succ, List.getElem?_cons_zero, Option.some.injEq] at hx; rw [← hx]; exact key _ (by omega) (by omega)
        | j + 3, _ => simp at hx
      · have e : encodeRune r = [(240 + r / 262144).toNat.toUInt8, (128 + r / 4096 % 64).toNat.toUInt8, (128 + r / 64 % 64).toNat.toUInt8, (128 + r % 64).toNat.toUInt8] := by unfold encodeRune; rw [encodeRuneZ_four (by omega) h2]; rfl
        rw [e] at hx
        match i, h1 with
        | 1, _ => simp only [List.getElem?_cons_succ, List.getElem?_cons_zero, Option.some.injEq] at hx; rw [← hx]; exact key _ (by omega) (by omega)
        | 2, _ => simp only [List.getElem?_cons_succ, List.getElem?_cons_zero, Option.some.injEq] at hx; rw [← hx]; exact key _ (by omega) (by omega)
        | 3, _ => simp only [List.getElem?_cons_succ, List.getElem?_cons_zero, Option.some.injEq] at hx; rw [← hx]; exact key _ (by omega) (by omega)
        | j + 4, _ => simp at hx
theorem decD_split (b : List UInt8) (hb : ∀ x, b[0]? = some x → x.toNat / 64 ≠ 2) : ∀ (n : Nat) (a : List UInt8) (L : List Int), a.length ≤ n → decD (a ++ b) = some L → ∃ L1 L2, decD a = some L1 ∧ decD b = some L2 ∧ L = L1 ++ L2 := by
  intro n
  induction n with
  | zero =>
    intro a L hn h
    obtain rfl : a = [] := List.eq_nil_of_length_eq_zero (by omega)
    exact ⟨[], L, rfl, h, rfl⟩
  | succ n ih =>
    intro a L hn h
    by_cases hne : a = []
    · subst hne; exact ⟨[], L, rfl, h, rfl⟩
    · have hl : 0 < a.length := List.length_pos_iff.2 hne
      have hne2 : a ++ b ≠ [] := by simp [hne]
      rw [decD_step _ hne2] at h
      split at h
      · cases h
      · rename_i hv
        obtain ⟨t, ht, rfl⟩ := Option.map_eq_some_iff.1 h
        have he := encode_decode _ hne2 hv
        have hok := decodeL_ok _ hv
        have hw := decodeL_width (a ++ b)
        have hwl := decodeL_le _ hne2
        generalize (decodeL (a ++ b)).2 = w at *
        generalize ((decodeL (a ++ b)).1 : Int) = r at *
        by_cases hwa : w ≤ a.length
        · rw [List.drop_append_of_le_length hwa] at ht
          rw [List.take_append_of_le_length hwa] at he
          obtain ⟨L1, L2, h1, h2, rfl⟩ := ih (a.drop w) t (by rw [List.length_drop]; omega) ht
          obtain ⟨e1, e2⟩ := enc_decD _ _ h1
          refine ⟨r :: L1, L2, ?_, h2, rfl⟩
          have : a = enc (r :: L1) := by rw [enc_cons, he, e1, List.take_append_drop]
          rw [this]
          exact decD_enc _ (by rw [List.all_cons, hok, e2]; rfl)
        · exfalso
          have hx : (encodeRune r)[a.length]? = b[0]? := by
            rw [he, List.getElem?_take_of_lt (by omega), List.getElem?_append_right (Nat.le_refl _), Nat.sub_self]
          have hlt : 0 < b.length := by rw [List.length_append] at hwl; omega
          obtain ⟨x, hb0⟩ : ∃ x, b[0]? = some x := ⟨_, List.getElem?_eq_getElem hlt⟩
          exact hb x hb0 (encode_cont r hok a.length hl x (hx.trans hb0))
theorem wordsL_split (c : Int) (hc : blankR c = true) (B : List Int) : ∀ (A now : List Int), wordsL now (A ++ c :: B) = wordsL now A ++ wordsL [] B
  | [], now => by
    simp only [List.nil_append, wordsL]
    rw [if_pos hc]
    by_cases h : now = []
    · rw [if_pos h, if_pos h]; rfl
    · rw [if_neg h, if_neg h]; rfl
  | a :: A, now => by
    simp only [List.cons_append, wordsL]
    split
    · split
      · exact wordsL_split c hc B A []
      · rw [wordsL_split c hc B A []]; rfl
    · exact wordsL_split c hc B A _

def BLs : List ByteArray := [(⟨#[32]⟩ : ByteArray), (⟨#[9]⟩ : ByteArray), (⟨#[10]⟩ : ByteArray), (⟨#[13]⟩ : ByteArray), (⟨#[194, 160]⟩ : ByteArray), (⟨#[226, 128, 131]⟩ : ByteArray), (⟨#[227, 128, 128]⟩ : ByteArray)]
theorem blank_at (i : Nat) (hi : i < 7) : ∃ c, blankR c = true ∧ okRune c = true ∧ rdOf ByteArray.empty BLs (i : Int) = textOf [c] ∧ (∀ x, (enc [c])[0]? = some x → x.toNat / 64 ≠ 2) := by
  have mk : ∀ (c : Int) (s : ByteArray), blankR c = true → okRune c = true → s.data.toList = enc [c] → (enc [c])[0]?.all (fun x => x.toNat / 64 != 2) = true → rdOf ByteArray.empty BLs (i : Int) = s → ∃ c, blankR c = true ∧ okRune c = true ∧ rdOf ByteArray.empty BLs (i : Int) = textOf [c] ∧ (∀ x, (enc [c])[0]? = some x → x.toNat / 64 ≠ 2) := by
    intro c s h1 h2 h3 h4 h5
    refine ⟨c, h1, h2, h5.trans (bytes_ext (by rw [toList_data, toList_data, textOf_list, h3])), fun x hx => ?_⟩
    rw [hx] at h4
    simpa using h4
  match i, hi with
  | 0, _ => exact mk 32 ⟨#[32]⟩ (by decide) (by decide) (by decide) (by decide) rfl
  | 1, _ => exact mk 9 ⟨#[9]⟩ (by decide) (by decide) (by decide) (by decide) rfl
  | 2, _ => exact mk 10 ⟨#[10]⟩ (by decide) (by decide) (by decide) (by decide) rfl
  | 3, _ => exact mk 13 ⟨#[13]⟩ (by decide) (by decide) (by decide) (by decide) rfl
  | 4, _ => exact mk 160 ⟨#[194, 160]⟩ (by decide) (by decide) (by decide) (by decide) rfl
  | 5, _ => exact mk 8195 ⟨#[226, 128, 131]⟩ (by decide) (by decide) (by decide) (by decide) rfl
  | 6, _ => exact mk 12288 ⟨#[227, 128, 128]⟩ (by decide) (by decide) (by decide) (by decide) rfl
theorem bl_index (x : Int) : ∃ i : Nat, i < 7 ∧ Int.tmod (Go.bits .and .i64 x 65535) 7 = (i : Int) := by
  have hm := and_mask_i64 x 16 (by decide)
  have e2 : (((2 ^ 16 - 1 : Nat)) : Int) = 65535 := by decide +kernel
  have e3 : (((2 ^ 16 : Nat)) : Int) = 65536 := by decide +kernel
  rw [e2, e3] at hm
  rw [hm]
  have h0 := Int.emod_nonneg x (show (65536 : Int) ≠ 0 by decide)
  generalize x % 65536 = m at *
  rw [Int.tmod_eq_emod_of_nonneg h0]
  have h1 := Int.emod_nonneg m (show (7 : Int) ≠ 0 by decide)
  have h2 := Int.emod_lt_of_pos m (show (0 : Int) < 7 by decide)
  exact ⟨(m % 7).toNat, by omega, by omega⟩

theorem joins_bad (a b c : List ByteArray) (e : Int) (hc : c = []) (he : e = 10) : Ev (fun k => ploverlaw01_GlyphJoins.j1 k a b c e true) true := by
  subst hc he
  refine Ev.step (f := fun k => (ploverlaw01_words.f k).bind fun t => some t) (fun k => ?_) thenWords
  simp only [ploverlaw01_GlyphJoins.j1]
  rw [if_pos trivial, if_pos trivial, if_pos (by simp)]
theorem joins_good (a b : List ByteArray) (ha : a.length ≤ 100000) (hb : b.length ≤ 100000) : Ev (fun k => ploverlaw01_GlyphJoins.j1 k a b (a ++ b) 0 false) true := by
  refine Ev.step (f := fun k => (ploverref01_Same.f k a a).bind fun t188 => (if t188 = true then ((ploverref01_Same.f k b b).bind fun t193 => (if t193 = true then ((ploverlaw01_words.f k).bind fun t194 => (some t194)) else (some false))) else (some false))) (fun k => ?_) ?_
  · simp only [ploverlaw01_GlyphJoins.j1]
    rw [if_neg (by decide), if_pos trivial, w64 (by omega) (by omega), if_pos (by rw [List.length_append]; omega), if_pos (by omega), if_pos (by rw [List.length_append]; omega), Int.toNat_natCast, List.take_left, List.drop_left]
  · exact Ev.bind (same_spec a a (by omega)) (Ev.congr (fun k => if_pos (by simp)) (Ev.bind (same_spec b b (by omega)) (Ev.congr (fun k => if_pos (by simp)) thenWords)))
theorem GlyphJoins : ploverlaw01_GlyphJoins.Pure := by
  intro s t x _ _ _
  refine Ev.rounds (g := fun k => ploverlaw01_GlyphJoins.f k s t x) ?_
  unfold ploverlaw01_GlyphJoins.f
  simp only [Option.bind_some]
  change Ev (fun k => if (s.size : Int) > 2048 then ploverlaw01_GlyphJoins.j0 k s t x BLs true else ploverlaw01_GlyphJoins.j0 k s t x BLs (decide ((t.size : Int) > 2048))) true
  have yes : Ev (fun k => ploverlaw01_GlyphJoins.j0 k s t x BLs true) true := Ev.step (f := fun k => (ploverlaw01_words.f k).bind fun t => some t) (fun k => by simp only [ploverlaw01_GlyphJoins.j0]; rw [if_pos trivial]) thenWords
  by_cases c : (s.size : Int) > 2048
  · exact Ev.congr (fun k => if_pos c) yes
  · refine Ev.congr (fun k => if_neg c) ?_
    by_cases c2 : (t.size : Int) > 2048
    · rw [decide_eq_true c2]; exact yes
    · rw [decide_eq_false c2]
      obtain ⟨i, hi, hidx⟩ := bl_index x
      obtain ⟨b, hb1, hb2, hb3, hb4⟩ := blank_at i hi
      have hbs : (textOf [b]).size ≤ 4 := by rw [textOf_size]; exact (enc_length [b]).2
      have hsz : ((s ++ textOf [b]) ++ t).size ≤ 4100 := by rw [ByteArray.size_append, ByteArray.size_append]; omega
      have start : ∀ k, ploverlaw01_GlyphJoins.j0 (k + 1) s t x BLs false = ((glyph_Words.f s).bind fun bt170 => ((glyph_Words.f t).bind fun bt174 => ((glyph_Words.f ((s ++ textOf [b]) ++ t)).bind fun bt179 => (if bt170.2 = 0 then (ploverlaw01_GlyphJoins.j1 k bt170.1 bt174.1 bt179.1 bt179.2 (bt174.2 != 0)) else (ploverlaw01_GlyphJoins.j1 k bt170.1 bt174.1 bt179.1 bt179.2 true))))) := by
        intro k
        simp only [ploverlaw01_GlyphJoins.j0]
        rw [if_neg (by decide), hidx, hb3]
        congr 1
        funext _
        congr 1
        funext _
        have z1 : s.size + (textOf [b]).size ≤ 9223372036854775807 := by omega
        have z2 : (s ++ textOf [b]).size + t.size ≤ 9223372036854775807 := by rw [ByteArray.size_append]; omega
        rw [if_pos (show (0 : Int) ≤ (i : Int) by omega), if_pos (show (i : Int) < (BLs.length : Int) by show (i : Int) < 7; omega), if_pos z1, if_pos z2]
      have elist : ((s ++ textOf [b]) ++ t).data.toList = s.data.toList ++ (enc [b] ++ t.data.toList) := by
        rw [Go.Joins.data_append, Go.Joins.data_append, textOf_list, List.append_assoc]
      have hhead : ∀ x, (enc [b] ++ t.data.toList)[0]? = some x → x.toNat / 64 ≠ 2 := by
        intro x hx
        have h1 := (enc_length [b]).1
        rw [List.length_singleton] at h1
        rw [List.getElem?_append_left (by omega)] at hx
        exact hb4 x hx
      have ebt : decD (enc [b] ++ t.data.toList) = (decS t).map (fun L => b :: L) := by
        cases ht : decS t with
        | some L2 =>
          obtain ⟨h1, h2⟩ := enc_decD _ _ ht
          rw [← h1, ← enc_append]
          exact decD_enc _ (by rw [List.all_append, h2]; simp [hb2])
        | none =>
          cases hx : decD (enc [b] ++ t.data.toList) with
          | none => rfl
          | some L =>
            exfalso
            have hne : enc [b] ++ t.data.toList ≠ [] := by
              intro c; have h9 := congrArg List.length c; have := (enc_length [b]).1; rw [List.length_append, List.length_nil] at h9; rw [List.length_singleton] at this; omega
            have hde : decodeL (enc [b] ++ t.data.toList) = (b.toNat, (encodeRune b).length) := by
              have := decodeL_encode b hb2 t.data.toList
              simpa [enc] using this
            rw [decD_step _ hne, hde] at hx
            split at hx
            · cases hx
            · obtain ⟨t', ht', _⟩ := Option.map_eq_some_iff.1 hx
              rw [show enc [b] = encodeRune b by simp [enc], List.drop_left] at ht'
              unfold decS at ht
              rw [ht] at ht'
              cases ht'
      cases hs : decS s with
      | none =>
        have h3 : decS ((s ++ textOf [b]) ++ t) = none := by
          cases hx : decS ((s ++ textOf [b]) ++ t) with
          | none => rfl
          | some L =>
            exfalso
            unfold decS at hx
            rw [elist] at hx
            obtain ⟨L1, L2, h1, _⟩ := decD_split _ hhead _ _ _ (Nat.le_refl _) hx
            unfold decS at hs
            rw [hs] at h1; cases h1
        cases ht : decS t with
        | none =>
          refine Ev.step (f := fun k => ploverlaw01_GlyphJoins.j1 k [] [] [] 10 true) (fun k => ?_) (joins_bad _ _ _ _ rfl rfl)
          rw [start, words_no hs (by omega), Option.bind_some, words_no ht (by omega), Option.bind_some, words_no h3 (by omega), Option.bind_some, if_neg (by simp)]
        | some L2 =>
          refine Ev.step (f := fun k => ploverlaw01_GlyphJoins.j1 k [] ((wordsL [] L2).map textOf) [] 10 true) (fun k => ?_) (joins_bad _ _ _ _ rfl rfl)
          rw [start, words_no hs (by omega), Option.bind_some, words_yes ht (by omega), Option.bind_some, words_no h3 (by omega), Option.bind_some, if_neg (by simp)]
      | some L1 =>
        cases ht : decS t with
        | none =>
          have h3 : decS ((s ++ textOf [b]) ++ t) = none := by
            cases hx : decS ((s ++ textOf [b]) ++ t) with
            | none => rfl
            | some L =>
              exfalso
              unfold decS at hx
              rw [elist] at hx
              obtain ⟨L1, L2, _, h2, _⟩ := decD_split _ hhead _ _ _ (Nat.le_refl _) hx
              rw [ebt, ht] at h2; cases h2
          refine Ev.step (f := fun k => ploverlaw01_GlyphJoins.j1 k ((wordsL [] L1).map textOf) [] [] 10 true) (fun k => ?_) (joins_bad _ _ _ _ rfl rfl)
          rw [start, words_yes hs (by omega), Option.bind_some, words_no ht (by omega), Option.bind_some, words_no h3 (by omega), Option.bind_some, if_pos rfl]
          rfl
        | some L2 =>
          obtain ⟨s1, s2⟩ := enc_decD _ _ hs
          have hl1 := dec_len hs
          have hl2 := dec_len ht
          have n1 := words_count [] L1
          have n2 := words_count [] L2
          simp only [List.length_nil] at n1 n2
          have h3 : decS ((s ++ textOf [b]) ++ t) = some (L1 ++ b :: L2) := by
            obtain ⟨t1, t2⟩ := enc_decD _ _ ht
            unfold decS
            rw [elist, ← s1, ← t1, ← enc_append, ← enc_append]
            exact decD_enc _ (by rw [List.all_append, s2, List.all_append, t2]; simp [hb2])
          refine Ev.step (f := fun k => ploverlaw01_GlyphJoins.j1 k ((wordsL [] L1).map textOf) ((wordsL [] L2).map textOf) ((wordsL [] L1).map textOf ++ (wordsL [] L2).map textOf) 0 false) (fun k => ?_) (joins_good _ _ (by rw [List.length_map]; omega) (by rw [List.length_map]; omega))
          rw [start, words_yes hs (by omega), Option.bind_some, words_yes ht (by omega), Option.bind_some, words_yes h3 (by omega), Option.bind_some, if_pos rfl, wordsL_split b hb1, List.map_append]
          rfl
end Go.Proofs.YtnfjhfhdiknccaaDoor.Pure
