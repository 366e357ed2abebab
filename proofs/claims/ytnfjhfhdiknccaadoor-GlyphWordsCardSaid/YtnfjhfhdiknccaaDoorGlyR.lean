/- The statements on glyph, over the plain functions. -/
import Derived.Test.YtnfjhfhdiknccaaDoorGlyQ
namespace Go.Proofs.YtnfjhfhdiknccaaDoor.Pure
open Go.RowKit Go.Lib Go.Proofs.YtnfjhfhdiknccaaDoor.Giv Go.Proofs.YtnfjhfhdiknccaaDoor.P Go.Proofs.YtnfjhfhdiknccaaDoorW.PrintWords Go.Proofs.YtnfjhfhdiknccaaDoorW.PrintLast

/-- a text out of runes, known whole -/
theorem decS_lit {s : ByteArray} (L : List Int) (h : s.data.toList = enc L) (hL : L.all okRune = true) : decS s = some L := by unfold decS; rw [h]; exact decD_enc L hL
theorem Runes_lit {s : ByteArray} (L : List Int) (h : s.data.toList = enc L) (hL : L.all okRune = true) (hs : s.size ≤ 1048576) : glyph_Runes.f s = some (L, 0) := by
  unfold glyph_Runes.f; rw [if_pos hs, decS_lit L h hL]
theorem Fold_lit {s : ByteArray} (L : List Int) (h : s.data.toList = enc L) (hL : L.all okRune = true) (hs : s.size ≤ 1048576) : glyph_Fold.f s = some (textOf (L.map foldR), 0) := by
  unfold glyph_Fold.f; rw [if_pos hs, decS_lit L h hL]
theorem Words_lit {s : ByteArray} (L : List Int) (h : s.data.toList = enc L) (hL : L.all okRune = true) (hs : s.size ≤ 1048576) : glyph_Words.f s = some ((wordsL [] L).map textOf, 0) := by
  unfold glyph_Words.f; rw [if_pos hs, decS_lit L h hL]
theorem Name_lit {s : ByteArray} (L : List Int) (h : s.data.toList = enc L) (hL : L.all okRune = true) (hs : s.size ≤ 140737488351232) : glyph_Name.f s = some (nameL L) := by
  unfold glyph_Name.f; rw [if_pos hs, decS_lit L h hL]
theorem Text_lit (L : List Int) (hL : L.all okRune = true) (hs : L.length ≤ 1048576) : glyph_Text.f L = some (textOf L, 0) := by
  unfold glyph_Text.f; rw [if_pos hs, if_pos hL]

theorem runes_ev : Ev (fun k => ploverlaw01_runes.f k) true := by
  unfold ploverlaw01_runes.f
  refine Ev.congr (f := fun k => (ploverref01_SameInts.f k [97, 228, 12288] (([97, 228, 12288] : List Int))).bind fun t231 => (if t231 = true then some true else (some false))) (fun k => ?_) ?_
  · rw [Runes_lit [97, 228, 12288] (by decide) (by decide) (by decide), Option.bind_some, Text_lit [97, 228, 65536] (by decide) (by decide), Option.bind_some]
    have e : (textOf [97, 228, 65536]).toList = ([97, 195, 164, 240, 144, 128, 128] : List UInt8) := by rw [toList_data, textOf_list]; decide
    simp only [e, if_true, beq_self_eq_true]
  · exact Ev.bind (sameInts_spec _ _ (by decide)) (Ev.congr (fun k => if_pos (by decide)) (Ev.now _))
theorem folds_ev : ploverlaw01_folds.f = some true := by
  unfold ploverlaw01_folds.f
  rw [Fold_lit [65, 196, 98, 937, 1071] (by decide) (by decide) (by decide), Option.bind_some]
  have e : (textOf ([65, 196, 98, 937, 1071].map foldR)).toList = ([97, 195, 164, 98, 207, 137, 209, 143] : List UInt8) := by rw [toList_data, textOf_list]; decide
  simp only [e, if_true, beq_self_eq_true]
theorem words_ev : Ev (fun k => ploverlaw01_words.f k) true := by
  unfold ploverlaw01_words.f
  refine Ev.congr (f := fun k => (ploverref01_Same.f k [textOf [97], textOf [98]] (([(⟨#[97]⟩ : ByteArray), (⟨#[98]⟩ : ByteArray)] : List ByteArray))).bind fun t110 => (if t110 = true then (some ((0 : Int) == 0)) else (some false))) (fun k => ?_) ?_
  · rw [Words_lit [32, 97, 12288, 98, 10] (by decide) (by decide) (by decide), Option.bind_some]
    have e : (wordsL [] [32, 97, 12288, 98, 10]).map textOf = [textOf [97], textOf [98]] := by
      rw [show wordsL [] [32, 97, 12288, 98, 10] = [[97], [98]] by decide]; rfl
    simp only [e]
  · have e1 : textOf [97] = ⟨#[97]⟩ := bytes_ext (by rw [toList_data, toList_data, textOf_list]; decide)
    have e2 : textOf [98] = ⟨#[98]⟩ := bytes_ext (by rw [toList_data, toList_data, textOf_list]; decide)
    refine Ev.bind (same_spec _ _ (by decide)) ?_
    rw [e1, e2, decide_eq_true rfl]
    exact Ev.congr (fun k => if_pos rfl) (Ev.now _)
theorem thenRunes : Ev (fun k => (ploverlaw01_runes.f k).bind fun t => some t) true := Ev.bind runes_ev (Ev.now _)
theorem thenWords : Ev (fun k => (ploverlaw01_words.f k).bind fun t => some t) true := Ev.bind words_ev (Ev.now _)
theorem thenFolds : ((ploverlaw01_folds.f).bind fun t => some t) = some true := by rw [folds_ev]; rfl
theorem dec_len {s : ByteArray} {L : List Int} (h : decS s = some L) : L.length ≤ s.size ∧ s.size ≤ 4 * L.length := by
  have hl := enc_length L
  rw [← textOf_size, (textOf_decS h).1] at hl
  exact hl

theorem GlyphRunes : ploverlaw01_GlyphRunes.Pure := by
  intro s _
  refine Ev.rounds (g := fun k => ploverlaw01_GlyphRunes.f k s) ?_
  unfold ploverlaw01_GlyphRunes.f
  by_cases c : (s.size : Int) > 4096
  · exact Ev.congr (fun k => if_pos c) thenRunes
  · refine Ev.congr (fun k => if_neg c) ?_
    cases h : decS s with
    | none =>
      refine Ev.congr (f := fun k => (ploverref01_Runes.f k s).bind fun bt237 => ((ploverref01_SameInts.f k [] bt237.1).bind fun t241 => (if t241 = true then (if (10 : Int) = bt237.2 then ((ploverlaw01_runes.f k).bind fun t242 => (some t242)) else (some false)) else (some false)))) (fun k => ?_) ?_
      · unfold glyph_Runes.f; rw [if_pos (by omega), h]; rfl
      · refine Ev.bind (runes_spec s (by omega)) ?_
        rw [h]
        refine Ev.bind (sameInts_spec _ _ (by decide)) ?_
        exact Ev.congr (fun k => (if_pos (by decide)).trans (if_pos rfl)) thenRunes
    | some L =>
      have hl := dec_len h
      refine Ev.congr (f := fun k => (ploverref01_Runes.f k s).bind fun bt237 => ((ploverref01_SameInts.f k L bt237.1).bind fun t241 => (if t241 = true then (if (0 : Int) = bt237.2 then ((ploverlaw01_runes.f k).bind fun t242 => (some t242)) else (some false)) else (some false)))) (fun k => ?_) ?_
      · unfold glyph_Runes.f; rw [if_pos (by omega), h]; rfl
      · refine Ev.bind (runes_spec s (by omega)) ?_
        rw [h]
        refine Ev.bind (sameInts_spec _ _ (by omega)) ?_
        exact Ev.congr (fun k => (if_pos (by simp)).trans (if_pos rfl)) thenRunes

theorem GlyphTexts : ploverlaw01_GlyphTexts.Pure := by
  intro L _ _ _
  refine Ev.rounds (g := fun k => ploverlaw01_GlyphTexts.f k L) ?_
  unfold ploverlaw01_GlyphTexts.f
  by_cases c : (L.length : Int) > 4096
  · exact Ev.congr (fun k => if_pos c) thenRunes
  · refine Ev.congr (fun k => if_neg c) ?_
    have e : glyph_Text.f L = some (if L.all okRune = true then (textOf L, 0) else (⟨#[]⟩, 10)) := by
      unfold glyph_Text.f; rw [if_pos (by omega)]; split <;> rfl
    refine Ev.congr (f := fun k => (ploverref01_Text.f k L).bind fun bt246 => (if (if L.all okRune = true then (textOf L, (0 : Int)) else (⟨#[]⟩, 10)).1.toList = bt246.1.toList then (if (if L.all okRune = true then (textOf L, (0 : Int)) else (⟨#[]⟩, 10)).2 = bt246.2 then ((ploverlaw01_runes.f k).bind fun t248 => (some t248)) else (some false)) else (some false))) (fun k => ?_) ?_
    · rw [e]; rfl
    · refine Ev.bind (text_spec L (by omega)) ?_
      exact Ev.congr (fun k => (if_pos rfl).trans (if_pos rfl)) thenRunes

theorem GlyphFolds : ploverlaw01_GlyphFolds.Pure := by
  intro s _
  refine Ev.rounds (g := fun k => ploverlaw01_GlyphFolds.f k s) ?_
  unfold ploverlaw01_GlyphFolds.f
  by_cases c : (s.size : Int) > 4096
  · exact Ev.congr (fun k => (if_pos c).trans thenFolds) (Ev.now _)
  · refine Ev.congr (fun k => if_neg c) ?_
    have e : glyph_Fold.f s = some (resFold (decS s)) := by
      unfold glyph_Fold.f; rw [if_pos (by omega)]; cases decS s <;> rfl
    have this := fold_spec s (by omega)
    generalize resFold (decS s) = m at *
    refine Ev.congr (f := fun k => (ploverref01_Fold.f k s).bind fun bt214 => (if m.1.toList = bt214.1.toList then (if m.2 = bt214.2 then ((ploverlaw01_folds.f).bind fun t216 => (some t216)) else (some false)) else (some false))) (fun k => ?_) ?_
    · rw [e]; rfl
    · refine Ev.bind this ?_
      exact Ev.congr (fun k => ((if_pos rfl).trans (if_pos rfl)).trans thenFolds) (Ev.now _)

theorem words_count : ∀ (now L : List Int), (wordsL now L).length ≤ now.length + L.length
  | now, [] => by
    unfold wordsL
    by_cases h : now = []
    · simp [h]
    · have := List.length_pos_iff.2 h; simp [h]; omega
  | now, c :: t => by
    unfold wordsL
    have h1 := words_count [] t
    have h2 := words_count (now ++ [c]) t
    simp only [List.length_append, List.length_cons, List.length_nil] at h1 h2 ⊢
    by_cases hb : blankR c = true
    · rw [if_pos hb]
      by_cases h : now = []
      · rw [if_pos h]; omega
      · have := List.length_pos_iff.2 h
        rw [if_neg h]; simp only [List.length_cons]; omega
    · rw [if_neg hb]; omega
theorem GlyphWords : ploverlaw01_GlyphWords.Pure := by
  intro s _
  refine Ev.rounds (g := fun k => ploverlaw01_GlyphWords.f k s) ?_
  unfold ploverlaw01_GlyphWords.f
  by_cases c : (s.size : Int) > 4096
  · exact Ev.congr (fun k => if_pos c) thenWords
  · refine Ev.congr (fun k => if_neg c) ?_
    have e : glyph_Words.f s = some (resWords (decS s)) := by
      unfold glyph_Words.f; rw [if_pos (by omega)]; cases decS s <;> rfl
    have hw := words_spec s (by omega)
    have hlen : (resWords (decS s)).1.length ≤ 4096 := by
      cases h : decS s with
      | none => simp [resWords]
      | some L =>
        have hl := dec_len h
        have := words_count [] L
        simp only [resWords, List.length_map, List.length_nil] at this ⊢; omega
    generalize resWords (decS s) = m at *
    refine Ev.congr (f := fun k => (ploverref01_Words.f k s).bind fun bt160 => ((ploverref01_Same.f k m.1 bt160.1).bind fun t164 => (if t164 = true then (if m.2 = bt160.2 then ((ploverlaw01_words.f k).bind fun t165 => (some t165)) else (some false)) else (some false)))) (fun k => ?_) ?_
    · rw [e]; rfl
    · refine Ev.bind hw (Ev.bind (same_spec _ _ (by omega)) ?_)
      exact Ev.congr (fun k => (if_pos (by simp)).trans (if_pos rfl)) thenWords
end Go.Proofs.YtnfjhfhdiknccaaDoor.Pure
