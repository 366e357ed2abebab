/- What the reference of glyph gives, round by round. -/
import Derived.Test.YtnfjhfhdiknccaaDoorPx
import Derived.Test.YtnfjhfhdiknccaaDoorGlyT
import Derived.Test.YtnfjhfhdiknccaaDoorAid
import Derived.Lib.SmallJoins
import Derived.Lib.IndexBytes
namespace Go.Proofs.YtnfjhfhdiknccaaDoor.Pure
open Go.RowKit Go.Lib Go.Proofs.YtnfjhfhdiknccaaDoor.Giv Go.Proofs.YtnfjhfhdiknccaaDoor.P Go.Proofs.YtnfjhfhdiknccaaDoorW.PrintWords Go.Proofs.YtnfjhfhdiknccaaDoorW.PrintLast

theorem Ev.to {α : Type} {g : Nat → Option α} {r r' : α} (h : Ev g r) (e : r = r') : Ev g r' := e ▸ h
theorem drop_rd (L : List Int) (i : Nat) (h : i < L.length) : L.drop i = rd L (i : Int) :: L.drop (i + 1) := by
  rw [List.drop_eq_getElem_cons h]
  unfold rd
  rw [Int.toNat_natCast, List.getD_eq_getElem?_getD, List.getElem?_eq_getElem h, Option.getD_some]
theorem drop_rdOf (L : List ByteArray) (i : Nat) (h : i < L.length) : L.drop i = rdOf ByteArray.empty L (i : Int) :: L.drop (i + 1) := by
  rw [List.drop_eq_getElem_cons h]
  unfold rdOf
  rw [Int.toNat_natCast, List.getD_eq_getElem?_getD, List.getElem?_eq_getElem h, Option.getD_some]
theorem w64_succ (i n : Nat) (h : i < n) (hn : n ≤ 1099511627776) : wrap64 ((i : Int) + 1) = ((i + 1 : Nat) : Int) := by rw [w64 (by omega) (by omega)]; rfl

/-! equal lists -/
theorem sameInts_l0 (A B : List Int) (hl : A.length = B.length) (hn : A.length ≤ 1099511627776) : ∀ (d i : Nat), A.length - i ≤ d → i ≤ A.length → Ev (fun k => ploverref01_SameInts.l0 k A B (i : Int)) (decide (A.drop i = B.drop i)) := by
  intro d
  induction d with
  | zero =>
    intro i h1 h2
    refine Ev.step (f := fun _ => some true) (fun k => ?_) ?_
    · simp only [ploverref01_SameInts.l0]; rw [if_neg (by omega)]
    · rw [List.drop_of_length_le (by omega), List.drop_of_length_le (by omega), decide_eq_true rfl]; exact Ev.now _
  | succ d ih =>
    intro i h1 h2
    by_cases hlt : i < A.length
    · rw [drop_rd A i hlt, drop_rd B i (by omega)]
      by_cases he : rd A (i : Int) = rd B (i : Int)
      · refine Ev.step (f := fun k => ploverref01_SameInts.l0 k A B ((i + 1 : Nat) : Int)) (fun k => ?_) ?_
        · simp only [ploverref01_SameInts.l0]
          rw [if_pos (by omega), if_pos (by omega), if_pos (by omega), if_pos he, w64_succ i A.length hlt hn]
        · have := ih (i + 1) (by omega) (by omega)
          simpa [he] using this
      · refine Ev.step (f := fun _ => some false) (fun k => ?_) ?_
        · simp only [ploverref01_SameInts.l0]
          rw [if_pos (by omega), if_pos (by omega), if_pos (by omega), if_neg he]
        · rw [decide_eq_false (by simp [he])]; exact Ev.now _
    · exact ih i (by omega) h2
theorem sameInts_spec (A B : List Int) (hn : A.length ≤ 1099511627776) : Ev (fun k => ploverref01_SameInts.f k A B) (decide (A = B)) := by
  unfold ploverref01_SameInts.f
  by_cases hl : A.length = B.length
  · refine Ev.congr (fun k => if_pos (by omega)) ?_
    exact sameInts_l0 A B hl hn A.length 0 (by omega) (by omega)
  · refine Ev.congr (fun k => if_neg (by omega)) ?_
    rw [decide_eq_false (fun e => hl (by rw [e]))]; exact Ev.now _
theorem bytes_ext {a b : ByteArray} (h : a.toList = b.toList) : a = b := by
  rw [toList_data, toList_data] at h
  cases a; cases b
  simp at h
  rw [h]
theorem same_l0 (A B : List ByteArray) (hl : A.length = B.length) (hn : A.length ≤ 1099511627776) : ∀ (d i : Nat), A.length - i ≤ d → i ≤ A.length → Ev (fun k => ploverref01_Same.l0 k A B (i : Int)) (decide (A.drop i = B.drop i)) := by
  intro d
  induction d with
  | zero =>
    intro i h1 h2
    refine Ev.step (f := fun _ => some true) (fun k => ?_) ?_
    · simp only [ploverref01_Same.l0]; rw [if_neg (by omega)]
    · rw [List.drop_of_length_le (by omega), List.drop_of_length_le (by omega), decide_eq_true rfl]; exact Ev.now _
  | succ d ih =>
    intro i h1 h2
    by_cases hlt : i < A.length
    · rw [drop_rdOf A i hlt, drop_rdOf B i (by omega)]
      by_cases he : rdOf ByteArray.empty A (i : Int) = rdOf ByteArray.empty B (i : Int)
      · refine Ev.step (f := fun k => ploverref01_Same.l0 k A B ((i + 1 : Nat) : Int)) (fun k => ?_) ?_
        · simp only [ploverref01_Same.l0]
          rw [if_pos (by omega), if_pos (by omega), if_pos (by omega), if_pos (by rw [he]), w64_succ i A.length hlt hn]
        · have := ih (i + 1) (by omega) (by omega)
          simpa [he] using this
      · refine Ev.step (f := fun _ => some false) (fun k => ?_) ?_
        · simp only [ploverref01_Same.l0]
          rw [if_pos (by omega), if_pos (by omega), if_pos (by omega), if_neg (fun e => he (bytes_ext e))]
        · rw [decide_eq_false (by simp [he])]; exact Ev.now _
    · exact ih i (by omega) h2
theorem same_spec (A B : List ByteArray) (hn : A.length ≤ 1099511627776) : Ev (fun k => ploverref01_Same.f k A B) (decide (A = B)) := by
  unfold ploverref01_Same.f
  by_cases hl : A.length = B.length
  · refine Ev.congr (fun k => if_pos (by omega)) ?_
    exact same_l0 A B hl hn A.length 0 (by omega) (by omega)
  · refine Ev.congr (fun k => if_neg (by omega)) ?_
    rw [decide_eq_false (fun e => hl (by rw [e]))]; exact Ev.now _

/-! a text's runes -/
def takeD (l : List UInt8) : Int × Int := if (decodeL l).1 = 65533 ∧ (decodeL l).2 = 1 then (0, 0) else (((decodeL l).1 : Int), ((decodeL l).2 : Int))
theorem take_at (s : ByteArray) (i : Nat) (h : i < s.size) : Ev (fun k => ploverref01_take.f k (s.extract ((i : Int)).toNat s.size)) (takeD (s.data.toList.drop i)) := by
  refine ⟨10, fun k hk => ?_⟩
  obtain ⟨m, rfl⟩ : ∃ m, k = m + 10 := ⟨k - 10, by omega⟩
  have e : (s.extract ((i : Int)).toNat s.size).data.toList = s.data.toList.drop i := by rw [Int.toNat_natCast, extract_to_end]
  have hsz : (s.extract ((i : Int)).toNat s.size).size = (s.data.toList.drop i).length := by rw [← e, Array.length_toList]; rfl
  have hl : s.data.toList.length = s.size := by rw [Array.length_toList]; rfl
  refine (take_spec _ (by rw [hsz, List.length_drop]; omega) m).trans ?_
  rw [e, hsz]
  unfold takeM takeD
  rw [decodeL_N]
def resR (acc : List Int) : Option (List Int) → List Int × Int
  | some L => (acc ++ L, 0)
  | none => ([], 10)
theorem runes_l0 (s : ByteArray) (hs : s.size ≤ 1099511627776) : ∀ (d i : Nat) (acc : List Int), s.size - i ≤ d → i ≤ s.size → acc.length ≤ i → Ev (fun k => ploverref01_Runes.l0 k s acc (i : Int)) (resR acc (decD (s.data.toList.drop i))) := by
  have hl : s.data.toList.length = s.size := by rw [Array.length_toList]; rfl
  intro d
  induction d with
  | zero =>
    intro i acc h1 h2 h3
    refine Ev.step (f := fun _ => some (acc, 0)) (fun k => ?_) ?_
    · simp only [ploverref01_Runes.l0]; rw [if_neg (by omega)]
    · rw [List.drop_of_length_le (by omega), decD_nil]; simp only [resR, List.append_nil]; exact Ev.now _
  | succ d ih =>
    intro i acc h1 h2 h3
    by_cases hlt : i < s.size
    · have hne : s.data.toList.drop i ≠ [] := by intro c; have := congrArg List.length c; rw [List.length_drop] at this; simp only [List.length_nil] at this; omega
      refine Ev.step (f := fun k => (ploverref01_take.f k (s.extract ((i : Int)).toNat s.size)).bind fun bt113 => (if bt113.2 = 0 then (some (([] : List Int), 10)) else (if acc.length < 17592186044416 then (ploverref01_Runes.l0 k s (acc ++ [bt113.1]) (wrap64 ((i : Int) + bt113.2))) else (none)))) (fun k => ?_) ?_
      · simp only [ploverref01_Runes.l0]
        rw [if_pos (by omega), if_pos (by omega), if_pos (by omega)]
      · refine Ev.bind (take_at s i hlt) ?_
        unfold takeD
        rw [decD_step _ hne]
        have hw := decodeL_width (s.data.toList.drop i)
        have hle := decodeL_le _ hne
        rw [List.length_drop, hl] at hle
        by_cases hb : (decodeL (s.data.toList.drop i)).1 = 65533 ∧ (decodeL (s.data.toList.drop i)).2 = 1
        · rw [if_pos hb, if_pos hb]
          exact Ev.congr (fun k => if_pos rfl) (Ev.now _)
        · rw [if_neg hb, if_neg hb]
          generalize (decodeL (s.data.toList.drop i)).2 = w at *
          generalize (decodeL (s.data.toList.drop i)).1 = r at *
          refine Ev.congr (f := fun k => ploverref01_Runes.l0 k s (acc ++ [(r : Int)]) ((i + w : Nat) : Int)) (fun k => ?_) ?_
          · rw [if_neg (by simp only; omega), if_pos (by omega), w64 (by simp only; omega) (by simp only; omega)]
            rfl
          · have := ih (i + w) (acc ++ [(r : Int)]) (by omega) (by omega) (by simp; omega)
            rw [List.drop_drop]
            refine Ev.to this ?_
            cases decD (s.data.toList.drop (i + w)) <;> simp [resR]
    · exact ih i acc (by omega) h2 h3
theorem runes_spec (s : ByteArray) (hs : s.size ≤ 1099511627776) : Ev (fun k => ploverref01_Runes.f k s) (match decS s with | some L => (L, 0) | none => ([], 10)) := by
  have := runes_l0 s hs s.size 0 [] (by omega) (by omega) (by simp)
  unfold ploverref01_Runes.f decS
  rw [List.drop_zero] at this
  refine Ev.to this ?_
  cases decD s.data.toList <;> simp [resR]

/-! runes' text -/
theorem put_spec (r : Int) (h : okRune r = true) : ploverref01_put.f r = some (encodeRuneZ r) := by
  obtain ⟨h0, h1, h2⟩ := okRune_iff.1 h
  have am : ∀ x : Int, Go.bits .and .i64 x 63 = x % 64 := fun x => by
    have := and_mask_i64 x 6 (by decide)
    simpa using this
  unfold ploverref01_put.f
  rw [wide_spec, Option.bind_some]
  unfold wideM
  by_cases c1 : r ≤ 127
  · rw [if_pos c1, if_pos rfl, encodeRuneZ_one h0 c1, Int.emod_eq_of_lt h0 (by omega)]
  · by_cases c2 : r ≤ 2047
    · rw [if_neg c1, if_pos c2, if_neg (by decide), if_pos rfl, encodeRuneZ_two (by omega) c2, am, w64 (by omega) (by omega), w64 (by omega) (by omega)]
      simp only [Option.some.injEq, List.cons.injEq, and_true]
      omega
    · by_cases c3 : r ≤ 65535
      · rw [if_neg c1, if_neg c2, if_pos c3, if_neg (by decide), if_neg (by decide), if_pos rfl, encodeRuneZ_three (by omega), am, am, w64 (by omega) (by omega), w64 (by omega) (by omega), w64 (by omega) (by omega)]
        simp only [Option.some.injEq, List.cons.injEq, and_true]
        omega
      · rw [if_neg c1, if_neg c2, if_neg c3, if_neg (by decide), if_neg (by decide), if_neg (by decide), encodeRuneZ_four (by omega) h1, am, am, am, w64 (by omega) (by omega), w64 (by omega) (by omega), w64 (by omega) (by omega), w64 (by omega) (by omega)]
        simp only [Option.some.injEq, List.cons.injEq, and_true]
        omega
def encZ (L : List Int) : List Int := L.flatMap encodeRuneZ
theorem encodeZ_length (r : Int) : (encodeRuneZ r).length ≤ 4 := by
  unfold encodeRuneZ
  repeat' split
  all_goals simp
theorem strOf_encZ (L : List Int) : strOfNums (encZ L) = textOf L := by
  unfold strOfNums textOf enc encZ
  congr 1
  simp only [List.map_flatMap]
  rfl
def resT (acc : List Int) (L : List Int) : ByteArray × Int := if L.all okRune = true then (strOfNums (acc ++ encZ L), 0) else (⟨#[]⟩, 10)
theorem text_l0 (L : List Int) (hn : L.length ≤ 1099511627776) : ∀ (d i : Nat) (acc : List Int), L.length - i ≤ d → i ≤ L.length → acc.length ≤ 4 * i → Ev (fun k => ploverref01_Text.l0 k L acc (i : Int)) (resT acc (L.drop i)) := by
  intro d
  induction d with
  | zero =>
    intro i acc h1 h2 h3
    refine Ev.step (f := fun _ => some (strOfNums acc, 0)) (fun k => ?_) ?_
    · simp only [ploverref01_Text.l0]; rw [if_neg (by omega)]
    · rw [List.drop_of_length_le (by omega)]; simp only [resT, encZ, List.all_nil, List.flatMap_nil, List.append_nil, if_true]; exact Ev.now _
  | succ d ih =>
    intro i acc h1 h2 h3
    by_cases hlt : i < L.length
    · rw [drop_rd L i hlt]
      generalize hr : rd L (i : Int) = r
      refine Ev.step (f := fun k => if okRune r = true then (if acc.length + (encodeRuneZ r).length < 140737488355328 then (ploverref01_Text.l0 k L (acc ++ encodeRuneZ r) ((i + 1 : Nat) : Int)) else (none)) else (some ((⟨#[]⟩ : ByteArray), 10))) (fun k => ?_) ?_
      · simp only [ploverref01_Text.l0]
        rw [if_pos (by omega), if_pos (by omega), hr, is_spec, Option.bind_some]
        cases h : okRune r
        · simp
        · rw [if_pos rfl, if_pos rfl, put_spec r h, Option.bind_some, w64_succ i L.length hlt hn]
      · have hz := encodeZ_length r
        cases h : okRune r
        · refine Ev.congr (fun k => if_neg (by simp)) ?_
          unfold resT
          rw [List.all_cons, h, Bool.false_and, if_neg (by simp)]
          exact Ev.now _
        · refine Ev.congr (fun k => (if_pos rfl).trans (if_pos (by omega))) ?_
          have := ih (i + 1) (acc ++ encodeRuneZ r) (by omega) (by omega) (by rw [List.length_append]; omega)
          refine Ev.to this ?_
          unfold resT encZ
          rw [List.all_cons, h, Bool.true_and, List.flatMap_cons, List.append_assoc]
    · exact ih i acc (by omega) h2 h3
theorem text_spec (L : List Int) (hn : L.length ≤ 1099511627776) : Ev (fun k => ploverref01_Text.f k L) (if L.all okRune = true then (textOf L, 0) else (⟨#[]⟩, 10)) := by
  have := text_l0 L hn L.length 0 [] (by omega) (by omega) (by simp)
  unfold ploverref01_Text.f
  rw [List.drop_zero] at this
  refine Ev.to this ?_
  unfold resT
  rw [List.nil_append, strOf_encZ]
end Go.Proofs.YtnfjhfhdiknccaaDoor.Pure
