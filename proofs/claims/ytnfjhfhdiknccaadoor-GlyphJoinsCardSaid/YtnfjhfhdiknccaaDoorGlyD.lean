/- What the functions of package glyph give, as plain functions on bytes and numbers; texts and runes, there and back. -/
import Derived.Lib.ValidLaws
import Derived.Lib.RuneBytes
import Derived.Lib.FieldsP
namespace Go.Proofs.YtnfjhfhdiknccaaDoor.Giv
open Go.Lib

def okRune (n : Int) : Bool := decide (0 ≤ n) && (decide (n ≤ 1114111) && (decide (n < 55296) || decide (57343 < n)))
theorem okRune_iff {n : Int} : okRune n = true ↔ 0 ≤ n ∧ n ≤ 1114111 ∧ (n < 55296 ∨ 57343 < n) := by simp [okRune]
def enc (L : List Int) : List UInt8 := L.flatMap encodeRune
def textOf (L : List Int) : ByteArray := ⟨(enc L).toArray⟩
def decF : Nat → List UInt8 → Option (List Int)
  | 0, l => if l = [] then some [] else none
  | n + 1, l => if l = [] then some [] else if (decodeL l).1 = 65533 ∧ (decodeL l).2 = 1 then none else (decF n (l.drop (decodeL l).2)).map (fun t => ((decodeL l).1 : Int) :: t)
def decD (l : List UInt8) : Option (List Int) := decF l.length l
theorem decF_nil (n : Nat) : decF n [] = some [] := by cases n <;> rfl
theorem decF_fuel : ∀ (n m : Nat) (l : List UInt8), l.length ≤ n → l.length ≤ m → decF n l = decF m l
  | 0, m, l, hn, _ => by
    obtain rfl : l = [] := List.eq_nil_of_length_eq_zero (by omega)
    rw [decF_nil, decF_nil]
  | n + 1, 0, l, _, hm => by
    obtain rfl : l = [] := List.eq_nil_of_length_eq_zero (by omega)
    rw [decF_nil, decF_nil]
  | n + 1, m + 1, l, hn, hm => by
    unfold decF
    by_cases hne : l = []
    · simp [hne]
    · have hw := decodeL_width l
      have hl : 0 < l.length := List.length_pos_iff.2 hne
      rw [if_neg hne, if_neg hne, decF_fuel n m (l.drop (decodeL l).2) (by rw [List.length_drop]; omega) (by rw [List.length_drop]; omega)]
theorem decD_nil : decD [] = some [] := rfl
theorem decD_step (l : List UInt8) (hne : l ≠ []) : decD l = if (decodeL l).1 = 65533 ∧ (decodeL l).2 = 1 then none else (decD (l.drop (decodeL l).2)).map (fun t => ((decodeL l).1 : Int) :: t) := by
  have hl : 0 < l.length := List.length_pos_iff.2 hne
  have hw := decodeL_width l
  obtain ⟨n, hn⟩ : ∃ n, l.length = n + 1 := ⟨l.length - 1, by omega⟩
  unfold decD
  rw [hn]
  show (if l = [] then some [] else _) = _
  rw [if_neg hne, decF_fuel n (l.drop (decodeL l).2).length _ (by rw [List.length_drop]; omega) (Nat.le_refl _)]
theorem list_ind {P : List UInt8 → Prop} (h0 : P []) (h1 : ∀ l, l ≠ [] → P (l.drop (decodeL l).2) → P l) : ∀ l, P l := by
  intro l
  generalize hn : l.length = n
  induction n using Nat.strongRecOn generalizing l with
  | _ n ih =>
    by_cases hne : l = []
    · subst hne; exact h0
    · have hl : 0 < l.length := List.length_pos_iff.2 hne
      have hw := decodeL_width l
      exact h1 l hne (ih _ (by rw [← hn, List.length_drop]; omega) _ rfl)
theorem decD_valid (l : List UInt8) : (decD l).isSome = validD l := by
  induction l using list_ind with
  | h0 => rfl
  | h1 l hne ih =>
    rw [decD_step l hne, validD_step l hne]
    split
    · rfl
    · rw [Option.isSome_map]; exact ih
set_option maxRecDepth 100000 in
set_option maxHeartbeats 4000000 in
theorem decodeN_ok (n b0 b1 b2 b3 : Nat) (h0 : b0 < 256) (hv : ¬ ((decodeN n b0 b1 b2 b3).1 = 65533 ∧ (decodeN n b0 b1 b2 b3).2 = 1)) : okRune ((decodeN n b0 b1 b2 b3).1 : Int) = true := by
  rw [okRune_iff]
  revert hv
  unfold decodeN
  repeat' split
  all_goals (intro hv; simp only at hv ⊢; omega)
theorem decodeL_ok (l : List UInt8) (hv : ¬ ((decodeL l).1 = 65533 ∧ (decodeL l).2 = 1)) : okRune ((decodeL l).1 : Int) = true := by
  rw [decodeL_N] at hv ⊢
  exact decodeN_ok _ _ _ _ _ (UInt8.toNat_lt _) hv
theorem enc_decD (l : List UInt8) : ∀ L, decD l = some L → enc L = l ∧ L.all okRune = true := by
  induction l using list_ind with
  | h0 => intro L h; rw [decD_nil] at h; obtain rfl := Option.some.inj h; exact ⟨rfl, rfl⟩
  | h1 l hne ih =>
    intro L h
    rw [decD_step l hne] at h
    split at h
    · cases h
    · rename_i hv
      obtain ⟨t, ht, rfl⟩ := Option.map_eq_some_iff.1 h
      obtain ⟨i1, i2⟩ := ih t ht
      refine ⟨?_, by rw [List.all_cons, i2, decodeL_ok l hv]; rfl⟩
      show encodeRune _ ++ enc t = l
      rw [i1, encode_decode l hne hv, List.take_append_drop]
theorem u8_of (x : Int) (h0 : 0 ≤ x) (h1 : x < 256) : (x.toNat.toUInt8).toNat = x.toNat := by
  have : x.toNat < 256 := by omega
  simp; omega
set_option maxRecDepth 100000 in
set_option maxHeartbeats 4000000 in
theorem decodeL_encode (r : Int) (hr : okRune r = true) (t : List UInt8) : decodeL (encodeRune r ++ t) = (r.toNat, (encodeRune r).length) := by
  obtain ⟨h0, h1, h2⟩ := okRune_iff.1 hr
  rw [decodeL_N]
  by_cases c1 : r ≤ 127
  · have e : encodeRune r = [r.toNat.toUInt8] := by unfold encodeRune; rw [encodeRuneZ_one h0 c1]; rfl
    rw [e]
    simp only [List.cons_append, List.nil_append, List.getD_cons_zero, List.length_cons, List.length_nil]
    rw [u8_of r h0 (by omega)]
    unfold decodeN
    rw [if_pos (by omega)]
  · by_cases c2 : r ≤ 2047
    · have e : encodeRune r = [(192 + r / 64).toNat.toUInt8, (128 + r % 64).toNat.toUInt8] := by unfold encodeRune; rw [encodeRuneZ_two (by omega) c2]; rfl
      rw [e]
      simp only [List.cons_append, List.nil_append, List.getD_cons_zero, List.getD_cons_succ, List.length_cons, List.length_nil]
      rw [u8_of _ (by omega) (by omega), u8_of _ (by omega) (by omega)]
      unfold decodeN
      rw [if_neg (by omega), if_pos (by omega), if_pos (by omega)]
      refine Prod.ext ?_ rfl
      simp only; omega
    · by_cases c3 : r ≤ 65535
      · have e : encodeRune r = [(224 + r / 4096).toNat.toUInt8, (128 + r / 64 % 64).toNat.toUInt8, (128 + r % 64).toNat.toUInt8] := by unfold encodeRune; rw [encodeRuneZ_three (by omega)]; rfl
        rw [e]
        simp only [List.cons_append, List.nil_append, List.getD_cons_zero, List.getD_cons_succ, List.length_cons, List.length_nil]
        rw [u8_of _ (by omega) (by omega), u8_of _ (by omega) (by omega), u8_of _ (by omega) (by omega)]
        unfold decodeN
        rw [if_neg (by omega), if_neg (by omega), if_pos (by omega), if_pos (by omega)]
        refine Prod.ext ?_ rfl
        simp only; omega
      · have e : encodeRune r = [(240 + r / 262144).toNat.toUInt8, (128 + r / 4096 % 64).toNat.toUInt8, (128 + r / 64 % 64).toNat.toUInt8, (128 + r % 64).toNat.toUInt8] := by unfold encodeRune; rw [encodeRuneZ_four (by omega) h1]; rfl
        rw [e]
        simp only [List.cons_append, List.nil_append, List.getD_cons_zero, List.getD_cons_succ, List.length_cons, List.length_nil]
        rw [u8_of _ (by omega) (by omega), u8_of _ (by omega) (by omega), u8_of _ (by omega) (by omega), u8_of _ (by omega) (by omega)]
        unfold decodeN
        rw [if_neg (by omega), if_neg (by omega), if_neg (by omega), if_pos (by omega), if_pos (by omega)]
        refine Prod.ext ?_ rfl
        simp only; omega
theorem encode_length (r : Int) : 1 ≤ (encodeRune r).length ∧ (encodeRune r).length ≤ 4 := by
  unfold encodeRune encodeRuneZ
  repeat' split
  all_goals simp
theorem encode_ffd : (encodeRune 65533).length = 3 := by decide
theorem decD_enc : ∀ (L : List Int), L.all okRune = true → decD (enc L) = some L
  | [], _ => rfl
  | r :: L, h => by
    rw [List.all_cons, Bool.and_eq_true] at h
    have ih := decD_enc L h.2
    have hl := encode_length r
    have e : enc (r :: L) = encodeRune r ++ enc L := rfl
    have hd := decodeL_encode r h.1 (enc L)
    have h0 := (okRune_iff.1 h.1).1
    rw [e, decD_step _ (by intro c; have h9 := congrArg List.length c; rw [List.length_append] at h9; simp only [List.length_nil] at h9; omega), hd]
    rw [if_neg, List.drop_left, ih]
    · simp only [Option.map_some, Int.toNat_of_nonneg h0]
    · rintro ⟨c1, c2⟩
      simp only at c1 c2
      obtain rfl : r = 65533 := by omega
      rw [encode_ffd] at c2; omega
theorem enc_append (A B : List Int) : enc (A ++ B) = enc A ++ enc B := by simp [enc]
theorem enc_cons (r : Int) (B : List Int) : enc (r :: B) = encodeRune r ++ enc B := rfl
theorem enc_length : ∀ L : List Int, L.length ≤ (enc L).length ∧ (enc L).length ≤ 4 * L.length
  | [] => by simp [enc]
  | r :: L => by
    have := enc_length L
    have := encode_length r
    rw [enc_cons, List.length_append, List.length_cons]; omega
theorem enc_inj {A B : List Int} (hA : A.all okRune = true) (hB : B.all okRune = true) (h : enc A = enc B) : A = B := by
  have := decD_enc A hA
  rw [h, decD_enc B hB] at this
  exact (Option.some.inj this).symm
theorem textOf_size (L : List Int) : (textOf L).size = (enc L).length := by simp [textOf, ByteArray.size]
theorem textOf_list (L : List Int) : (textOf L).data.toList = enc L := by simp [textOf]

def decS (s : ByteArray) : Option (List Int) := decD s.data.toList
theorem decS_textOf (L : List Int) (h : L.all okRune = true) : decS (textOf L) = some L := by unfold decS; rw [textOf_list]; exact decD_enc L h
theorem textOf_decS {s : ByteArray} {L : List Int} (h : decS s = some L) : textOf L = s ∧ L.all okRune = true := by
  obtain ⟨h1, h2⟩ := enc_decD _ _ h
  refine ⟨?_, h2⟩
  unfold textOf
  rw [h1]

def greatR (c : Int) : Bool := (decide (65 ≤ c) && decide (c ≤ 90)) || ((decide (192 ≤ c) && (decide (c ≤ 222) && !decide (c = 215))) || ((decide (913 ≤ c) && (decide (c ≤ 937) && !decide (c = 930))) || (decide (1040 ≤ c) && decide (c ≤ 1071))))
def foldR (c : Int) : Int := if greatR c = true then c + 32 else c
def blankR (c : Int) : Bool := decide (c = 9) || (decide (c = 10) || (decide (c = 13) || (decide (c = 32) || (decide (c = 160) || (decide (c = 8195) || decide (c = 12288))))))
def letterR (c : Int) : Bool := greatR c || greatR (c - 32)
def nameOk (c : Int) : Bool := letterR c || (decide (c = 45) || (decide (48 ≤ c) && decide (c ≤ 57)))
def nameL : List Int → Bool
  | [] => false
  | c :: t => letterR c && (t.all nameOk && decide (t.length < 16))
/-- the words of runes: the one that is under way, and what comes -/
def wordsL : List Int → List Int → List (List Int)
  | now, [] => if now = [] then [] else [now]
  | now, c :: t => if blankR c = true then (if now = [] then wordsL [] t else now :: wordsL [] t) else wordsL (now ++ [c]) t

def glyph_Runes.f (a0 : ByteArray) : Option (List Int × Int) :=
  if a0.size ≤ 1048576 then (match decS a0 with | some L => some (L, 0) | none => some ([], 10)) else none
def glyph_Text.f (l0 : List Int) : Option (ByteArray × Int) :=
  if l0.length ≤ 1048576 then (if l0.all okRune = true then some (textOf l0, 0) else some (⟨#[]⟩, 10)) else none
def glyph_Fold.f (a0 : ByteArray) : Option (ByteArray × Int) :=
  if a0.size ≤ 1048576 then (match decS a0 with | some L => some (textOf (L.map foldR), 0) | none => some (⟨#[]⟩, 10)) else none
def glyph_Words.f (a0 : ByteArray) : Option (List ByteArray × Int) :=
  if a0.size ≤ 1048576 then (match decS a0 with | some L => some ((wordsL [] L).map textOf, 0) | none => some ([], 10)) else none
def glyph_Name.f (a0 : ByteArray) : Option Bool :=
  if a0.size ≤ 140737488351232 then (match decS a0 with | some L => some (nameL L) | none => some false) else none
end Go.Proofs.YtnfjhfhdiknccaaDoor.Giv
