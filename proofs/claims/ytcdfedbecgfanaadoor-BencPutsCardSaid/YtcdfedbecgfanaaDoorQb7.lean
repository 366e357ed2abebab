/- Texts put together by prune.py: BncG. -/
import Derived.Test.YtcdfedbecgfanaaDoorQb6
namespace Go.Proofs.YtcdfedbecgfanaaDoor.Giv
open Go.RowKit Go.Lib
set_option linter.unusedVariables false
set_option linter.unusedSimpArgs false
mutual
def nrm : V → V
  | ⟨k, n, s, L⟩ => if k = 1 then intV n else if k = 2 then strV s else lisV (nrms L)
def nrms : List V → List V
  | [] => []
  | x :: xs => nrm x :: nrms xs
end
theorem nrm_eq (v : V) : nrm v = if v.f0 = 1 then intV v.f1 else if v.f0 = 2 then strV v.f2 else lisV (nrms v.f3) := by obtain ⟨k, n, s, L⟩ := v; rw [nrm]
theorem nrms_nil : nrms [] = [] := by rw [nrms]
theorem nrms_cons (x : V) (xs : List V) : nrms (x :: xs) = nrm x :: nrms xs := by rw [nrms]
mutual
def tok : V → Bool
  | ⟨k, n, s, L⟩ => if k = 1 then true else if k = 2 then decide (s.size ≤ 65536) else toks L
def toks : List V → Bool
  | [] => true
  | x :: xs => tok x && toks xs
end
theorem tok_eq (v : V) : tok v = if v.f0 = 1 then true else if v.f0 = 2 then decide (v.f2.size ≤ 65536) else toks v.f3 := by obtain ⟨k, n, s, L⟩ := v; rw [tok]
theorem toks_nil : toks [] = true := by rw [toks]
theorem toks_cons (x : V) (xs : List V) : toks (x :: xs) = (tok x && toks xs) := by rw [toks]
mutual
theorem tok_of_len : ∀ v : V, (enc v).length ≤ 65537 → tok v = true
  | ⟨k, n, s, L⟩, h => by
    rw [enc] at h
    rw [tok]
    by_cases c1 : k = 1
    · rw [if_pos c1]
    · rw [if_neg c1] at h ⊢
      by_cases c2 : k = 2
      · rw [if_pos c2] at h ⊢
        rw [List.length_append, List.length_cons, data_size] at h
        exact decide_eq_true (by omega)
      · rw [if_neg c2] at h ⊢
        rw [List.length_cons, List.length_append] at h
        exact toks_of_len L (by omega)
theorem toks_of_len : ∀ L : List V, (encs L).length ≤ 65537 → toks L = true
  | [], _ => toks_nil
  | x :: xs, h => by
    rw [encs_cons, List.length_append] at h
    rw [toks_cons, tok_of_len x (by omega), toks_of_len xs (by omega)]
    rfl
end
theorem itoa_neg {n : Int} (h : n < 0) : itoa n = 45 :: decDigits n.natAbs := by unfold itoa; rw [if_pos h]
theorem itoa_pos {n : Int} (h : ¬ n < 0) : itoa n = decDigits n.toNat := by unfold itoa; rw [if_neg h]
theorem dd_head45 (u : Nat) (r : List UInt8) : (decDigits u ++ r).head? ≠ some 45 := by
  obtain ⟨c, t, e, _⟩ := dd_head u
  have := dd_isD u c (by rw [e]; simp)
  rw [e, List.cons_append, List.head?_cons]
  intro h
  have h := Option.some.inj h
  rw [h] at this
  exact absurd this.1 (by decide)
theorem intL_itoa (n : Int) (h0 : -9223372036854775808 ≤ n) (h1 : n ≤ 9223372036854775807) (rest : List UInt8) : intL (itoa n ++ 101 :: rest) = (0, n, (itoa n).length + 1) := by
  unfold intL
  by_cases c : n < 0
  · rw [itoa_neg c, List.cons_append, if_pos (show (45 :: (decDigits n.natAbs ++ 101 :: rest)).head? = some 45 from rfl), List.tail_cons, numL_dd true n.natAbs rest (by unfold fits; rw [if_pos rfl]; omega) (fun _ => by omega)]
    have e : sgn true n.natAbs = n := by unfold sgn; rw [if_pos rfl]; omega
    rw [e]
    simp
  · rw [itoa_pos c, if_neg (dd_head45 _ _), numL_dd false n.toNat rest (by unfold fits; omega) (fun h => by cases h)]
    have e : sgn false n.toNat = n := by unfold sgn; rw [if_neg (by decide)]; omega
    rw [e]
theorem enc_head (v : V) (hk : kin v = true) : ∃ c t, enc v = c :: t ∧ c ≠ 101 := by
  rw [enc_eq]
  by_cases c1 : v.f0 = 1
  · rw [if_pos c1]; exact ⟨_, _, rfl, by decide⟩
  · rw [if_neg c1]
    by_cases c2 : v.f0 = 2
    · rw [if_pos c2, itoa_pos (by omega)]
      obtain ⟨c, t, e, _⟩ := dd_head ((v.f2.size : Int)).toNat
      have := dd_isD _ c (by rw [e]; simp)
      rw [e]
      exact ⟨c, _, rfl, (isD_not this).1⟩
    · rw [if_neg c2]; exact ⟨_, _, rfl, by decide⟩
theorem kins_mem {x : V} : ∀ {L : List V}, x ∈ L → kins L = true → kin x = true
  | y :: ys, h, ho => by
    rw [kins_cons, Bool.and_eq_true] at ho
    rcases List.mem_cons.1 h with rfl | h
    · exact ho.1
    · exact kins_mem h ho.2
theorem toks_mem {x : V} : ∀ {L : List V}, x ∈ L → toks L = true → tok x = true
  | y :: ys, h, ho => by
    rw [toks_cons, Bool.and_eq_true] at ho
    rcases List.mem_cons.1 h with rfl | h
    · exact ho.1
    · exact toks_mem h ho.2
theorem deps_mem {x : V} : ∀ {L : List V}, x ∈ L → dep x ≤ deps L
  | y :: ys, h => by
    rw [deps_cons]
    rcases List.mem_cons.1 h with rfl | h
    · omega
    · have := deps_mem h; omega
def Back (v : V) (d : Nat) : Prop := ∀ rest, valL d (enc v ++ rest) = (0, nrm v, (enc v).length)
theorem listL_back (d : Nat) (rest : List UInt8) : ∀ (L : List V), (∀ x ∈ L, kin x = true ∧ Back x d) → ∀ k, (encs L).length < k → listL (valL d) k (encs L ++ 101 :: rest) = (0, nrms L, (encs L).length + 1)
  | [], _, k, hk => by
    obtain ⟨k, rfl⟩ : ∃ j, k = j + 1 := ⟨k - 1, by omega⟩
    rw [encs_nil, List.nil_append, listL, if_pos rfl, nrms_nil]
    rfl
  | x :: xs, h, k, hk => by
    obtain ⟨k, rfl⟩ : ∃ j, k = j + 1 := ⟨k - 1, by omega⟩
    obtain ⟨c, t, e, hc⟩ := enc_head x (h x (by simp)).1
    have hb := (h x (by simp)).2 (encs xs ++ 101 :: rest)
    rw [encs_cons, List.append_assoc]
    have hlen : (enc x).length = t.length + 1 := by rw [e]; simp
    rw [encs_cons, List.length_append] at hk
    have ih := listL_back d rest xs (fun y hy => h y (by simp [hy])) k (by omega)
    have hd : (enc x ++ (encs xs ++ 101 :: rest)).drop (enc x).length = encs xs ++ 101 :: rest := List.drop_left
    have e1 : enc x ++ (encs xs ++ 101 :: rest) = c :: (t ++ (encs xs ++ 101 :: rest)) := by rw [e]; rfl
    rw [e1] at hb hd ⊢
    rw [listL, if_neg hc, hb]
    simp only
    rw [hd, ih]
    simp only [if_true]
    rw [nrms_cons, List.length_append]
    simp
    omega
theorem back : ∀ (n : Nat) (v : V), wt v ≤ n → kin v = true → okV v = true → tok v = true → ∀ d, dep v ≤ d → Back v d := by
  intro n
  induction n with
  | zero => intro v h; have := wt_eq v; omega
  | succ n ih =>
    intro v hw hk ho ht d hd rest
    rw [enc_eq, nrm_eq]
    rw [kin_eq] at hk
    rw [tok_eq] at ht
    obtain ⟨o1, o2, o3⟩ := (okV_iff v).1 ho
    by_cases c1 : v.f0 = 1
    · rw [if_pos c1, if_pos c1, List.cons_append, valL_cons, if_pos rfl, List.append_assoc]
      show (if (intL (itoa v.f1 ++ 101 :: rest)).1 = 0 then _ else _) = _
      rw [show [101] ++ rest = 101 :: rest from rfl, intL_itoa v.f1 o1 o2 rest]
      simp
    · rw [if_neg c1] at hk ht ⊢
      rw [if_neg c1]
      by_cases c2 : v.f0 = 2
      · rw [if_pos c2] at hk ht ⊢
        rw [if_pos c2, itoa_pos (by omega), Int.toNat_natCast]
        have hs := of_decide_eq_true ht
        obtain ⟨c, t, e, _⟩ := dd_head v.f2.size
        have hc := dd_isD _ c (by rw [e]; simp)
        have hl := lenL_dd v.f2.size (v.f2.data.toList ++ rest) hs
        have e1 : decDigits v.f2.size ++ 58 :: v.f2.data.toList ++ rest = c :: (t ++ (58 :: (v.f2.data.toList ++ rest))) := by rw [e]; simp
        have e2 : decDigits v.f2.size ++ 58 :: (v.f2.data.toList ++ rest) = c :: (t ++ (58 :: (v.f2.data.toList ++ rest))) := by rw [e]; simp
        rw [e1, valL_cons, ← e2, hl]
        have hz := data_size v.f2
        obtain ⟨k1, k2, k3, k4⟩ := isD_not hc
        have h105 : ¬ c = 105 := u8_ne (by unfold isD at hc; show c.toNat ≠ 105; omega)
        have hdig : 48 ≤ c ∧ c ≤ 57 := ⟨UInt8.not_lt.1 k3, UInt8.not_lt.1 k4⟩
        rw [if_neg h105, if_pos hdig, if_pos rfl]
        simp only
        rw [if_neg (by simp only [List.length_append, List.length_cons, hz]; omega)]
        have hdrop : (decDigits v.f2.size ++ 58 :: (v.f2.data.toList ++ rest)).drop ((decDigits v.f2.size).length + 1) = v.f2.data.toList ++ rest := by
          rw [List.drop_append, List.drop_of_length_le (by omega), show (decDigits v.f2.size).length + 1 - (decDigits v.f2.size).length = 1 by omega]
          rfl
        rw [hdrop, ← hz, List.take_left]
        simp only [List.length_append, List.length_cons]
        refine congrArg (fun q => (0, q)) ?_
        refine congr (congrArg Prod.mk ?_) (by first | rfl | omega)
        unfold strV
        simp
      · rw [if_neg c2] at hk ht ⊢
        rw [if_neg c2]
        by_cases c3 : v.f0 = 3
        · rw [if_pos c3] at hk
          rw [dep_eq, if_pos c3] at hd
          obtain ⟨d, rfl⟩ : ∃ j, d = j + 1 := ⟨d - 1, by omega⟩
          rw [wt_eq] at hw
          have hall : ∀ x ∈ v.f3, kin x = true ∧ Back x d := fun x hx => by
            have h1 := kins_mem hx hk
            exact ⟨h1, ih x (by have := wt_mem hx; omega) h1 (okV_mem hx o3) (toks_mem hx ht) d (by have := deps_mem hx; omega)⟩
          rw [List.cons_append, List.append_assoc, show [101] ++ rest = 101 :: rest from rfl, valL_cons, if_neg (by decide), if_neg (by decide), if_neg (by decide)]
          have hb := listL_back d rest v.f3 hall (encs v.f3 ++ 101 :: rest).length (by simp)
          dsimp only
          rw [hb]
          simp
        · rw [if_neg c3] at hk
          cases hk
def Fore (v : V) (d : Nat) (b : List UInt8) : Prop := enc v = b ∧ kin v = true ∧ dep v ≤ d ∧ okV v = true
theorem fits_ok {neg : Bool} {m : Nat} (h : fits neg m) : -9223372036854775808 ≤ sgn neg m ∧ sgn neg m ≤ 9223372036854775807 := by
  unfold fits at h
  unfold sgn
  cases neg <;> simp at h ⊢ <;> omega
theorem enc_int (n : Int) : enc (intV n) = 105 :: (itoa n ++ [101]) := by unfold intV; rw [enc]; rfl
theorem enc_str (s : ByteArray) : enc (strV s) = itoa (s.size : Int) ++ (58 :: s.data.toList) := by unfold strV; rw [enc]; rfl
theorem enc_lis (L : List V) : enc (lisV L) = 108 :: (encs L ++ [101]) := by unfold lisV; rw [enc]; rfl
theorem kin_int (n : Int) : kin (intV n) = true := by unfold intV; rw [kin]; rfl
theorem kin_str (s : ByteArray) : kin (strV s) = true := by unfold strV; rw [kin]; rfl
theorem kin_lis (L : List V) : kin (lisV L) = kins L := by unfold lisV; rw [kin]; rfl
theorem dep_int (n : Int) : dep (intV n) = 0 := by unfold intV; rw [dep]; rfl
theorem dep_str (s : ByteArray) : dep (strV s) = 0 := by unfold strV; rw [dep]; rfl
theorem dep_lis (L : List V) : dep (lisV L) = deps L + 1 := by unfold lisV; rw [dep]; rfl
theorem ok_int {n : Int} (h0 : -9223372036854775808 ≤ n) (h1 : n ≤ 9223372036854775807) : okV (intV n) = true := (okV_iff _).2 ⟨h0, h1, okVs_nil⟩
theorem ok_str (s : ByteArray) : okV (strV s) = true := (okV_iff _).2 ⟨show (-9223372036854775808 : Int) ≤ 0 by decide, show (0 : Int) ≤ 9223372036854775807 by decide, okVs_nil⟩
theorem ok_lis {L : List V} (h : okVs L = true) : okV (lisV L) = true := (okV_iff _).2 ⟨show (-9223372036854775808 : Int) ≤ 0 by decide, show (0 : Int) ≤ 9223372036854775807 by decide, h⟩
theorem intL_fore (t : List UInt8) (d : Nat) (h : (intL t).1 = 0) : Fore (intV (intL t).2.1) d ((105 :: t).take ((intL t).2.2 + 1)) := by
  unfold intL at h ⊢
  split at h
  · rename_i h45
    rw [if_pos h45]
    obtain ⟨t', rfl⟩ : ∃ t', t = 45 :: t' := by
      cases t with
      | nil => cases h45
      | cons c t' => exact ⟨t', by rw [List.head?_cons] at h45; rw [Option.some.inj h45]⟩
    rw [List.tail_cons] at h ⊢
    obtain ⟨ds, rest, e1, e2, e3, e4, e5, _, e7⟩ := numL_inv true t' false false 0 h (by unfold fits; simp)
    rw [show (0 : Int) = sgn true 0 from rfl] at h ⊢
    obtain ⟨hne, hh⟩ := e7 rfl
    have hu := dd_unique ds.length ds rfl hne e2 (fun c t e e' => (hh c t e e').1)
    have hf0 : foldN 0 ds ≠ 0 := by
      intro e0
      rw [e0, dd_small (by decide)] at hu
      have := hh (UInt8.ofNat (48 + 0)) [] hu.symm rfl
      cases this.2
    simp only
    rw [e3, e5]
    have hr := fits_ok e4
    refine ⟨?_, kin_int _, by rw [dep_int]; omega, ok_int hr.1 hr.2⟩
    have hneg : sgn true (foldN 0 ds) < 0 := by unfold sgn; rw [if_pos rfl]; omega
    have habs : (sgn true (foldN 0 ds)).natAbs = foldN 0 ds := by unfold sgn; rw [if_pos rfl]; omega
    rw [enc_int, itoa_neg hneg, habs, hu, e1]
    rw [show ds.length + 1 + 1 + 1 = (ds.length + 1) + 2 by omega]
    simp only [List.take_succ_cons]
    rw [show ds ++ 101 :: rest = (ds ++ [101]) ++ rest by simp, show ds.length + 1 = (ds ++ [101]).length by simp, List.take_left]
    simp
  · rename_i h45
    rw [if_neg h45]
    obtain ⟨ds, rest, e1, e2, e3, e4, e5, _, e7⟩ := numL_inv false t false false 0 h (by unfold fits; simp)
    rw [show (0 : Int) = sgn false 0 from rfl] at h ⊢
    obtain ⟨hne, hh⟩ := e7 rfl
    have hu := dd_unique ds.length ds rfl hne e2 (fun c t e e' => (hh c t e e').1)
    rw [e3, e5]
    have hr := fits_ok e4
    refine ⟨?_, kin_int _, by rw [dep_int]; omega, ok_int hr.1 hr.2⟩
    have hpos : ¬ sgn false (foldN 0 ds) < 0 := by unfold sgn; rw [if_neg (by decide)]; omega
    have habs : (sgn false (foldN 0 ds)).toNat = foldN 0 ds := by unfold sgn; rw [if_neg (by decide)]; omega
    rw [enc_int, itoa_pos hpos, habs, hu, e1]
    simp only [List.take_succ_cons]
    rw [show ds ++ 101 :: rest = (ds ++ [101]) ++ rest by simp, show ds.length + 1 = (ds ++ [101]).length by simp, List.take_left]
theorem text_fore (l : List UInt8) (d : Nat) (h : (lenL false false 0 l).1 = 0) (h2 : ¬ l.length < (lenL false false 0 l).2.2 + (lenL false false 0 l).2.1) :
    Fore (strV ⟨((l.drop (lenL false false 0 l).2.2).take (lenL false false 0 l).2.1).toArray⟩) d (l.take ((lenL false false 0 l).2.2 + (lenL false false 0 l).2.1)) := by
  obtain ⟨ds, rest, e1, e2, e3, e5, _, e7⟩ := lenL_inv l false false 0 h
  obtain ⟨hne, hh⟩ := e7 rfl
  have hu := dd_unique ds.length ds rfl hne e2 (fun c t e e' => hh c t e e')
  rw [e3, e5] at h2 ⊢
  refine ⟨?_, kin_str _, by rw [dep_str]; omega, ok_str _⟩
  have hl : l.length = ds.length + (rest.length + 1) := by rw [e1]; simp
  have hdrop : l.drop (ds.length + 1) = rest := by
    rw [e1, show ds ++ 58 :: rest = (ds ++ [58]) ++ rest by simp, show ds.length + 1 = (ds ++ [58]).length by simp, List.drop_left]
  rw [hdrop, enc_str, itoa_pos (by omega), Int.toNat_natCast]
  have hsz : (⟨(rest.take (foldN 0 ds)).toArray⟩ : ByteArray).size = foldN 0 ds := by
    show ((rest.take (foldN 0 ds)).toArray).size = _
    rw [List.size_toArray, List.length_take]
    omega
  rw [hsz, hu, e1, show ds ++ 58 :: rest = (ds ++ [58]) ++ rest by simp, show ds.length + 1 + foldN 0 ds = (ds ++ [58]).length + foldN 0 ds by simp, List.take_length_add_append]
  simp
theorem listL_fore (d : Nat) (hf : ∀ l, (valL d l).1 = 0 → Fore (valL d l).2.1 d (l.take (valL d l).2.2)) : ∀ (k : Nat) (l : List UInt8), (listL (valL d) k l).1 = 0 → encs (listL (valL d) k l).2.1 ++ [101] = l.take (listL (valL d) k l).2.2 ∧ kins (listL (valL d) k l).2.1 = true ∧ deps (listL (valL d) k l).2.1 ≤ d ∧ okVs (listL (valL d) k l).2.1 = true
  | _, [], h => by rw [listL] at h; cases h
  | 0, c :: t, h => by rw [listL] at h; cases h; simp
  | k + 1, c :: t, h => by
    rw [listL] at h ⊢
    split at h
    · rename_i h1
      rw [if_pos h1]
      simp [encs_nil, kins_nil, deps_nil, okVs_nil, h1]
    · rename_i h1
      rw [if_neg h1]
      split at h
      · rename_i h2
        rw [if_pos h2]
        split at h
        · rename_i h3
          rw [if_pos h3]
          obtain ⟨a1, a2, a3, a4⟩ := hf _ h2
          obtain ⟨b1, b2, b3, b4⟩ := listL_fore d hf k _ h3
          simp only
          rw [encs_cons, kins_cons, deps_cons, okVs_cons, List.append_assoc, b1, a1, a2, b2]
          refine ⟨?_, rfl, by omega, a4, b4⟩
          rw [List.take_add]
        · rename_i h3; exact absurd h h3
      · rename_i h2; exact absurd h h2
theorem fore : ∀ (d : Nat) (l : List UInt8), (valL d l).1 = 0 → Fore (valL d l).2.1 d (l.take (valL d l).2.2) := by
  intro d
  induction d with
  | zero =>
    intro l h
    cases l with
    | nil => rw [valL_nil] at h; cases h
    | cons c t =>
      rw [valL_cons] at h ⊢
      split at h
      · rename_i h1
        rw [if_pos h1]
        split at h
        · rename_i h2; rw [if_pos h2, h1]; exact intL_fore t 0 h2
        · rename_i h2; exact absurd h h2
      · rename_i h1
        rw [if_neg h1]
        split at h
        · rename_i h2
          rw [if_pos h2]
          split at h
          · rename_i h3
            rw [if_pos h3]
            split at h
            · cases h
            · rename_i h4; rw [if_neg h4]; exact text_fore _ 0 h3 h4
          · rename_i h3; exact absurd h h3
        · split at h
          · cases h
          · cases h
  | succ d ih =>
    intro l h
    cases l with
    | nil => rw [valL_nil] at h; cases h
    | cons c t =>
      rw [valL_cons] at h ⊢
      split at h
      · rename_i h1
        rw [if_pos h1]
        split at h
        · rename_i h2; rw [if_pos h2, h1]; exact intL_fore t _ h2
        · rename_i h2; exact absurd h h2
      · rename_i h1
        rw [if_neg h1]
        split at h
        · rename_i h2
          rw [if_pos h2]
          split at h
          · rename_i h3
            rw [if_pos h3]
            split at h
            · cases h
            · rename_i h4; rw [if_neg h4]; exact text_fore _ _ h3 h4
          · rename_i h3; exact absurd h h3
        · rename_i h2
          rw [if_neg h2]
          split at h
          · cases h
          · rename_i h3
            rw [if_neg h3]
            dsimp only at h ⊢
            split at h
            · rename_i h4
              simp only [h4, if_true]
              obtain ⟨b1, b2, b3, b4⟩ := listL_fore d ih _ _ h4
              refine ⟨?_, by rw [kin_lis]; exact b2, by rw [dep_lis]; omega, ok_lis b4⟩
              rw [enc_lis, b1, List.take_succ_cons, Decidable.not_not.1 h3]
            · rename_i h4; exact absurd h h4
end Go.Proofs.YtcdfedbecgfanaaDoor.Giv
