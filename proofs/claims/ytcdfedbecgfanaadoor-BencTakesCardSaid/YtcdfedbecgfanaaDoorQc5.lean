/- Texts put together by prune.py: BncM, ShelfB, BncW, BncN, BncC, BncE, BncK, BncV, BncS, BncL, BncQ. -/
import Derived.Lib.ItoaNum
import Derived.Shelf.Strconv.Itoa3
import Derived.Shelf.Strings.BuilderK
import Derived.Shelf.Strings.BuilderF
import Derived.Test.YtcdfedbecgfanaaDoorProg
import Derived.Lib.OthersKept
import Derived.BigCall
import Derived.Handy
import Derived.Outline
import Derived.Deep.RegionHeld3
import Derived.Deep.DrawnRows
import Derived.Deep.QuietTactic
import Derived.BigQuiet
import Derived.Test.YtcdfedbecgfanaaDoorQc4
namespace Go.Proofs.YtcdfedbecgfanaaDoor.Giv
open Go.RowKit Go.Lib
set_option linter.unusedVariables false
set_option linter.unusedSimpArgs false
abbrev V := P.S24
def zV : V := ⟨0, 0, ⟨#[]⟩, []⟩
def intV (n : Int) : V := ⟨1, n, ⟨#[]⟩, []⟩
def strV (s : ByteArray) : V := ⟨2, 0, s, []⟩
def lisV (l : List V) : V := ⟨3, 0, ⟨#[]⟩, l⟩
mutual
def wt : V → Nat
  | ⟨_, _, s, L⟩ => 30 + 2 * s.size + wts L
def wts : List V → Nat
  | [] => 0
  | x :: xs => wt x + wts xs
end
mutual
def okV : V → Bool
  | ⟨_, n, _, L⟩ => decide (-9223372036854775808 ≤ n) && (decide (n ≤ 9223372036854775807) && okVs L)
def okVs : List V → Bool
  | [] => true
  | x :: xs => okV x && okVs xs
end
theorem okV_iff (v : V) : okV v = true ↔ -9223372036854775808 ≤ v.f1 ∧ v.f1 ≤ 9223372036854775807 ∧ okVs v.f3 = true := by
  obtain ⟨k, n, s, L⟩ := v
  rw [okV]
  simp
theorem okVs_cons (x : V) (xs : List V) : okVs (x :: xs) = true ↔ okV x = true ∧ okVs xs = true := by rw [okVs]; simp
theorem wt_eq (v : V) : wt v = 30 + 2 * v.f2.size + wts v.f3 := by obtain ⟨k, n, s, L⟩ := v; rw [wt]
theorem wts_cons (x : V) (xs : List V) : wts (x :: xs) = wt x + wts xs := by rw [wts]
theorem wts_nil : wts [] = 0 := by rw [wts]
theorem okVs_nil : okVs [] = true := by rw [okVs]
theorem wt_mem {x : V} : ∀ {L : List V}, x ∈ L → wt x ≤ wts L
  | y :: ys, h => by
    rw [wts_cons]
    rcases List.mem_cons.1 h with rfl | h
    · omega
    · have := wt_mem h; omega
theorem okV_mem {x : V} : ∀ {L : List V}, x ∈ L → okVs L = true → okV x = true
  | y :: ys, h, ho => by
    rw [okVs_cons] at ho
    rcases List.mem_cons.1 h with rfl | h
    · exact ho.1
    · exact okV_mem h ho.2
theorem wts_len : ∀ (L : List V), 30 * L.length ≤ wts L
  | [] => by simp
  | x :: xs => by rw [wts_cons]; have := wts_len xs; have := wt_eq x; simp; omega
mutual
def enc : V → List UInt8
  | ⟨k, n, s, L⟩ => if k = 1 then 105 :: (itoa n ++ [101]) else if k = 2 then itoa (s.size : Int) ++ (58 :: s.data.toList) else 108 :: (encs L ++ [101])
def encs : List V → List UInt8
  | [] => []
  | x :: xs => enc x ++ encs xs
end
theorem enc_eq (v : V) : enc v = if v.f0 = 1 then 105 :: (itoa v.f1 ++ [101]) else if v.f0 = 2 then itoa (v.f2.size : Int) ++ (58 :: v.f2.data.toList) else 108 :: (encs v.f3 ++ [101]) := by
  obtain ⟨k, n, s, L⟩ := v; rw [enc]
theorem encs_cons (x : V) (xs : List V) : encs (x :: xs) = enc x ++ encs xs := by rw [encs]
theorem encs_nil : encs [] = [] := by rw [encs]
mutual
def putc : List UInt8 → V → List UInt8
  | l, ⟨k, n, s, L⟩ => if 65536 < l.length then l else if k = 1 then l ++ (105 :: (itoa n ++ [101])) else if k = 2 then l ++ (itoa (s.size : Int) ++ (58 :: s.data.toList)) else putcs (l ++ [108]) L ++ [101]
def putcs : List UInt8 → List V → List UInt8
  | l, [] => l
  | l, x :: xs => putcs (putc l x) xs
end
theorem putc_eq (l : List UInt8) (v : V) : putc l v = if 65536 < l.length then l else if v.f0 = 1 then l ++ (105 :: (itoa v.f1 ++ [101])) else if v.f0 = 2 then l ++ (itoa (v.f2.size : Int) ++ (58 :: v.f2.data.toList)) else putcs (l ++ [108]) v.f3 ++ [101] := by
  obtain ⟨k, n, s, L⟩ := v; rw [putc]
theorem putcs_cons (l : List UInt8) (x : V) (xs : List V) : putcs l (x :: xs) = putcs (putc l x) xs := by rw [putcs]
theorem putcs_nil (l : List UInt8) : putcs l [] = l := by rw [putcs]
theorem putcs_snoc (l : List UInt8) (L : List V) (x : V) : putcs l (L ++ [x]) = putc (putcs l L) x := by
  induction L generalizing l with
  | nil => rw [List.nil_append, putcs_cons, putcs_nil, putcs_nil]
  | cons y ys ih => rw [List.cons_append, putcs_cons, putcs_cons, ih]
theorem dd_small {u : Nat} (h : u < 10) : decDigits u = [UInt8.ofNat (48 + u)] := by rw [decDigits, dif_pos h]
theorem dd_big {u : Nat} (h : ¬ u < 10) : decDigits u = decDigits (u / 10) ++ [UInt8.ofNat (48 + u % 10)] := by rw [decDigits, dif_neg h]
theorem dd_len (k u : Nat) (h : u < 10 ^ (k + 1)) : (decDigits u).length ≤ k + 1 := by
  induction k generalizing u with
  | zero => rw [dd_small (by simpa using h)]; simp
  | succ k ih =>
    by_cases c : u < 10
    · rw [dd_small c]; simp
    · rw [dd_big c]
      have := ih (u / 10) (by rw [Nat.pow_succ] at h; omega)
      simp
      omega
theorem dd_any (u : Nat) : 2 * (decDigits u).length ≤ u + 29 := by
  induction u using Nat.strongRecOn with
  | _ u ih =>
    by_cases c : u < 10
    · rw [dd_small c]; simp
    · rw [dd_big c]
      have := ih (u / 10) (by omega)
      simp
      omega
theorem dd_pos (u : Nat) : 1 ≤ (decDigits u).length := by
  by_cases c : u < 10
  · rw [dd_small c]; simp
  · rw [dd_big c]; simp
theorem itoa_len {n : Int} (h0 : -9223372036854775808 ≤ n) (h1 : n ≤ 9223372036854775807) : 1 ≤ (itoa n).length ∧ (itoa n).length ≤ 20 := by
  unfold itoa
  split
  · have := dd_len 18 n.natAbs (by have : n.natAbs ≤ 9223372036854775808 := by omega
                                   exact Nat.lt_of_le_of_lt this (by decide))
    simp; omega
  · have := dd_len 18 n.toNat (by have : n.toNat ≤ 9223372036854775807 := by omega
                                  exact Nat.lt_of_le_of_lt this (by decide))
    have := dd_pos n.toNat
    omega
theorem data_size (s : ByteArray) : s.data.toList.length = s.size := by rw [Array.length_toList]; rfl
mutual
theorem putc_grows : ∀ (v : V) (l : List UInt8), l.length ≤ (putc l v).length
  | ⟨k, n, s, L⟩, l => by
    rw [putc]
    split
    · omega
    · split
      · simp
      · split
        · simp
        · have := putcs_grows L (l ++ [108])
          simp at this ⊢
          omega
theorem putcs_grows : ∀ (L : List V) (l : List UInt8), l.length ≤ (putcs l L).length
  | [], l => by rw [putcs]; omega
  | x :: xs, l => by
    rw [putcs]
    have := putc_grows x l
    have := putcs_grows xs (putc l x)
    omega
end
mutual
theorem putc_spec : ∀ (v : V) (l : List UInt8), ((l ++ enc v).length ≤ 65536 → putc l v = l ++ enc v) ∧ (65536 < (l ++ enc v).length → 65536 < (putc l v).length)
  | ⟨k, n, s, L⟩, l => by
    rw [putc, enc]
    by_cases c : 65536 < l.length
    · rw [if_pos c]
      exact ⟨fun h => by rw [List.length_append] at h; omega, fun _ => c⟩
    · rw [if_neg c]
      by_cases c1 : k = 1
      · rw [if_pos c1, if_pos c1]; exact ⟨fun _ => rfl, fun h => h⟩
      · rw [if_neg c1, if_neg c1]
        by_cases c2 : k = 2
        · rw [if_pos c2, if_pos c2]; exact ⟨fun _ => rfl, fun h => h⟩
        · rw [if_neg c2, if_neg c2]
          have := putcs_spec L (l ++ [108])
          simp only [List.length_append, List.length_cons, List.length_nil] at this ⊢
          constructor
          · intro h
            rw [this.1 (by omega)]
            simp
          · intro h
            by_cases e : l.length + 1 + (encs L).length ≤ 65536
            · rw [this.1 (by omega)]
              simp
              omega
            · have := this.2 (by omega)
              omega
theorem putcs_spec : ∀ (L : List V) (l : List UInt8), ((l ++ encs L).length ≤ 65536 → putcs l L = l ++ encs L) ∧ (65536 < (l ++ encs L).length → 65536 < (putcs l L).length)
  | [], l => by rw [putcs, encs, List.append_nil]; exact ⟨fun _ => rfl, fun h => h⟩
  | x :: xs, l => by
    rw [putcs, encs]
    have h1 := putc_spec x l
    have h2 := putcs_spec xs (putc l x)
    simp only [List.length_append] at h1 h2 ⊢
    constructor
    · intro h
      have e := h1.1 (by omega)
      rw [e] at h2 ⊢
      rw [h2.1 (by simp; omega), List.append_assoc]
    · intro h
      by_cases c : l.length + (enc x).length ≤ 65536
      · have e := h1.1 c
        rw [e] at h2 ⊢
        exact h2.2 (by simp; omega)
      · have := h1.2 (by omega)
        have := putcs_grows xs (putc l x)
        omega
end
mutual
theorem putc_le : ∀ (v : V) (l : List UInt8), okV v = true → (putc l v).length ≤ l.length + wt v
  | ⟨k, n, s, L⟩, l, ho => by
    obtain ⟨h0, h1, h2⟩ := (okV_iff _).1 ho
    replace h0 : -9223372036854775808 ≤ n := h0
    replace h1 : n ≤ 9223372036854775807 := h1
    rw [putc, wt]
    split
    · omega
    · split
      · have := itoa_len h0 h1; simp; omega
      · split
        · have hz := data_size s
          have e : ((s.size : Int)).toNat = s.size := by omega
          have hd := dd_any s.size
          simp only [List.length_append, List.length_cons, hz, itoa]
          rw [if_neg (by omega), e]
          omega
        · have := putcs_le L (l ++ [108]) h2
          simp at this ⊢
          omega
theorem putcs_le : ∀ (L : List V) (l : List UInt8), okVs L = true → (putcs l L).length ≤ l.length + wts L
  | [], l, _ => by rw [putcs]; omega
  | x :: xs, l, ho => by
    rw [okVs_cons] at ho
    rw [putcs, wts]
    have := putc_le x l ho.1
    have := putcs_le xs (putc l x) ho.2
    omega
end
end Go.Proofs.YtcdfedbecgfanaaDoor.Giv
namespace Go.Proofs
open Go.Shelf Go.RowKit Go.Lib
def Tryd.LaysM_n171_ren : Go.Shelf.Ren := ⟨fun | 0 => 0 | 1 => 1 | 2 => 2 | 129 => 51 | 166 => 34 | 169 => 27 | 170 => 26 | 171 => 35 | 240 => 42 | 243 => 43 | 246 => 45 | 276 => 44 | 283 => 46 | 284 => 47 | 285 => 48 | 286 => 49 | 317 => 50 | 318 => 52 | 319 => 53 | 320 => 54 | 337 => 55 | 338 => 56 | 347 => 57 | 348 => 58 | 349 => 59 | 350 => 60 | 351 => 61 | 352 => 62 | 353 => 63 | 354 => 64 | 355 => 65 | 356 => 66 | 357 => 67 | 358 => 68 | 359 => 69 | 360 => 70 | 361 => 71 | 362 => 72 | 366 => 73 | 367 => 79 | n => n, fun | 0 => 0 | 1 => 1 | 2 => 2 | 3 => 3 | 4 => 4 | 5 => 5 | 6 => 6 | 7 => 7 | 8 => 8 | 9 => 9 | 10 => 10 | 11 => 11 | 12 => 12 | 13 => 13 | 14 => 14 | 15 => 15 | 16 => 16 | 17 => 17 | 18 => 18 | 19 => 19 | 20 => 20 | 21 => 21 | 37 => 35 | 46 => 87 | 47 => 88 | 51 => 84 | 52 => 89 | 53 => 76 | 54 => 77 | 70 => 46 | 71 => 47 | 72 => 48 | 74 => 60 | 75 => 61 | 76 => 62 | 77 => 63 | 80 => 51 | 81 => 50 | 83 => 64 | 84 => 74 | 104 => 39 | 111 => 86 | 112 => 36 | 114 => 81 | 127 => 65 | 164 => 72 | 165 => 73 | 171 => 75 | 172 => 78 | 173 => 79 | 174 => 80 | 211 => 82 | 212 => 83 | 213 => 85 | 232 => 90 | 233 => 91 | 238 => 92 | 239 => 93 | 240 => 94 | 241 => 95 | 242 => 96 | 243 => 97 | 244 => 98 | 245 => 99 | 246 => 100 | 247 => 101 | 248 => 102 | 249 => 103 | n => n, fun | 17 => 0 | 18 => 1 | 19 => 2 | n => n⟩
theorem Tryd.LaysM_n171 : LaysM.n171 Tryd.prog Tryd.LaysM_n171_ren := {
  mixed := by kernel_rfl,
  f129 := Tryd.func51.trans (congrArg some (by kernel_rfl)),
  f171 := Tryd.func35.trans (congrArg some (by kernel_rfl)),
  f243 := Tryd.func43.trans (congrArg some (by kernel_rfl)),
  f246 := Tryd.func45.trans (congrArg some (by kernel_rfl)),
  f283 := Tryd.func46.trans (congrArg some (by kernel_rfl)),
  f284 := Tryd.func47.trans (congrArg some (by kernel_rfl)),
  f285 := Tryd.func48.trans (congrArg some (by kernel_rfl)),
  f286 := Tryd.func49.trans (congrArg some (by kernel_rfl)),
  f317 := Tryd.func50.trans (congrArg some (by kernel_rfl)),
  f318 := Tryd.func52.trans (congrArg some (by kernel_rfl)),
  f319 := Tryd.func53.trans (congrArg some (by kernel_rfl)),
  f320 := Tryd.func54.trans (congrArg some (by kernel_rfl)),
  f337 := Tryd.func55.trans (congrArg some (by kernel_rfl)),
  f338 := Tryd.func56.trans (congrArg some (by kernel_rfl)),
  t0 := Tryd.underlying0,
  a0 := Tryd.isAgg0,
  z0 := Tryd.sizeOf0,
  v0 := Tryd.zeroValue0,
  t2 := Tryd.underlying2,
  a2 := Tryd.isAgg2,
  z2 := Tryd.sizeOf2,
  v2 := Tryd.zeroValue2,
  t3 := Tryd.underlying3,
  a3 := Tryd.isAgg3,
  z3 := Tryd.sizeOf3,
  v3 := Tryd.zeroValue3,
  t4 := Tryd.underlying4,
  a4 := Tryd.isAgg4,
  z4 := Tryd.sizeOf4,
  v4 := Tryd.zeroValue4,
  t5 := Tryd.underlying5,
  a5 := Tryd.isAgg5,
  z5 := Tryd.sizeOf5,
  v5 := Tryd.zeroValue5,
  t9 := Tryd.underlying9,
  a9 := Tryd.isAgg9,
  z9 := Tryd.sizeOf9,
  v9 := Tryd.zeroValue9,
  t20 := Tryd.underlying20,
  a20 := Tryd.isAgg20,
  z20 := Tryd.sizeOf20,
  v20 := Tryd.zeroValue20,
  t37 := Tryd.underlying35,
  a37 := Tryd.isAgg35,
  z37 := Tryd.sizeOf35,
  v37 := Tryd.zeroValue35,
  t46 := Tryd.underlying87,
  a46 := Tryd.isAgg87,
  z46 := Tryd.sizeOf87,
  v46 := Tryd.zeroValue87,
  t51 := Tryd.underlying84,
  a51 := Tryd.isAgg84,
  z51 := Tryd.sizeOf84,
  v51 := Tryd.zeroValue84,
  t53 := Tryd.underlying76,
  a53 := Tryd.isAgg76,
  z53 := Tryd.sizeOf76,
  v53 := Tryd.zeroValue76,
  t171 := Tryd.underlying75,
  a171 := Tryd.isAgg75,
  z171 := Tryd.sizeOf75,
  v171 := Tryd.zeroValue75,
  t173 := Tryd.underlying79,
  a173 := Tryd.isAgg79,
  z173 := Tryd.sizeOf79,
  v173 := Tryd.zeroValue79,
  t212 := Tryd.underlying83,
  a212 := Tryd.isAgg83,
  z212 := Tryd.sizeOf83,
  v212 := Tryd.zeroValue83,
  t213 := Tryd.underlying85,
  a213 := Tryd.isAgg85,
  z213 := Tryd.sizeOf85,
  t232 := Tryd.underlying90,
  a232 := Tryd.isAgg90,
  z232 := Tryd.sizeOf90,
  v232 := Tryd.zeroValue90,
  t233 := Tryd.underlying91,
  a233 := Tryd.isAgg91,
  z233 := Tryd.sizeOf91,
  v233 := Tryd.zeroValue91,
  g17 := by kernel_rfl,
  g18 := by kernel_rfl,
  g19 := by kernel_rfl,
  i0 := by kernel_rfl,
  i2 := by kernel_rfl,
  i3 := by kernel_rfl,
  i4 := by kernel_rfl,
  i5 := by kernel_rfl,
  i9 := by kernel_rfl,
  i20 := by kernel_rfl,
  i37 := by kernel_rfl,
  i46 := by kernel_rfl,
  i51 := by kernel_rfl,
  i53 := by kernel_rfl,
  i171 := by kernel_rfl,
  i173 := by kernel_rfl,
  i212 := by kernel_rfl,
  i232 := by kernel_rfl,
  i233 := by kernel_rfl,
  m17 := by kernel_rfl,
  m18 := by kernel_rfl,
  m19 := by kernel_rfl }
def Tryd.lays166_ren : Go.Shelf.Ren := ⟨fun | 0 => 0 | 1 => 1 | 2 => 2 | 129 => 51 | 166 => 34 | 169 => 27 | 170 => 26 | 171 => 35 | 240 => 42 | 243 => 43 | 246 => 45 | 276 => 44 | 283 => 46 | 284 => 47 | 285 => 48 | 286 => 49 | 317 => 50 | 318 => 52 | 319 => 53 | 320 => 54 | 337 => 55 | 338 => 56 | 347 => 57 | 348 => 58 | 349 => 59 | 350 => 60 | 351 => 61 | 352 => 62 | 353 => 63 | 354 => 64 | 355 => 65 | 356 => 66 | 357 => 67 | 358 => 68 | 359 => 69 | 360 => 70 | 361 => 71 | 362 => 72 | 366 => 73 | 367 => 79 | n => n, fun | 0 => 0 | 1 => 1 | 2 => 2 | 3 => 3 | 4 => 4 | 5 => 5 | 6 => 6 | 7 => 7 | 8 => 8 | 9 => 9 | 10 => 10 | 11 => 11 | 12 => 12 | 13 => 13 | 14 => 14 | 15 => 15 | 16 => 16 | 17 => 17 | 18 => 18 | 19 => 19 | 20 => 20 | 21 => 21 | 37 => 35 | 46 => 87 | 47 => 88 | 51 => 84 | 52 => 89 | 53 => 76 | 54 => 77 | 70 => 46 | 71 => 47 | 72 => 48 | 74 => 60 | 75 => 61 | 76 => 62 | 77 => 63 | 80 => 51 | 81 => 50 | 83 => 64 | 84 => 74 | 104 => 39 | 111 => 86 | 112 => 36 | 114 => 81 | 127 => 65 | 164 => 72 | 165 => 73 | 171 => 75 | 172 => 78 | 173 => 79 | 174 => 80 | 211 => 82 | 212 => 83 | 213 => 85 | 232 => 90 | 233 => 91 | 238 => 92 | 239 => 93 | 240 => 94 | 241 => 95 | 242 => 96 | 243 => 97 | 244 => 98 | 245 => 99 | 246 => 100 | 247 => 101 | 248 => 102 | 249 => 103 | n => n, fun | 17 => 0 | 18 => 1 | 19 => 2 | n => n⟩
theorem Tryd.lays166 : Lays.n166 Tryd.prog Tryd.lays166_ren := {
  mixed := by kernel_rfl,
  f166 := Tryd.func34.trans (congrArg some (by kernel_rfl)),
  f240 := Tryd.func42.trans (congrArg some (by kernel_rfl)),
  f276 := Tryd.func44.trans (congrArg some (by kernel_rfl)),
  t0 := Tryd.underlying0,
  a0 := Tryd.isAgg0,
  z0 := Tryd.sizeOf0,
  v0 := Tryd.zeroValue0,
  t3 := Tryd.underlying3,
  a3 := Tryd.isAgg3,
  z3 := Tryd.sizeOf3,
  v3 := Tryd.zeroValue3,
  t4 := Tryd.underlying4,
  a4 := Tryd.isAgg4,
  z4 := Tryd.sizeOf4,
  v4 := Tryd.zeroValue4,
  t9 := Tryd.underlying9,
  a9 := Tryd.isAgg9,
  z9 := Tryd.sizeOf9,
  v9 := Tryd.zeroValue9,
  t20 := Tryd.underlying20,
  a20 := Tryd.isAgg20,
  z20 := Tryd.sizeOf20,
  v20 := Tryd.zeroValue20,
  t37 := Tryd.underlying35,
  a37 := Tryd.isAgg35,
  z37 := Tryd.sizeOf35,
  v37 := Tryd.zeroValue35,
  t70 := Tryd.underlying46,
  a70 := Tryd.isAgg46,
  z70 := Tryd.sizeOf46,
  v70 := Tryd.zeroValue46,
  t72 := Tryd.underlying48,
  a72 := Tryd.isAgg48,
  z72 := Tryd.sizeOf48,
  v72 := Tryd.zeroValue48,
  t75 := Tryd.underlying61,
  a75 := Tryd.isAgg61,
  z75 := Tryd.sizeOf61,
  v75 := Tryd.zeroValue61,
  t164 := Tryd.underlying72,
  a164 := Tryd.isAgg72,
  z164 := Tryd.sizeOf72,
  v164 := Tryd.zeroValue72 }
def Tryd.lays169_ren : Go.Shelf.Ren := ⟨fun | 0 => 0 | 1 => 1 | 2 => 2 | 129 => 51 | 166 => 34 | 169 => 27 | 170 => 26 | 171 => 35 | 240 => 42 | 243 => 43 | 246 => 45 | 276 => 44 | 283 => 46 | 284 => 47 | 285 => 48 | 286 => 49 | 317 => 50 | 318 => 52 | 319 => 53 | 320 => 54 | 337 => 55 | 338 => 56 | 347 => 57 | 348 => 58 | 349 => 59 | 350 => 60 | 351 => 61 | 352 => 62 | 353 => 63 | 354 => 64 | 355 => 65 | 356 => 66 | 357 => 67 | 358 => 68 | 359 => 69 | 360 => 70 | 361 => 71 | 362 => 72 | 366 => 73 | 367 => 79 | n => n, fun | 0 => 0 | 1 => 1 | 2 => 2 | 3 => 3 | 4 => 4 | 5 => 5 | 6 => 6 | 7 => 7 | 8 => 8 | 9 => 9 | 10 => 10 | 11 => 11 | 12 => 12 | 13 => 13 | 14 => 14 | 15 => 15 | 16 => 16 | 17 => 17 | 18 => 18 | 19 => 19 | 20 => 20 | 21 => 21 | 37 => 35 | 46 => 87 | 47 => 88 | 51 => 84 | 52 => 89 | 53 => 76 | 54 => 77 | 70 => 46 | 71 => 47 | 72 => 48 | 74 => 60 | 75 => 61 | 76 => 62 | 77 => 63 | 80 => 51 | 81 => 50 | 83 => 64 | 84 => 74 | 104 => 39 | 111 => 86 | 112 => 36 | 114 => 81 | 127 => 65 | 164 => 72 | 165 => 73 | 171 => 75 | 172 => 78 | 173 => 79 | 174 => 80 | 211 => 82 | 212 => 83 | 213 => 85 | 232 => 90 | 233 => 91 | 238 => 92 | 239 => 93 | 240 => 94 | 241 => 95 | 242 => 96 | 243 => 97 | 244 => 98 | 245 => 99 | 246 => 100 | 247 => 101 | 248 => 102 | 249 => 103 | n => n, fun | 17 => 0 | 18 => 1 | 19 => 2 | n => n⟩
theorem Tryd.lays169 : Lays.n169 Tryd.prog Tryd.lays169_ren := {
  mixed := by kernel_rfl,
  f169 := Tryd.func27.trans (congrArg some (by kernel_rfl)),
  t0 := Tryd.underlying0,
  a0 := Tryd.isAgg0,
  z0 := Tryd.sizeOf0,
  v0 := Tryd.zeroValue0,
  t3 := Tryd.underlying3,
  a3 := Tryd.isAgg3,
  z3 := Tryd.sizeOf3,
  v3 := Tryd.zeroValue3,
  t9 := Tryd.underlying9,
  a9 := Tryd.isAgg9,
  z9 := Tryd.sizeOf9,
  v9 := Tryd.zeroValue9,
  t37 := Tryd.underlying35,
  a37 := Tryd.isAgg35,
  z37 := Tryd.sizeOf35,
  v37 := Tryd.zeroValue35,
  t70 := Tryd.underlying46,
  a70 := Tryd.isAgg46,
  z70 := Tryd.sizeOf46,
  v70 := Tryd.zeroValue46,
  t72 := Tryd.underlying48,
  a72 := Tryd.isAgg48,
  z72 := Tryd.sizeOf48,
  v72 := Tryd.zeroValue48,
  t127 := Tryd.underlying65,
  a127 := Tryd.isAgg65,
  z127 := Tryd.sizeOf65,
  v127 := Tryd.zeroValue65 }
def Tryd.lays170_ren : Go.Shelf.Ren := ⟨fun | 0 => 0 | 1 => 1 | 2 => 2 | 129 => 51 | 166 => 34 | 169 => 27 | 170 => 26 | 171 => 35 | 240 => 42 | 243 => 43 | 246 => 45 | 276 => 44 | 283 => 46 | 284 => 47 | 285 => 48 | 286 => 49 | 317 => 50 | 318 => 52 | 319 => 53 | 320 => 54 | 337 => 55 | 338 => 56 | 347 => 57 | 348 => 58 | 349 => 59 | 350 => 60 | 351 => 61 | 352 => 62 | 353 => 63 | 354 => 64 | 355 => 65 | 356 => 66 | 357 => 67 | 358 => 68 | 359 => 69 | 360 => 70 | 361 => 71 | 362 => 72 | 366 => 73 | 367 => 79 | n => n, fun | 0 => 0 | 1 => 1 | 2 => 2 | 3 => 3 | 4 => 4 | 5 => 5 | 6 => 6 | 7 => 7 | 8 => 8 | 9 => 9 | 10 => 10 | 11 => 11 | 12 => 12 | 13 => 13 | 14 => 14 | 15 => 15 | 16 => 16 | 17 => 17 | 18 => 18 | 19 => 19 | 20 => 20 | 21 => 21 | 37 => 35 | 46 => 87 | 47 => 88 | 51 => 84 | 52 => 89 | 53 => 76 | 54 => 77 | 70 => 46 | 71 => 47 | 72 => 48 | 74 => 60 | 75 => 61 | 76 => 62 | 77 => 63 | 80 => 51 | 81 => 50 | 83 => 64 | 84 => 74 | 104 => 39 | 111 => 86 | 112 => 36 | 114 => 81 | 127 => 65 | 164 => 72 | 165 => 73 | 171 => 75 | 172 => 78 | 173 => 79 | 174 => 80 | 211 => 82 | 212 => 83 | 213 => 85 | 232 => 90 | 233 => 91 | 238 => 92 | 239 => 93 | 240 => 94 | 241 => 95 | 242 => 96 | 243 => 97 | 244 => 98 | 245 => 99 | 246 => 100 | 247 => 101 | 248 => 102 | 249 => 103 | n => n, fun | 17 => 0 | 18 => 1 | 19 => 2 | n => n⟩
theorem Tryd.lays170 : Lays.n170 Tryd.prog Tryd.lays170_ren := {
  mixed := by kernel_rfl,
  f170 := Tryd.func26.trans (congrArg some (by kernel_rfl)),
  t0 := Tryd.underlying0,
  a0 := Tryd.isAgg0,
  z0 := Tryd.sizeOf0,
  v0 := Tryd.zeroValue0,
  t3 := Tryd.underlying3,
  a3 := Tryd.isAgg3,
  z3 := Tryd.sizeOf3,
  v3 := Tryd.zeroValue3,
  t37 := Tryd.underlying35,
  a37 := Tryd.isAgg35,
  z37 := Tryd.sizeOf35,
  v37 := Tryd.zeroValue35,
  t70 := Tryd.underlying46,
  a70 := Tryd.isAgg46,
  z70 := Tryd.sizeOf46,
  v70 := Tryd.zeroValue46,
  t72 := Tryd.underlying48,
  a72 := Tryd.isAgg48,
  z72 := Tryd.sizeOf48,
  v72 := Tryd.zeroValue48 }
theorem Tryd.Builder_Extra_166 : Builder.Extra Tryd.prog Tryd.lays166_ren := { sizeBuilder := by kernel_rfl, liesBuilder := by kernel_rfl, t5 := Tryd.underlying5, a5 := Tryd.isAgg5, z5 := Tryd.sizeOf5, v5 := Tryd.zeroValue5, infoByte := by kernel_rfl, cellsByte := by kernel_rfl, sizeByte := by kernel_rfl, neB5 := by decide }
theorem Tryd.Builder_Extra_169 : Builder.Extra Tryd.prog Tryd.lays169_ren := { sizeBuilder := by kernel_rfl, liesBuilder := by kernel_rfl, t5 := Tryd.underlying5, a5 := Tryd.isAgg5, z5 := Tryd.sizeOf5, v5 := Tryd.zeroValue5, infoByte := by kernel_rfl, cellsByte := by kernel_rfl, sizeByte := by kernel_rfl, neB5 := by decide }
end Go.Proofs
namespace Go.Proofs.YtcdfedbecgfanaaDoor.Giv
open Go.RowKit Go.Lib Go.Sort Go.Proofs.YtcdfedbecgfanaaDoorW.PrintWords Go.Proofs.YtcdfedbecgfanaaDoorW.PrintLast Go.Proofs.YtcdfedbecgfanaaDoorW.PrintMore
set_option linter.unusedVariables false
set_option linter.unusedSimpArgs false
def LaidW (w : World) : Prop := Lib.TabIs Tryd.prog w "internal/strconv.uint64pow10" .u64 Lib.pow10Tab
theorem tabIs_below {n : String} {g : Nat} {k : IntKind} {zs : List Int} {w w' : World} (hg : Tryd.prog.globalNamed n = some g) (h : Lib.TabIs Tryd.prog w n k zs) (hb : Below w.heap.size w w') : Lib.TabIs Tryd.prog w' n k zs := by
  unfold Lib.TabIs World.var? at h ⊢
  rw [hg] at h ⊢
  simp only [Option.bind_some] at h ⊢
  have hlt : g < w.heap.size := by
    rcases Nat.lt_or_ge g w.heap.size with h' | h'
    · exact h'
    · rw [Array.getElem?_eq_none h'] at h; cases h
  rw [hb.block g hlt]
  exact h
theorem pow10_named : Tryd.prog.globalNamed "internal/strconv.uint64pow10" = some 0 := by kernel_rfl
theorem LaidW.below {w w' : World} (h : LaidW w) (hb : Below w.heap.size w w') : LaidW w' := tabIs_below pow10_named h hb
theorem below_grow (w : World) (n : Nat) (os : Array Obj) : Below w.heap.size w (grow (w.drewN n) os) :=
  ⟨rfl, rfl, rfl, by simp [grow], fun b hb => by
    show (w.heap ++ os)[b]? = _
    rw [Array.getElem?_append_left hb]⟩
theorem itoa_calls (n : Int) (w : World) (h0 : -9223372036854775808 ≤ n) (h1 : n ≤ 9223372036854775807) (hL : LaidW w) :
    Calls Tryd.prog 35 #[.int .i64 n] w fun e w' => e = .returned (.string ⟨(Lib.itoa n).toArray⟩) ∧ Below w.heap.size w w' := by
  have c : Calls Tryd.prog 35 #[.int .i64 n] w _ := Any.strconv_Itoa Tryd.LaysM_n171 n h0 h1 w hL
  refine c.mono ?_
  rintro e w' ⟨he, k, os, rfl⟩
  exact ⟨he, below_grow w k os⟩
def Bd (B b : Nat) (l : List UInt8) (w : World) : Prop := B ≤ w.heap.size ∧ Lib.IsBuilderF 48 5 B b (Lib.byteCells l) w
theorem Bd.lt {B b : Nat} {l : List UInt8} {w : World} (h : Bd B b l w) : b < w.heap.size := h.2.elim (fun x => x.lt) (fun x => x.lt)
theorem builderAtF_below {T e B b : Nat} {p : Value} {bs : List Value} {w w' : World} (h : Lib.BuilderAtF T e B b p bs w) (hb : Below w.heap.size w w') : Lib.BuilderAtF T e B b p bs w' := by
  have hlt := h.lt
  obtain ⟨hB, v, hc, hown, hne⟩ := h
  exact ⟨hB, v, (hb.block b hlt).trans hc, hown.kept (row := none) (grown_of_below hb none) (by cases v.ownBlock <;> simp), hne⟩
theorem Bd.below {B b : Nat} {l : List UInt8} {w w' : World} (h : Bd B b l w) (hb : Below w.heap.size w w') : Bd B b l w' :=
  ⟨Nat.le_trans h.1 hb.size, h.2.elim (fun x => .inl (builderAtF_below x hb)) (fun x => .inr (builderAtF_below x hb))⟩
theorem byteCells_length (l : List UInt8) : (Lib.byteCells l).length = l.length := by simp [Lib.byteCells]
theorem byteCells_app (l : List UInt8) (s : ByteArray) : Lib.byteCells l ++ Lib.strCells s = Lib.byteCells (l ++ s.data.toList) := by simp [Lib.byteCells, Lib.strCells]
theorem len_calls {B b : Nat} {l : List UInt8} {w : World} (h : Bd B b l w) :
    Calls Tryd.prog 26 #[.pointer (some ⟨b, 0, none⟩)] w fun e w' => e = .returned (.int .i64 (l.length : Int)) ∧ w = w' := by
  have c : Calls Tryd.prog 26 #[.pointer (some ⟨b, 0, none⟩)] w _ := Any.Builder_Len_f Tryd.lays170 B b _ w h.2
  refine c.mono ?_
  rintro e w' ⟨rfl, rfl⟩
  exact ⟨by rw [byteCells_length], rfl⟩
theorem ws_calls {B b : Nat} {l : List UInt8} {w : World} (s : ByteArray) (h : Bd B b l w) (hl : l.length + s.size ≤ 140737488355328) :
    Calls Tryd.prog 34 #[.pointer (some ⟨b, 0, none⟩), .string s] w fun e w' => e = .returned (.tuple #[.int .i64 s.size, .nilIface]) ∧ Bd B b (l ++ s.data.toList) w' ∧ Below B w w' ∧ Lib.OthersKept 5 (some b) w w' := by
  have c : Calls Tryd.prog 34 #[.pointer (some ⟨b, 0, none⟩), .string s] w _ := Any.Builder_WriteString_k Tryd.lays166 Tryd.Builder_Extra_166 B b _ s w h.2 (by rw [byteCells_length]; exact hl) h.1
  refine c.mono ?_
  rintro e w' ⟨rfl, h1, h2, h3⟩
  rw [byteCells_app] at h1
  exact ⟨rfl, ⟨Nat.le_trans h.1 h2.size, .inr h1⟩, h2, h3⟩
theorem kept_cell {w w1 w2 : World} {cs : Array Value} {b k j : Nat} {u : Value} (hb : Below w.heap.size w w1) (ho : Lib.OthersKept 5 (some b) w1 w2) (hbk : w.heap[k]? = some (.cells cs 24 (0, 0))) (hne : k ≠ b) (hc : w.cell? ⟨k, j, none⟩ = some u) : w2.cell? ⟨k, j, none⟩ = some u := by
  have hlt : k < w.heap.size := (Array.getElem?_eq_some_iff.1 hbk).1
  have h2 := ho k _ ((hb.block k hlt).trans hbk) (fun e => hne (Option.some.inj e)) (fun c fz e => by injection e with _ e2 _; exact absurd e2 (by decide))
  unfold World.cell? at hc ⊢
  simp only [hbk, h2] at hc ⊢
  exact hc
theorem okVs_take {L : List V} (h : okVs L = true) : ∀ i, okVs (L.take i) = true := by
  induction L with
  | nil => intro i; rw [List.take_nil]; exact okVs_nil
  | cons x xs ih =>
    intro i
    rw [okVs_cons] at h
    cases i with
    | zero => rw [List.take_zero]; exact okVs_nil
    | succ i => rw [List.take_succ_cons, okVs_cons]; exact ⟨h.1, ih h.2 i⟩
theorem wts_take : ∀ (L : List V) (i : Nat) (h : i < L.length), wts (L.take i) + wt L[i] ≤ wts L
  | x :: xs, 0, h => by rw [List.take_zero, wts_nil, wts_cons]; simp
  | x :: xs, i + 1, h => by
    rw [List.take_succ_cons, wts_cons, wts_cons]
    have := wts_take xs i (by simpa using h)
    simp
    omega
theorem data_app (a b : ByteArray) : (a ++ b).data.toList = a.data.toList ++ b.data.toList := by
  rw [ByteArray.data_append, Array.toList_append]
theorem str_calls {B b : Nat} {l : List UInt8} {w : World} (h : Bd B b l w) :
    Calls Tryd.prog 27 #[.pointer (some ⟨b, 0, none⟩)] w fun e w' => e = .returned (.string ⟨l.toArray⟩) ∧ Below B w w' := by
  have c : Calls Tryd.prog 27 #[.pointer (some ⟨b, 0, none⟩)] w _ := Any.Builder_String_any_k Tryd.lays169 Tryd.Builder_Extra_169 B b l w h.2 h.1
  refine c.mono ?_
  rintro e w' ⟨rfl, -, h2, -⟩
  exact ⟨rfl, h2⟩
set_option maxHeartbeats 4000000 in
set_option maxRecDepth 100000 in
theorem put_calls (n : Nat) : ∀ (v : V) (A : Option Addr) (c : Nat) (l : List UInt8) (w0 w : World) (B b : Nat), wt v ≤ n → okV v = true → l.length + wt v ≤ 140737488355328 → LaidW w0 → Kd.C P.k24 w0 A v.f3.length v.f3 → v.f3.length ≤ c → w0.heap.size ≤ B → Below w0.heap.size w0 w → Bd B b l w →
    Calls Tryd.prog 25 #[.pointer (some ⟨b, 0, none⟩), .agg #[.int .i64 v.f0, .int .i64 v.f1, .string v.f2, .slice A v.f3.length c]] w fun e w' => e = .returned (.tuple #[]) ∧ Bd B b (putc l v) w' ∧ Below B w w' := by
  induction n with
  | zero => intro v A c l w0 w B b h; have := wt_eq v; omega
  | succ n ih =>
    intro v A c l w0 w B b hwt hok hlen hL hC hc hB0 hbel hBd
    have hbx : Bd B b l (w.alloc (.cells #[.int .i64 v.f0, .int .i64 v.f1, .string v.f2, .slice A v.f3.length c] 24)) := hBd.below ((Below.refl _ _).alloc (Nat.le_refl _) _)
    by_cases c0 : 65536 < l.length
    · have hc0 : decide ((65536 : Int) < (l.length : Int)) = true := decide_eq_true (by omega)
      have HX := Aside0.mk hbx
      have HR := Aside0.mk (show putc l v = l by rw [putc_eq, if_pos c0])
      clear hbx hC hL
      go_enter Tryd.func25, Tryd.ntmps25
      go_wp2_with fail
      refine (len_calls HX.out).mono ?_
      rintro e w1 ⟨rfl, rfl⟩
      go_wp2
      go_returns
      exact ⟨rfl, by rw [HR.out]; exact HX.out, (Below.refl _ _).alloc hBd.1 _⟩
    · have hc0 : decide ((65536 : Int) < (l.length : Int)) = false := decide_eq_false (by omega)
      have hokv := (okV_iff v).1 hok
      have HX := Aside0.mk hbx
      have HL := Aside0.mk (LaidW.below hL (below_alloc hbel (.cells #[.int .i64 v.f0, .int .i64 v.f1, .string v.f2, .slice A v.f3.length c] 24)))
      clear hbx
      by_cases c1 : v.f0 = 1
      · have hc1 : (v.f0 == 1) = true := beq_iff_eq.2 c1
        have HR := Aside0.mk (show putc l v = l ++ (105 :: (itoa v.f1 ++ [101])) by rw [putc_eq, if_neg c0, if_pos c1])
        obtain ⟨h1, h2, -⟩ := hokv
        have hil := itoa_len h1 h2
        have HI := fun w' h => itoa_calls v.f1 w' h1 h2 h
        have hsz := wt_eq v
        generalize hit : itoa v.f1 = il at *
        have hts : (ByteArray.mk il.toArray).size = il.length := by simp [ByteArray.size]
        generalize htt : ByteArray.mk il.toArray = t at *
        have hti : t.size ≤ 20 := by omega
        have htt' := Aside0.mk htt
        have HI' := Aside0.mk HI
        clear htt hit c1 HI hts
        go_enter Tryd.func25, Tryd.ntmps25
        go_wp2_with fail
        refine (len_calls HX.out).mono ?_
        rintro e w1 ⟨rfl, rfl⟩
        go_wp2_with fail
        refine (HI'.out _ HL.out).mono ?_
        rintro e w1 ⟨rfl, hb1⟩
        have HX1 := Aside0.mk (HX.out.below hb1)
        have HB1 := Aside0.mk hb1
        clear hb1
        go_wp2_with fail
        refine (ws_calls _ HX1.out (by rw [ByteArray.size_append, ByteArray.size_append]; show l.length + (1 + t.size + 1) ≤ _; omega)).mono ?_
        rintro e w2 ⟨rfl, hX2, hb2, -⟩
        have HX2 := Aside0.mk hX2
        have HB2 := Aside0.mk hb2
        clear hb2 hX2
        go_wp2
        go_returns
        refine ⟨rfl, ?_, (((Below.refl _ _).alloc hBd.1 _).trans (HB1.out.mono (by simp; have := hBd.1; omega))).trans HB2.out⟩
        rw [HR.out]
        have := HX2.out
        rw [data_app, data_app, ← htt'.out] at this
        simpa using this
      · have hc1 : (v.f0 == 1) = false := beq_eq_false_iff_ne.2 c1
        by_cases c2 : v.f0 = 2
        · have hc2 : (v.f0 == 2) = true := beq_iff_eq.2 c2
          have HR := Aside0.mk (show putc l v = l ++ (itoa (v.f2.size : Int) ++ (58 :: v.f2.data.toList)) by rw [putc_eq, if_neg c0, if_neg c1, if_pos c2])
          have hsz := wt_eq v
          have hdd := dd_any v.f2.size
          have hfz : (v.f2.size : Int) ≤ 140737488355328 := by omega
          have hie : itoa (v.f2.size : Int) = decDigits v.f2.size := by unfold itoa; rw [if_neg (by omega), Int.toNat_natCast]
          have HI := fun w' h => itoa_calls (v.f2.size : Int) w' (by omega) (by omega) h
          rw [hie] at HI HR
          generalize decDigits v.f2.size = il at *
          have hts : (ByteArray.mk il.toArray).size = il.length := by simp [ByteArray.size]
          generalize htt : ByteArray.mk il.toArray = t at *
          have hti : 2 * t.size ≤ v.f2.size + 29 := by omega
          have htt' := Aside0.mk htt
          have HI' := Aside0.mk HI
          have hcell : (w.alloc (.cells #[.int .i64 v.f0, .int .i64 v.f1, .string v.f2, .slice A v.f3.length c] 24)).cell? ⟨w.heap.size, 2, none⟩ = some (.string v.f2) := by
            have h9 : (w.alloc (.cells #[.int .i64 v.f0, .int .i64 v.f1, .string v.f2, .slice A v.f3.length c] 24)).heap[w.heap.size]? = some _ := heap_alloc_new w _
            simp only [World.cell?, h9]
            rfl
          have s1 : t.size + 1 ≤ 9223372036854775807 := by omega
          have s2 : (t ++ (⟨#[58]⟩ : ByteArray)).size + v.f2.size ≤ 9223372036854775807 := by rw [ByteArray.size_append]; show t.size + 1 + v.f2.size ≤ _; omega
          have s3 : t.size + 1 + v.f2.size ≤ 9223372036854775807 := by omega
          have s4 := eq_false (Nat.not_lt.2 s1)
          have s5 := eq_false (Nat.not_lt.2 s2)
          have s6 := eq_false (Nat.not_lt.2 s3)
          have hneb := Nat.ne_of_gt hBd.lt
          clear htt hie c1 c2 HI hts hokv
          go_enter Tryd.func25, Tryd.ntmps25
          go_wp2_with fail
          refine (len_calls HX.out).mono ?_
          rintro e w1 ⟨rfl, rfl⟩
          go_wp2_with fail
          go_region_held3 (fun w' => w'.cell? ⟨w.heap.size, 2, none⟩ = some (.string v.f2)) (first | exact hcell | exact kept_cell hb1 ho2 (heap_alloc_new w _) hneb hcell | exact pw_cell_below hb1 hcell) (first | (go_at_call 35; refine (HI'.out _ (LaidW.below HL.out (below_drew (Below.refl _ _)))).mono ?_; rintro e w1 ⟨rfl, hb1⟩) | (go_at_call 34; refine (ws_calls _ (HX.out.below ((below_drew (Below.refl _ _)).trans hb1)) (by rw [ByteArray.size_append, ByteArray.size_append]; show l.length + (t.size + 1 + v.f2.size) ≤ _; omega)).mono ?_; rintro e w2 ⟨rfl, hX2, hb2, ho2⟩))
          have HX2 := Aside0.mk hX2
          have HB2 := Aside0.mk ((((Below.refl _ _).alloc hBd.1 _).trans (((below_drew (Below.refl _ _)).trans hb1).mono (by simp; have := hBd.1; omega))).trans hb2)
          clear hX2 hb2 hb1 ho2
          go_wp2
          go_returns
          refine ⟨rfl, ?_, HB2.out⟩
          rw [HR.out]
          have := HX2.out
          rw [data_app, data_app, ← htt'.out] at this
          simpa using this
        · have hc2 : (v.f0 == 2) = false := beq_eq_false_iff_ne.2 c2
          have HR := Aside0.mk (show putc l v = putcs (l ++ [108]) v.f3 ++ [101] by rw [putc_eq, if_neg c0, if_neg c1, if_neg c2])
          have hok3 := Aside0.mk hokv.2.2
          have hsz := wt_eq v
          have hcell : (w.alloc (.cells #[.int .i64 v.f0, .int .i64 v.f1, .string v.f2, .slice A v.f3.length c] 24)).cell? ⟨w.heap.size, 3, none⟩ = some (.slice A v.f3.length c) := by
            have h9 : (w.alloc (.cells #[.int .i64 v.f0, .int .i64 v.f1, .string v.f2, .slice A v.f3.length c] 24)).heap[w.heap.size]? = some _ := heap_alloc_new w _
            simp only [World.cell?, h9]
            rfl
          have hneb := Nat.ne_of_gt hBd.lt
          have HC := Aside0.mk hC
          have HBel := Aside0.mk hbel
          have HBd := Aside0.mk hBd
          have hBw := hBd.1
          have HL0 := Aside0.mk hL
          have hL30 := wts_len v.f3
          clear hC hbel hBd hL c1 c2 hokv
          go_enter Tryd.func25, Tryd.ntmps25
          go_wp2_with fail
          refine (len_calls HX.out).mono ?_
          rintro e w1 ⟨rfl, rfl⟩
          go_wp2_with fail
          refine (ws_calls _ HX.out (by show l.length + 1 ≤ _; omega)).mono ?_
          rintro e w1 ⟨rfl, hX1, hb1, ho1⟩
          have hcell1 := kept_cell (Below.refl _ _) ho1 (heap_alloc_new w _) hneb hcell
          have HX1 := Aside0.mk (show Bd B b (l ++ [108]) w1 from hX1)
          have HB1 := Aside0.mk (((Below.refl B w).alloc hBw _).trans hb1)
          clear hX1 hb1 ho1 hcell HX HL
          go_wp2_with fail
          go_loopw [16] (fun v16 wr => ∃ i : Nat, i ≤ v.f3.length ∧ v16 = .int .i64 i ∧ Aside0 (Bd B b (putcs (l ++ [108]) (v.f3.take i)) wr) ∧ Aside0 (Below B w wr)) (fun v16 _ => v.f3.length - (RowKit.intOf v16).toNat)
          case atStart => exact ⟨0, Nat.zero_le _, rfl, ⟨by rw [List.take_zero, putcs_nil]; exact HX1.out⟩, HB1⟩
          case round =>
            obtain ⟨i, hi, rfl, HXr, HBr⟩ := hrel
            clear HX1 HB1
            by_cases hlt : i < v.f3.length
            · have HW := Aside0.mk (HBel.out.trans (HBr.out.mono hB0))
              obtain ⟨ad, A3, c3, e3, hx0, hx1, hx2, hx3, hl3, hi3⟩ := P.at_T24 HC.out (i : Int) (by omega) (by omega)
              have hge : P.rd_T24 v.f3 (i : Int) = v.f3[i] := by unfold P.rd_T24; rw [Int.toNat_natCast, List.getD_eq_getElem?_getD, List.getElem?_eq_getElem hlt, Option.getD_some]
              have hmem : v.f3[i] ∈ v.f3 := List.getElem_mem hlt
              have hwm := wt_mem hmem
              have HOM := Aside0.mk (okV_mem hmem hok3.out)
              have hnext := Aside0.mk (show putcs (l ++ [108]) (v.f3.take (i + 1)) = putc (putcs (l ++ [108]) (v.f3.take i)) v.f3[i] by rw [List.take_succ_eq_append_getElem hlt, putcs_snoc])
              have hok9 : okVs (v.f3.take i) = true := okVs_take hok3.out i
              have hwt9 := wts_take v.f3 i hlt
              have hle9 := putcs_le (v.f3.take i) (l ++ [108]) hok9
              rw [List.length_append] at hle9
              rw [hge] at hx0 hx1 hx2 hx3 hl3 hi3
              rw [Int.toNat_natCast] at hx0 hx1 hx2 hx3
              replace hx0 := pw_cell_below HW.out hx0
              replace hx1 := pw_cell_below HW.out hx1
              replace hx2 := pw_cell_below HW.out hx2
              replace hx3 := pw_cell_below HW.out hx3
              generalize v.f3[i] = x at *
              generalize putcs (l ++ [108]) (v.f3.take i) = lr at *
              have HI3 := Aside0.mk hi3
              have HL3 := Aside0.mk hl3
              have hi1 : (i : Int) < (v.f3.length : Int) := by omega
              cases e3
              clear hi3 hl3 hmem hge hok9
              have hBs := HBr.out.size
              go_wp2_with (first | ((with_reducible refine gate_dst (N := 5) rfl ?_); refine box_event ?hg (N := 5) ?hd (cs := #[.int .i64 0, .int .i64 0, .string (⟨#[]⟩ : ByteArray), .slice none 0 0]) (t := 24) ?hr ?_; (case hd => rfl); (case hg => rfl); (case hr => first | (go_simp; done) | (go_simp; rfl)); intro gb hg w17 hbox hb; have BK := Aside0.mk hbox; have HB17 := Aside0.mk hb; have hgb : wr.heap.size ≤ gb := (by rw [hg]; exact Nat.le_refl _); clear hb hbox hg; have hcz0 : w17.cell? ⟨gb, 0, none⟩ = some (.int .i64 0) := (blk_cell BK.out 0).trans rfl; have hcz1 : w17.cell? ⟨gb, 1, none⟩ = some (.int .i64 0) := (blk_cell BK.out 1).trans rfl; have hcz2 : w17.cell? ⟨gb, 2, none⟩ = some (.string (⟨#[]⟩ : ByteArray)) := (blk_cell BK.out 2).trans rfl; have hcz3 : w17.cell? ⟨gb, 3, none⟩ = some (.slice none 0 0) := (blk_cell BK.out 3).trans rfl; have hfz0 := blk_frozen BK.out 0; have hfz1 := blk_frozen BK.out 1; have hfz2 := blk_frozen BK.out 2; have hfz3 := blk_frozen BK.out 3))
              have HBS := Aside0.mk ((((HB17.out.setCell (p := ⟨gb, 0, none⟩) hgb (.int .i64 x.f0)).setCell (p := ⟨gb, 1, none⟩) hgb (.int .i64 x.f1)).setCell (p := ⟨gb, 2, none⟩) hgb (.string x.f2)).setCell (p := ⟨gb, 3, none⟩) hgb (.slice A3 x.f3.length c3))
              refine (ih x A3 c3 lr w0 _ B b (by omega) HOM.out (by simp only [List.length_cons, List.length_nil] at hle9; omega) HL0.out HI3.out HL3.out hB0 ((HBel.out.trans (HBr.out.mono hB0)).trans (HBS.out.mono (HW.out.size))) (HXr.out.below HBS.out)).mono ?_
              rintro e w2 ⟨rfl, hX2, hb2⟩
              have HX2 := Aside0.mk hX2
              have HB2 := Aside0.mk ((HBr.out.trans (HBS.out.mono (by omega))).trans hb2)
              clear hX2 hb2
              go_wp2
              go_roundw
              case rel => exact ⟨i + 1, by omega, by go_num, by rw [hnext.out]; exact HX2, HB2⟩
              case measure => simp [RowKit.intOf]; omega
            · obtain rfl : i = v.f3.length := by omega
              have hle9 := putcs_le v.f3 (l ++ [108]) hok3.out
              rw [List.length_append] at hle9
              rw [List.take_length] at HXr
              generalize putcs (l ++ [108]) v.f3 = lr at *
              have hle8 : lr.length ≤ l.length + 1 + wts v.f3 := hle9
              clear hle9
              go_wp2_with fail
              refine (ws_calls _ HXr.out (by show lr.length + 1 ≤ _; omega)).mono ?_
              rintro e w2 ⟨rfl, hX2, hb2, -⟩
              have HX2 := Aside0.mk hX2
              have HB2 := Aside0.mk (HBr.out.trans hb2)
              clear hX2 hb2
              go_wp2
              go_returns
              refine ⟨rfl, ?_, HB2.out⟩
              rw [HR.out]
              exact HX2.out
end Go.Proofs.YtcdfedbecgfanaaDoor.Giv
namespace Go.Proofs.YtcdfedbecgfanaaDoor.Giv
open Go.RowKit Go.Lib
set_option linter.unusedVariables false
set_option linter.unusedSimpArgs false
mutual
def chk : V → Nat → Int
  | ⟨k, _, _, L⟩, w => if k = 1 then 0 else if k = 2 then 0 else if k = 3 then chks (if 8 ≤ w then 22 else 0) w L else 1
def chks : Int → Nat → List V → Int
  | o, _, [] => o
  | o, w, x :: xs => if chk x (w + 1) = 1 then 1 else if chk x (w + 1) = 22 then chks 22 w xs else chks o w xs
end
mutual
def kin : V → Bool
  | ⟨k, _, _, L⟩ => if k = 1 then true else if k = 2 then true else if k = 3 then kins L else false
def kins : List V → Bool
  | [] => true
  | x :: xs => kin x && kins xs
end
mutual
def dep : V → Nat
  | ⟨k, _, _, L⟩ => if k = 3 then deps L + 1 else 0
def deps : List V → Nat
  | [] => 0
  | x :: xs => max (dep x) (deps xs)
end
theorem chk_eq (v : V) (w : Nat) : chk v w = if v.f0 = 1 then 0 else if v.f0 = 2 then 0 else if v.f0 = 3 then chks (if 8 ≤ w then 22 else 0) w v.f3 else 1 := by obtain ⟨k, n, s, L⟩ := v; rw [chk]
theorem chks_nil (o : Int) (w : Nat) : chks o w [] = o := by rw [chks]
theorem chks_cons (o : Int) (w : Nat) (x : V) (xs : List V) : chks o w (x :: xs) = if chk x (w + 1) = 1 then 1 else if chk x (w + 1) = 22 then chks 22 w xs else chks o w xs := by rw [chks]
theorem kin_eq (v : V) : kin v = if v.f0 = 1 then true else if v.f0 = 2 then true else if v.f0 = 3 then kins v.f3 else false := by obtain ⟨k, n, s, L⟩ := v; rw [kin]
theorem kins_nil : kins [] = true := by rw [kins]
theorem kins_cons (x : V) (xs : List V) : kins (x :: xs) = (kin x && kins xs) := by rw [kins]
theorem dep_eq (v : V) : dep v = if v.f0 = 3 then deps v.f3 + 1 else 0 := by obtain ⟨k, n, s, L⟩ := v; rw [dep]
theorem deps_nil : deps [] = 0 := by rw [deps]
theorem deps_cons (x : V) (xs : List V) : deps (x :: xs) = max (dep x) (deps xs) := by rw [deps]
mutual
theorem chk_spec : ∀ (v : V) (w : Nat), chk v w = if kin v = true then (if 8 < dep v + w ∧ dep v ≠ 0 then 22 else 0) else 1
  | ⟨k, n, s, L⟩, w => by
    rw [chk, kin, dep]
    by_cases c1 : k = 1
    · subst c1; simp
    · by_cases c2 : k = 2
      · subst c2; simp
      · by_cases c3 : k = 3
        · rw [if_neg c1, if_neg c2, if_pos c3, if_neg c1, if_neg c2, if_pos c3, if_pos c3, chks_spec L]
          by_cases hk : kins L = true
          · rw [if_pos hk, if_pos hk]
            by_cases h8 : 8 ≤ w
            · rw [if_pos h8, if_pos (show 8 < deps L + 1 + w ∧ deps L + 1 ≠ 0 by omega)]
              split <;> rfl
            · rw [if_neg h8]
              by_cases hd : 8 < deps L + 1 + w ∧ deps L ≠ 0
              · rw [if_pos (show 8 < deps L + (w + 1) ∧ deps L ≠ 0 by omega), if_pos (show 8 < deps L + 1 + w ∧ deps L + 1 ≠ 0 by omega)]
              · rw [if_neg (show ¬(8 < deps L + (w + 1) ∧ deps L ≠ 0) by omega), if_neg (show ¬(8 < deps L + 1 + w ∧ deps L + 1 ≠ 0) by omega)]
          · rw [if_neg hk, if_neg hk]
        · rw [if_neg c1, if_neg c2, if_neg c3, if_neg c1, if_neg c2, if_neg c3]; simp
theorem chks_spec : ∀ (L : List V) (o : Int) (w : Nat), chks o w L = if kins L = true then (if 8 < deps L + (w + 1) ∧ deps L ≠ 0 then 22 else o) else 1
  | [], o, w => by rw [chks, kins, deps]; simp
  | x :: xs, o, w => by
    rw [chks, kins, deps, chk_spec x, chks_spec xs, chks_spec xs]
    by_cases h1 : kin x = true
    · rw [if_pos h1, h1, Bool.true_and]
      by_cases h2 : 8 < dep x + (w + 1) ∧ dep x ≠ 0
      · rw [if_pos h2, if_neg (by decide), if_pos rfl]
        by_cases h3 : kins xs = true
        · rw [if_pos h3, if_pos h3, if_pos (show 8 < max (dep x) (deps xs) + (w + 1) ∧ max (dep x) (deps xs) ≠ 0 by omega)]
          split <;> rfl
        · rw [if_neg h3, if_neg h3]
      · rw [if_neg h2, if_neg (by decide), if_neg (by decide)]
        by_cases h3 : kins xs = true
        · rw [if_pos h3, if_pos h3]
          by_cases h4 : 8 < deps xs + (w + 1) ∧ deps xs ≠ 0
          · rw [if_pos h4, if_pos (show 8 < max (dep x) (deps xs) + (w + 1) ∧ max (dep x) (deps xs) ≠ 0 by omega)]
          · rw [if_neg h4, if_neg (show ¬(8 < max (dep x) (deps xs) + (w + 1) ∧ max (dep x) (deps xs) ≠ 0) by omega)]
        · rw [if_neg h3, if_neg h3]
    · rw [if_neg h1, if_pos rfl, if_neg (by simp [h1])]
end
theorem chk_top (v : V) : chk v 0 = if kin v = true then (if 8 < dep v then 22 else 0) else 1 := by
  rw [chk_spec]
  by_cases h : 8 < dep v
  · rw [if_pos (show 8 < dep v + 0 ∧ dep v ≠ 0 by omega), if_pos h]
  · rw [if_neg (show ¬(8 < dep v + 0 ∧ dep v ≠ 0) by omega), if_neg h]
def putM (v : V) : ByteArray × Int := if chk v 0 = 0 then (if (enc v).length ≤ 65536 then (⟨(enc v).toArray⟩, 0) else (⟨#[]⟩, 23)) else (⟨#[]⟩, chk v 0)
def numL (neg : Bool) : Bool → Bool → Int → List UInt8 → Int × Int × Nat
  | _, _, _, [] => (21, 0, 0)
  | z, st, n, c :: t =>
    if c = 101 ∧ st = true then (0, n, 1)
    else if c < 48 ∨ 57 < c ∨ (st = true ∧ z = true) ∨ (st = false ∧ c = 48 ∧ neg = true) then (20, 0, 0)
    else if neg = true then (if 10 * n - ((c.toNat : Int) - 48) < -9223372036854775808 then (20, 0, 0) else let r := numL neg (if st then z else c == 48) true (10 * n - ((c.toNat : Int) - 48)) t; (r.1, r.2.1, r.2.2 + 1))
    else (if 9223372036854775807 < 10 * n + ((c.toNat : Int) - 48) then (20, 0, 0) else let r := numL neg (if st then z else c == 48) true (10 * n + ((c.toNat : Int) - 48)) t; (r.1, r.2.1, r.2.2 + 1))
def lenL : Bool → Bool → Nat → List UInt8 → Int × Nat × Nat
  | _, _, _, [] => (21, 0, 0)
  | z, st, n, c :: t =>
    if c = 58 ∧ st = true then (0, n, 1)
    else if c < 48 ∨ 57 < c ∨ (st = true ∧ z = true) then (20, 0, 0)
    else if 65536 < 10 * n + (c.toNat - 48) then (23, 0, 0)
    else let r := lenL (if st then z else c == 48) true (10 * n + (c.toNat - 48)) t; (r.1, r.2.1, r.2.2 + 1)
def listL (f : List UInt8 → Int × V × Nat) : Nat → List UInt8 → Int × List V × Nat
  | _, [] => (21, [], 0)
  | 0, _ => (21, [], 0)
  | k + 1, c :: t => if c = 101 then (0, [], 1) else if (f (c :: t)).1 = 0 then (if (listL f k ((c :: t).drop (f (c :: t)).2.2)).1 = 0 then (0, (f (c :: t)).2.1 :: (listL f k ((c :: t).drop (f (c :: t)).2.2)).2.1, (f (c :: t)).2.2 + (listL f k ((c :: t).drop (f (c :: t)).2.2)).2.2) else ((listL f k ((c :: t).drop (f (c :: t)).2.2)).1, [], 0)) else ((f (c :: t)).1, [], 0)
def intL (t : List UInt8) : Int × Int × Nat := if t.head? = some 45 then ((numL true false false 0 t.tail).1, (numL true false false 0 t.tail).2.1, (numL true false false 0 t.tail).2.2 + 1) else numL false false false 0 t
def valL : Nat → List UInt8 → Int × V × Nat
  | _, [] => (21, zV, 0)
  | d, c :: t =>
    if c = 105 then (if (intL t).1 = 0 then (0, intV (intL t).2.1, (intL t).2.2 + 1) else ((intL t).1, zV, 0))
    else if 48 ≤ c ∧ c ≤ 57 then
      (if (lenL false false 0 (c :: t)).1 = 0 then
        (if (c :: t).length < (lenL false false 0 (c :: t)).2.2 + (lenL false false 0 (c :: t)).2.1 then (21, zV, 0)
         else (0, strV ⟨(((c :: t).drop (lenL false false 0 (c :: t)).2.2).take (lenL false false 0 (c :: t)).2.1).toArray⟩, (lenL false false 0 (c :: t)).2.2 + (lenL false false 0 (c :: t)).2.1))
       else ((lenL false false 0 (c :: t)).1, zV, 0))
    else if c ≠ 108 then (20, zV, 0)
    else match d with
      | 0 => (22, zV, 0)
      | d + 1 => if (listL (valL d) t.length t).1 = 0 then (0, lisV (listL (valL d) t.length t).2.1, (listL (valL d) t.length t).2.2 + 1) else ((listL (valL d) t.length t).1, zV, 0)
def takeM (s : ByteArray) : V × Int × Int := if (valL 8 s.data.toList).1 = 0 then (if (valL 8 s.data.toList).2.2 ≤ 65536 then ((valL 8 s.data.toList).2.1, ((valL 8 s.data.toList).2.2 : Int), 0) else (zV, 0, 23)) else (zV, 0, (valL 8 s.data.toList).1)
theorem numL_used (neg : Bool) : ∀ (l : List UInt8) (z st : Bool) (n : Int), (numL neg z st n l).1 = 0 → 1 ≤ (numL neg z st n l).2.2 ∧ (numL neg z st n l).2.2 ≤ l.length ∧ (st = false → 2 ≤ (numL neg z st n l).2.2)
  | [], z, st, n, h => by rw [numL] at h; cases h
  | c :: t, z, st, n, h => by
    rw [numL] at h ⊢
    split at h
    · rename_i h1
      rw [if_pos h1]
      exact ⟨Nat.le_refl _, by simp, fun e => by rw [e] at h1; simp at h1⟩
    · rename_i h1
      rw [if_neg h1]
      split at h
      · cases h
      · rename_i h2
        rw [if_neg h2]
        split at h
        · rename_i h3
          rw [if_pos h3]
          split at h
          · cases h
          · rename_i h4
            rw [if_neg h4]
            have := numL_used neg t _ true _ h
            simp only [List.length_cons]
            omega
        · rename_i h3
          rw [if_neg h3]
          split at h
          · cases h
          · rename_i h4
            rw [if_neg h4]
            have := numL_used neg t _ true _ h
            simp only [List.length_cons]
            omega
theorem lenL_used : ∀ (l : List UInt8) (z st : Bool) (n : Nat), (lenL z st n l).1 = 0 → 1 ≤ (lenL z st n l).2.2 ∧ (lenL z st n l).2.2 ≤ l.length ∧ (st = false → 2 ≤ (lenL z st n l).2.2) ∧ (n ≤ 65536 → (lenL z st n l).2.1 ≤ 65536)
  | [], z, st, n, h => by rw [lenL] at h; cases h
  | c :: t, z, st, n, h => by
    rw [lenL] at h ⊢
    split at h
    · rename_i h1
      rw [if_pos h1]
      exact ⟨Nat.le_refl _, by simp, fun e => by rw [e] at h1; simp at h1, fun h => h⟩
    · rename_i h1
      rw [if_neg h1]
      split at h
      · cases h
      · rename_i h2
        rw [if_neg h2]
        split at h
        · cases h
        · rename_i h3
          rw [if_neg h3]
          obtain ⟨a1, a2, a3, a4⟩ := lenL_used t _ true _ h
          simp only [List.length_cons]
          exact ⟨by omega, by omega, by omega, fun _ => a4 (by omega)⟩
theorem intL_used (t : List UInt8) (h : (intL t).1 = 0) : 2 ≤ (intL t).2.2 ∧ (intL t).2.2 ≤ t.length := by
  unfold intL at h ⊢
  split at h
  · rename_i h1
    rw [if_pos h1]
    have := numL_used true t.tail false false 0 h
    have := this.2.2 rfl
    have ht : t.tail.length + 1 = t.length := by
      cases t with
      | nil => cases h1
      | cons a b => simp
    simp only
    omega
  · rename_i h1
    rw [if_neg h1]
    have := numL_used false t false false 0 h
    have := this.2.2 rfl
    omega
theorem listL_used (f : List UInt8 → Int × V × Nat) (hf : ∀ l, (f l).1 = 0 → 1 ≤ (f l).2.2 ∧ (f l).2.2 ≤ l.length) : ∀ (k : Nat) (l : List UInt8), (listL f k l).1 = 0 → 1 ≤ (listL f k l).2.2 ∧ (listL f k l).2.2 ≤ l.length
  | _, [], h => by rw [listL] at h; cases h
  | 0, c :: t, h => by rw [listL] at h; cases h; simp
  | k + 1, c :: t, h => by
    rw [listL] at h ⊢
    split at h
    · rename_i h1; rw [if_pos h1]; simp
    · rename_i h1
      rw [if_neg h1]
      split at h
      · rename_i h2
        rw [if_pos h2]
        split at h
        · rename_i h3
          rw [if_pos h3]
          have a := hf _ h2
          have b := listL_used f hf k _ h3
          rw [List.length_drop] at b
          simp only
          omega
        · rename_i h3; exact absurd h h3
      · rename_i h2; exact absurd h h2
theorem valL_used : ∀ (d : Nat) (l : List UInt8), (valL d l).1 = 0 → 2 ≤ (valL d l).2.2 ∧ (valL d l).2.2 ≤ l.length := by
  intro d
  induction d with
  | zero =>
    intro l h
    cases l with
    | nil => rw [valL] at h; cases h
    | cons c t =>
      rw [valL] at h ⊢
      split at h
      · rename_i h1
        rw [if_pos h1]
        split at h
        · rename_i h2
          rw [if_pos h2]
          have := intL_used t h2
          simp only [List.length_cons]
          omega
        · rename_i h2; exact absurd h h2
      · rename_i h1
        rw [if_neg h1]
        split at h
        · rename_i h2
          rw [if_pos h2]
          split at h
          · rename_i h3
            rw [if_pos h3]
            split at h
            · cases h
            · rename_i h4
              rw [if_neg h4]
              have := lenL_used _ false false 0 h3
              have := this.2.2.1 rfl
              simp only
              omega
          · rename_i h3; exact absurd h h3
        · split at h
          · cases h
          · cases h
  | succ d ih =>
    intro l h
    cases l with
    | nil => rw [valL] at h; cases h
    | cons c t =>
      rw [valL] at h ⊢
      split at h
      · rename_i h1
        rw [if_pos h1]
        split at h
        · rename_i h2
          rw [if_pos h2]
          have := intL_used t h2
          simp only [List.length_cons]
          omega
        · rename_i h2; exact absurd h h2
      · rename_i h1
        rw [if_neg h1]
        split at h
        · rename_i h2
          rw [if_pos h2]
          split at h
          · rename_i h3
            rw [if_pos h3]
            split at h
            · cases h
            · rename_i h4
              rw [if_neg h4]
              have := lenL_used _ false false 0 h3
              have := this.2.2.1 rfl
              simp only
              omega
          · rename_i h3; exact absurd h h3
        · rename_i h2
          rw [if_neg h2]
          split at h
          · cases h
          · rename_i h3
            rw [if_neg h3]
            split at h
            · rename_i h4
              simp only [h4, if_true]
              have := listL_used (valL d) (fun l h => by have := ih l h; omega) _ _ h4
              simp only [List.length_cons]
              omega
            · rename_i h4; exact absurd h h4
end Go.Proofs.YtcdfedbecgfanaaDoor.Giv
namespace Go.Proofs.YtcdfedbecgfanaaDoor.Giv
open Go.RowKit Go.Lib Go.Sort Go.Proofs.YtcdfedbecgfanaaDoorW.PrintWords Go.Proofs.YtcdfedbecgfanaaDoorW.PrintLast Go.Proofs.YtcdfedbecgfanaaDoorW.PrintMore
set_option linter.unusedVariables false
set_option linter.unusedSimpArgs false
theorem w64 {n : Int} (h0 : -9223372036854775808 ≤ n) (h1 : n ≤ 9223372036854775807) : wrap64 n = n := by unfold wrap64; omega
theorem Ev.to {α : Type} {g : Nat → Option α} {r r' : α} (h : Ev g r) (e : r = r') : Ev g r' := e ▸ h
theorem rd_at (L : List V) (i : Nat) (h : i < L.length) : P.rd_T24 L (i : Int) = L[i] := by
  unfold P.rd_T24
  rw [Int.toNat_natCast, List.getD_eq_getElem?_getD, List.getElem?_eq_getElem h, Option.getD_some]
theorem check_ev (n : Nat) : ∀ (v : V) (w : Nat), wt v ≤ n → w + wt v ≤ 4611686018427387904 → Ev (fun k => P.benc_check.f k v.f0 v.f1 v.f2 v.f3 (w : Int)) (chk v w) := by
  induction n with
  | zero => intro v w h; have := wt_eq v; omega
  | succ n ih =>
    intro v w hn hw
    have hz := wt_eq v
    have loop : ∀ (d : Nat) (i : Nat) (o : Int), v.f3.length - i ≤ d → i ≤ v.f3.length → Ev (fun k => P.benc_check.l0 k (w : Int) o v.f3 (v.f3.length : Int) (i : Int)) (chks o w (v.f3.drop i)) := by
      have hll := wts_len v.f3
      intro d
      induction d with
      | zero =>
        intro i o hd hi
        rw [List.drop_of_length_le (by omega), chks_nil]
        refine Ev.step (f := fun _ => some o) (fun k => ?_) (Ev.now _)
        simp only [P.benc_check.l0]
        rw [if_neg (by omega)]
      | succ d ihd =>
        intro i o hd hi
        by_cases hlt : i < v.f3.length
        · rw [List.drop_eq_getElem_cons hlt, chks_cons]
          have hm := wt_mem (List.getElem_mem hlt)
          have hx := ih v.f3[i] (w + 1) (by omega) (by omega)
          have hn1 := ihd (i + 1) o (by omega) (by omega)
          have hn2 := ihd (i + 1) 22 (by omega) (by omega)
          refine Ev.step (f := fun k => (P.benc_check.f k v.f3[i].f0 v.f3[i].f1 v.f3[i].f2 v.f3[i].f3 ((w + 1 : Nat) : Int)).bind fun t => if t = 1 then some t else if t = 22 then P.benc_check.l0 k (w : Int) t v.f3 (v.f3.length : Int) ((i + 1 : Nat) : Int) else P.benc_check.l0 k (w : Int) o v.f3 (v.f3.length : Int) ((i + 1 : Nat) : Int)) (fun k => ?_) ?_
          · simp only [P.benc_check.l0]
            rw [if_pos (by omega), if_pos (by omega), if_pos (by omega), rd_at _ _ hlt, w64 (n := (w : Int) + 1) (by omega) (by omega), w64 (n := (i : Int) + 1) (by omega) (by omega)]
            rfl
          · refine Ev.bind hx ?_
            generalize chk v.f3[i] (w + 1) = t
            by_cases c1 : t = 1
            · rw [if_pos c1]
              refine Ev.congr (fun k => if_pos c1) ?_
              rw [c1]
              exact Ev.now _
            · rw [if_neg c1]
              refine Ev.congr (fun k => if_neg c1) ?_
              by_cases c2 : t = 22
              · rw [if_pos c2]
                refine Ev.congr (fun k => if_pos c2) ?_
                rw [c2]
                exact hn2
              · rw [if_neg c2]
                exact Ev.congr (fun k => if_neg c2) hn1
        · rw [List.drop_of_length_le (by omega), chks_nil]
          refine Ev.step (f := fun _ => some o) (fun k => ?_) (Ev.now _)
          simp only [P.benc_check.l0]
          rw [if_neg (by omega)]
    rw [chk_eq]
    by_cases c1 : v.f0 = 1
    · rw [if_pos c1]
      refine Ev.step (f := fun k => P.benc_check.j0 k (w : Int) v.f0 true v.f0 v.f1 v.f2 v.f3) (fun k => ?_) ?_
      · simp only [P.benc_check.f]
        rw [if_pos c1, c1]
        rfl
      · refine Ev.step (f := fun _ => some 0) (fun k => ?_) (Ev.now _)
        simp only [P.benc_check.j0]
        rfl
    · rw [if_neg c1]
      by_cases c2 : v.f0 = 2
      · rw [if_pos c2]
        refine Ev.step (f := fun k => P.benc_check.j0 k (w : Int) v.f0 true v.f0 v.f1 v.f2 v.f3) (fun k => ?_) ?_
        · simp only [P.benc_check.f]
          rw [if_neg c1, c2]
          rfl
        · refine Ev.step (f := fun _ => some 0) (fun k => ?_) (Ev.now _)
          simp only [P.benc_check.j0]
          rfl
      · rw [if_neg c2]
        refine Ev.step (f := fun k => P.benc_check.j0 k (w : Int) v.f0 false v.f0 v.f1 v.f2 v.f3) (fun k => ?_) ?_
        · simp only [P.benc_check.f]
          rw [if_neg c1, beq_eq_false_iff_ne.2 c2]
        · by_cases c3 : v.f0 = 3
          · rw [if_pos c3]
            by_cases c4 : 8 ≤ w
            · rw [if_pos c4]
              refine Ev.step (f := fun k => P.benc_check.j1 k (w : Int) 22 v.f0 v.f1 v.f2 v.f3) (fun k => ?_) ?_
              · simp only [P.benc_check.j0]
                rw [if_neg (by decide), if_pos c3, if_pos (by omega)]
              · refine Ev.step (f := fun k => P.benc_check.l0 k (w : Int) 22 v.f3 (v.f3.length : Int) ((0 : Nat) : Int)) (fun k => ?_) (loop _ 0 22 (Nat.le_refl _) (Nat.zero_le _))
                simp only [P.benc_check.j1]
                rfl
            · rw [if_neg c4]
              refine Ev.step (f := fun k => P.benc_check.j1 k (w : Int) 0 v.f0 v.f1 v.f2 v.f3) (fun k => ?_) ?_
              · simp only [P.benc_check.j0]
                rw [if_neg (by decide), if_pos c3, if_neg (by omega)]
              · refine Ev.step (f := fun k => P.benc_check.l0 k (w : Int) 0 v.f3 (v.f3.length : Int) ((0 : Nat) : Int)) (fun k => ?_) (loop _ 0 0 (Nat.le_refl _) (Nat.zero_le _))
                simp only [P.benc_check.j1]
                rfl
          · rw [if_neg c3]
            refine Ev.step (f := fun _ => some 1) (fun k => ?_) (Ev.now _)
            simp only [P.benc_check.j0]
            rw [if_neg (by decide), if_neg c3]
theorem check_calls (v : V) (A : Option Addr) (c : Nat) (w : World) (hw : wt v ≤ 70368744177664) (hC : Kd.C P.k24 w A v.f3.length v.f3) (hc : v.f3.length ≤ c) :
    Calls Tryd.prog 24 #[.agg #[.int .i64 v.f0, .int .i64 v.f1, .string v.f2, .slice A v.f3.length c], .int .i64 0] w fun e w' => e = .returned (.int .i64 (chk v 0)) ∧ Below w.heap.size w w' := by
  obtain ⟨k, hk⟩ := Ev.rounds (check_ev (wt v) v 0 (Nat.le_refl _) (by omega))
  exact P.benc_check.calls k v.f0 v.f1 v.f2 A c v.f3 0 _ w hC hc hk
def fitV (v : V) : Bool := okV v && decide (wt v ≤ 70368744177664)
set_option maxHeartbeats 4000000 in
set_option maxRecDepth 100000 in
theorem Put_calls (v : V) (A : Option Addr) (c : Nat) (w : World) (hf : fitV v = true) (hL : LaidW w) (hC : Kd.C P.k24 w A v.f3.length v.f3) (hc : v.f3.length ≤ c) :
    Calls Tryd.prog 12 #[.agg #[.int .i64 v.f0, .int .i64 v.f1, .string v.f2, .slice A v.f3.length c]] w fun e w' => e = .returned (.tuple #[.string (putM v).1, .int .i64 (putM v).2]) ∧ Below w.heap.size w w' := by
  obtain ⟨ho, hw⟩ : okV v = true ∧ wt v ≤ 70368744177664 := by unfold fitV at hf; simpa using hf
  have HCk := Aside0.mk (fun w' hb => check_calls v A c w' hw (Kd.C_below hC hb) hc)
  by_cases hk : chk v 0 = 0
  · have HK := Aside0.mk hk
    have HP := Aside0.mk (fun (B b : Nat) (w' : World) h1 h2 h3 => put_calls (wt v) v A c [] w w' B b (Nat.le_refl _) ho (by simp; omega) hL hC hc h1 h2 h3)
    have hle := putc_le v [] ho
    have hsp := putc_spec v []
    rw [List.nil_append] at hsp
    have HSP := Aside0.mk hsp
    have HM := Aside0.mk (show putM v = if (enc v).length ≤ 65536 then (⟨(enc v).toArray⟩, 0) else (⟨#[]⟩, 23) by unfold putM; rw [if_pos hk])
    clear hk hsp hC hL
    generalize putc [] v = l at *
    by_cases hl : 65536 < l.length
    · have hl0 : decide ((65536 : Int) < (l.length : Int)) = true := decide_eq_true (by omega)
      have HM2 := Aside0.mk (show putM v = (⟨#[]⟩, 23) by
        rw [HM.out, if_neg]
        intro h
        have := HSP.out.1 h
        rw [this] at hl
        omega)
      go_enter Tryd.func12, Tryd.ntmps12
      go_wp2_with fail
      refine (HCk.out _ ((Below.refl _ _).alloc (Nat.le_refl _) _)).mono ?_
      rw [HK.out]
      rintro e w1 ⟨rfl, hb1⟩
      have bk := blk_below (blk_new w (.cells #[.int .i64 v.f0, .int .i64 v.f1, .string v.f2, .slice A v.f3.length c] 24)) hb1
      have hc0 : (w1.alloc (.cells #[.pointer none, .slice none 0 0] 48)).cell? ⟨w.heap.size, 0, none⟩ = some (.int .i64 v.f0) := (blk_cell (blk_alloc bk _) 0).trans rfl
      have hc1 : (w1.alloc (.cells #[.pointer none, .slice none 0 0] 48)).cell? ⟨w.heap.size, 1, none⟩ = some (.int .i64 v.f1) := (blk_cell (blk_alloc bk _) 1).trans rfl
      have hc2 : (w1.alloc (.cells #[.pointer none, .slice none 0 0] 48)).cell? ⟨w.heap.size, 2, none⟩ = some (.string v.f2) := (blk_cell (blk_alloc bk _) 2).trans rfl
      have hc3 : (w1.alloc (.cells #[.pointer none, .slice none 0 0] 48)).cell? ⟨w.heap.size, 3, none⟩ = some (.slice A v.f3.length c) := (blk_cell (blk_alloc bk _) 3).trans rfl
      have HB1 := Aside0.mk (((Below.refl _ w).alloc (Nat.le_refl _) (.cells #[.int .i64 v.f0, .int .i64 v.f1, .string v.f2, .slice A v.f3.length c] 24)).trans (hb1.mono (by simp)))
      have hz1 : w.heap.size ≤ w1.heap.size := HB1.out.size
      clear hb1 bk
      go_wp2_with fail
      refine (HP.out w1.heap.size w1.heap.size _ hz1 (HB1.out.alloc hz1 _) ⟨by simp, Lib.IsBuilderF.of (Lib.fresh_isBuilder 48 5 w1)⟩).mono ?_
      rintro e w2 ⟨rfl, hX2, hb2⟩
      have HX2 := Aside0.mk hX2
      have HB2 := Aside0.mk ((HB1.out.alloc hz1 (.cells #[.pointer none, .slice none 0 0] 48)).trans (hb2.mono hz1))
      clear hX2 hb2
      go_wp2_with fail
      refine (len_calls HX2.out).mono ?_
      rintro e w3 ⟨rfl, rfl⟩
      go_wp2
      go_ret2
      rw [HM2.out]
      exact ⟨rfl, HB2.out⟩
    · have hl0 : decide ((65536 : Int) < (l.length : Int)) = false := decide_eq_false (by omega)
      have HM2 := Aside0.mk (show putM v = (⟨l.toArray⟩, 0) by
        have h : (enc v).length ≤ 65536 := by
          rcases Nat.lt_or_ge 65536 (enc v).length with h | h
          · exact absurd (HSP.out.2 h) hl
          · exact h
        rw [HM.out, if_pos h, HSP.out.1 h])
      go_enter Tryd.func12, Tryd.ntmps12
      go_wp2_with fail
      refine (HCk.out _ ((Below.refl _ _).alloc (Nat.le_refl _) _)).mono ?_
      rw [HK.out]
      rintro e w1 ⟨rfl, hb1⟩
      have bk := blk_below (blk_new w (.cells #[.int .i64 v.f0, .int .i64 v.f1, .string v.f2, .slice A v.f3.length c] 24)) hb1
      have hc0 : (w1.alloc (.cells #[.pointer none, .slice none 0 0] 48)).cell? ⟨w.heap.size, 0, none⟩ = some (.int .i64 v.f0) := (blk_cell (blk_alloc bk _) 0).trans rfl
      have hc1 : (w1.alloc (.cells #[.pointer none, .slice none 0 0] 48)).cell? ⟨w.heap.size, 1, none⟩ = some (.int .i64 v.f1) := (blk_cell (blk_alloc bk _) 1).trans rfl
      have hc2 : (w1.alloc (.cells #[.pointer none, .slice none 0 0] 48)).cell? ⟨w.heap.size, 2, none⟩ = some (.string v.f2) := (blk_cell (blk_alloc bk _) 2).trans rfl
      have hc3 : (w1.alloc (.cells #[.pointer none, .slice none 0 0] 48)).cell? ⟨w.heap.size, 3, none⟩ = some (.slice A v.f3.length c) := (blk_cell (blk_alloc bk _) 3).trans rfl
      have HB1 := Aside0.mk (((Below.refl _ w).alloc (Nat.le_refl _) (.cells #[.int .i64 v.f0, .int .i64 v.f1, .string v.f2, .slice A v.f3.length c] 24)).trans (hb1.mono (by simp)))
      have hz1 : w.heap.size ≤ w1.heap.size := HB1.out.size
      clear hb1 bk
      go_wp2_with fail
      refine (HP.out w1.heap.size w1.heap.size _ hz1 (HB1.out.alloc hz1 _) ⟨by simp, Lib.IsBuilderF.of (Lib.fresh_isBuilder 48 5 w1)⟩).mono ?_
      rintro e w2 ⟨rfl, hX2, hb2⟩
      have HX2 := Aside0.mk hX2
      have HB2 := Aside0.mk ((HB1.out.alloc hz1 (.cells #[.pointer none, .slice none 0 0] 48)).trans (hb2.mono hz1))
      clear hX2 hb2
      go_wp2_with fail
      refine (len_calls HX2.out).mono ?_
      rintro e w3 ⟨rfl, rfl⟩
      go_wp2_with fail
      refine (str_calls HX2.out).mono ?_
      rintro e w4 ⟨rfl, hb4⟩
      have HB4 := Aside0.mk (HB2.out.trans (hb4.mono hz1))
      clear hb4
      go_wp2
      go_ret2
      rw [HM2.out]
      exact ⟨rfl, HB4.out⟩
  · have hk0 : (chk v 0 != 0) = true := bne_iff_ne.2 hk
    have HM2 := Aside0.mk (show putM v = (⟨#[]⟩, chk v 0) by unfold putM; rw [if_neg hk])
    clear hC hL hk
    generalize chk v 0 = e0 at *
    go_enter Tryd.func12, Tryd.ntmps12
    go_wp2_with fail
    refine (HCk.out _ ((Below.refl _ _).alloc (Nat.le_refl _) _)).mono ?_
    rintro e w1 ⟨rfl, hb1⟩
    have HB1 := Aside0.mk (((Below.refl _ w).alloc (Nat.le_refl _) (.cells #[.int .i64 v.f0, .int .i64 v.f1, .string v.f2, .slice A v.f3.length c] 24)).trans (hb1.mono (by simp)))
    clear hb1
    go_wp2
    go_ret2
    rw [HM2.out]
    exact ⟨rfl, HB1.out⟩
def benc_Put.f (a0 : Int) (a1 : Int) (a2 : ByteArray) (l3 : List V) : Option (ByteArray × Int) := if fitV ⟨a0, a1, a2, l3⟩ = true then some (putM ⟨a0, a1, a2, l3⟩) else none
theorem benc_Put.calls (a0_0 : Int) (a0_1 : Int) (a0_2 : ByteArray) (A0_3 : Option Addr) (c0_3 : Nat) (l0_3 : List V) (r1 : ByteArray) (r2 : Int) (w : World) (hL : LaidW w) (hr0_3 : Kd.C P.k24 w A0_3 l0_3.length l0_3) (hc0_3 : l0_3.length ≤ c0_3) (h : benc_Put.f a0_0 a0_1 a0_2 l0_3 = some (r1, r2)) :
    Calls Tryd.prog 12 #[.agg #[.int .i64 a0_0, .int .i64 a0_1, .string a0_2, .slice A0_3 l0_3.length c0_3]] w fun e w' => e = .returned (.tuple #[.string r1, .int .i64 r2]) ∧ Below w.heap.size w w' := by
  unfold benc_Put.f at h
  split at h
  · rename_i hf
    have e := Option.some.inj h
    have c := Put_calls ⟨a0_0, a0_1, a0_2, l0_3⟩ A0_3 c0_3 w hf hL hr0_3 hc0_3
    rw [e] at c
    exact c
  · cases h
end Go.Proofs.YtcdfedbecgfanaaDoor.Giv
namespace Go.Proofs.YtcdfedbecgfanaaDoor.Giv
open Go.RowKit Go.Lib Go.Sort Go.Proofs.YtcdfedbecgfanaaDoorW.PrintWords Go.Proofs.YtcdfedbecgfanaaDoorW.PrintLast Go.Proofs.YtcdfedbecgfanaaDoorW.PrintMore
set_option linter.unusedVariables false
set_option linter.unusedSimpArgs false
section
variable (e1 sg most from_ n : Int) (s : ByteArray)
theorem num_fin (at_ er : Int) (h : er ≠ 0) : Ev (fun k => P.benc_reader_number.l0 k e1 sg most from_ n s at_ er) (0, s, at_, er) := by
  refine Ev.step (f := fun _ => some (0, s, at_, er)) (fun k => ?_) (Ev.now _)
  simp only [P.benc_reader_number.l0]
  rw [if_neg h]
theorem next_end : P.benc_reader_next.f s (s.size : Int) 0 = some (0, s, (s.size : Int), 21) := by
  unfold P.benc_reader_next.f P.benc_reader_fail.f
  rw [if_pos rfl, if_pos rfl]
  rfl
theorem num_short : Ev (fun k => P.benc_reader_number.l0 k e1 sg most from_ n s (s.size : Int) 0) (0, s, (s.size : Int), 21) := by
  refine Ev.step (f := fun k => P.benc_reader_number.l0 k e1 sg most from_ n s (s.size : Int) 21) (fun k => ?_) (num_fin e1 sg most from_ n s _ 21 (by decide))
  simp only [P.benc_reader_number.l0]
  rw [if_pos trivial, next_end]
  rfl
theorem next_at (at_ : Int) (h0 : 0 ≤ at_) (h1 : at_ < (s.size : Int)) (e : Int) : P.benc_reader_next.f s at_ e = some (bt s at_, s, at_, e) := by
  unfold P.benc_reader_next.f
  rw [if_neg (by omega), if_pos h0, if_pos h1]
theorem num_ret (at_ : Int) (h0 : 0 ≤ from_) (h1 : from_ < at_) (h2 : at_ < (s.size : Int)) (hs : s.size ≤ 140737488351232) (hc : bt s at_ = e1) : Ev (fun k => P.benc_reader_number.l0 k e1 sg most from_ n s at_ 0) (n, s, at_ + 1, 0) := by
  refine Ev.step (f := fun k => P.benc_reader_number.j1 k e1 sg most from_ n (bt s at_) true s at_ 0) (fun k => ?_) ?_
  · simp only [P.benc_reader_number.l0]
    rw [if_pos trivial, next_at s at_ (by omega) h2]
    simp only [Option.bind_some]
    rw [if_pos trivial, if_pos hc, decide_eq_true (show at_ > from_ from h1)]
  · refine Ev.step (f := fun _ => some (n, s, at_ + 1, 0)) (fun k => ?_) (Ev.now _)
    simp only [P.benc_reader_number.j1]
    rw [if_pos trivial, w64 (by omega) (by omega)]
theorem num_j1 (at_ : Int) (h0 : 0 ≤ at_) (h2 : at_ < (s.size : Int)) (hc : ¬(bt s at_ = e1 ∧ from_ < at_)) {r : Int × ByteArray × Int × Int} (h : Ev (fun k => P.benc_reader_number.j1 k e1 sg most from_ n (bt s at_) false s at_ 0) r) : Ev (fun k => P.benc_reader_number.l0 k e1 sg most from_ n s at_ 0) r := by
  refine Ev.step (f := fun k => P.benc_reader_number.j1 k e1 sg most from_ n (bt s at_) false s at_ 0) (fun k => ?_) h
  simp only [P.benc_reader_number.l0]
  rw [if_pos trivial, next_at s at_ (by omega) h2]
  simp only [Option.bind_some]
  rw [if_pos trivial]
  by_cases c : bt s at_ = e1
  · rw [if_pos c, decide_eq_false (show ¬ at_ > from_ from fun h => hc ⟨c, h⟩)]
  · rw [if_neg c]
theorem num_j2bad (c at_ : Int) : Ev (fun k => P.benc_reader_number.j2 k e1 sg most from_ n c true s at_ 0) (0, s, at_, 20) := by
  refine Ev.step (f := fun k => P.benc_reader_number.l0 k e1 sg most from_ n s at_ 20) (fun k => ?_) (num_fin e1 sg most from_ n s _ 20 (by decide))
  simp only [P.benc_reader_number.j2]
  rw [if_pos trivial]
  rfl
theorem num_bad (at_ : Int) (h0 : 0 ≤ from_) (h1 : from_ ≤ at_) (h2 : at_ < (s.size : Int)) (hc : ¬(bt s at_ = e1 ∧ from_ < at_)) (hb : bt s at_ < 48 ∨ 57 < bt s at_ ∨ (from_ < at_ ∧ bt s from_ = 48) ∨ (at_ = from_ ∧ bt s at_ = 48 ∧ sg < 0)) : Ev (fun k => P.benc_reader_number.l0 k e1 sg most from_ n s at_ 0) (0, s, at_, 20) := by
  refine num_j1 e1 sg most from_ n s at_ (by omega) h2 hc (Ev.step (f := fun k => P.benc_reader_number.j2 k e1 sg most from_ n (bt s at_) true s at_ 0) (fun k => ?_) (num_j2bad e1 sg most from_ n s _ _))
  simp only [P.benc_reader_number.j1]
  rw [if_neg (by decide)]
  by_cases c1 : bt s at_ < 48
  · rw [if_pos c1]
  · rw [if_neg c1]
    by_cases c2 : bt s at_ > 57
    · rw [if_pos c2]
    · rw [if_neg c2]
      by_cases c3 : at_ > from_
      · rw [if_pos c3, if_pos h0, if_pos (by omega), if_pos (by omega)]
      · rw [if_neg c3, if_pos (by omega), if_pos (by omega), decide_eq_true (by omega)]
theorem num_go (at_ : Int) (h0 : 0 ≤ from_) (h1 : from_ ≤ at_) (h2 : at_ < (s.size : Int)) (hc : ¬(bt s at_ = e1 ∧ from_ < at_)) (hb : ¬(bt s at_ < 48 ∨ 57 < bt s at_ ∨ (from_ < at_ ∧ bt s from_ = 48) ∨ (at_ = from_ ∧ bt s at_ = 48 ∧ sg < 0))) {r : Int × ByteArray × Int × Int} (h : Ev (fun k => P.benc_reader_number.j2 k e1 sg most from_ n (bt s at_) false s at_ 0) r) : Ev (fun k => P.benc_reader_number.l0 k e1 sg most from_ n s at_ 0) r := by
  refine num_j1 e1 sg most from_ n s at_ (by omega) h2 hc (Ev.step (f := fun k => P.benc_reader_number.j2 k e1 sg most from_ n (bt s at_) false s at_ 0) (fun k => ?_) h)
  simp only [P.benc_reader_number.j1]
  rw [if_neg (by decide), if_neg (by omega), if_neg (by omega)]
  by_cases c3 : at_ > from_
  · rw [if_pos c3, if_pos h0, if_pos (by omega), if_neg (by omega), if_neg (by omega)]
  · rw [if_neg c3, if_pos (by omega)]
    by_cases c4 : bt s at_ = 48
    · rw [if_pos c4, decide_eq_false (by omega)]
    · rw [if_neg c4]
end
theorem num_j4 (e1 sg most from_ n x : Int) (s : ByteArray) (at_ : Int) (hx : 0 ≤ x ∧ x ≤ 9) (hn0 : -9223372036854775808 ≤ n) (hn1 : n ≤ 9223372036854775807) (ha0 : 0 ≤ at_) (ha1 : at_ < (s.size : Int)) (hs : s.size ≤ 140737488351232)
    (hsg : sg = 1 ∧ 0 ≤ n ∨ sg = -1 ∧ n ≤ 0) :
    (¬(-9223372036854775808 ≤ 10 * n + sg * x ∧ 10 * n + sg * x ≤ 9223372036854775807) → Ev (fun k => P.benc_reader_number.j3 k e1 sg most from_ n x false s at_ 0) (0, s, at_, 20)) ∧
    (-9223372036854775808 ≤ 10 * n + sg * x ∧ 10 * n + sg * x ≤ 9223372036854775807 → ∀ r, Ev (fun k => P.benc_reader_number.l0 k e1 sg most from_ (10 * n + sg * x) s (at_ + 1) 0) r → Ev (fun k => P.benc_reader_number.j3 k e1 sg most from_ n x false s at_ 0) r) := by
  have w1 : wrap64 (9223372036854775807 - x) = 9223372036854775807 - x := by unfold wrap64; omega
  have w2 : wrap64 (Int.tdiv (9223372036854775807 - x) 10) = (9223372036854775807 - x) / 10 := by rw [Int.tdiv_eq_ediv_of_nonneg (by omega)]; unfold wrap64; omega
  have w3 : wrap64 ((-9223372036854775808) + x) = -(9223372036854775808 - x) := by unfold wrap64; omega
  have w4 : wrap64 (Int.tdiv (-(9223372036854775808 - x)) 10) = -((9223372036854775808 - x) / 10) := by rw [Int.neg_tdiv, Int.tdiv_eq_ediv_of_nonneg (by omega)]; unfold wrap64; omega
  rcases hsg with ⟨rfl, h0⟩ | ⟨rfl, h0⟩
  · constructor
    · intro hb
      refine Ev.step (f := fun k => P.benc_reader_number.j4 k e1 1 most from_ n x true s at_ 0) (fun k => ?_) ?_
      · simp only [P.benc_reader_number.j3]
        rw [if_neg (by decide), if_pos (by omega), w1, w2, decide_eq_true (by omega)]
      · refine Ev.step (f := fun k => P.benc_reader_number.l0 k e1 1 most from_ n s at_ 20) (fun k => ?_) (num_fin e1 1 most from_ n s _ 20 (by decide))
        simp only [P.benc_reader_number.j4]
        rw [if_pos trivial]
        rfl
    · intro hb r hr
      refine Ev.step (f := fun k => P.benc_reader_number.j4 k e1 1 most from_ n x false s at_ 0) (fun k => ?_) ?_
      · simp only [P.benc_reader_number.j3]
        rw [if_neg (by decide), if_pos (by omega), w1, w2, decide_eq_false (by omega)]
      · refine Ev.step (fun k => ?_) hr
        simp only [P.benc_reader_number.j4]
        rw [if_neg (by decide), if_neg (by omega), w64 (n := 1 * x) (by omega) (by omega), w64 (n := 10 * n) (by omega) (by omega), w64 (n := 10 * n + 1 * x) (by omega) (by omega), w64 (n := at_ + 1) (by omega) (by omega)]
  · constructor
    · intro hb
      refine Ev.step (f := fun k => P.benc_reader_number.j4 k e1 (-1) most from_ n x false s at_ 0) (fun k => ?_) ?_
      · simp only [P.benc_reader_number.j3]
        rw [if_neg (by decide), if_neg (by omega)]
      · refine Ev.step (f := fun k => P.benc_reader_number.l0 k e1 (-1) most from_ n s at_ 20) (fun k => ?_) (num_fin e1 (-1) most from_ n s _ 20 (by decide))
        simp only [P.benc_reader_number.j4]
        rw [if_neg (by decide), if_pos (by omega), w3, w4, if_pos (by omega)]
        rfl
    · intro hb r hr
      refine Ev.step (f := fun k => P.benc_reader_number.j4 k e1 (-1) most from_ n x false s at_ 0) (fun k => ?_) ?_
      · simp only [P.benc_reader_number.j3]
        rw [if_neg (by decide), if_neg (by omega)]
      · refine Ev.step (fun k => ?_) hr
        simp only [P.benc_reader_number.j4]
        rw [if_neg (by decide), if_pos (by omega), w3, w4, if_neg (by omega), w64 (n := -1 * x) (by omega) (by omega), w64 (n := 10 * n) (by omega) (by omega), w64 (n := 10 * n + -1 * x) (by omega) (by omega), w64 (n := at_ + 1) (by omega) (by omega)]
theorem bt_drop (s : ByteArray) (a : Nat) (h : a < s.size) : ∃ c : UInt8, s.data.toList.drop a = c :: s.data.toList.drop (a + 1) ∧ bt s (a : Int) = (c.toNat : Int) := by
  have hlt : a < s.data.toList.length := by rw [data_size]; exact h
  refine ⟨s.data.toList[a], List.drop_eq_getElem_cons hlt, ?_⟩
  rw [← bt_at s (a : Int) (by simp; omega)]
  simp
  rfl
theorem u8_lt (c d : UInt8) : (c < d) ↔ ((c.toNat : Int) < (d.toNat : Int)) := by rw [UInt8.lt_iff_toNat_lt]; omega
theorem u8_eq (c d : UInt8) : (c = d) ↔ ((c.toNat : Int) = (d.toNat : Int)) := by rw [← UInt8.toNat_inj]; omega
theorem num_ev (neg : Bool) (s : ByteArray) (hs : s.size ≤ 140737488351232) (f : Nat) : ∀ (d a : Nat) (n : Int) (z st : Bool), s.size - a ≤ d → f ≤ a → a ≤ s.size → st = decide (f < a) → (st = true → z = (bt s (f : Int) == 48)) → -9223372036854775808 ≤ n → n ≤ 9223372036854775807 → (neg = true ∧ n ≤ 0 ∨ neg = false ∧ 0 ≤ n) →
    ∃ b : Nat, b ≤ s.size ∧ Ev (fun k => P.benc_reader_number.l0 k 101 (if neg = true then -1 else 1) 9223372036854775807 (f : Int) n s (a : Int) 0) (if (numL neg z st n (s.data.toList.drop a)).1 = 0 then ((numL neg z st n (s.data.toList.drop a)).2.1, s, ((a + (numL neg z st n (s.data.toList.drop a)).2.2 : Nat) : Int), 0) else (0, s, (b : Int), (numL neg z st n (s.data.toList.drop a)).1)) := by
  intro d
  induction d with
  | zero =>
    intro a n z st h1 h2 h3 h4 h5 h6 h7 h8
    obtain rfl : a = s.size := by omega
    rw [List.drop_of_length_le (by rw [data_size]; omega), numL]
    exact ⟨s.size, Nat.le_refl _, num_short _ _ _ _ _ _⟩
  | succ d ih =>
    intro a n z st h1 h2 h3 h4 h5 h6 h7 h8
    by_cases hlt : a < s.size
    · obtain ⟨c, hd, hc⟩ := bt_drop s a hlt
      rw [hd, numL]
      by_cases c1 : c = 101 ∧ st = true
      · rw [if_pos c1]
        obtain ⟨rfl, rfl⟩ := c1
        have h9 : f < a := of_decide_eq_true h4.symm
        refine ⟨a, by omega, ?_⟩
        have := num_ret 101 (if neg = true then -1 else 1) 9223372036854775807 (f : Int) n s (a : Int) (by omega) (by omega) (by omega) hs (by rw [hc]; rfl)
        exact this
      · rw [if_neg c1]
        have n1 : ¬(bt s (a : Int) = 101 ∧ (f : Int) < (a : Int)) := by
          rintro ⟨e, h⟩
          refine c1 ⟨(u8_eq _ _).2 (by rw [← hc, e]; rfl), ?_⟩
          rw [h4]; exact decide_eq_true (by omega)
        have hfa : st = false → a = f := fun e => by rw [e] at h4; have := of_decide_eq_false h4.symm; omega
        by_cases c2 : c < 48 ∨ 57 < c ∨ (st = true ∧ z = true) ∨ (st = false ∧ c = 48 ∧ neg = true)
        · rw [if_pos c2]
          refine ⟨a, by omega, num_bad _ _ _ _ _ _ _ (by omega) (by omega) (by omega) n1 ?_⟩
          rcases c2 with h | h | ⟨h, h'⟩ | ⟨h, h', h''⟩
          · left; rw [hc]; exact (u8_lt _ _).1 h
          · right; left; rw [hc]; exact (u8_lt _ _).1 h
          · right; right; left
            have := h5 h
            rw [h'] at this
            refine ⟨?_, by simpa using this.symm⟩
            rw [h] at h4
            have := of_decide_eq_true h4.symm
            omega
          · right; right; right
            have := hfa h
            refine ⟨by omega, by rw [hc, h']; rfl, by rw [if_pos h'']; decide⟩
        · rw [if_neg c2]
          have n2 : ¬(bt s (a : Int) < 48 ∨ 57 < bt s (a : Int) ∨ ((f : Int) < (a : Int) ∧ bt s (f : Int) = 48) ∨ ((a : Int) = (f : Int) ∧ bt s (a : Int) = 48 ∧ (if neg = true then (-1 : Int) else 1) < 0)) := by
            rintro (h | h | ⟨h, h'⟩ | ⟨h, h', h''⟩)
            · exact c2 (.inl ((u8_lt _ _).2 (by rw [← hc]; exact h)))
            · exact c2 (.inr (.inl ((u8_lt _ _).2 (by rw [← hc]; exact h))))
            · have e : st = true := by rw [h4]; exact decide_eq_true (by omega)
              exact c2 (.inr (.inr (.inl ⟨e, by rw [h5 e, h']; rfl⟩)))
            · have e : st = false := by rw [h4]; exact decide_eq_false (by omega)
              refine c2 (.inr (.inr (.inr ⟨e, (u8_eq _ _).2 (by rw [← hc, h']; rfl), ?_⟩)))
              cases neg
              · simp at h''
              · rfl
          have d1 : 48 ≤ c.toNat ∧ c.toNat ≤ 57 := by rw [hc] at n2; omega
          have dx : (bt s (a : Int) - 48) % 256 = (c.toNat : Int) - 48 := by rw [hc]; omega
          have j2 : ∀ r, Ev (fun k => P.benc_reader_number.j3 k 101 (if neg = true then -1 else 1) 9223372036854775807 (f : Int) n ((c.toNat : Int) - 48) false s (a : Int) 0) r → Ev (fun k => P.benc_reader_number.l0 k 101 (if neg = true then -1 else 1) 9223372036854775807 (f : Int) n s (a : Int) 0) r := by
            intro r hr
            refine num_go _ _ _ _ _ _ _ (by omega) (by omega) (by omega) n1 n2 (Ev.step (fun k => ?_) hr)
            simp only [P.benc_reader_number.j2]
            rw [if_neg (by decide), if_neg (by decide), dx]
          have hz : (if st = true then z else c == 48) = (bt s (f : Int) == 48) := by
            cases st with
            | true => rw [if_pos rfl]; exact h5 rfl
            | false =>
              rw [if_neg (by decide)]
              have e := hfa rfl
              rw [← e, hc]
              rw [Bool.eq_iff_iff, beq_iff_eq, beq_iff_eq, u8_eq]
              rfl
          obtain ⟨k1, k2⟩ := num_j4 101 (if neg = true then -1 else 1) 9223372036854775807 (f : Int) n ((c.toNat : Int) - 48) s (a : Int) (by omega) h6 h7 (by omega) (by omega) hs (by rcases h8 with ⟨rfl, h⟩ | ⟨rfl, h⟩ <;> simp [h])
          cases neg with
          | true =>
            rw [if_pos rfl] at k1 k2 j2 ⊢
            rw [if_pos rfl]
            by_cases c3 : 10 * n - ((c.toNat : Int) - 48) < -9223372036854775808
            · rw [if_pos c3]
              exact ⟨a, by omega, j2 _ (k1 (by omega))⟩
            · rw [if_neg c3]
              have hn0 : n ≤ 0 := by rcases h8 with ⟨_, h⟩ | ⟨h, _⟩; exact h; cases h
              obtain ⟨b, hb, hev⟩ := ih (a + 1) (10 * n - ((c.toNat : Int) - 48)) (if st = true then z else c == 48) true (by omega) (by omega) (by omega) (decide_eq_true (by omega)).symm (fun _ => hz) (by omega) (by omega) (.inl ⟨rfl, by omega⟩)
              refine ⟨b, hb, j2 _ (k2 (by omega) _ ?_)⟩
              rw [if_pos rfl] at hev
              have e : 10 * n + -1 * ((c.toNat : Int) - 48) = 10 * n - ((c.toNat : Int) - 48) := by omega
              rw [e]
              refine Ev.to (Ev.congr (fun k => rfl) hev) ?_
              generalize numL _ _ true _ _ = r
              rw [show a + 1 + r.2.2 = a + (r.2.2 + 1) by omega]
          | false =>
            rw [if_neg (by decide)] at k1 k2 j2 ⊢
            rw [if_neg (by decide)]
            by_cases c3 : 9223372036854775807 < 10 * n + ((c.toNat : Int) - 48)
            · rw [if_pos c3]
              exact ⟨a, by omega, j2 _ (k1 (by omega))⟩
            · rw [if_neg c3]
              have hn0 : 0 ≤ n := by rcases h8 with ⟨h, _⟩ | ⟨_, h⟩; cases h; exact h
              obtain ⟨b, hb, hev⟩ := ih (a + 1) (10 * n + ((c.toNat : Int) - 48)) (if st = true then z else c == 48) true (by omega) (by omega) (by omega) (decide_eq_true (by omega)).symm (fun _ => hz) (by omega) (by omega) (.inr ⟨rfl, by omega⟩)
              refine ⟨b, hb, j2 _ (k2 (by omega) _ ?_)⟩
              rw [if_neg (by decide)] at hev
              have e : 10 * n + 1 * ((c.toNat : Int) - 48) = 10 * n + ((c.toNat : Int) - 48) := by omega
              rw [e]
              refine Ev.to (Ev.congr (fun k => rfl) hev) ?_
              generalize numL _ _ true _ _ = r
              rw [show a + 1 + r.2.2 = a + (r.2.2 + 1) by omega]
    · obtain rfl : a = s.size := by omega
      rw [List.drop_of_length_le (by rw [data_size]; omega), numL]
      exact ⟨s.size, Nat.le_refl _, num_short _ _ _ _ _ _⟩
theorem len_ev (s : ByteArray) (hs : s.size ≤ 140737488351232) (f : Nat) : ∀ (d a : Nat) (n : Nat) (z st : Bool), s.size - a ≤ d → f ≤ a → a ≤ s.size → st = decide (f < a) → (st = true → z = (bt s (f : Int) == 48)) → n ≤ 65536 →
    ∃ b : Nat, b ≤ s.size ∧ Ev (fun k => P.benc_reader_number.l0 k 58 1 65536 (f : Int) (n : Int) s (a : Int) 0) (if (lenL z st n (s.data.toList.drop a)).1 = 0 then (((lenL z st n (s.data.toList.drop a)).2.1 : Int), s, ((a + (lenL z st n (s.data.toList.drop a)).2.2 : Nat) : Int), 0) else (0, s, (b : Int), (lenL z st n (s.data.toList.drop a)).1)) := by
  intro d
  induction d with
  | zero =>
    intro a n z st h1 h2 h3 h4 h5 h6
    obtain rfl : a = s.size := by omega
    rw [List.drop_of_length_le (by rw [data_size]; omega), lenL]
    exact ⟨s.size, Nat.le_refl _, num_short _ _ _ _ _ _⟩
  | succ d ih =>
    intro a n z st h1 h2 h3 h4 h5 h6
    by_cases hlt : a < s.size
    · obtain ⟨c, hd, hc⟩ := bt_drop s a hlt
      rw [hd, lenL]
      by_cases c1 : c = 58 ∧ st = true
      · rw [if_pos c1]
        obtain ⟨rfl, rfl⟩ := c1
        have h9 : f < a := of_decide_eq_true h4.symm
        refine ⟨a, by omega, ?_⟩
        exact num_ret 58 1 65536 (f : Int) (n : Int) s (a : Int) (by omega) (by omega) (by omega) hs (by rw [hc]; rfl)
      · rw [if_neg c1]
        have n1 : ¬(bt s (a : Int) = 58 ∧ (f : Int) < (a : Int)) := by
          rintro ⟨e, h⟩
          refine c1 ⟨(u8_eq _ _).2 (by rw [← hc, e]; rfl), ?_⟩
          rw [h4]; exact decide_eq_true (by omega)
        have hfa : st = false → a = f := fun e => by rw [e] at h4; have := of_decide_eq_false h4.symm; omega
        by_cases c2 : c < 48 ∨ 57 < c ∨ (st = true ∧ z = true)
        · rw [if_pos c2]
          refine ⟨a, by omega, num_bad _ _ _ _ _ _ _ (by omega) (by omega) (by omega) n1 ?_⟩
          rcases c2 with h | h | ⟨h, h'⟩
          · left; rw [hc]; exact (u8_lt _ _).1 h
          · right; left; rw [hc]; exact (u8_lt _ _).1 h
          · right; right; left
            have := h5 h
            rw [h'] at this
            refine ⟨?_, by simpa using this.symm⟩
            rw [h] at h4
            have := of_decide_eq_true h4.symm
            omega
        · rw [if_neg c2]
          have n2 : ¬(bt s (a : Int) < 48 ∨ 57 < bt s (a : Int) ∨ ((f : Int) < (a : Int) ∧ bt s (f : Int) = 48) ∨ ((a : Int) = (f : Int) ∧ bt s (a : Int) = 48 ∧ (1 : Int) < 0)) := by
            rintro (h | h | ⟨h, h'⟩ | ⟨h, h', h''⟩)
            · exact c2 (.inl ((u8_lt _ _).2 (by rw [← hc]; exact h)))
            · exact c2 (.inr (.inl ((u8_lt _ _).2 (by rw [← hc]; exact h))))
            · have e : st = true := by rw [h4]; exact decide_eq_true (by omega)
              exact c2 (.inr (.inr ⟨e, by rw [h5 e, h']; rfl⟩))
            · omega
          have d1 : 48 ≤ c.toNat ∧ c.toNat ≤ 57 := by rw [hc] at n2; omega
          have dx : (bt s (a : Int) - 48) % 256 = (c.toNat : Int) - 48 := by rw [hc]; omega
          have hz : (if st = true then z else c == 48) = (bt s (f : Int) == 48) := by
            cases st with
            | true => rw [if_pos rfl]; exact h5 rfl
            | false =>
              rw [if_neg (by decide)]
              have e := hfa rfl
              rw [← e, hc]
              rw [Bool.eq_iff_iff, beq_iff_eq, beq_iff_eq, u8_eq]
              rfl
          by_cases c3 : 65536 < 10 * n + (c.toNat - 48)
          · rw [if_pos c3]
            refine ⟨a, by omega, num_go _ _ _ _ _ _ _ (by omega) (by omega) (by omega) n1 n2 (Ev.step (f := fun k => P.benc_reader_number.j3 k 58 1 65536 (f : Int) (n : Int) ((c.toNat : Int) - 48) true s (a : Int) 0) (fun k => ?_) ?_)⟩
            · simp only [P.benc_reader_number.j2]
              rw [if_neg (by decide), if_pos (by decide), dx, w64 (n := 10 * (n : Int)) (by omega) (by omega), w64 (n := 10 * (n : Int) + ((c.toNat : Int) - 48)) (by omega) (by omega), decide_eq_true (by omega)]
            · refine Ev.step (f := fun k => P.benc_reader_number.l0 k 58 1 65536 (f : Int) (n : Int) s (a : Int) 23) (fun k => ?_) (num_fin _ _ _ _ _ s _ 23 (by decide))
              simp only [P.benc_reader_number.j3]
              rw [if_pos trivial]
              rfl
          · rw [if_neg c3]
            obtain ⟨b, hb, hev⟩ := ih (a + 1) (10 * n + (c.toNat - 48)) (if st = true then z else c == 48) true (by omega) (by omega) (by omega) (decide_eq_true (by omega)).symm (fun _ => hz) (by omega)
            obtain ⟨_, k2⟩ := num_j4 58 1 65536 (f : Int) (n : Int) ((c.toNat : Int) - 48) s (a : Int) (by omega) (by omega) (by omega) (by omega) (by omega) hs (.inl ⟨rfl, by omega⟩)
            refine ⟨b, hb, num_go _ _ _ _ _ _ _ (by omega) (by omega) (by omega) n1 n2 (Ev.step (f := fun k => P.benc_reader_number.j3 k 58 1 65536 (f : Int) (n : Int) ((c.toNat : Int) - 48) false s (a : Int) 0) (fun k => ?_) (k2 (by omega) _ ?_))⟩
            · simp only [P.benc_reader_number.j2]
              rw [if_neg (by decide), if_pos (by decide), dx, w64 (n := 10 * (n : Int)) (by omega) (by omega), w64 (n := 10 * (n : Int) + ((c.toNat : Int) - 48)) (by omega) (by omega), decide_eq_false (by omega)]
            · have e : 10 * (n : Int) + 1 * ((c.toNat : Int) - 48) = ((10 * n + (c.toNat - 48) : Nat) : Int) := by omega
              rw [e]
              refine Ev.to (Ev.congr (fun k => rfl) hev) ?_
              generalize lenL _ true _ _ = r
              rw [show a + 1 + r.2.2 = a + (r.2.2 + 1) by omega]
    · obtain rfl : a = s.size := by omega
      rw [List.drop_of_length_le (by rw [data_size]; omega), lenL]
      exact ⟨s.size, Nat.le_refl _, num_short _ _ _ _ _ _⟩
end Go.Proofs.YtcdfedbecgfanaaDoor.Giv
namespace Go.Proofs.YtcdfedbecgfanaaDoor.Giv
open Go.RowKit Go.Lib Go.Sort Go.Proofs.YtcdfedbecgfanaaDoorW.PrintWords Go.Proofs.YtcdfedbecgfanaaDoorW.PrintLast Go.Proofs.YtcdfedbecgfanaaDoorW.PrintMore
set_option linter.unusedVariables false
set_option linter.unusedSimpArgs false
def anyF (d : Kd V) : Kd V where
  sz := 1
  E := 20 :: d.E
  K := fun w x cs => (x = intV x.f1 ∧ cs = [.iface 3 (.int .i64 x.f1)]) ∨ (x = strV x.f2 ∧ cs = [.iface 9 (.string x.f2)]) ∨ (x = lisV x.f3 ∧ ∃ A c, cs = [.iface 69 (.slice A x.f3.length c)] ∧ x.f3.length ≤ c ∧ d.C w A x.f3.length x.f3) ∨ (x = zV ∧ ∃ c, cs = [c] ∧ c.oneCell' = true)
  M := fun w base ok x cs => (x = intV x.f1 ∧ cs = [.iface 3 (.int .i64 x.f1)]) ∨ (x = strV x.f2 ∧ cs = [.iface 9 (.string x.f2)]) ∨ (x = lisV x.f3 ∧ ∃ v, cs = [.iface 69 v] ∧ d.R 20 w base ok v x.f3) ∨ (x = zV ∧ ∃ c, cs = [c] ∧ c.oneCell' = true)
  K_len := by
    rintro w x cs (⟨_, rfl⟩ | ⟨_, rfl⟩ | ⟨_, A, c, rfl, _⟩ | ⟨_, c, rfl, _⟩) <;> rfl
  K_one := by
    rintro w x cs (⟨_, rfl⟩ | ⟨_, rfl⟩ | ⟨_, A, c, rfl, _⟩ | ⟨_, c, rfl, h⟩) u hu <;> rw [List.mem_singleton.1 hu]
    · rfl
    · rfl
    · rfl
    · exact h
  K_below := by
    rintro w w1 x cs hb (h | h | ⟨h, A, c, h2, h3, h4⟩ | h)
    · exact .inl h
    · exact .inr (.inl h)
    · exact .inr (.inr (.inl ⟨h, A, c, h2, h3, Kd.C_below h4 hb⟩))
    · exact .inr (.inr (.inr h))
  K_of_M := by
    rintro w base ok x cs (h | h | ⟨h, v, h2, h3⟩ | h)
    · exact .inl h
    · exact .inr (.inl h)
    · obtain ⟨A, c, rfl, hl, hr⟩ := Kd.R_reads h3
      exact .inr (.inr (.inl ⟨h, A, c, h2, hl, hr⟩))
    · exact .inr (.inr (.inr h))
  M_mono := by
    rintro w base ok ok' x cs hok (h | h | ⟨h, v, h2, h3⟩ | h)
    · exact .inl h
    · exact .inr (.inl h)
    · exact .inr (.inr (.inl ⟨h, v, h2, Kd.R_mono h3 hok⟩))
    · exact .inr (.inr (.inr h))
  M_bound := by
    rintro w base ok x cs (h | h | ⟨h, v, h2, h3⟩ | h)
    · exact .inl h
    · exact .inr (.inl h)
    · exact .inr (.inr (.inl ⟨h, v, h2, Kd.R_bound h3⟩))
    · exact .inr (.inr (.inr h))
  M_move := by
    rintro w w1 base ok x cs hm (h | h | ⟨h, v, h2, h3⟩ | h)
    · exact .inl h
    · exact .inr (.inl h)
    · exact .inr (.inr (.inl ⟨h, v, h2, Kd.R_move h3 hm⟩))
    · exact .inr (.inr (.inr h))
  M_lower := by
    rintro w base base' ok x cs hb (h | h | ⟨h, v, h2, h3⟩ | h)
    · exact .inl h
    · exact .inr (.inl h)
    · exact .inr (.inr (.inl ⟨h, v, h2, Kd.R_lower h3 hb⟩))
    · exact .inr (.inr (.inr h))
def anyK (d : Nat) : Kd V := Kd.upto anyF 1 [20] d
theorem anyK_sz : ∀ d, (anyK d).sz = 1
  | 0 => rfl
  | d + 1 => rfl
theorem any_int (d : Nat) (n : Int) (w : World) (base : Nat) (ok : Nat → Prop) : (anyK (d + 1)).M w base ok (intV n) [.iface 3 (.int .i64 n)] := .inl ⟨rfl, rfl⟩
theorem any_str (d : Nat) (s : ByteArray) (w : World) (base : Nat) (ok : Nat → Prop) : (anyK (d + 1)).M w base ok (strV s) [.iface 9 (.string s)] := .inr (.inl ⟨rfl, rfl⟩)
theorem any_lis (d : Nat) {l : List V} {v : Value} {w : World} {base : Nat} {ok : Nat → Prop} (h : (anyK d).R 20 w base ok v l) : (anyK (d + 1)).M w base ok (lisV l) [.iface 69 v] := .inr (.inr (.inl ⟨rfl, v, rfl, h⟩))
theorem any_z (d : Nat) {v : Value} (h : v.oneCell' = true) (w : World) (base : Nat) (ok : Nat → Prop) : (anyK (d + 1)).M w base ok zV [v] := .inr (.inr (.inr ⟨rfl, v, rfl, h⟩))
abbrev Rdr := P.IsS56
theorem Rdr.facts {w0 W : World} {g : Nat} {s : ByteArray} {a e : Int} (h : Rdr w0 W g s a e) : W.cell? ⟨g, 0, none⟩ = some (.string s) ∧ W.cell? ⟨g, 1, none⟩ = some (.int .i64 a) ∧ W.cell? ⟨g, 2, none⟩ = some (.int .i64 e) ∧ W.frozen? ⟨g, 0, none⟩ = false ∧ W.frozen? ⟨g, 1, none⟩ = false ∧ W.frozen? ⟨g, 2, none⟩ = false :=
  ⟨P.cellS56_0 h.1, P.cellS56_1 h.1, P.cellS56_2 h.1, blk_frozen h.1 0, blk_frozen h.1 1, blk_frozen h.1 2⟩
theorem next_end' (s : ByteArray) (e : Int) (h : e = 0 ∨ e = 21) : P.benc_reader_next.f s (s.size : Int) e = some (0, s, (s.size : Int), 21) := by
  unfold P.benc_reader_next.f P.benc_reader_fail.f
  rw [if_pos rfl]
  rcases h with rfl | rfl <;> rfl
theorem nxt_end {w0 w : World} {g : Nat} {s : ByteArray} (e : Int) (he : e = 0 ∨ e = 21) (hI : Rdr w0 w g s (s.size : Int) e) (hB : Below w0.heap.size w0 w) :
    Calls Tryd.prog 37 #[.pointer (some ⟨g, 0, none⟩)] w fun e w' => e = .returned (.int .u8 0) ∧ Rdr w0 w' g s (s.size : Int) 21 ∧ Below w0.heap.size w0 w' ∧ KeepBut w w' g none :=
  P.benc_reader_next.calls g s _ e 0 s _ 21 w0 w hI hB (next_end' s e he)
theorem nxt_at {w0 w : World} {g : Nat} {s : ByteArray} (a : Nat) (ha : a < s.size) (hI : Rdr w0 w g s (a : Int) 0) (hB : Below w0.heap.size w0 w) :
    Calls Tryd.prog 37 #[.pointer (some ⟨g, 0, none⟩)] w fun e w' => e = .returned (.int .u8 (bt s (a : Int))) ∧ Rdr w0 w' g s (a : Int) 0 ∧ Below w0.heap.size w0 w' ∧ KeepBut w w' g none :=
  P.benc_reader_next.calls g s _ 0 _ s _ 0 w0 w hI hB (next_at s (a : Int) (by omega) (by omega) 0)
theorem fail_calls {w0 w : World} {g : Nat} {s : ByteArray} {a : Int} (c : Int) (hI : Rdr w0 w g s a 0) (hB : Below w0.heap.size w0 w) :
    Calls Tryd.prog 39 #[.pointer (some ⟨g, 0, none⟩), .int .i64 c] w fun e w' => e = .returned (.tuple #[]) ∧ Rdr w0 w' g s a c ∧ Below w0.heap.size w0 w' ∧ KeepBut w w' g none :=
  P.benc_reader_fail.calls g s a 0 c s a c w0 w hI hB rfl
theorem num_calls (neg : Bool) {w0 w : World} {g : Nat} {s : ByteArray} (a : Nat) (ha : a ≤ s.size) (hs : s.size ≤ 140737488351232) (hI : Rdr w0 w g s (a : Int) 0) (hB : Below w0.heap.size w0 w) (R : Int × Int × Nat) (hR : numL neg false false 0 (s.data.toList.drop a) = R) (sg : Int) (hsg : sg = if neg = true then -1 else 1) :
    Calls Tryd.prog 38 #[.pointer (some ⟨g, 0, none⟩), .int .u8 101, .int .i64 sg, .int .i64 9223372036854775807] w fun e w' => ∃ n b : Int, e = .returned (.int .i64 n) ∧ Rdr w0 w' g s b R.1 ∧ Below w0.heap.size w0 w' ∧ KeepBut w w' g none ∧ Aside0 (R.1 = 0 → n = R.2.1 ∧ b = ((a + R.2.2 : Nat) : Int)) := by
  subst hsg
  obtain ⟨b, -, hev⟩ := num_ev neg s hs a (s.size - a) a 0 false false (Nat.le_refl _) (Nat.le_refl _) ha (decide_eq_false (Nat.lt_irrefl _)).symm (fun h => by cases h) (by decide) (by decide) (by cases neg <;> simp)
  rw [hR] at hev
  obtain ⟨k, hk⟩ := Ev.rounds hev
  by_cases c : R.1 = 0
  · rw [if_pos c] at hk
    refine (P.benc_reader_number.calls k g s (a : Int) 0 101 _ _ _ _ _ _ w0 w hI hB hk).mono ?_
    rintro e w' ⟨rfl, h1, h2, h3⟩
    rw [c]
    exact ⟨_, _, rfl, h1, h2, h3, ⟨fun _ => ⟨rfl, rfl⟩⟩⟩
  · rw [if_neg c] at hk
    refine (P.benc_reader_number.calls k g s (a : Int) 0 101 _ _ _ _ _ _ w0 w hI hB hk).mono ?_
    rintro e w' ⟨rfl, h1, h2, h3⟩
    exact ⟨_, _, rfl, h1, h2, h3, ⟨fun h => absurd h c⟩⟩
theorem leng_calls {w0 w : World} {g : Nat} {s : ByteArray} (a : Nat) (ha : a ≤ s.size) (hs : s.size ≤ 140737488351232) (hI : Rdr w0 w g s (a : Int) 0) (hB : Below w0.heap.size w0 w) (R : Int × Nat × Nat) (hR : lenL false false 0 (s.data.toList.drop a) = R) :
    Calls Tryd.prog 38 #[.pointer (some ⟨g, 0, none⟩), .int .u8 58, .int .i64 1, .int .i64 65536] w fun e w' => ∃ n b : Int, e = .returned (.int .i64 n) ∧ Rdr w0 w' g s b R.1 ∧ Below w0.heap.size w0 w' ∧ KeepBut w w' g none ∧ Aside0 (R.1 = 0 → n = (R.2.1 : Int) ∧ b = ((a + R.2.2 : Nat) : Int)) := by
  obtain ⟨b, -, hev⟩ := len_ev s hs a (s.size - a) a 0 false false (Nat.le_refl _) (Nat.le_refl _) ha (decide_eq_false (Nat.lt_irrefl _)).symm (fun h => by cases h) (by decide)
  rw [hR] at hev
  obtain ⟨k, hk⟩ := Ev.rounds hev
  by_cases c : R.1 = 0
  · rw [if_pos c] at hk
    refine (P.benc_reader_number.calls k g s (a : Int) 0 58 _ _ _ _ _ _ w0 w hI hB hk).mono ?_
    rintro e w' ⟨rfl, h1, h2, h3⟩
    rw [c]
    exact ⟨_, _, rfl, h1, h2, h3, ⟨fun _ => ⟨rfl, rfl⟩⟩⟩
  · rw [if_neg c] at hk
    refine (P.benc_reader_number.calls k g s (a : Int) 0 58 _ _ _ _ _ _ w0 w hI hB hk).mono ?_
    rintro e w' ⟨rfl, h1, h2, h3⟩
    exact ⟨_, _, rfl, h1, h2, h3, ⟨fun h => absurd h c⟩⟩
end Go.Proofs.YtcdfedbecgfanaaDoor.Giv
namespace Go.Proofs.YtcdfedbecgfanaaDoor.Giv
open Go.RowKit Go.Lib Go.Sort Go.Proofs.YtcdfedbecgfanaaDoorW.PrintWords Go.Proofs.YtcdfedbecgfanaaDoorW.PrintLast Go.Proofs.YtcdfedbecgfanaaDoorW.PrintMore
set_option linter.unusedVariables false
set_option linter.unusedSimpArgs false
def VPost (s : ByteArray) (g : Nat) (n : Nat) (R : Int × V × Nat) (a : Nat) (w0 w : World) (e : Ending) (w' : World) : Prop :=
  ∃ (v : Value) (b : Int), e = .returned v ∧ Rdr w0 w' g s (if R.1 = 0 then ((a + R.2.2 : Nat) : Int) else b) R.1 ∧ Below w0.heap.size w0 w' ∧ KeepBut w w' g none ∧ (anyK n).M w' w.heap.size (fun _ => True) R.2.1 [v] ∧ (v = .nilIface ∨ ∃ t u, v = .iface t u)
theorem valL_nil (d : Nat) : valL d [] = (21, zV, 0) := by cases d <;> rfl
theorem valL_cons (d : Nat) (c : UInt8) (t : List UInt8) : valL d (c :: t) = if c = 105 then (if (intL t).1 = 0 then (0, intV (intL t).2.1, (intL t).2.2 + 1) else ((intL t).1, zV, 0))
    else if 48 ≤ c ∧ c ≤ 57 then
      (if (lenL false false 0 (c :: t)).1 = 0 then
        (if (c :: t).length < (lenL false false 0 (c :: t)).2.2 + (lenL false false 0 (c :: t)).2.1 then (21, zV, 0)
         else (0, strV ⟨(((c :: t).drop (lenL false false 0 (c :: t)).2.2).take (lenL false false 0 (c :: t)).2.1).toArray⟩, (lenL false false 0 (c :: t)).2.2 + (lenL false false 0 (c :: t)).2.1))
       else ((lenL false false 0 (c :: t)).1, zV, 0))
    else if c ≠ 108 then (20, zV, 0)
    else match d with
      | 0 => (22, zV, 0)
      | d + 1 => if (listL (valL d) t.length t).1 = 0 then (0, lisV (listL (valL d) t.length t).2.1, (listL (valL d) t.length t).2.2 + 1) else ((listL (valL d) t.length t).1, zV, 0) := by
  cases d <;> rw [valL]
set_option maxHeartbeats 4000000 in
set_option maxRecDepth 100000 in
theorem value_end (d : Nat) (i : Int) (er : Int) (he : er = 0 ∨ er = 21) {w0 w : World} {g : Nat} {s : ByteArray} (hI : Rdr w0 w g s (s.size : Int) er) (hB : Below w0.heap.size w0 w) :
    Calls Tryd.prog 31 #[.pointer (some ⟨g, 0, none⟩), .int .i64 i] w (VPost s g (d + 1) (21, zV, 0) s.size w0 w) := by
  have HN := Aside0.mk (nxt_end er he hI hB)
  clear hI hB
  go_enter Tryd.func31, Tryd.ntmps31
  go_wp2_with fail
  refine HN.out.mono ?_
  rintro e w1 ⟨rfl, h1, h2, h3⟩
  obtain ⟨x0, x1, x2, y0, y1, y2⟩ := h1.facts
  have H1 := Aside0.mk h1
  have H2 := Aside0.mk h2
  have H3 := Aside0.mk h3
  clear h1 h2 h3
  go_wp2
  go_returns
  exact ⟨_, (s.size : Int), rfl, H1.out, H2.out, H3.out, any_z d rfl _ _ _, .inl rfl⟩
theorem set_below {w0 w : World} {g : Nat} (h : Below w0.heap.size w0 w) (hg : w0.heap.size ≤ g) (j : Nat) (u : Value) : Below w0.heap.size w0 (w.setCell ⟨g, j, none⟩ u) := h.setCell (p := ⟨g, j, none⟩) hg u
theorem keep_trans {w w1 w2 : World} {g : Nat} (h : KeepBut w w1 g none) (k : KeepBut w1 w2 g none) : KeepBut w w2 g none := h.trans k (.inl rfl)
theorem bt_nat (s : ByteArray) (a : Nat) (i : Int) (hi : i = (a : Int)) : ∀ h : a < s.size, ((s[a]'h).toNat : Int) = bt s i := fun h => by
  subst hi
  have := bt_at s (a : Int) (by simpa using h)
  simpa using this
theorem vpost_int {s : ByteArray} {g d a : Nat} {w0 w w' : World} {R : Int × Int × Nat} {RR : Int × V × Nat} {n b : Int} {k : Nat} (hRR : (if R.1 = 0 then (0, intV R.2.1, R.2.2 + k) else (R.1, zV, 0)) = RR) (h1 : Rdr w0 w' g s b R.1) (h2 : Below w0.heap.size w0 w') (h3 : KeepBut w w' g none) (h4 : R.1 = 0 → n = R.2.1 ∧ b = ((a + k + R.2.2 : Nat) : Int)) :
    VPost s g (d + 1) RR a w0 w (.returned (.iface 3 (.int .i64 n))) w' := by
  subst hRR
  by_cases c : R.1 = 0
  · obtain ⟨rfl, rfl⟩ := h4 c
    rw [if_pos c]
    refine ⟨_, 0, rfl, ?_, h2, h3, any_int d _ _ _ _, .inr ⟨_, _, rfl⟩⟩
    rw [c] at h1
    rw [if_pos rfl]
    show Rdr w0 w' g s ((a + (R.2.2 + k) : Nat) : Int) 0
    rw [show a + (R.2.2 + k) = a + k + R.2.2 by omega]
    exact h1
  · rw [if_neg c]
    refine ⟨_, b, rfl, ?_, h2, h3, any_z d rfl _ _ _, .inr ⟨_, _, rfl⟩⟩
    rw [if_neg c]
    exact h1
set_option maxHeartbeats 4000000 in
set_option maxRecDepth 100000 in
theorem value_neg (d : Nat) (i : Int) {w0 w : World} {g : Nat} {s : ByteArray} (hs : s.size ≤ 140737488351232) (a : Nat) (hc : bt s (a : Int) = 105) (h2 : a + 1 < s.size) (hm : bt s ((a : Int) + 1) = 45) (hI : Rdr w0 w g s (a : Int) 0) (hB : Below w0.heap.size w0 w)
    (R : Int × Int × Nat) (hR : numL true false false 0 (s.data.toList.drop (a + 2)) = R) (RR : Int × V × Nat) (hRR : (if R.1 = 0 then (0, intV R.2.1, R.2.2 + 2) else (R.1, zV, 0)) = RR) :
    Calls Tryd.prog 31 #[.pointer (some ⟨g, 0, none⟩), .int .i64 i] w (VPost s g (d + 1) RR a w0 w) := by
  have HN := Aside0.mk (nxt_at a (by omega) hI hB)
  have HM := Aside0.mk (fun (W : World) h1 h2 => num_calls true (w0 := w0) (w := W) (g := g) (a + 2) (by omega) hs h1 h2 R hR (-1) rfl)
  have HR := Aside0.mk hRR
  have q1 : (a : Int) + 1 < (s.size : Int) := by omega
  have q0 : (a : Int) ≤ 140737488351232 := by omega
  have q2 : decide ((a : Int) + 1 < (s.size : Int)) = true := decide_eq_true q1
  have q3 : (bt s ((a : Int) + 1) == 45) = true := beq_iff_eq.2 hm
  have q4 := bt_nat s (a + 1) ((a : Int) + 1) rfl
  have q5 := eq_true (show 0 ≤ (a : Int) + 1 by omega)
  have q6 := eq_true q1
  have hcc := Aside0.mk hc
  have hlg := hI.ge
  clear hI hB hR hm hRR hc
  go_enter Tryd.func31, Tryd.ntmps31
  go_wp2_with fail
  refine HN.out.mono ?_
  rw [hcc.out]
  rintro e w1 ⟨rfl, h1, h2, h3⟩
  obtain ⟨x0, x1, x2, y0, y1, y2⟩ := h1.facts
  have H1 := Aside0.mk h1
  have H2 := Aside0.mk h2
  have H3 := Aside0.mk h3
  clear h1 h2 h3
  go_wp2_with fail
  go_quiet (fail)
  go_wp2_with fail
  refine (HM.out _ (((H1.out.set_1 ((a : Int) + 1)).drewN nq).set_1 ((a : Int) + 1 + 1)) (set_below (pw_below_drewN (set_below H2.out hlg 1 (.int .i64 ((a : Int) + 1))) nq) hlg 1 (.int .i64 ((a : Int) + 1 + 1)))).mono ?_
  rintro e w2 ⟨n, b, rfl, h1, h2, h3, h4⟩
  have K1 := Aside0.mk h1
  have K2 := Aside0.mk h2
  have K3 := Aside0.mk (keep_trans ((keep_drewN (H3.out.set_ 1 (.int .i64 ((a : Int) + 1))) nq).set_ 1 (.int .i64 ((a : Int) + 1 + 1))) h3)
  clear h1 h2 h3
  go_wp2
  go_returns
  exact vpost_int (a := a) (k := 2) HR.out K1.out K2.out K3.out h4.out
set_option maxHeartbeats 4000000 in
set_option maxRecDepth 100000 in
theorem value_pos (d : Nat) (i : Int) {w0 w : World} {g : Nat} {s : ByteArray} (hs : s.size ≤ 140737488351232) (a : Nat) (hc : bt s (a : Int) = 105) (h2 : a + 1 < s.size) (hm : bt s ((a : Int) + 1) ≠ 45) (hI : Rdr w0 w g s (a : Int) 0) (hB : Below w0.heap.size w0 w)
    (R : Int × Int × Nat) (hR : numL false false false 0 (s.data.toList.drop (a + 1)) = R) (RR : Int × V × Nat) (hRR : (if R.1 = 0 then (0, intV R.2.1, R.2.2 + 1) else (R.1, zV, 0)) = RR) :
    Calls Tryd.prog 31 #[.pointer (some ⟨g, 0, none⟩), .int .i64 i] w (VPost s g (d + 1) RR a w0 w) := by
  have HN := Aside0.mk (nxt_at a (by omega) hI hB)
  have HM := Aside0.mk (fun (W : World) h1 h2 => num_calls false (w0 := w0) (w := W) (g := g) (a + 1) (by omega) hs h1 h2 R hR 1 rfl)
  have HR := Aside0.mk hRR
  have q1 : (a : Int) + 1 < (s.size : Int) := by omega
  have q0 : (a : Int) ≤ 140737488351232 := by omega
  have q2 : decide ((a : Int) + 1 < (s.size : Int)) = true := decide_eq_true q1
  have q3 : (bt s ((a : Int) + 1) == 45) = false := beq_eq_false_iff_ne.2 hm
  have q4 := bt_nat s (a + 1) ((a : Int) + 1) rfl
  have q5 := eq_true (show 0 ≤ (a : Int) + 1 by omega)
  have q6 := eq_true q1
  have hcc := Aside0.mk hc
  have hlg := hI.ge
  clear hI hB hR hm hRR hc
  go_enter Tryd.func31, Tryd.ntmps31
  go_wp2_with fail
  refine HN.out.mono ?_
  rw [hcc.out]
  rintro e w1 ⟨rfl, h1, h2, h3⟩
  obtain ⟨x0, x1, x2, y0, y1, y2⟩ := h1.facts
  have H1 := Aside0.mk h1
  have H2 := Aside0.mk h2
  have H3 := Aside0.mk h3
  clear h1 h2 h3
  go_wp2_with fail
  go_quiet (fail)
  go_wp2_with fail
  refine (HM.out _ ((H1.out.set_1 ((a : Int) + 1)).drewN nq) (pw_below_drewN (set_below H2.out hlg 1 (.int .i64 ((a : Int) + 1))) nq)).mono ?_
  rintro e w2 ⟨n, b, rfl, h1, h2, h3, h4⟩
  have K1 := Aside0.mk h1
  have K2 := Aside0.mk h2
  have K3 := Aside0.mk (keep_trans (keep_drewN (H3.out.set_ 1 (.int .i64 ((a : Int) + 1))) nq) h3)
  clear h1 h2 h3
  go_wp2
  go_returns
  exact vpost_int (a := a) (k := 1) HR.out K1.out K2.out K3.out h4.out
set_option maxHeartbeats 4000000 in
set_option maxRecDepth 100000 in
theorem value_one (d : Nat) (i : Int) {w0 w : World} {g : Nat} {s : ByteArray} (hs : s.size ≤ 140737488351232) (a : Nat) (hc : bt s (a : Int) = 105) (h2 : a + 1 = s.size) (hI : Rdr w0 w g s (a : Int) 0) (hB : Below w0.heap.size w0 w)
    (R : Int × Int × Nat) (hR : numL false false false 0 (s.data.toList.drop (a + 1)) = R) (RR : Int × V × Nat) (hRR : (if R.1 = 0 then (0, intV R.2.1, R.2.2 + 1) else (R.1, zV, 0)) = RR) :
    Calls Tryd.prog 31 #[.pointer (some ⟨g, 0, none⟩), .int .i64 i] w (VPost s g (d + 1) RR a w0 w) := by
  have HN := Aside0.mk (nxt_at a (by omega) hI hB)
  have HM := Aside0.mk (fun (W : World) h1 h2 => num_calls false (w0 := w0) (w := W) (g := g) (a + 1) (by omega) hs h1 h2 R hR 1 rfl)
  have HR := Aside0.mk hRR
  have q1 : (a : Int) + 1 = (s.size : Int) := by omega
  have q0 : (a : Int) ≤ 140737488351232 := by omega
  have q2 : decide ((a : Int) + 1 < (s.size : Int)) = false := decide_eq_false (by omega)
  have hcc := Aside0.mk hc
  have hlg := hI.ge
  clear hI hB hR hRR hc q1
  go_enter Tryd.func31, Tryd.ntmps31
  go_wp2_with fail
  refine HN.out.mono ?_
  rw [hcc.out]
  rintro e w1 ⟨rfl, h1, h2, h3⟩
  obtain ⟨x0, x1, x2, y0, y1, y2⟩ := h1.facts
  have H1 := Aside0.mk h1
  have H2 := Aside0.mk h2
  have H3 := Aside0.mk h3
  clear h1 h2 h3
  go_wp2_with fail
  go_quiet (fail)
  go_wp2_with fail
  refine (HM.out _ ((H1.out.set_1 ((a : Int) + 1)).drewN nq) (pw_below_drewN (set_below H2.out hlg 1 (.int .i64 ((a : Int) + 1))) nq)).mono ?_
  rintro e w2 ⟨n, b, rfl, h1, h2, h3, h4⟩
  have K1 := Aside0.mk h1
  have K2 := Aside0.mk h2
  have K3 := Aside0.mk (keep_trans (keep_drewN (H3.out.set_ 1 (.int .i64 ((a : Int) + 1))) nq) h3)
  clear h1 h2 h3
  go_wp2
  go_returns
  exact vpost_int (a := a) (k := 1) HR.out K1.out K2.out K3.out h4.out
end Go.Proofs.YtcdfedbecgfanaaDoor.Giv
namespace Go.Proofs.YtcdfedbecgfanaaDoor.Giv
open Go.RowKit Go.Lib Go.Sort Go.Proofs.YtcdfedbecgfanaaDoorW.PrintWords Go.Proofs.YtcdfedbecgfanaaDoorW.PrintLast Go.Proofs.YtcdfedbecgfanaaDoorW.PrintMore
set_option linter.unusedVariables false
set_option linter.unusedSimpArgs false
set_option maxHeartbeats 4000000 in
set_option maxRecDepth 100000 in
theorem value_len (d : Nat) (i : Int) {w0 w : World} {g : Nat} {s : ByteArray} (hs : s.size ≤ 140737488351232) (a : Nat) (ha : a < s.size) (hc : 48 ≤ bt s (a : Int) ∧ bt s (a : Int) ≤ 57) (hI : Rdr w0 w g s (a : Int) 0) (hB : Below w0.heap.size w0 w)
    (R : Int × Nat × Nat) (hR : lenL false false 0 (s.data.toList.drop a) = R) (hz : R.1 ≠ 0) :
    Calls Tryd.prog 31 #[.pointer (some ⟨g, 0, none⟩), .int .i64 i] w (VPost s g (d + 1) (R.1, zV, 0) a w0 w) := by
  have HN := Aside0.mk (nxt_at a ha hI hB)
  have HM := Aside0.mk (fun (W : World) h1 h2 => leng_calls (w0 := w0) (w := W) (g := g) a (by omega) hs h1 h2 R hR)
  have hlg := hI.ge
  obtain ⟨c1, c2⟩ := hc
  have c3 : (bt s (a : Int) == 105) = false := beq_eq_false_iff_ne.2 (by omega)
  have c4 : decide (48 ≤ bt s (a : Int)) = true := decide_eq_true c1
  have c5 : decide (bt s (a : Int) ≤ 57) = true := decide_eq_true c2
  have z1 : (R.1 == 0) = false := beq_eq_false_iff_ne.2 hz
  have HZ := Aside0.mk hz
  generalize bt s (a : Int) = c at *
  generalize hr1 : R.1 = r1 at *
  have HR1 := Aside0.mk hr1
  clear hI hB hR hz hr1
  go_enter Tryd.func31, Tryd.ntmps31
  go_wp2_with fail
  refine HN.out.mono ?_
  rintro e w1 ⟨rfl, h1, h2, h3⟩
  obtain ⟨x0, x1, x2, y0, y1, y2⟩ := h1.facts
  have H1 := Aside0.mk h1
  have H2 := Aside0.mk h2
  have H3 := Aside0.mk h3
  clear h1 h2 h3
  go_wp2_with fail
  refine (HM.out _ H1.out H2.out).mono ?_
  rintro e w2 ⟨n, b, rfl, h1, h2, h3, h4⟩
  clear x0 x1 x2 y0 y1 y2
  obtain ⟨x0, x1, x2, y0, y1, y2⟩ := h1.facts
  have K1 := Aside0.mk h1
  have K2 := Aside0.mk h2
  have K3 := Aside0.mk (keep_trans H3.out h3)
  clear h1 h2 h3
  go_wp2_with fail
  go_quiet (fail)
  go_wp2
  go_returns
  refine ⟨_, b, rfl, ?_, pw_below_drewN K2.out nq, keep_drewN K3.out nq, any_z d rfl _ _ _, .inl rfl⟩
  rw [if_neg HZ.out]
  exact K1.out.drewN nq
set_option maxHeartbeats 4000000 in
set_option maxRecDepth 100000 in
theorem value_cut (d : Nat) (i : Int) {w0 w : World} {g : Nat} {s : ByteArray} (hs : s.size ≤ 140737488351232) (a : Nat) (ha : a < s.size) (hc : 48 ≤ bt s (a : Int) ∧ bt s (a : Int) ≤ 57) (hI : Rdr w0 w g s (a : Int) 0) (hB : Below w0.heap.size w0 w)
    (R : Int × Nat × Nat) (hR : lenL false false 0 (s.data.toList.drop a) = R) (hz : R.1 = 0) (hu : a + R.2.2 ≤ s.size) (hn : R.2.1 ≤ 65536) (hcut : s.size < a + R.2.2 + R.2.1) :
    Calls Tryd.prog 31 #[.pointer (some ⟨g, 0, none⟩), .int .i64 i] w (VPost s g (d + 1) (21, zV, 0) a w0 w) := by
  have HN := Aside0.mk (nxt_at a ha hI hB)
  have HM := Aside0.mk (fun (W : World) h1 h2 => leng_calls (w0 := w0) (w := W) (g := g) a (by omega) hs h1 h2 R hR)
  have hlg := hI.ge
  obtain ⟨c1, c2⟩ := hc
  have c3 : (bt s (a : Int) == 105) = false := beq_eq_false_iff_ne.2 (by omega)
  have c4 : decide (48 ≤ bt s (a : Int)) = true := decide_eq_true c1
  have c5 : decide (bt s (a : Int) ≤ 57) = true := decide_eq_true c2
  have HZ := Aside0.mk hz
  generalize bt s (a : Int) = c at *
  obtain ⟨r1, n, u⟩ := R
  simp only at hu hn hcut hz HZ HM
  subst hz
  have q1 : (a : Int) + (u : Int) ≤ (s.size : Int) := by omega
  have q2 : (s.size : Int) - (((a + u : Nat) : Int)) < (n : Int) := by omega
  have q3 : decide ((s.size : Int) - (((a + u : Nat) : Int)) < (n : Int)) = true := decide_eq_true q2
  have q4 : (n : Int) ≤ 65536 := by omega
  have q5 : ((a + u : Nat) : Int) ≤ 140737488351232 := by omega
  have q6 : (s.size : Int) ≤ 140737488351232 := by omega
  generalize hau : a + u = v at *
  clear hI hB hR
  go_enter Tryd.func31, Tryd.ntmps31
  go_wp2_with fail
  refine HN.out.mono ?_
  rintro e w1 ⟨rfl, h1, h2, h3⟩
  obtain ⟨x0, x1, x2, y0, y1, y2⟩ := h1.facts
  have H1 := Aside0.mk h1
  have H2 := Aside0.mk h2
  have H3 := Aside0.mk h3
  clear h1 h2 h3
  go_wp2_with fail
  refine (HM.out _ H1.out H2.out).mono ?_
  rintro e w2 ⟨n', b, rfl, h1, h2, h3, h4⟩
  obtain ⟨rfl, rfl⟩ := h4.out (by trivial)
  clear x0 x1 x2 y0 y1 y2 h4
  obtain ⟨x0, x1, x2, y0, y1, y2⟩ := h1.facts
  have K1 := Aside0.mk h1
  have K2 := Aside0.mk h2
  have K3 := Aside0.mk (keep_trans H3.out h3)
  clear h1 h2 h3
  go_wp2_with fail
  go_quiet (fail)
  go_wp2_with fail
  refine (fail_calls 21 (K1.out.drewN nq) (pw_below_drewN K2.out nq)).mono ?_
  rintro e w3 ⟨rfl, h1, h2, h3⟩
  clear x0 x1 x2 y0 y1 y2
  obtain ⟨x0, x1, x2, y0, y1, y2⟩ := h1.facts
  have J1 := Aside0.mk h1
  have J2 := Aside0.mk h2
  have J3 := Aside0.mk (keep_trans (keep_drewN K3.out nq) h3)
  clear h1 h2 h3
  go_wp2
  go_returns
  exact ⟨_, (v : Int), rfl, J1.out, J2.out, J3.out, any_z d rfl _ _ _, .inl rfl⟩
set_option maxHeartbeats 4000000 in
set_option maxRecDepth 100000 in
theorem value_str (d : Nat) (i : Int) {w0 w : World} {g : Nat} {s : ByteArray} (hs : s.size ≤ 140737488351232) (a : Nat) (ha : a < s.size) (hc : 48 ≤ bt s (a : Int) ∧ bt s (a : Int) ≤ 57) (hI : Rdr w0 w g s (a : Int) 0) (hB : Below w0.heap.size w0 w)
    (R : Int × Nat × Nat) (hR : lenL false false 0 (s.data.toList.drop a) = R) (hz : R.1 = 0) (hu : a + R.2.2 ≤ s.size) (hn : R.2.1 ≤ 65536) (hcut : a + R.2.2 + R.2.1 ≤ s.size) :
    Calls Tryd.prog 31 #[.pointer (some ⟨g, 0, none⟩), .int .i64 i] w (VPost s g (d + 1) (0, strV (s.extract (a + R.2.2) (a + R.2.2 + R.2.1)), R.2.2 + R.2.1) a w0 w) := by
  have HN := Aside0.mk (nxt_at a ha hI hB)
  have HM := Aside0.mk (fun (W : World) h1 h2 => leng_calls (w0 := w0) (w := W) (g := g) a (by omega) hs h1 h2 R hR)
  have hlg := hI.ge
  obtain ⟨c1, c2⟩ := hc
  have c3 : (bt s (a : Int) == 105) = false := beq_eq_false_iff_ne.2 (by omega)
  have c4 : decide (48 ≤ bt s (a : Int)) = true := decide_eq_true c1
  have c5 : decide (bt s (a : Int) ≤ 57) = true := decide_eq_true c2
  have HZ := Aside0.mk hz
  generalize bt s (a : Int) = c at *
  obtain ⟨r1, n, u⟩ := R
  simp only at hu hn hcut hz HZ HM ⊢
  subst hz
  have hau' := Aside0.mk (show ∀ v, a + u = v → ((v : Int) + (n : Int) = ((a + (u + n) : Nat) : Int)) from fun v h => by omega)
  generalize hau : a + u = v at *
  have HAU := Aside0.mk (hau'.out v rfl)
  have q2 : ¬ (s.size : Int) - (v : Int) < (n : Int) := by omega
  have q3 : decide ((s.size : Int) - (v : Int) < (n : Int)) = false := decide_eq_false q2
  have q4 : (n : Int) ≤ 65536 := by omega
  have q5 : (v : Int) ≤ 140737488351232 := by omega
  have q6 : (s.size : Int) ≤ 140737488351232 := by omega
  have q7 : (v : Int) + (n : Int) ≤ (s.size : Int) := by omega
  have q8 : (0 : Int) ≤ (v : Int) + (n : Int) := by omega
  have q9 : (v : Int) ≤ (v : Int) + (n : Int) := by omega
  clear hI hB hR hau hau'
  go_enter Tryd.func31, Tryd.ntmps31
  go_wp2_with fail
  refine HN.out.mono ?_
  rintro e w1 ⟨rfl, h1, h2, h3⟩
  obtain ⟨x0, x1, x2, y0, y1, y2⟩ := h1.facts
  have H1 := Aside0.mk h1
  have H2 := Aside0.mk h2
  have H3 := Aside0.mk h3
  clear h1 h2 h3
  go_wp2_with fail
  refine (HM.out _ H1.out H2.out).mono ?_
  rintro e w2 ⟨n', b, rfl, h1, h2, h3, h4⟩
  obtain ⟨rfl, rfl⟩ := h4.out (by trivial)
  clear x0 x1 x2 y0 y1 y2 h4
  obtain ⟨x0, x1, x2, y0, y1, y2⟩ := h1.facts
  have K1 := Aside0.mk h1
  have K2 := Aside0.mk h2
  have K3 := Aside0.mk (keep_trans H3.out h3)
  clear h1 h2 h3
  go_wp2_with fail
  go_quiet (fail)
  obtain ⟨nq1, hnq1⟩ : ∃ x, x = nq := ⟨_, rfl⟩
  subst hnq1
  go_wp2_with fail
  go_quiet (fail)
  go_wp2
  go_returns
  have K4 := Aside0.mk ((K1.out.drewN nq1).set_1 ((v : Int) + (n : Int)))
  refine ⟨_, 0, rfl, ?_, pw_below_drewN (set_below (pw_below_drewN K2.out nq1) hlg 1 _) nq, keep_drewN ((keep_drewN K3.out nq1).set_ 1 _) nq, any_str d _ _ _ _, .inr ⟨_, _, rfl⟩⟩
  rw [if_pos rfl, ← HAU.out]
  exact K4.out.drewN nq
set_option maxHeartbeats 4000000 in
set_option maxRecDepth 100000 in
theorem value_bad (d : Nat) (i : Int) {w0 w : World} {g : Nat} {s : ByteArray} (a : Nat) (ha : a < s.size) (hc : bt s (a : Int) ≠ 105) (hc2 : ¬(48 ≤ bt s (a : Int) ∧ bt s (a : Int) ≤ 57)) (hc3 : bt s (a : Int) ≠ 108) (hI : Rdr w0 w g s (a : Int) 0) (hB : Below w0.heap.size w0 w) :
    Calls Tryd.prog 31 #[.pointer (some ⟨g, 0, none⟩), .int .i64 i] w (VPost s g (d + 1) (20, zV, 0) a w0 w) := by
  have HN := Aside0.mk (nxt_at a ha hI hB)
  have c3 : (bt s (a : Int) == 105) = false := beq_eq_false_iff_ne.2 hc
  have c6 : (bt s (a : Int) != 108) = true := bne_iff_ne.2 hc3
  generalize bt s (a : Int) = c at *
  clear hI hB
  by_cases c1 : 48 ≤ c
  · have c4 : decide (48 ≤ c) = true := decide_eq_true c1
    have c5 : decide (c ≤ 57) = false := decide_eq_false (by omega)
    clear hc hc2 hc3 c1
    go_enter Tryd.func31, Tryd.ntmps31
    go_wp2_with fail
    refine HN.out.mono ?_
    rintro e w1 ⟨rfl, h1, h2, h3⟩
    obtain ⟨x0, x1, x2, y0, y1, y2⟩ := h1.facts
    have H1 := Aside0.mk h1
    have H2 := Aside0.mk h2
    have H3 := Aside0.mk h3
    clear h1 h2 h3
    go_wp2_with fail
    refine (fail_calls 20 H1.out H2.out).mono ?_
    rintro e w2 ⟨rfl, h1, h2, h3⟩
    have K1 := Aside0.mk h1
    have K2 := Aside0.mk h2
    have K3 := Aside0.mk (keep_trans H3.out h3)
    clear h1 h2 h3
    go_wp2
    go_returns
    exact ⟨_, _, rfl, K1.out, K2.out, K3.out, any_z d rfl _ _ _, .inl rfl⟩
  · have c4 : decide (48 ≤ c) = false := decide_eq_false c1
    clear hc hc2 hc3 c1
    go_enter Tryd.func31, Tryd.ntmps31
    go_wp2_with fail
    refine HN.out.mono ?_
    rintro e w1 ⟨rfl, h1, h2, h3⟩
    obtain ⟨x0, x1, x2, y0, y1, y2⟩ := h1.facts
    have H1 := Aside0.mk h1
    have H2 := Aside0.mk h2
    have H3 := Aside0.mk h3
    clear h1 h2 h3
    go_wp2_with fail
    refine (fail_calls 20 H1.out H2.out).mono ?_
    rintro e w2 ⟨rfl, h1, h2, h3⟩
    have K1 := Aside0.mk h1
    have K2 := Aside0.mk h2
    have K3 := Aside0.mk (keep_trans H3.out h3)
    clear h1 h2 h3
    go_wp2
    go_returns
    exact ⟨_, _, rfl, K1.out, K2.out, K3.out, any_z d rfl _ _ _, .inl rfl⟩
set_option maxHeartbeats 4000000 in
set_option maxRecDepth 100000 in
theorem value_deep (d : Nat) (i : Int) (hi : 8 ≤ i) {w0 w : World} {g : Nat} {s : ByteArray} (a : Nat) (ha : a < s.size) (hc : bt s (a : Int) = 108) (hI : Rdr w0 w g s (a : Int) 0) (hB : Below w0.heap.size w0 w) :
    Calls Tryd.prog 31 #[.pointer (some ⟨g, 0, none⟩), .int .i64 i] w (VPost s g (d + 1) (22, zV, 0) a w0 w) := by
  have HN := Aside0.mk (nxt_at a ha hI hB)
  have c3 : decide (8 ≤ i) = true := decide_eq_true hi
  have hcc := Aside0.mk hc
  clear hI hB hc hi
  go_enter Tryd.func31, Tryd.ntmps31
  go_wp2_with fail
  refine HN.out.mono ?_
  rw [hcc.out]
  rintro e w1 ⟨rfl, h1, h2, h3⟩
  obtain ⟨x0, x1, x2, y0, y1, y2⟩ := h1.facts
  have H1 := Aside0.mk h1
  have H2 := Aside0.mk h2
  have H3 := Aside0.mk h3
  clear h1 h2 h3
  go_wp2_with fail
  refine (fail_calls 22 H1.out H2.out).mono ?_
  rintro e w2 ⟨rfl, h1, h2, h3⟩
  have K1 := Aside0.mk h1
  have K2 := Aside0.mk h2
  have K3 := Aside0.mk (keep_trans H3.out h3)
  clear h1 h2 h3
  go_wp2
  go_returns
  exact ⟨_, _, rfl, K1.out, K2.out, K3.out, any_z d rfl _ _ _, .inl rfl⟩
end Go.Proofs.YtcdfedbecgfanaaDoor.Giv
namespace Go.Proofs.YtcdfedbecgfanaaDoor.Giv
open Go.RowKit Go.Lib Go.Sort Go.Proofs.YtcdfedbecgfanaaDoorW.PrintWords Go.Proofs.YtcdfedbecgfanaaDoorW.PrintLast Go.Proofs.YtcdfedbecgfanaaDoorW.PrintMore
set_option linter.unusedVariables false
set_option linter.unusedSimpArgs false
def LInv (d : Nat) (s : ByteArray) (a a' : Nat) (xs : List V) (LR : Int × List V × Nat) : Prop :=
  a + 1 ≤ a' ∧ a' ≤ s.size ∧ xs.length + (a + 1) ≤ a' ∧ ∃ k, s.size - a' ≤ k ∧ ((listL (valL d) k (s.data.toList.drop a')).1 = 0 → LR = (0, xs ++ (listL (valL d) k (s.data.toList.drop a')).2.1, (a' - (a + 1)) + (listL (valL d) k (s.data.toList.drop a')).2.2)) ∧ ((listL (valL d) k (s.data.toList.drop a')).1 ≠ 0 → LR.1 = (listL (valL d) k (s.data.toList.drop a')).1)
theorem drop_length (s : ByteArray) (a : Nat) : (s.data.toList.drop a).length = s.size - a := by rw [List.length_drop, data_size]
theorem LInv_start (d : Nat) (s : ByteArray) (a : Nat) (h : a < s.size) : LInv d s a (a + 1) [] (listL (valL d) (s.data.toList.drop (a + 1)).length (s.data.toList.drop (a + 1))) := by
  refine ⟨Nat.le_refl _, by omega, by simp, _, by rw [drop_length]; exact Nat.le_refl _, fun h => ?_, fun h => rfl⟩
  rw [List.nil_append, Nat.sub_self, Nat.zero_add, ← h]
theorem LInv_end {d : Nat} {s : ByteArray} {a : Nat} {xs : List V} {LR : Int × List V × Nat} (h : LInv d s a s.size xs LR) : LR.1 = 21 := by
  obtain ⟨_, _, _, k, _, _, h2⟩ := h
  rw [List.drop_of_length_le (by rw [data_size]; omega)] at h2
  rw [listL] at h2
  exact h2 (by decide)
theorem LInv_stop {d : Nat} {s : ByteArray} {a a' : Nat} {xs : List V} {LR : Int × List V × Nat} (h : LInv d s a a' xs LR) (ha : a' < s.size) (hc : bt s (a' : Int) = 101) : LR = (0, xs, a' - (a + 1) + 1) := by
  obtain ⟨_, _, _, k, hk, h1, _⟩ := h
  obtain ⟨c, hd, hc2⟩ := bt_drop s a' ha
  obtain ⟨k, rfl⟩ : ∃ j, k = j + 1 := ⟨k - 1, by omega⟩
  have e : c = 101 := (u8_eq _ _).2 (by rw [← hc2, hc]; rfl)
  have hL : listL (valL d) (k + 1) (s.data.toList.drop a') = (0, [], 1) := by rw [hd, listL, if_pos e]
  rw [hL] at h1
  have := h1 rfl
  rw [List.append_nil] at this
  exact this
theorem LInv_step {d : Nat} {s : ByteArray} {a a' : Nat} {xs : List V} {LR : Int × List V × Nat} (h : LInv d s a a' xs LR) (ha : a' < s.size) (hc : bt s (a' : Int) ≠ 101) :
    ((valL d (s.data.toList.drop a')).1 = 0 → LInv d s a (a' + (valL d (s.data.toList.drop a')).2.2) (xs ++ [(valL d (s.data.toList.drop a')).2.1]) LR) ∧ ((valL d (s.data.toList.drop a')).1 ≠ 0 → LR.1 = (valL d (s.data.toList.drop a')).1) := by
  obtain ⟨h3, h4, h5, k, hk, h1, h2⟩ := h
  obtain ⟨c, hd, hc2⟩ := bt_drop s a' ha
  obtain ⟨k, rfl⟩ : ∃ j, k = j + 1 := ⟨k - 1, by omega⟩
  have e : ¬ c = 101 := fun e => hc (by rw [hc2, e]; rfl)
  have hL : listL (valL d) (k + 1) (s.data.toList.drop a') = if (valL d (s.data.toList.drop a')).1 = 0 then (if (listL (valL d) k ((s.data.toList.drop a').drop (valL d (s.data.toList.drop a')).2.2)).1 = 0 then (0, (valL d (s.data.toList.drop a')).2.1 :: (listL (valL d) k ((s.data.toList.drop a').drop (valL d (s.data.toList.drop a')).2.2)).2.1, (valL d (s.data.toList.drop a')).2.2 + (listL (valL d) k ((s.data.toList.drop a').drop (valL d (s.data.toList.drop a')).2.2)).2.2) else ((listL (valL d) k ((s.data.toList.drop a').drop (valL d (s.data.toList.drop a')).2.2)).1, [], 0)) else ((valL d (s.data.toList.drop a')).1, [], 0) := by
    conv => lhs; rw [hd, listL, if_neg e, ← hd]
  have hu := valL_used d (s.data.toList.drop a')
  rw [drop_length] at hu
  generalize valL d (s.data.toList.drop a') = R at *
  rw [hL] at h1 h2
  rw [List.drop_drop] at h1 h2
  constructor
  · intro hz
    obtain ⟨u1, u2⟩ := hu hz
    rw [if_pos hz] at h1 h2
    generalize hr : listL (valL d) k (s.data.toList.drop (a' + R.2.2)) = r at *
    refine ⟨by omega, by omega, by rw [List.length_append]; simp; omega, k, by omega, ?_, ?_⟩
    · intro hr0
      rw [hr] at hr0 ⊢
      rw [if_pos hr0] at h1
      rw [h1 rfl, List.append_assoc]
      simp
      omega
    · intro hr0
      rw [hr] at hr0 ⊢
      rw [if_neg hr0] at h2
      exact h2 hr0
  · intro hz
    rw [if_neg hz] at h1 h2
    exact h2 hz
theorem info_any : (Tryd.prog.info? 20).map (fun i => (i.zero, i.size, i.bytes)) = some (some .nilIface, 1, 16) := by kernel_rfl
theorem any_empty (n : Nat) (W : World) (base : Nat) (ok : Nat → Prop) (hb : base ≤ W.heap.size) (hok : ok W.heap.size) : (anyK n).R 20 (W.alloc (.cells #[] 20)) base ok (.slice (some ⟨W.heap.size, 0, none⟩) 0 0) [] := by
  refine ⟨fun k hk => ?_, [], ?_, ?_⟩
  · have : W.heap.size = k := by simpa [Value.ownBlock] using hk
    rw [← this]; exact hok
  · have h := World.ownsRow_lit (base := base) (e := 20) (size := (anyK n).sz) W #[] 0 hb (by simp [maxLen]) (by simp)
    simpa using h
  · exact ⟨by simp, fun j p h => by simp at h⟩
theorem any_new {n : Nat} {w2 w3 : World} {base g : Nat} {u : Value} {x : V} {cs : List Value} (h : (anyK n).M w3 w2.heap.size (fun _ => True) x cs) (hb : base ≤ w2.heap.size) (hg : g < w2.heap.size) (hu : ∀ k, u.ownBlock = some k → k < w2.heap.size) : (anyK n).M w3 base (fun k => k ≠ g ∧ some k ≠ u.ownBlock) x cs :=
  (anyK n).M_lower hb ((anyK n).M_mono (fun k hk => ⟨by rintro rfl; omega, fun e => by have := hu k e.symm; omega⟩) ((anyK n).M_bound h))
theorem keep_append {w W w1 : World} {g : Nat} {v : Value} (h : KeepBut w W g none) (hg : W.grownBy w1 v.ownBlock) (hv : ∀ k, v.ownBlock = some k → w.heap.size ≤ k) : KeepBut w w1 g none := by
  refine h.trans (KeepBut.of_grown hg g) ?_
  cases hv2 : v.ownBlock with
  | none => exact .inl rfl
  | some k => exact .inr ⟨k, rfl, hv k hv2⟩
theorem below_append {w0 w W w1 : World} {v : Value} (h : Below w0.heap.size w0 W) (hg : W.grownBy w1 v.ownBlock) (hw : w0.heap.size ≤ w.heap.size) (hv : ∀ k, v.ownBlock = some k → w.heap.size ≤ k) : Below w0.heap.size w0 w1 :=
  h.grown hg h.size (fun k hk => Nat.le_trans hw (hv k hk))
set_option maxHeartbeats 8000000 in
set_option maxRecDepth 100000 in
theorem value_list (d : Nat) (i : Int) (hi0 : 0 ≤ i) (hi : i < 8) {w0 w : World} {g : Nat} {s : ByteArray} (hs : s.size ≤ 1099511627776) (a : Nat) (ha : a < s.size) (hc : bt s (a : Int) = 108) (hI : Rdr w0 w g s (a : Int) 0) (hB : Below w0.heap.size w0 w)
    (LR : Int × List V × Nat) (hLR : LInv d s a (a + 1) [] LR)
    (ih : ∀ (b : Nat), b < s.size → ∀ W, Rdr w0 W g s (b : Int) 0 → Below w0.heap.size w0 W → Calls Tryd.prog 31 #[.pointer (some ⟨g, 0, none⟩), .int .i64 (i + 1)] W (VPost s g (d + 1) (valL d (s.data.toList.drop b)) b w0 W))
    (RR : Int × V × Nat) (hRR : (if LR.1 = 0 then (0, lisV LR.2.1, LR.2.2 + 1) else (LR.1, zV, 0)) = RR) :
    Calls Tryd.prog 31 #[.pointer (some ⟨g, 0, none⟩), .int .i64 i] w (VPost s g (d + 2) RR a w0 w) := by
  have HN := Aside0.mk (nxt_at a ha hI hB)
  have HE := Aside0.mk (fun (W : World) h1 h2 => nxt_end (w0 := w0) (w := W) (g := g) (s := s) 0 (.inl rfl) h1 h2)
  have HA := Aside0.mk (fun (b : Nat) (W : World) hb h1 h2 => nxt_at (w0 := w0) (w := W) (g := g) (s := s) b hb h1 h2)
  have HVE := Aside0.mk (fun (W : World) h1 h2 => value_end d (i + 1) 21 (.inr rfl) (w0 := w0) (w := W) (g := g) (s := s) h1 h2)
  have HIH := Aside0.mk ih
  have HLR := Aside0.mk hLR
  have HRR := Aside0.mk hRR
  have c3 : decide (8 ≤ i) = false := decide_eq_false (by omega)
  have q0 : (a : Int) ≤ 1099511627776 := by omega
  have hcc := Aside0.mk hc
  have hlg := hI.ge
  have hgw := hI.lt
  have hw0 := hB.size
  clear hI hB hc ih hLR hRR
  go_enter Tryd.func31, Tryd.ntmps31
  go_wp2_with fail
  refine HN.out.mono ?_
  rw [hcc.out]
  rintro e w1 ⟨rfl, h1, h2, h3⟩
  obtain ⟨x0, x1, x2, y0, y1, y2⟩ := h1.facts
  have H1 := Aside0.mk (h1.set_1 ((a : Int) + 1))
  have H2 := Aside0.mk (set_below h2 hlg 1 (.int .i64 ((a : Int) + 1)))
  have H3 := Aside0.mk (h3.set_ 1 (.int .i64 ((a : Int) + 1)))
  clear h1 h2 h3
  have H4 := Aside0.mk (any_empty (d + 1) (w1.setCell ⟨g, 1, none⟩ (.int .i64 ((a : Int) + 1))) w.heap.size (fun k => k ≠ g) (keep_size H3.out) (Nat.ne_of_gt H1.out.lt))
  have hkz := keep_size H3.out
  go_wp2_with fail
  clear x0 x1 x2 y0 y1 y2
  go_loopg [7] (s.size + 3) (fun kq v7 wr => ∃ (xs : List V) (b er : Int), Aside0 ((anyK (d + 1)).R 20 wr w.heap.size (fun k => k ≠ g) v7 xs) ∧ Aside0 (Rdr w0 wr g s b er) ∧ Aside0 (Below w0.heap.size w0 wr) ∧ Aside0 (KeepBut w wr g none) ∧ Aside0 (xs.length ≤ s.size + 1) ∧ Aside0 ((er = 0 ∧ ∃ a' : Nat, b = (a' : Int) ∧ LInv d s a a' xs LR ∧ s.size + 1 < a' + kq) ∨ (er ≠ 0 ∧ LR.1 = er)))
  case atStart =>
    refine ⟨[], (a : Int) + 1, 0, ⟨?_⟩, ⟨H1.out.alloc _⟩, ⟨below_alloc H2.out _⟩, ⟨keep_alloc H3.out _⟩, ⟨by simp⟩, ⟨.inl ⟨rfl, a + 1, by omega, HLR.out, by omega⟩⟩⟩
    simpa using H4.out
  case round =>
    obtain ⟨xs, b, er, R1, R2, R3, R4, R5, HS⟩ := hrel
    clear H1 H2 H3 H4
    rcases HS.out with ⟨rfl, a', rfl, hinv, hkq⟩ | ⟨her, hLe⟩
    · have HI := Aside0.mk hinv
      obtain ⟨i1, i2, i3, -⟩ := hinv
      have hK := Aside0.mk hkq
      obtain ⟨x0, x1, x2, y0, y1, y2⟩ := R2.out.facts
      clear HS
      have hRb := Aside0.mk (Kd.R_base R1.out)
      have hRl := Aside0.mk (Kd.R_lt R1.out)
      have hRb := Aside0.mk (Kd.R_base R1.out)
      by_cases he : a' = s.size
      · subst he
        have HLe := Aside0.mk (LInv_end HI.out)
        go_wp2_with fail
        refine (HE.out _ R2.out R3.out).mono ?_
        rintro e w2 ⟨rfl, h1, h2, h3⟩
        have J1 := Aside0.mk h1
        have J2 := Aside0.mk h2
        have J3 := Aside0.mk (keep_trans R4.out h3)
        have RJ := Aside0.mk (Kd.R_keep R1.out h3 (fun k hk => hk))
        clear x0 x1 x2 y0 y1 y2 h1 h2 h3
        go_wp2_with fail
        refine (HVE.out _ J1.out J2.out).mono ?_
        rintro e w3 ⟨rv, rb, rfl, h1, h2, h3, h4, h5⟩
        have L1 := Aside0.mk (show Rdr w0 w3 g s rb 21 from h1)
        have L2 := Aside0.mk h2
        have L3 := Aside0.mk (keep_trans J3.out h3)
        have MX := Aside0.mk (any_new h4 (keep_size J3.out) J1.out.lt (fun k hk => Kd.R_lt RJ.out k hk) (u := u7) (base := w.heap.size))
        have RO := Aside0.mk (Kd.R_keep RJ.out h3 (fun k hk => hk))
        have BW := Aside0.mk (Below.refl w.heap.size w3)
        clear h1 h2 h3 h4
        rcases h5 with rfl | ⟨ty, uv, rfl⟩
        · go_wp2_with (at_builtin; refine Kd.R_append (anyK (d + 1)) (w0 := w3) w.heap.size rfl (.tmp 28) (.tmp 33) 69 20 .nilIface 16 rfl Tryd.underlying69 info_any rfl Nat.one_pos (by decide) u7 xs zV [.nilIface] (fun k => k ≠ g) (fun k => k ≠ g ∧ some k ≠ u7.ownBlock) rfl rfl ?aP (fun _ hk => hk) ?aF ?aO ?aB ?aS ?aL ?_; (case aP => exact MX.out); (case aF => exact (fun k hk => by have := L1.out.lt; omega)); (case aO => exact RO.out); (case aB => exact BW.out); (case aS => exact keep_size L3.out); (case aL => have := R5.out; omega); intro v9 w9 ho hb9 hg9 hat9; have HO9 := Aside0.mk ho; have HG9 := Aside0.mk hg9; clear ho hb9 hg9 hat9)
          have P1 := Aside0.mk (P.IsS56.grown L1.out HG9.out (Kd.R_away RO.out (fun k hk => hk)))
          have P2 := Aside0.mk (below_append L2.out HG9.out hw0 hRb.out)
          have P3 := Aside0.mk (keep_append L3.out HG9.out hRb.out)
          go_wp2
          go_roundg (gk - 1)
          case measure => have := hK.out; omega
          case rel => exact ⟨xs ++ [zV], rb, 21, HO9, P1, P2, P3, ⟨by rw [List.length_append]; simp; omega⟩, ⟨.inr ⟨by decide, HLe.out⟩⟩⟩
        · go_wp2_with (at_builtin; refine Kd.R_append (anyK (d + 1)) (w0 := w3) w.heap.size rfl (.tmp 28) (.tmp 33) 69 20 .nilIface 16 rfl Tryd.underlying69 info_any rfl Nat.one_pos (by decide) u7 xs zV [.iface ty uv] (fun k => k ≠ g) (fun k => k ≠ g ∧ some k ≠ u7.ownBlock) rfl rfl ?aP (fun _ hk => hk) ?aF ?aO ?aB ?aS ?aL ?_; (case aP => exact MX.out); (case aF => exact (fun k hk => by have := L1.out.lt; omega)); (case aO => exact RO.out); (case aB => exact BW.out); (case aS => exact keep_size L3.out); (case aL => have := R5.out; omega); intro v9 w9 ho hb9 hg9 hat9; have HO9 := Aside0.mk ho; have HG9 := Aside0.mk hg9; clear ho hb9 hg9 hat9)
          have P1 := Aside0.mk (P.IsS56.grown L1.out HG9.out (Kd.R_away RO.out (fun k hk => hk)))
          have P2 := Aside0.mk (below_append L2.out HG9.out hw0 hRb.out)
          have P3 := Aside0.mk (keep_append L3.out HG9.out hRb.out)
          go_wp2
          go_roundg (gk - 1)
          case measure => have := hK.out; omega
          case rel => exact ⟨xs ++ [zV], rb, 21, HO9, P1, P2, P3, ⟨by rw [List.length_append]; simp; omega⟩, ⟨.inr ⟨by decide, HLe.out⟩⟩⟩
      · have hlt : a' < s.size := by omega
        by_cases h101 : bt s (a' : Int) = 101
        · have q1 : (bt s (a' : Int) != 101) = false := bne_eq_false_iff_eq.2 h101
          have HLs := Aside0.mk (LInv_stop HI.out hlt h101)
          clear h101
          go_wp2_with fail
          refine (HA.out a' _ hlt R2.out R3.out).mono ?_
          rintro e w2 ⟨rfl, h1, h2, h3⟩
          have J1 := Aside0.mk h1
          have J2 := Aside0.mk h2
          have J3 := Aside0.mk (keep_trans R4.out h3)
          have RJ := Aside0.mk (Kd.R_keep R1.out h3 (fun k hk => hk))
          clear x0 x1 x2 y0 y1 y2 h1 h2 h3
          obtain ⟨x0, x1, x2, y0, y1, y2⟩ := J1.out.facts
          have q2 : (a' : Int) ≤ 1099511627776 := by omega
          go_wp2
          go_returns
          have e1 := HRR.out
          rw [HLs.out, if_pos rfl] at e1
          subst e1
          refine ⟨_, 0, rfl, ?_, set_below J2.out hlg 1 _, J3.out.set_ 1 _, any_lis (d + 1) ?_, .inr ⟨_, _, rfl⟩⟩
          · have := J1.out.set_1 ((a' : Int) + 1)
            rw [if_pos rfl]
            show Rdr w0 _ g s ((a + (a' - (a + 1) + 1 + 1) : Nat) : Int) 0
            rw [show a + (a' - (a + 1) + 1 + 1) = a' + 1 by omega]
            exact this
          · exact Kd.R_mono (Kd.R_far RJ.out (fun k hk => hk) _) (fun _ _ => trivial)
        · have q1 : (bt s (a' : Int) != 101) = true := bne_iff_ne.2 h101
          have HLs := Aside0.mk (LInv_step HI.out hlt h101)
          have HLu := Aside0.mk (valL_used d (s.data.toList.drop a'))
          have HV := Aside0.mk (fun W h1 h2 => HIH.out a' hlt W h1 h2)
          generalize valL d (s.data.toList.drop a') = R at *
          clear h101
          go_wp2_with fail
          refine (HA.out a' _ hlt R2.out R3.out).mono ?_
          rintro e w2 ⟨rfl, h1, h2, h3⟩
          have J1 := Aside0.mk h1
          have J2 := Aside0.mk h2
          have J3 := Aside0.mk (keep_trans R4.out h3)
          have RJ := Aside0.mk (Kd.R_keep R1.out h3 (fun k hk => hk))
          clear x0 x1 x2 y0 y1 y2 h1 h2 h3
          go_wp2_with fail
          refine (HV.out _ J1.out J2.out).mono ?_
          rintro e w3 ⟨rv, rb, rfl, h1, h2, h3, h4, h5⟩
          have HS2 := Aside0.mk (show (R.1 = 0 ∧ ∃ a2 : Nat, (if R.1 = 0 then ((a' + R.2.2 : Nat) : Int) else rb) = (a2 : Int) ∧ LInv d s a a2 (xs ++ [R.2.1]) LR ∧ s.size + 1 < a2 + (gk - 1)) ∨ (R.1 ≠ 0 ∧ LR.1 = R.1) by
            by_cases c : R.1 = 0
            · have := HLu.out c
              have := hK.out
              exact .inl ⟨c, a' + R.2.2, by rw [if_pos c], HLs.out.1 c, by omega⟩
            · exact .inr ⟨c, HLs.out.2 c⟩)
          generalize (if R.1 = 0 then ((a' + R.2.2 : Nat) : Int) else rb) = rb2 at *
          have L1 := Aside0.mk h1
          have L2 := Aside0.mk h2
          have L3 := Aside0.mk (keep_trans J3.out h3)
          have MX := Aside0.mk (any_new h4 (keep_size J3.out) J1.out.lt (fun k hk => Kd.R_lt RJ.out k hk) (u := u7) (base := w.heap.size))
          have RO := Aside0.mk (Kd.R_keep RJ.out h3 (fun k hk => hk))
          have BW := Aside0.mk (Below.refl w.heap.size w3)
          clear h1 h2 h3 h4
          rcases h5 with rfl | ⟨ty, uv, rfl⟩
          · go_wp2_with (at_builtin; refine Kd.R_append (anyK (d + 1)) (w0 := w3) w.heap.size rfl (.tmp 28) (.tmp 33) 69 20 .nilIface 16 rfl Tryd.underlying69 info_any rfl Nat.one_pos (by decide) u7 xs R.2.1 [.nilIface] (fun k => k ≠ g) (fun k => k ≠ g ∧ some k ≠ u7.ownBlock) rfl rfl ?aP (fun _ hk => hk) ?aF ?aO ?aB ?aS ?aL ?_; (case aP => exact MX.out); (case aF => exact (fun k hk => by have := L1.out.lt; omega)); (case aO => exact RO.out); (case aB => exact BW.out); (case aS => exact keep_size L3.out); (case aL => have := R5.out; omega); intro v9 w9 ho hb9 hg9 hat9; have HO9 := Aside0.mk ho; have HG9 := Aside0.mk hg9; clear ho hb9 hg9 hat9)
            have P1 := Aside0.mk (P.IsS56.grown L1.out HG9.out (Kd.R_away RO.out (fun k hk => hk)))
            have P2 := Aside0.mk (below_append L2.out HG9.out hw0 hRb.out)
            have P3 := Aside0.mk (keep_append L3.out HG9.out hRb.out)
            go_wp2
            go_roundg (gk - 1)
            case measure => have := hK.out; omega
            case rel => exact ⟨xs ++ [R.2.1], rb2, R.1, HO9, P1, P2, P3, ⟨by rw [List.length_append]; simp; omega⟩, HS2⟩
          · go_wp2_with (at_builtin; refine Kd.R_append (anyK (d + 1)) (w0 := w3) w.heap.size rfl (.tmp 28) (.tmp 33) 69 20 .nilIface 16 rfl Tryd.underlying69 info_any rfl Nat.one_pos (by decide) u7 xs R.2.1 [.iface ty uv] (fun k => k ≠ g) (fun k => k ≠ g ∧ some k ≠ u7.ownBlock) rfl rfl ?aP (fun _ hk => hk) ?aF ?aO ?aB ?aS ?aL ?_; (case aP => exact MX.out); (case aF => exact (fun k hk => by have := L1.out.lt; omega)); (case aO => exact RO.out); (case aB => exact BW.out); (case aS => exact keep_size L3.out); (case aL => have := R5.out; omega); intro v9 w9 ho hb9 hg9 hat9; have HO9 := Aside0.mk ho; have HG9 := Aside0.mk hg9; clear ho hb9 hg9 hat9)
            have P1 := Aside0.mk (P.IsS56.grown L1.out HG9.out (Kd.R_away RO.out (fun k hk => hk)))
            have P2 := Aside0.mk (below_append L2.out HG9.out hw0 hRb.out)
            have P3 := Aside0.mk (keep_append L3.out HG9.out hRb.out)
            go_wp2
            go_roundg (gk - 1)
            case measure => have := hK.out; omega
            case rel => exact ⟨xs ++ [R.2.1], rb2, R.1, HO9, P1, P2, P3, ⟨by rw [List.length_append]; simp; omega⟩, HS2⟩
    · have q1 : (er == 0) = false := beq_eq_false_iff_ne.2 her
      obtain ⟨x0, x1, x2, y0, y1, y2⟩ := R2.out.facts
      have HER := Aside0.mk her
      have HLe := Aside0.mk hLe
      clear HS her hLe
      go_wp2
      go_returns
      have e1 := HRR.out
      rw [HLe.out, if_neg HER.out] at e1
      subst e1
      refine ⟨_, wrap64 (b + 1), rfl, ?_, set_below R3.out hlg 1 _, R4.out.set_ 1 _, any_z (d + 1) rfl _ _ _, .inr ⟨_, _, rfl⟩⟩
      rw [if_neg HER.out]
      exact R2.out.set_1 _
end Go.Proofs.YtcdfedbecgfanaaDoor.Giv
namespace Go.Proofs.YtcdfedbecgfanaaDoor.Giv
open Go.RowKit Go.Lib Go.Sort Go.Proofs.YtcdfedbecgfanaaDoorW.PrintWords Go.Proofs.YtcdfedbecgfanaaDoorW.PrintLast Go.Proofs.YtcdfedbecgfanaaDoorW.PrintMore
set_option linter.unusedVariables false
set_option linter.unusedSimpArgs false
theorem extract_list (s : ByteArray) (a b : Nat) : (s.extract a b).data.toList = (s.data.toList.drop a).take (b - a) := by
  rw [ByteArray.data_extract, Array.toList_extract, List.extract_eq_take_drop]
theorem extract_mk (s : ByteArray) (a n : Nat) : s.extract a (a + n) = ⟨((s.data.toList.drop a).take n).toArray⟩ := by
  have h := extract_list s a (a + n)
  rw [show a + n - a = n by omega] at h
  have : (s.extract a (a + n)).data = ((s.data.toList.drop a).take n).toArray := by rw [← h]
  cases hx : s.extract a (a + n)
  rw [hx] at this
  simp only at this
  rw [this]
theorem u8_digit (c : UInt8) (x : Int) (hc : x = (c.toNat : Int)) : (48 ≤ c ∧ c ≤ 57) ↔ (48 ≤ x ∧ x ≤ 57) := by
  rw [UInt8.le_iff_toNat_le, UInt8.le_iff_toNat_le, hc]
  show 48 ≤ c.toNat ∧ c.toNat ≤ 57 ↔ _
  omega
theorem value_i (d : Nat) (i : Int) {w0 w : World} {g : Nat} {s : ByteArray} (hs : s.size ≤ 140737488351232) (a : Nat) (ha : a < s.size) (hc : bt s (a : Int) = 105) (hI : Rdr w0 w g s (a : Int) 0) (hB : Below w0.heap.size w0 w) :
    Calls Tryd.prog 31 #[.pointer (some ⟨g, 0, none⟩), .int .i64 i] w (VPost s g (d + 1) (if (intL (s.data.toList.drop (a + 1))).1 = 0 then (0, intV (intL (s.data.toList.drop (a + 1))).2.1, (intL (s.data.toList.drop (a + 1))).2.2 + 1) else ((intL (s.data.toList.drop (a + 1))).1, zV, 0)) a w0 w) := by
  by_cases h2 : a + 1 < s.size
  · obtain ⟨c, hd, hc2⟩ := bt_drop s (a + 1) h2
    by_cases hm : c = 45
    · have hi : intL (s.data.toList.drop (a + 1)) = ((numL true false false 0 (s.data.toList.drop (a + 2))).1, (numL true false false 0 (s.data.toList.drop (a + 2))).2.1, (numL true false false 0 (s.data.toList.drop (a + 2))).2.2 + 1) := by
        unfold intL
        rw [if_pos (by rw [hd, hm]; rfl), List.tail_drop]
      rw [hi]
      exact value_neg d i hs a hc h2 (by rw [show (a : Int) + 1 = ((a + 1 : Nat) : Int) by omega, hc2, hm]; rfl) hI hB _ rfl _ rfl
    · have hi : intL (s.data.toList.drop (a + 1)) = numL false false false 0 (s.data.toList.drop (a + 1)) := by
        unfold intL
        rw [if_neg (by rw [hd]; simpa using hm)]
      rw [hi]
      exact value_pos d i hs a hc h2 (fun h => hm ((u8_eq _ _).2 (by rw [← hc2, ← show (a : Int) + 1 = ((a + 1 : Nat) : Int) by omega, h]; rfl))) hI hB _ rfl _ rfl
  · have hi : intL (s.data.toList.drop (a + 1)) = numL false false false 0 (s.data.toList.drop (a + 1)) := by
      unfold intL
      rw [if_neg (by rw [List.drop_of_length_le (by rw [data_size]; omega)]; simp)]
    rw [hi]
    exact value_one d i hs a hc (by omega) hI hB _ rfl _ rfl
theorem value_t (d : Nat) (i : Int) {w0 w : World} {g : Nat} {s : ByteArray} (hs : s.size ≤ 140737488351232) (a : Nat) (ha : a < s.size) (c : UInt8) (hd : s.data.toList.drop a = c :: s.data.toList.drop (a + 1)) (hc : bt s (a : Int) = (c.toNat : Int)) (hc2 : 48 ≤ c ∧ c ≤ 57) (hI : Rdr w0 w g s (a : Int) 0) (hB : Below w0.heap.size w0 w) :
    Calls Tryd.prog 31 #[.pointer (some ⟨g, 0, none⟩), .int .i64 i] w (VPost s g (d + 1) (if (lenL false false 0 (s.data.toList.drop a)).1 = 0 then
        (if (s.data.toList.drop a).length < (lenL false false 0 (s.data.toList.drop a)).2.2 + (lenL false false 0 (s.data.toList.drop a)).2.1 then (21, zV, 0)
         else (0, strV ⟨(((s.data.toList.drop a).drop (lenL false false 0 (s.data.toList.drop a)).2.2).take (lenL false false 0 (s.data.toList.drop a)).2.1).toArray⟩, (lenL false false 0 (s.data.toList.drop a)).2.2 + (lenL false false 0 (s.data.toList.drop a)).2.1))
       else ((lenL false false 0 (s.data.toList.drop a)).1, zV, 0)) a w0 w) := by
  have hdg := (u8_digit c _ hc).1 hc2
  have hu := lenL_used (s.data.toList.drop a) false false 0
  rw [drop_length] at hu ⊢
  generalize hR : lenL false false 0 (s.data.toList.drop a) = R at *
  by_cases hz : R.1 = 0
  · obtain ⟨u1, u2, u3, u4⟩ := hu hz
    rw [if_pos hz]
    by_cases hcut : s.size - a < R.2.2 + R.2.1
    · rw [if_pos hcut]
      exact value_cut d i hs a ha hdg hI hB R hR hz (by omega) (u4 (by omega)) (by omega)
    · rw [if_neg hcut, List.drop_drop, ← extract_mk]
      exact value_str d i hs a ha hdg hI hB R hR hz (by omega) (u4 (by omega)) (by omega)
  · rw [if_neg hz]
    exact value_len d i hs a ha hdg hI hB R hR hz
theorem value_calls (s : ByteArray) (hs : s.size ≤ 1099511627776) (d : Nat) : ∀ (i : Int), i + d = 8 → 0 ≤ i → ∀ (a : Nat), a ≤ s.size → ∀ {w0 w : World} {g : Nat}, Rdr w0 w g s (a : Int) 0 → Below w0.heap.size w0 w →
    Calls Tryd.prog 31 #[.pointer (some ⟨g, 0, none⟩), .int .i64 i] w (VPost s g (d + 1) (valL d (s.data.toList.drop a)) a w0 w) := by
  induction d with
  | zero =>
    intro i hi hi0 a ha w0 w g hI hB
    by_cases he : a = s.size
    · subst he
      rw [List.drop_of_length_le (by rw [data_size]; omega), valL_nil]
      exact value_end 0 i 0 (.inl rfl) hI hB
    · obtain ⟨c, hd, hc⟩ := bt_drop s a (by omega)
      rw [hd, valL_cons]
      by_cases c1 : c = 105
      · rw [if_pos c1]
        exact value_i 0 i (by omega) a (by omega) (by rw [hc, c1]; rfl) hI hB
      · rw [if_neg c1]
        have c1' : bt s (a : Int) ≠ 105 := fun h => c1 ((u8_eq _ _).2 (by rw [← hc, h]; rfl))
        by_cases c2 : 48 ≤ c ∧ c ≤ 57
        · rw [if_pos c2, ← hd]
          exact value_t 0 i (by omega) a (by omega) c hd hc c2 hI hB
        · rw [if_neg c2]
          have c2' : ¬(48 ≤ bt s (a : Int) ∧ bt s (a : Int) ≤ 57) := fun h => c2 ((u8_digit c _ hc).2 h)
          by_cases c3 : c ≠ 108
          · rw [if_pos c3]
            exact value_bad 0 i a (by omega) c1' c2' (fun h => c3 ((u8_eq _ _).2 (by rw [← hc, h]; rfl))) hI hB
          · rw [if_neg c3]
            exact value_deep 0 i (by omega) a (by omega) (by rw [hc, Decidable.not_not.1 c3]; rfl) hI hB
  | succ d ih =>
    intro i hi hi0 a ha w0 w g hI hB
    by_cases he : a = s.size
    · subst he
      rw [List.drop_of_length_le (by rw [data_size]; omega), valL_nil]
      exact value_end (d + 1) i 0 (.inl rfl) hI hB
    · obtain ⟨c, hd, hc⟩ := bt_drop s a (by omega)
      rw [hd, valL_cons]
      by_cases c1 : c = 105
      · rw [if_pos c1]
        exact value_i (d + 1) i (by omega) a (by omega) (by rw [hc, c1]; rfl) hI hB
      · rw [if_neg c1]
        have c1' : bt s (a : Int) ≠ 105 := fun h => c1 ((u8_eq _ _).2 (by rw [← hc, h]; rfl))
        by_cases c2 : 48 ≤ c ∧ c ≤ 57
        · rw [if_pos c2, ← hd]
          exact value_t (d + 1) i (by omega) a (by omega) c hd hc c2 hI hB
        · rw [if_neg c2]
          have c2' : ¬(48 ≤ bt s (a : Int) ∧ bt s (a : Int) ≤ 57) := fun h => c2 ((u8_digit c _ hc).2 h)
          by_cases c3 : c ≠ 108
          · rw [if_pos c3]
            exact value_bad (d + 1) i a (by omega) c1' c2' (fun h => c3 ((u8_eq _ _).2 (by rw [← hc, h]; rfl))) hI hB
          · rw [if_neg c3]
            exact value_list d i hi0 (by omega) hs a (by omega) (by rw [hc, Decidable.not_not.1 c3]; rfl) hI hB _ (LInv_start d s a (by omega)) (fun b hb W h1 h2 => ih (i + 1) (by omega) (by omega) b (by omega) h1 h2) _ rfl
end Go.Proofs.YtcdfedbecgfanaaDoor.Giv
