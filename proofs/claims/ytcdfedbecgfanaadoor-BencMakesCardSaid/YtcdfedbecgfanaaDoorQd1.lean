/- Texts put together by prune.py: Px0, BncM, BncN, BncD, ShelfB, BncW, Px8, BncC. -/
import Derived.Test.YtcdfedbecgfanaaDoorProg
import Derived.Below
import Derived.Deep.Draws
import Derived.Deep.AppendLies
import Derived.Maps.AppendAt
import Derived.OwnWalk
import Derived.Laws.BytesArg
import Derived.Laws.MakeOwn
import Derived.Laws.OwnMore
import Derived.Deep.OwnRows
import Derived.Tactics
import Derived.Lib.ConvBytes
import Derived.Laws.Slices
import Derived.WalkKit
import Derived.KernelRfl
import Derived.RowKit3
import Derived.Deep.LoopGhost
import Derived.Deep.QuietTactic
import Derived.BigQuiet
import Derived.WideLaws
import Derived.Deep.DeepCutAuto
import Derived.Deep.CutBlock
import Derived.Deep.RegionHeld3
import Derived.Laws.Rows
import Derived.Lib.AppendStr
import Derived.ArgAppend
import Derived.Laws.IdiomCopy
import Derived.OrdersHeld
import Derived.Laws.BitsLemmas
import Derived.RowKit
import Derived.Lib.ItoaNum
import Derived.Shelf.Strconv.Itoa3
import Derived.Shelf.Strings.BuilderK
import Derived.Shelf.Strings.BuilderF
import Derived.Lib.OthersKept
import Derived.BigCall
import Derived.Handy
import Derived.Outline
import Derived.Deep.DrawnRows
import Derived.Test.YtcdfedbecgfanaaDoorQd0
namespace Go.Proofs.YtcdfedbecgfanaaDoor.P
open Go.RowKit Go.Proofs.YtcdfedbecgfanaaDoorW.PrintWords Go.Proofs.YtcdfedbecgfanaaDoorW.PrintLast Go.Proofs.YtcdfedbecgfanaaDoorW.PrintMore
attribute [local go_sem] max2_int min2_int max_two min_two max_three min_three max_four min_four   -- for this text's walks alone
set_option linter.unusedVariables false
set_option linter.unusedSimpArgs false
def errW : Option Int → Value
  | none => .nilIface
  | some c => .iface 0 (.int .i64 c)
theorem errW_none : errW none = .nilIface := rfl
theorem errW_some (c : Int) : errW (some c) = .iface 0 (.int .i64 c) := rfl
theorem info24 : (Tryd.prog.info? 24).map (fun i => (i.zero, i.size, i.bytes)) = some (some (.agg #[(.int .i64 0), (.int .i64 0), (.string ⟨#[]⟩), (.slice none 0 0)]), 4, 56) := by kernel_rfl
structure S24 where
  f0 : Int
  f1 : Int
  f2 : ByteArray
  f3 : (List S24)
def z24 : S24 := ⟨(0 : Int), (0 : Int), (⟨#[]⟩ : ByteArray), ([] : List S24)⟩
def F24 (d : Kd S24) : Kd S24 := Kd.iso (Kd.pair (Kd.int .i64) (Kd.pair (Kd.int .i64) (Kd.pair Kd.string (Kd.slice 24 d)))) (fun x : S24 => (x.f0, x.f1, x.f2, x.f3))
theorem mono24 : Kd.Mono F24 := Kd.mono_iso _ (Kd.mono_pair (Kd.mono_const _) (Kd.mono_pair (Kd.mono_const _) (Kd.mono_pair (Kd.mono_const _) (Kd.mono_slice 24 Kd.mono_id))))
theorem sub24 : Kd.Sub F24 [24] := Kd.sub_iso _ (Kd.sub_pair (Kd.sub_const _ (by decide)) (Kd.sub_pair (Kd.sub_const _ (by decide)) (Kd.sub_pair (Kd.sub_const _ (by decide)) (Kd.sub_slice 24 (by decide) Kd.sub_id))))
theorem sz24 : ∀ n, (Kd.upto F24 4 [24] n).sz = 4 := Kd.upto_sz (fun _ => rfl)
def k24 : Kd S24 := Kd.fix F24 4 [24] sz24 (Kd.upto_E sub24)
theorem k24_open {w : World} {x : S24} {cs : List Value} (h : k24.K w x cs) : ∃ A3 c3, cs = [.int .i64 x.f0, .int .i64 x.f1, .string x.f2, .slice A3 x.f3.length c3] ∧ x.f3.length ≤ c3 ∧ k24.C w A3 x.f3.length x.f3 := by
  obtain ⟨n, h⟩ := h
  cases n with
  | zero => exact h.elim
  | succ n =>
    obtain ⟨_, _, rfl, rfl, ⟨_, _, rfl, rfl, ⟨_, _, rfl, rfl, ⟨A3, c3, rfl, l3, g3⟩⟩⟩⟩ := h
    exact ⟨A3, c3, rfl, l3, Kd.fix_C g3⟩
theorem k24_mk (w : World) (x : S24) {A3 : Option Addr} {c3 : Nat} (l3 : x.f3.length ≤ c3) (g3 : k24.C w A3 x.f3.length x.f3) : k24.K w x [.int .i64 x.f0, .int .i64 x.f1, .string x.f2, .slice A3 x.f3.length c3] := by
  obtain ⟨n3, q3⟩ := Kd.fix_C_back mono24 g3
  have r3 := Kd.upto_C_le mono24 sz24 (show n3 ≤ n3 by omega) q3
  exact ⟨n3 + 1, ⟨[.int .i64 x.f0], [.int .i64 x.f1, .string x.f2, .slice A3 x.f3.length c3], rfl, rfl, ⟨[.int .i64 x.f1], [.string x.f2, .slice A3 x.f3.length c3], rfl, rfl, ⟨[.string x.f2], [.slice A3 x.f3.length c3], rfl, rfl, ⟨A3, c3, rfl, l3, r3⟩⟩⟩⟩⟩
theorem k24_mkM (w : World) (base : Nat) (ok : Nat → Prop) (x : S24) {v3 : Value} (g3 : k24.R 24 w base ok v3 x.f3) : k24.M w base ok x [.int .i64 x.f0, .int .i64 x.f1, .string x.f2, v3] := by
  obtain ⟨n3, q3⟩ := Kd.fix_R_back mono24 g3
  have r3 := Kd.upto_R_le mono24 sz24 (show n3 ≤ n3 by omega) q3
  exact ⟨n3 + 1, ⟨[.int .i64 x.f0], [.int .i64 x.f1, .string x.f2, v3], rfl, rfl, ⟨[.int .i64 x.f1], [.string x.f2, v3], rfl, rfl, ⟨[.string x.f2], [v3], rfl, rfl, ⟨v3, rfl, r3⟩⟩⟩⟩⟩
def rd_T24 (xs : List S24) (i : Int) : S24 := xs.getD i.toNat z24
theorem at_T24 {w : World} {A : Option Addr} {n : Nat} {xs : List S24} (h : Kd.C k24 w A n xs) (i : Int) (h0 : 0 ≤ i) (h1 : i < n) : ∃ ad A3 c3, A = some ad ∧ w.cell? (ad.add (i.toNat * 4)) = some (.int .i64 (rd_T24 xs i).f0) ∧ w.cell? ⟨(ad.add (i.toNat * 4)).block, (ad.add (i.toNat * 4)).off + 1, none⟩ = some (.int .i64 (rd_T24 xs i).f1) ∧ w.cell? ⟨(ad.add (i.toNat * 4)).block, (ad.add (i.toNat * 4)).off + 2, none⟩ = some (.string (rd_T24 xs i).f2) ∧ w.cell? ⟨(ad.add (i.toNat * 4)).block, (ad.add (i.toNat * 4)).off + 3, none⟩ = some (.slice A3 (rd_T24 xs i).f3.length c3) ∧ (rd_T24 xs i).f3.length ≤ c3 ∧ k24.C w A3 (rd_T24 xs i).f3.length (rd_T24 xs i).f3 := by
  obtain ⟨ad, c, e, _, hK, hc0⟩ := Kd.C_get h z24 i h0 h1
  have hc : ∀ j u, c[j]? = some u → w.cell? (ad.add (i.toNat * 4 + j)) = some u := hc0
  obtain ⟨A3, c3, rfl, l3, g3⟩ := k24_open hK
  exact ⟨ad, A3, c3, e, hc 0 _ rfl, by rw [← add_field _ _ 1 (by omega)]; exact hc 1 _ rfl, by rw [← add_field _ _ 2 (by omega)]; exact hc 2 _ rfl, by rw [← add_field _ _ 3 (by omega)]; exact hc 3 _ rfl, l3, g3⟩
end Go.Proofs.YtcdfedbecgfanaaDoor.P
namespace Go.Proofs.YtcdfedbecgfanaaDoor.Giv
open Go.RowKit Go.Lib
set_option linter.unusedVariables false
set_option linter.unusedSimpArgs false
abbrev V := P.S24
def zV : V := ⟨0, 0, ⟨#[]⟩, []⟩
def intV (n : Int) : V := ⟨1, n, ⟨#[]⟩, []⟩
def strV (s : ByteArray) : V := ⟨2, 0, s, []⟩
def lisV (l : List V) : V := ⟨3, 0, ⟨#[]⟩, l⟩
mutual
def wt : V → Nat
  | ⟨_, _, s, L⟩ => 30 + 2 * s.size + wts L
def wts : List V → Nat
  | [] => 0
  | x :: xs => wt x + wts xs
end
mutual
def okV : V → Bool
  | ⟨_, n, _, L⟩ => decide (-9223372036854775808 ≤ n) && (decide (n ≤ 9223372036854775807) && okVs L)
def okVs : List V → Bool
  | [] => true
  | x :: xs => okV x && okVs xs
end
theorem okV_iff (v : V) : okV v = true ↔ -9223372036854775808 ≤ v.f1 ∧ v.f1 ≤ 9223372036854775807 ∧ okVs v.f3 = true := by
  obtain ⟨k, n, s, L⟩ := v
  rw [okV]
  simp
theorem okVs_cons (x : V) (xs : List V) : okVs (x :: xs) = true ↔ okV x = true ∧ okVs xs = true := by rw [okVs]; simp
theorem wt_eq (v : V) : wt v = 30 + 2 * v.f2.size + wts v.f3 := by obtain ⟨k, n, s, L⟩ := v; rw [wt]
theorem wts_cons (x : V) (xs : List V) : wts (x :: xs) = wt x + wts xs := by rw [wts]
theorem wts_nil : wts [] = 0 := by rw [wts]
theorem okVs_nil : okVs [] = true := by rw [okVs]
theorem wt_mem {x : V} : ∀ {L : List V}, x ∈ L → wt x ≤ wts L
  | y :: ys, h => by
    rw [wts_cons]
    rcases List.mem_cons.1 h with rfl | h
    · omega
    · have := wt_mem h; omega
theorem okV_mem {x : V} : ∀ {L : List V}, x ∈ L → okVs L = true → okV x = true
  | y :: ys, h, ho => by
    rw [okVs_cons] at ho
    rcases List.mem_cons.1 h with rfl | h
    · exact ho.1
    · exact okV_mem h ho.2
theorem wts_len : ∀ (L : List V), 30 * L.length ≤ wts L
  | [] => by simp
  | x :: xs => by rw [wts_cons]; have := wts_len xs; have := wt_eq x; simp; omega
mutual
def enc : V → List UInt8
  | ⟨k, n, s, L⟩ => if k = 1 then 105 :: (itoa n ++ [101]) else if k = 2 then itoa (s.size : Int) ++ (58 :: s.data.toList) else 108 :: (encs L ++ [101])
def encs : List V → List UInt8
  | [] => []
  | x :: xs => enc x ++ encs xs
end
theorem enc_eq (v : V) : enc v = if v.f0 = 1 then 105 :: (itoa v.f1 ++ [101]) else if v.f0 = 2 then itoa (v.f2.size : Int) ++ (58 :: v.f2.data.toList) else 108 :: (encs v.f3 ++ [101]) := by
  obtain ⟨k, n, s, L⟩ := v; rw [enc]
theorem encs_cons (x : V) (xs : List V) : encs (x :: xs) = enc x ++ encs xs := by rw [encs]
theorem encs_nil : encs [] = [] := by rw [encs]
mutual
def putc : List UInt8 → V → List UInt8
  | l, ⟨k, n, s, L⟩ => if 65536 < l.length then l else if k = 1 then l ++ (105 :: (itoa n ++ [101])) else if k = 2 then l ++ (itoa (s.size : Int) ++ (58 :: s.data.toList)) else putcs (l ++ [108]) L ++ [101]
def putcs : List UInt8 → List V → List UInt8
  | l, [] => l
  | l, x :: xs => putcs (putc l x) xs
end
theorem putc_eq (l : List UInt8) (v : V) : putc l v = if 65536 < l.length then l else if v.f0 = 1 then l ++ (105 :: (itoa v.f1 ++ [101])) else if v.f0 = 2 then l ++ (itoa (v.f2.size : Int) ++ (58 :: v.f2.data.toList)) else putcs (l ++ [108]) v.f3 ++ [101] := by
  obtain ⟨k, n, s, L⟩ := v; rw [putc]
theorem putcs_cons (l : List UInt8) (x : V) (xs : List V) : putcs l (x :: xs) = putcs (putc l x) xs := by rw [putcs]
theorem putcs_nil (l : List UInt8) : putcs l [] = l := by rw [putcs]
theorem putcs_snoc (l : List UInt8) (L : List V) (x : V) : putcs l (L ++ [x]) = putc (putcs l L) x := by
  induction L generalizing l with
  | nil => rw [List.nil_append, putcs_cons, putcs_nil, putcs_nil]
  | cons y ys ih => rw [List.cons_append, putcs_cons, putcs_cons, ih]
theorem dd_small {u : Nat} (h : u < 10) : decDigits u = [UInt8.ofNat (48 + u)] := by rw [decDigits, dif_pos h]
theorem dd_big {u : Nat} (h : ¬ u < 10) : decDigits u = decDigits (u / 10) ++ [UInt8.ofNat (48 + u % 10)] := by rw [decDigits, dif_neg h]
theorem dd_len (k u : Nat) (h : u < 10 ^ (k + 1)) : (decDigits u).length ≤ k + 1 := by
  induction k generalizing u with
  | zero => rw [dd_small (by simpa using h)]; simp
  | succ k ih =>
    by_cases c : u < 10
    · rw [dd_small c]; simp
    · rw [dd_big c]
      have := ih (u / 10) (by rw [Nat.pow_succ] at h; omega)
      simp
      omega
theorem dd_any (u : Nat) : 2 * (decDigits u).length ≤ u + 29 := by
  induction u using Nat.strongRecOn with
  | _ u ih =>
    by_cases c : u < 10
    · rw [dd_small c]; simp
    · rw [dd_big c]
      have := ih (u / 10) (by omega)
      simp
      omega
theorem dd_pos (u : Nat) : 1 ≤ (decDigits u).length := by
  by_cases c : u < 10
  · rw [dd_small c]; simp
  · rw [dd_big c]; simp
theorem itoa_len {n : Int} (h0 : -9223372036854775808 ≤ n) (h1 : n ≤ 9223372036854775807) : 1 ≤ (itoa n).length ∧ (itoa n).length ≤ 20 := by
  unfold itoa
  split
  · have := dd_len 18 n.natAbs (by have : n.natAbs ≤ 9223372036854775808 := by omega
                                   exact Nat.lt_of_le_of_lt this (by decide))
    simp; omega
  · have := dd_len 18 n.toNat (by have : n.toNat ≤ 9223372036854775807 := by omega
                                  exact Nat.lt_of_le_of_lt this (by decide))
    have := dd_pos n.toNat
    omega
theorem data_size (s : ByteArray) : s.data.toList.length = s.size := by rw [Array.length_toList]; rfl
mutual
theorem putc_grows : ∀ (v : V) (l : List UInt8), l.length ≤ (putc l v).length
  | ⟨k, n, s, L⟩, l => by
    rw [putc]
    split
    · omega
    · split
      · simp
      · split
        · simp
        · have := putcs_grows L (l ++ [108])
          simp at this ⊢
          omega
theorem putcs_grows : ∀ (L : List V) (l : List UInt8), l.length ≤ (putcs l L).length
  | [], l => by rw [putcs]; omega
  | x :: xs, l => by
    rw [putcs]
    have := putc_grows x l
    have := putcs_grows xs (putc l x)
    omega
end
mutual
theorem putc_spec : ∀ (v : V) (l : List UInt8), ((l ++ enc v).length ≤ 65536 → putc l v = l ++ enc v) ∧ (65536 < (l ++ enc v).length → 65536 < (putc l v).length)
  | ⟨k, n, s, L⟩, l => by
    rw [putc, enc]
    by_cases c : 65536 < l.length
    · rw [if_pos c]
      exact ⟨fun h => by rw [List.length_append] at h; omega, fun _ => c⟩
    · rw [if_neg c]
      by_cases c1 : k = 1
      · rw [if_pos c1, if_pos c1]; exact ⟨fun _ => rfl, fun h => h⟩
      · rw [if_neg c1, if_neg c1]
        by_cases c2 : k = 2
        · rw [if_pos c2, if_pos c2]; exact ⟨fun _ => rfl, fun h => h⟩
        · rw [if_neg c2, if_neg c2]
          have := putcs_spec L (l ++ [108])
          simp only [List.length_append, List.length_cons, List.length_nil] at this ⊢
          constructor
          · intro h
            rw [this.1 (by omega)]
            simp
          · intro h
            by_cases e : l.length + 1 + (encs L).length ≤ 65536
            · rw [this.1 (by omega)]
              simp
              omega
            · have := this.2 (by omega)
              omega
theorem putcs_spec : ∀ (L : List V) (l : List UInt8), ((l ++ encs L).length ≤ 65536 → putcs l L = l ++ encs L) ∧ (65536 < (l ++ encs L).length → 65536 < (putcs l L).length)
  | [], l => by rw [putcs, encs, List.append_nil]; exact ⟨fun _ => rfl, fun h => h⟩
  | x :: xs, l => by
    rw [putcs, encs]
    have h1 := putc_spec x l
    have h2 := putcs_spec xs (putc l x)
    simp only [List.length_append] at h1 h2 ⊢
    constructor
    · intro h
      have e := h1.1 (by omega)
      rw [e] at h2 ⊢
      rw [h2.1 (by simp; omega), List.append_assoc]
    · intro h
      by_cases c : l.length + (enc x).length ≤ 65536
      · have e := h1.1 c
        rw [e] at h2 ⊢
        exact h2.2 (by simp; omega)
      · have := h1.2 (by omega)
        have := putcs_grows xs (putc l x)
        omega
end
mutual
theorem putc_le : ∀ (v : V) (l : List UInt8), okV v = true → (putc l v).length ≤ l.length + wt v
  | ⟨k, n, s, L⟩, l, ho => by
    obtain ⟨h0, h1, h2⟩ := (okV_iff _).1 ho
    replace h0 : -9223372036854775808 ≤ n := h0
    replace h1 : n ≤ 9223372036854775807 := h1
    rw [putc, wt]
    split
    · omega
    · split
      · have := itoa_len h0 h1; simp; omega
      · split
        · have hz := data_size s
          have e : ((s.size : Int)).toNat = s.size := by omega
          have hd := dd_any s.size
          simp only [List.length_append, List.length_cons, hz, itoa]
          rw [if_neg (by omega), e]
          omega
        · have := putcs_le L (l ++ [108]) h2
          simp at this ⊢
          omega
theorem putcs_le : ∀ (L : List V) (l : List UInt8), okVs L = true → (putcs l L).length ≤ l.length + wts L
  | [], l, _ => by rw [putcs]; omega
  | x :: xs, l, ho => by
    rw [okVs_cons] at ho
    rw [putcs, wts]
    have := putc_le x l ho.1
    have := putcs_le xs (putc l x) ho.2
    omega
end
end Go.Proofs.YtcdfedbecgfanaaDoor.Giv
namespace Go.Proofs.YtcdfedbecgfanaaDoor.Giv
open Go.RowKit Go.Lib
set_option linter.unusedVariables false
set_option linter.unusedSimpArgs false
mutual
def chk : V → Nat → Int
  | ⟨k, _, _, L⟩, w => if k = 1 then 0 else if k = 2 then 0 else if k = 3 then chks (if 8 ≤ w then 22 else 0) w L else 1
def chks : Int → Nat → List V → Int
  | o, _, [] => o
  | o, w, x :: xs => if chk x (w + 1) = 1 then 1 else if chk x (w + 1) = 22 then chks 22 w xs else chks o w xs
end
mutual
def kin : V → Bool
  | ⟨k, _, _, L⟩ => if k = 1 then true else if k = 2 then true else if k = 3 then kins L else false
def kins : List V → Bool
  | [] => true
  | x :: xs => kin x && kins xs
end
mutual
def dep : V → Nat
  | ⟨k, _, _, L⟩ => if k = 3 then deps L + 1 else 0
def deps : List V → Nat
  | [] => 0
  | x :: xs => max (dep x) (deps xs)
end
theorem chk_eq (v : V) (w : Nat) : chk v w = if v.f0 = 1 then 0 else if v.f0 = 2 then 0 else if v.f0 = 3 then chks (if 8 ≤ w then 22 else 0) w v.f3 else 1 := by obtain ⟨k, n, s, L⟩ := v; rw [chk]
theorem chks_nil (o : Int) (w : Nat) : chks o w [] = o := by rw [chks]
theorem chks_cons (o : Int) (w : Nat) (x : V) (xs : List V) : chks o w (x :: xs) = if chk x (w + 1) = 1 then 1 else if chk x (w + 1) = 22 then chks 22 w xs else chks o w xs := by rw [chks]
theorem kin_eq (v : V) : kin v = if v.f0 = 1 then true else if v.f0 = 2 then true else if v.f0 = 3 then kins v.f3 else false := by obtain ⟨k, n, s, L⟩ := v; rw [kin]
theorem kins_nil : kins [] = true := by rw [kins]
theorem kins_cons (x : V) (xs : List V) : kins (x :: xs) = (kin x && kins xs) := by rw [kins]
theorem dep_eq (v : V) : dep v = if v.f0 = 3 then deps v.f3 + 1 else 0 := by obtain ⟨k, n, s, L⟩ := v; rw [dep]
theorem deps_nil : deps [] = 0 := by rw [deps]
theorem deps_cons (x : V) (xs : List V) : deps (x :: xs) = max (dep x) (deps xs) := by rw [deps]
mutual
theorem chk_spec : ∀ (v : V) (w : Nat), chk v w = if kin v = true then (if 8 < dep v + w ∧ dep v ≠ 0 then 22 else 0) else 1
  | ⟨k, n, s, L⟩, w => by
    rw [chk, kin, dep]
    by_cases c1 : k = 1
    · subst c1; simp
    · by_cases c2 : k = 2
      · subst c2; simp
      · by_cases c3 : k = 3
        · rw [if_neg c1, if_neg c2, if_pos c3, if_neg c1, if_neg c2, if_pos c3, if_pos c3, chks_spec L]
          by_cases hk : kins L = true
          · rw [if_pos hk, if_pos hk]
            by_cases h8 : 8 ≤ w
            · rw [if_pos h8, if_pos (show 8 < deps L + 1 + w ∧ deps L + 1 ≠ 0 by omega)]
              split <;> rfl
            · rw [if_neg h8]
              by_cases hd : 8 < deps L + 1 + w ∧ deps L ≠ 0
              · rw [if_pos (show 8 < deps L + (w + 1) ∧ deps L ≠ 0 by omega), if_pos (show 8 < deps L + 1 + w ∧ deps L + 1 ≠ 0 by omega)]
              · rw [if_neg (show ¬(8 < deps L + (w + 1) ∧ deps L ≠ 0) by omega), if_neg (show ¬(8 < deps L + 1 + w ∧ deps L + 1 ≠ 0) by omega)]
          · rw [if_neg hk, if_neg hk]
        · rw [if_neg c1, if_neg c2, if_neg c3, if_neg c1, if_neg c2, if_neg c3]; simp
theorem chks_spec : ∀ (L : List V) (o : Int) (w : Nat), chks o w L = if kins L = true then (if 8 < deps L + (w + 1) ∧ deps L ≠ 0 then 22 else o) else 1
  | [], o, w => by rw [chks, kins, deps]; simp
  | x :: xs, o, w => by
    rw [chks, kins, deps, chk_spec x, chks_spec xs, chks_spec xs]
    by_cases h1 : kin x = true
    · rw [if_pos h1, h1, Bool.true_and]
      by_cases h2 : 8 < dep x + (w + 1) ∧ dep x ≠ 0
      · rw [if_pos h2, if_neg (by decide), if_pos rfl]
        by_cases h3 : kins xs = true
        · rw [if_pos h3, if_pos h3, if_pos (show 8 < max (dep x) (deps xs) + (w + 1) ∧ max (dep x) (deps xs) ≠ 0 by omega)]
          split <;> rfl
        · rw [if_neg h3, if_neg h3]
      · rw [if_neg h2, if_neg (by decide), if_neg (by decide)]
        by_cases h3 : kins xs = true
        · rw [if_pos h3, if_pos h3]
          by_cases h4 : 8 < deps xs + (w + 1) ∧ deps xs ≠ 0
          · rw [if_pos h4, if_pos (show 8 < max (dep x) (deps xs) + (w + 1) ∧ max (dep x) (deps xs) ≠ 0 by omega)]
          · rw [if_neg h4, if_neg (show ¬(8 < max (dep x) (deps xs) + (w + 1) ∧ max (dep x) (deps xs) ≠ 0) by omega)]
        · rw [if_neg h3, if_neg h3]
    · rw [if_neg h1, if_pos rfl, if_neg (by simp [h1])]
end
theorem chk_top (v : V) : chk v 0 = if kin v = true then (if 8 < dep v then 22 else 0) else 1 := by
  rw [chk_spec]
  by_cases h : 8 < dep v
  · rw [if_pos (show 8 < dep v + 0 ∧ dep v ≠ 0 by omega), if_pos h]
  · rw [if_neg (show ¬(8 < dep v + 0 ∧ dep v ≠ 0) by omega), if_neg h]
def putM (v : V) : ByteArray × Int := if chk v 0 = 0 then (if (enc v).length ≤ 65536 then (⟨(enc v).toArray⟩, 0) else (⟨#[]⟩, 23)) else (⟨#[]⟩, chk v 0)
def numL (neg : Bool) : Bool → Bool → Int → List UInt8 → Int × Int × Nat
  | _, _, _, [] => (21, 0, 0)
  | z, st, n, c :: t =>
    if c = 101 ∧ st = true then (0, n, 1)
    else if c < 48 ∨ 57 < c ∨ (st = true ∧ z = true) ∨ (st = false ∧ c = 48 ∧ neg = true) then (20, 0, 0)
    else if neg = true then (if 10 * n - ((c.toNat : Int) - 48) < -9223372036854775808 then (20, 0, 0) else let r := numL neg (if st then z else c == 48) true (10 * n - ((c.toNat : Int) - 48)) t; (r.1, r.2.1, r.2.2 + 1))
    else (if 9223372036854775807 < 10 * n + ((c.toNat : Int) - 48) then (20, 0, 0) else let r := numL neg (if st then z else c == 48) true (10 * n + ((c.toNat : Int) - 48)) t; (r.1, r.2.1, r.2.2 + 1))
def lenL : Bool → Bool → Nat → List UInt8 → Int × Nat × Nat
  | _, _, _, [] => (21, 0, 0)
  | z, st, n, c :: t =>
    if c = 58 ∧ st = true then (0, n, 1)
    else if c < 48 ∨ 57 < c ∨ (st = true ∧ z = true) then (20, 0, 0)
    else if 65536 < 10 * n + (c.toNat - 48) then (23, 0, 0)
    else let r := lenL (if st then z else c == 48) true (10 * n + (c.toNat - 48)) t; (r.1, r.2.1, r.2.2 + 1)
def listL (f : List UInt8 → Int × V × Nat) : Nat → List UInt8 → Int × List V × Nat
  | _, [] => (21, [], 0)
  | 0, _ => (21, [], 0)
  | k + 1, c :: t => if c = 101 then (0, [], 1) else if (f (c :: t)).1 = 0 then (if (listL f k ((c :: t).drop (f (c :: t)).2.2)).1 = 0 then (0, (f (c :: t)).2.1 :: (listL f k ((c :: t).drop (f (c :: t)).2.2)).2.1, (f (c :: t)).2.2 + (listL f k ((c :: t).drop (f (c :: t)).2.2)).2.2) else ((listL f k ((c :: t).drop (f (c :: t)).2.2)).1, [], 0)) else ((f (c :: t)).1, [], 0)
def intL (t : List UInt8) : Int × Int × Nat := if t.head? = some 45 then ((numL true false false 0 t.tail).1, (numL true false false 0 t.tail).2.1, (numL true false false 0 t.tail).2.2 + 1) else numL false false false 0 t
def valL : Nat → List UInt8 → Int × V × Nat
  | _, [] => (21, zV, 0)
  | d, c :: t =>
    if c = 105 then (if (intL t).1 = 0 then (0, intV (intL t).2.1, (intL t).2.2 + 1) else ((intL t).1, zV, 0))
    else if 48 ≤ c ∧ c ≤ 57 then
      (if (lenL false false 0 (c :: t)).1 = 0 then
        (if (c :: t).length < (lenL false false 0 (c :: t)).2.2 + (lenL false false 0 (c :: t)).2.1 then (21, zV, 0)
         else (0, strV ⟨(((c :: t).drop (lenL false false 0 (c :: t)).2.2).take (lenL false false 0 (c :: t)).2.1).toArray⟩, (lenL false false 0 (c :: t)).2.2 + (lenL false false 0 (c :: t)).2.1))
       else ((lenL false false 0 (c :: t)).1, zV, 0))
    else if c ≠ 108 then (20, zV, 0)
    else match d with
      | 0 => (22, zV, 0)
      | d + 1 => if (listL (valL d) t.length t).1 = 0 then (0, lisV (listL (valL d) t.length t).2.1, (listL (valL d) t.length t).2.2 + 1) else ((listL (valL d) t.length t).1, zV, 0)
def takeM (s : ByteArray) : V × Int × Int := if (valL 8 s.data.toList).1 = 0 then (if (valL 8 s.data.toList).2.2 ≤ 65536 then ((valL 8 s.data.toList).2.1, ((valL 8 s.data.toList).2.2 : Int), 0) else (zV, 0, 23)) else (zV, 0, (valL 8 s.data.toList).1)
theorem numL_used (neg : Bool) : ∀ (l : List UInt8) (z st : Bool) (n : Int), (numL neg z st n l).1 = 0 → 1 ≤ (numL neg z st n l).2.2 ∧ (numL neg z st n l).2.2 ≤ l.length ∧ (st = false → 2 ≤ (numL neg z st n l).2.2)
  | [], z, st, n, h => by rw [numL] at h; cases h
  | c :: t, z, st, n, h => by
    rw [numL] at h ⊢
    split at h
    · rename_i h1
      rw [if_pos h1]
      exact ⟨Nat.le_refl _, by simp, fun e => by rw [e] at h1; simp at h1⟩
    · rename_i h1
      rw [if_neg h1]
      split at h
      · cases h
      · rename_i h2
        rw [if_neg h2]
        split at h
        · rename_i h3
          rw [if_pos h3]
          split at h
          · cases h
          · rename_i h4
            rw [if_neg h4]
            have := numL_used neg t _ true _ h
            simp only [List.length_cons]
            omega
        · rename_i h3
          rw [if_neg h3]
          split at h
          · cases h
          · rename_i h4
            rw [if_neg h4]
            have := numL_used neg t _ true _ h
            simp only [List.length_cons]
            omega
theorem lenL_used : ∀ (l : List UInt8) (z st : Bool) (n : Nat), (lenL z st n l).1 = 0 → 1 ≤ (lenL z st n l).2.2 ∧ (lenL z st n l).2.2 ≤ l.length ∧ (st = false → 2 ≤ (lenL z st n l).2.2) ∧ (n ≤ 65536 → (lenL z st n l).2.1 ≤ 65536)
  | [], z, st, n, h => by rw [lenL] at h; cases h
  | c :: t, z, st, n, h => by
    rw [lenL] at h ⊢
    split at h
    · rename_i h1
      rw [if_pos h1]
      exact ⟨Nat.le_refl _, by simp, fun e => by rw [e] at h1; simp at h1, fun h => h⟩
    · rename_i h1
      rw [if_neg h1]
      split at h
      · cases h
      · rename_i h2
        rw [if_neg h2]
        split at h
        · cases h
        · rename_i h3
          rw [if_neg h3]
          obtain ⟨a1, a2, a3, a4⟩ := lenL_used t _ true _ h
          simp only [List.length_cons]
          exact ⟨by omega, by omega, by omega, fun _ => a4 (by omega)⟩
theorem intL_used (t : List UInt8) (h : (intL t).1 = 0) : 2 ≤ (intL t).2.2 ∧ (intL t).2.2 ≤ t.length := by
  unfold intL at h ⊢
  split at h
  · rename_i h1
    rw [if_pos h1]
    have := numL_used true t.tail false false 0 h
    have := this.2.2 rfl
    have ht : t.tail.length + 1 = t.length := by
      cases t with
      | nil => cases h1
      | cons a b => simp
    simp only
    omega
  · rename_i h1
    rw [if_neg h1]
    have := numL_used false t false false 0 h
    have := this.2.2 rfl
    omega
theorem listL_used (f : List UInt8 → Int × V × Nat) (hf : ∀ l, (f l).1 = 0 → 1 ≤ (f l).2.2 ∧ (f l).2.2 ≤ l.length) : ∀ (k : Nat) (l : List UInt8), (listL f k l).1 = 0 → 1 ≤ (listL f k l).2.2 ∧ (listL f k l).2.2 ≤ l.length
  | _, [], h => by rw [listL] at h; cases h
  | 0, c :: t, h => by rw [listL] at h; cases h; simp
  | k + 1, c :: t, h => by
    rw [listL] at h ⊢
    split at h
    · rename_i h1; rw [if_pos h1]; simp
    · rename_i h1
      rw [if_neg h1]
      split at h
      · rename_i h2
        rw [if_pos h2]
        split at h
        · rename_i h3
          rw [if_pos h3]
          have a := hf _ h2
          have b := listL_used f hf k _ h3
          rw [List.length_drop] at b
          simp only
          omega
        · rename_i h3; exact absurd h h3
      · rename_i h2; exact absurd h h2
theorem valL_used : ∀ (d : Nat) (l : List UInt8), (valL d l).1 = 0 → 2 ≤ (valL d l).2.2 ∧ (valL d l).2.2 ≤ l.length := by
  intro d
  induction d with
  | zero =>
    intro l h
    cases l with
    | nil => rw [valL] at h; cases h
    | cons c t =>
      rw [valL] at h ⊢
      split at h
      · rename_i h1
        rw [if_pos h1]
        split at h
        · rename_i h2
          rw [if_pos h2]
          have := intL_used t h2
          simp only [List.length_cons]
          omega
        · rename_i h2; exact absurd h h2
      · rename_i h1
        rw [if_neg h1]
        split at h
        · rename_i h2
          rw [if_pos h2]
          split at h
          · rename_i h3
            rw [if_pos h3]
            split at h
            · cases h
            · rename_i h4
              rw [if_neg h4]
              have := lenL_used _ false false 0 h3
              have := this.2.2.1 rfl
              simp only
              omega
          · rename_i h3; exact absurd h h3
        · split at h
          · cases h
          · cases h
  | succ d ih =>
    intro l h
    cases l with
    | nil => rw [valL] at h; cases h
    | cons c t =>
      rw [valL] at h ⊢
      split at h
      · rename_i h1
        rw [if_pos h1]
        split at h
        · rename_i h2
          rw [if_pos h2]
          have := intL_used t h2
          simp only [List.length_cons]
          omega
        · rename_i h2; exact absurd h h2
      · rename_i h1
        rw [if_neg h1]
        split at h
        · rename_i h2
          rw [if_pos h2]
          split at h
          · rename_i h3
            rw [if_pos h3]
            split at h
            · cases h
            · rename_i h4
              rw [if_neg h4]
              have := lenL_used _ false false 0 h3
              have := this.2.2.1 rfl
              simp only
              omega
          · rename_i h3; exact absurd h h3
        · rename_i h2
          rw [if_neg h2]
          split at h
          · cases h
          · rename_i h3
            rw [if_neg h3]
            split at h
            · rename_i h4
              simp only [h4, if_true]
              have := listL_used (valL d) (fun l h => by have := ih l h; omega) _ _ h4
              simp only [List.length_cons]
              omega
            · rename_i h4; exact absurd h h4
end Go.Proofs.YtcdfedbecgfanaaDoor.Giv
namespace Go.Proofs.YtcdfedbecgfanaaDoor.Giv
open Go.RowKit Go.Lib
set_option linter.unusedVariables false
set_option linter.unusedSimpArgs false
def isD (c : UInt8) : Prop := 48 ≤ c.toNat ∧ c.toNat ≤ 57
def dv (c : UInt8) : Nat := c.toNat - 48
def foldN (a : Nat) (ds : List UInt8) : Nat := ds.foldl (fun a c => 10 * a + dv c) a
theorem foldN_nil (a : Nat) : foldN a [] = a := rfl
theorem foldN_cons (a : Nat) (c : UInt8) (t : List UInt8) : foldN a (c :: t) = foldN (10 * a + dv c) t := by unfold foldN; rw [List.foldl_cons]
theorem foldN_app (a : Nat) (l r : List UInt8) : foldN a (l ++ r) = foldN (foldN a l) r := List.foldl_append ..
theorem foldN_ge : ∀ (ds : List UInt8) (a : Nat), a ≤ foldN a ds
  | [], a => Nat.le_refl _
  | c :: t, a => by rw [foldN_cons]; have := foldN_ge t (10 * a + dv c); omega
theorem digit_of {u : Nat} (h : u < 10) : (UInt8.ofNat (48 + u)).toNat = 48 + u := by
  rw [UInt8.toNat_ofNat']
  omega
theorem dd_isD (u : Nat) : ∀ c ∈ decDigits u, isD c := by
  induction u using Nat.strongRecOn with
  | _ u ih =>
    intro c hc
    by_cases h : u < 10
    · rw [dd_small h] at hc
      rw [List.mem_singleton.1 hc]
      unfold isD
      rw [digit_of h]
      omega
    · rw [dd_big h] at hc
      rcases List.mem_append.1 hc with hc | hc
      · exact ih (u / 10) (by omega) c hc
      · rw [List.mem_singleton.1 hc]
        unfold isD
        rw [digit_of (by omega)]
        omega
theorem dd_fold (u : Nat) : foldN 0 (decDigits u) = u := by
  induction u using Nat.strongRecOn with
  | _ u ih =>
    by_cases h : u < 10
    · rw [dd_small h, foldN_cons, foldN_nil]
      unfold dv
      rw [digit_of h]
      omega
    · rw [dd_big h, foldN_app, ih (u / 10) (by omega), foldN_cons, foldN_nil]
      unfold dv
      rw [digit_of (by omega)]
      omega
theorem dd_head (u : Nat) : ∃ c t, decDigits u = c :: t ∧ (c.toNat = 48 → u = 0 ∧ t = []) := by
  induction u using Nat.strongRecOn with
  | _ u ih =>
    by_cases h : u < 10
    · rw [dd_small h]
      exact ⟨_, _, rfl, fun e => by rw [digit_of h] at e; exact ⟨by omega, rfl⟩⟩
    · rw [dd_big h]
      obtain ⟨c, t, e, h2⟩ := ih (u / 10) (by omega)
      rw [e]
      exact ⟨c, _, rfl, fun e2 => by have := (h2 e2).1; omega⟩
def sgn (neg : Bool) (m : Nat) : Int := if neg = true then -(m : Int) else (m : Int)
def fits (neg : Bool) (m : Nat) : Prop := m ≤ 9223372036854775807 + (if neg = true then 1 else 0)
instance (neg : Bool) (m : Nat) : Decidable (fits neg m) := by unfold fits; infer_instance
theorem u8_ne {c d : UInt8} (h : c.toNat ≠ d.toNat) : ¬ c = d := fun e => h (by rw [e])
theorem isD_not {c : UInt8} (h : isD c) : ¬ c = 101 ∧ ¬ c = 58 ∧ ¬ c < 48 ∧ ¬ 57 < c := by
  unfold isD at h
  refine ⟨u8_ne ?_, u8_ne ?_, ?_, ?_⟩
  · show c.toNat ≠ 101; omega
  · show c.toNat ≠ 58; omega
  · rw [UInt8.lt_iff_toNat_lt]; show ¬ c.toNat < 48; omega
  · rw [UInt8.lt_iff_toNat_lt]; show ¬ 57 < c.toNat; omega
theorem numL_digit (neg z st : Bool) (m : Nat) (c : UInt8) (t : List UInt8) (hc : isD c) (hz : st = true → z = false) (h0 : st = false → c.toNat = 48 → neg = false) :
    numL neg z st (sgn neg m) (c :: t) = if fits neg (10 * m + dv c) then ((numL neg (if st then z else c == 48) true (sgn neg (10 * m + dv c)) t).1, (numL neg (if st then z else c == 48) true (sgn neg (10 * m + dv c)) t).2.1, (numL neg (if st then z else c == 48) true (sgn neg (10 * m + dv c)) t).2.2 + 1) else (20, 0, 0) := by
  obtain ⟨n1, n2, n3, n4⟩ := isD_not hc
  have hcv : ((c.toNat : Int) - 48) = (dv c : Int) := by unfold isD at hc; unfold dv; omega
  have hb : ¬(c < 48 ∨ 57 < c ∨ (st = true ∧ z = true) ∨ (st = false ∧ c = 48 ∧ neg = true)) := by
    rintro (h | h | ⟨h, h'⟩ | ⟨h, h', h''⟩)
    · exact n3 h
    · exact n4 h
    · rw [hz h] at h'; cases h'
    · rw [h0 h (by rw [h']; rfl)] at h''; cases h''
  rw [numL, if_neg (by rintro ⟨e, _⟩; exact n1 e), if_neg hb, hcv]
  cases neg with
  | true =>
    rw [if_pos rfl]
    have e : 10 * sgn true m - (dv c : Int) = sgn true (10 * m + dv c) := by unfold sgn; rw [if_pos rfl, if_pos rfl]; omega
    rw [e]
    by_cases hf : fits true (10 * m + dv c)
    · rw [if_pos hf, if_neg (by unfold fits at hf; unfold sgn; rw [if_pos rfl] at hf ⊢; omega)]
    · rw [if_neg hf, if_pos (by unfold fits at hf; unfold sgn; rw [if_pos rfl] at hf ⊢; omega)]
  | false =>
    rw [if_neg (by decide)]
    have e : 10 * sgn false m + (dv c : Int) = sgn false (10 * m + dv c) := by unfold sgn; rw [if_neg (by decide), if_neg (by decide)]; omega
    rw [e]
    by_cases hf : fits false (10 * m + dv c)
    · rw [if_pos hf, if_neg (by unfold fits at hf; unfold sgn; rw [if_neg (by decide)] at hf ⊢; omega)]
    · rw [if_neg hf, if_pos (by unfold fits at hf; unfold sgn; rw [if_neg (by decide)] at hf ⊢; omega)]
theorem fits_le {neg : Bool} {a b : Nat} (h : fits neg b) (hab : a ≤ b) : fits neg a := by unfold fits at *; omega
theorem numL_run (neg : Bool) (rest : List UInt8) : ∀ (ds : List UInt8) (m : Nat), (∀ c ∈ ds, isD c) → fits neg (foldN m ds) → numL neg false true (sgn neg m) (ds ++ 101 :: rest) = (0, sgn neg (foldN m ds), ds.length + 1)
  | [], m, _, _ => by
    rw [List.nil_append, numL, if_pos ⟨rfl, rfl⟩]
    rfl
  | c :: t, m, hD, hf => by
    rw [foldN_cons] at hf ⊢
    have hf1 : fits neg (10 * m + dv c) := fits_le hf (foldN_ge t _)
    rw [List.cons_append, numL_digit neg false true m c (t ++ 101 :: rest) (hD c (by simp)) (fun _ => rfl) (fun h => by cases h), if_pos hf1, if_pos rfl, numL_run neg rest t (10 * m + dv c) (fun x hx => hD x (by simp [hx])) hf]
    simp
theorem numL_dd (neg : Bool) (m : Nat) (rest : List UInt8) (hf : fits neg m) (h0 : neg = true → m ≠ 0) : numL neg false false 0 (decDigits m ++ 101 :: rest) = (0, sgn neg m, (decDigits m).length + 1) := by
  obtain ⟨c, t, e, h48⟩ := dd_head m
  have hD := dd_isD m
  have hF := dd_fold m
  rw [e] at hD hF ⊢
  rw [foldN_cons] at hF
  have hs : (0 : Int) = sgn neg 0 := by unfold sgn; split <;> rfl
  have hc48 : c.toNat = 48 → neg = false := fun h => by
    cases hn : neg with
    | false => rfl
    | true => exact absurd (h48 h).1 (h0 hn)
  have key := numL_digit neg false false 0 c (t ++ 101 :: rest) (hD c (by simp)) (fun h => by cases h) (fun _ => hc48)
  rw [← hs] at key
  rw [List.cons_append, key, if_pos (fits_le hf (by rw [← hF]; exact foldN_ge t _)), if_neg (by decide)]
  by_cases hz : c.toNat = 48
  · obtain ⟨hm, ht⟩ := h48 hz
    subst ht
    rw [foldN_nil] at hF
    rw [hF, List.nil_append, numL, if_pos ⟨rfl, rfl⟩]
    rfl
  · have hzz : (c == 48) = false := beq_eq_false_iff_ne.2 (u8_ne (by show c.toNat ≠ 48; exact hz))
    rw [hzz, numL_run neg rest t (10 * 0 + dv c) (fun x hx => hD x (by simp [hx])) (by rw [hF]; exact hf), hF]
    simp
theorem lenL_digit (z st : Bool) (m : Nat) (c : UInt8) (t : List UInt8) (hc : isD c) (hz : st = true → z = false) :
    lenL z st m (c :: t) = if 65536 < 10 * m + dv c then (23, 0, 0) else ((lenL (if st then z else c == 48) true (10 * m + dv c) t).1, (lenL (if st then z else c == 48) true (10 * m + dv c) t).2.1, (lenL (if st then z else c == 48) true (10 * m + dv c) t).2.2 + 1) := by
  obtain ⟨n1, n2, n3, n4⟩ := isD_not hc
  have hb : ¬(c < 48 ∨ 57 < c ∨ (st = true ∧ z = true)) := by
    rintro (h | h | ⟨h, h'⟩)
    · exact n3 h
    · exact n4 h
    · rw [hz h] at h'; cases h'
  rw [lenL, if_neg (by rintro ⟨e, _⟩; exact n2 e), if_neg hb]
  rfl
theorem lenL_run (rest : List UInt8) : ∀ (ds : List UInt8) (m : Nat), (∀ c ∈ ds, isD c) → foldN m ds ≤ 65536 → lenL false true m (ds ++ 58 :: rest) = (0, foldN m ds, ds.length + 1)
  | [], m, _, _ => by
    rw [List.nil_append, lenL, if_pos ⟨rfl, rfl⟩]
    rfl
  | c :: t, m, hD, hf => by
    rw [foldN_cons] at hf ⊢
    have := foldN_ge t (10 * m + dv c)
    rw [List.cons_append, lenL_digit false true m c (t ++ 58 :: rest) (hD c (by simp)) (fun _ => rfl), if_neg (by omega), if_pos rfl, lenL_run rest t (10 * m + dv c) (fun x hx => hD x (by simp [hx])) hf]
    simp
theorem lenL_dd (m : Nat) (rest : List UInt8) (hf : m ≤ 65536) : lenL false false 0 (decDigits m ++ 58 :: rest) = (0, m, (decDigits m).length + 1) := by
  obtain ⟨c, t, e, h48⟩ := dd_head m
  have hD := dd_isD m
  have hF := dd_fold m
  rw [e] at hD hF ⊢
  rw [foldN_cons] at hF
  have := foldN_ge t (10 * 0 + dv c)
  rw [List.cons_append, lenL_digit false false 0 c (t ++ 58 :: rest) (hD c (by simp)) (fun h => by cases h), if_neg (by omega), if_neg (by decide)]
  by_cases hz : c.toNat = 48
  · obtain ⟨hm, ht⟩ := h48 hz
    subst ht
    rw [foldN_nil] at hF
    rw [hF, List.nil_append, lenL, if_pos ⟨rfl, rfl⟩]
    rfl
  · have hzz : (c == 48) = false := beq_eq_false_iff_ne.2 (u8_ne (by show c.toNat ≠ 48; exact hz))
    rw [hzz, lenL_run rest t (10 * 0 + dv c) (fun x hx => hD x (by simp [hx])) (by omega), hF]
    simp
end Go.Proofs.YtcdfedbecgfanaaDoor.Giv
namespace Go.Proofs
open Go.Shelf Go.RowKit Go.Lib
def Tryd.LaysM_n171_ren : Go.Shelf.Ren := ⟨fun | 0 => 0 | 1 => 1 | 2 => 2 | 129 => 51 | 166 => 34 | 169 => 27 | 170 => 26 | 171 => 35 | 240 => 42 | 243 => 43 | 246 => 45 | 276 => 44 | 283 => 46 | 284 => 47 | 285 => 48 | 286 => 49 | 317 => 50 | 318 => 52 | 319 => 53 | 320 => 54 | 337 => 55 | 338 => 56 | 347 => 57 | 348 => 58 | 349 => 59 | 350 => 60 | 351 => 61 | 352 => 62 | 353 => 63 | 354 => 64 | 355 => 65 | 356 => 66 | 357 => 67 | 358 => 68 | 359 => 69 | 360 => 70 | 361 => 71 | 362 => 72 | 366 => 73 | 367 => 79 | n => n, fun | 0 => 0 | 1 => 1 | 2 => 2 | 3 => 3 | 4 => 4 | 5 => 5 | 6 => 6 | 7 => 7 | 8 => 8 | 9 => 9 | 10 => 10 | 11 => 11 | 12 => 12 | 13 => 13 | 14 => 14 | 15 => 15 | 16 => 16 | 17 => 17 | 18 => 18 | 19 => 19 | 20 => 20 | 21 => 21 | 37 => 35 | 46 => 87 | 47 => 88 | 51 => 84 | 52 => 89 | 53 => 76 | 54 => 77 | 70 => 46 | 71 => 47 | 72 => 48 | 74 => 60 | 75 => 61 | 76 => 62 | 77 => 63 | 80 => 51 | 81 => 50 | 83 => 64 | 84 => 74 | 104 => 39 | 111 => 86 | 112 => 36 | 114 => 81 | 127 => 65 | 164 => 72 | 165 => 73 | 171 => 75 | 172 => 78 | 173 => 79 | 174 => 80 | 211 => 82 | 212 => 83 | 213 => 85 | 232 => 90 | 233 => 91 | 238 => 92 | 239 => 93 | 240 => 94 | 241 => 95 | 242 => 96 | 243 => 97 | 244 => 98 | 245 => 99 | 246 => 100 | 247 => 101 | 248 => 102 | 249 => 103 | n => n, fun | 17 => 0 | 18 => 1 | 19 => 2 | n => n⟩
theorem Tryd.LaysM_n171 : LaysM.n171 Tryd.prog Tryd.LaysM_n171_ren := {
  mixed := by kernel_rfl,
  f129 := Tryd.func51.trans (congrArg some (by kernel_rfl)),
  f171 := Tryd.func35.trans (congrArg some (by kernel_rfl)),
  f243 := Tryd.func43.trans (congrArg some (by kernel_rfl)),
  f246 := Tryd.func45.trans (congrArg some (by kernel_rfl)),
  f283 := Tryd.func46.trans (congrArg some (by kernel_rfl)),
  f284 := Tryd.func47.trans (congrArg some (by kernel_rfl)),
  f285 := Tryd.func48.trans (congrArg some (by kernel_rfl)),
  f286 := Tryd.func49.trans (congrArg some (by kernel_rfl)),
  f317 := Tryd.func50.trans (congrArg some (by kernel_rfl)),
  f318 := Tryd.func52.trans (congrArg some (by kernel_rfl)),
  f319 := Tryd.func53.trans (congrArg some (by kernel_rfl)),
  f320 := Tryd.func54.trans (congrArg some (by kernel_rfl)),
  f337 := Tryd.func55.trans (congrArg some (by kernel_rfl)),
  f338 := Tryd.func56.trans (congrArg some (by kernel_rfl)),
  t0 := Tryd.underlying0,
  a0 := Tryd.isAgg0,
  z0 := Tryd.sizeOf0,
  v0 := Tryd.zeroValue0,
  t2 := Tryd.underlying2,
  a2 := Tryd.isAgg2,
  z2 := Tryd.sizeOf2,
  v2 := Tryd.zeroValue2,
  t3 := Tryd.underlying3,
  a3 := Tryd.isAgg3,
  z3 := Tryd.sizeOf3,
  v3 := Tryd.zeroValue3,
  t4 := Tryd.underlying4,
  a4 := Tryd.isAgg4,
  z4 := Tryd.sizeOf4,
  v4 := Tryd.zeroValue4,
  t5 := Tryd.underlying5,
  a5 := Tryd.isAgg5,
  z5 := Tryd.sizeOf5,
  v5 := Tryd.zeroValue5,
  t9 := Tryd.underlying9,
  a9 := Tryd.isAgg9,
  z9 := Tryd.sizeOf9,
  v9 := Tryd.zeroValue9,
  t20 := Tryd.underlying20,
  a20 := Tryd.isAgg20,
  z20 := Tryd.sizeOf20,
  v20 := Tryd.zeroValue20,
  t37 := Tryd.underlying35,
  a37 := Tryd.isAgg35,
  z37 := Tryd.sizeOf35,
  v37 := Tryd.zeroValue35,
  t46 := Tryd.underlying87,
  a46 := Tryd.isAgg87,
  z46 := Tryd.sizeOf87,
  v46 := Tryd.zeroValue87,
  t51 := Tryd.underlying84,
  a51 := Tryd.isAgg84,
  z51 := Tryd.sizeOf84,
  v51 := Tryd.zeroValue84,
  t53 := Tryd.underlying76,
  a53 := Tryd.isAgg76,
  z53 := Tryd.sizeOf76,
  v53 := Tryd.zeroValue76,
  t171 := Tryd.underlying75,
  a171 := Tryd.isAgg75,
  z171 := Tryd.sizeOf75,
  v171 := Tryd.zeroValue75,
  t173 := Tryd.underlying79,
  a173 := Tryd.isAgg79,
  z173 := Tryd.sizeOf79,
  v173 := Tryd.zeroValue79,
  t212 := Tryd.underlying83,
  a212 := Tryd.isAgg83,
  z212 := Tryd.sizeOf83,
  v212 := Tryd.zeroValue83,
  t213 := Tryd.underlying85,
  a213 := Tryd.isAgg85,
  z213 := Tryd.sizeOf85,
  t232 := Tryd.underlying90,
  a232 := Tryd.isAgg90,
  z232 := Tryd.sizeOf90,
  v232 := Tryd.zeroValue90,
  t233 := Tryd.underlying91,
  a233 := Tryd.isAgg91,
  z233 := Tryd.sizeOf91,
  v233 := Tryd.zeroValue91,
  g17 := by kernel_rfl,
  g18 := by kernel_rfl,
  g19 := by kernel_rfl,
  i0 := by kernel_rfl,
  i2 := by kernel_rfl,
  i3 := by kernel_rfl,
  i4 := by kernel_rfl,
  i5 := by kernel_rfl,
  i9 := by kernel_rfl,
  i20 := by kernel_rfl,
  i37 := by kernel_rfl,
  i46 := by kernel_rfl,
  i51 := by kernel_rfl,
  i53 := by kernel_rfl,
  i171 := by kernel_rfl,
  i173 := by kernel_rfl,
  i212 := by kernel_rfl,
  i232 := by kernel_rfl,
  i233 := by kernel_rfl,
  m17 := by kernel_rfl,
  m18 := by kernel_rfl,
  m19 := by kernel_rfl }
def Tryd.lays166_ren : Go.Shelf.Ren := ⟨fun | 0 => 0 | 1 => 1 | 2 => 2 | 129 => 51 | 166 => 34 | 169 => 27 | 170 => 26 | 171 => 35 | 240 => 42 | 243 => 43 | 246 => 45 | 276 => 44 | 283 => 46 | 284 => 47 | 285 => 48 | 286 => 49 | 317 => 50 | 318 => 52 | 319 => 53 | 320 => 54 | 337 => 55 | 338 => 56 | 347 => 57 | 348 => 58 | 349 => 59 | 350 => 60 | 351 => 61 | 352 => 62 | 353 => 63 | 354 => 64 | 355 => 65 | 356 => 66 | 357 => 67 | 358 => 68 | 359 => 69 | 360 => 70 | 361 => 71 | 362 => 72 | 366 => 73 | 367 => 79 | n => n, fun | 0 => 0 | 1 => 1 | 2 => 2 | 3 => 3 | 4 => 4 | 5 => 5 | 6 => 6 | 7 => 7 | 8 => 8 | 9 => 9 | 10 => 10 | 11 => 11 | 12 => 12 | 13 => 13 | 14 => 14 | 15 => 15 | 16 => 16 | 17 => 17 | 18 => 18 | 19 => 19 | 20 => 20 | 21 => 21 | 37 => 35 | 46 => 87 | 47 => 88 | 51 => 84 | 52 => 89 | 53 => 76 | 54 => 77 | 70 => 46 | 71 => 47 | 72 => 48 | 74 => 60 | 75 => 61 | 76 => 62 | 77 => 63 | 80 => 51 | 81 => 50 | 83 => 64 | 84 => 74 | 104 => 39 | 111 => 86 | 112 => 36 | 114 => 81 | 127 => 65 | 164 => 72 | 165 => 73 | 171 => 75 | 172 => 78 | 173 => 79 | 174 => 80 | 211 => 82 | 212 => 83 | 213 => 85 | 232 => 90 | 233 => 91 | 238 => 92 | 239 => 93 | 240 => 94 | 241 => 95 | 242 => 96 | 243 => 97 | 244 => 98 | 245 => 99 | 246 => 100 | 247 => 101 | 248 => 102 | 249 => 103 | n => n, fun | 17 => 0 | 18 => 1 | 19 => 2 | n => n⟩
theorem Tryd.lays166 : Lays.n166 Tryd.prog Tryd.lays166_ren := {
  mixed := by kernel_rfl,
  f166 := Tryd.func34.trans (congrArg some (by kernel_rfl)),
  f240 := Tryd.func42.trans (congrArg some (by kernel_rfl)),
  f276 := Tryd.func44.trans (congrArg some (by kernel_rfl)),
  t0 := Tryd.underlying0,
  a0 := Tryd.isAgg0,
  z0 := Tryd.sizeOf0,
  v0 := Tryd.zeroValue0,
  t3 := Tryd.underlying3,
  a3 := Tryd.isAgg3,
  z3 := Tryd.sizeOf3,
  v3 := Tryd.zeroValue3,
  t4 := Tryd.underlying4,
  a4 := Tryd.isAgg4,
  z4 := Tryd.sizeOf4,
  v4 := Tryd.zeroValue4,
  t9 := Tryd.underlying9,
  a9 := Tryd.isAgg9,
  z9 := Tryd.sizeOf9,
  v9 := Tryd.zeroValue9,
  t20 := Tryd.underlying20,
  a20 := Tryd.isAgg20,
  z20 := Tryd.sizeOf20,
  v20 := Tryd.zeroValue20,
  t37 := Tryd.underlying35,
  a37 := Tryd.isAgg35,
  z37 := Tryd.sizeOf35,
  v37 := Tryd.zeroValue35,
  t70 := Tryd.underlying46,
  a70 := Tryd.isAgg46,
  z70 := Tryd.sizeOf46,
  v70 := Tryd.zeroValue46,
  t72 := Tryd.underlying48,
  a72 := Tryd.isAgg48,
  z72 := Tryd.sizeOf48,
  v72 := Tryd.zeroValue48,
  t75 := Tryd.underlying61,
  a75 := Tryd.isAgg61,
  z75 := Tryd.sizeOf61,
  v75 := Tryd.zeroValue61,
  t164 := Tryd.underlying72,
  a164 := Tryd.isAgg72,
  z164 := Tryd.sizeOf72,
  v164 := Tryd.zeroValue72 }
def Tryd.lays169_ren : Go.Shelf.Ren := ⟨fun | 0 => 0 | 1 => 1 | 2 => 2 | 129 => 51 | 166 => 34 | 169 => 27 | 170 => 26 | 171 => 35 | 240 => 42 | 243 => 43 | 246 => 45 | 276 => 44 | 283 => 46 | 284 => 47 | 285 => 48 | 286 => 49 | 317 => 50 | 318 => 52 | 319 => 53 | 320 => 54 | 337 => 55 | 338 => 56 | 347 => 57 | 348 => 58 | 349 => 59 | 350 => 60 | 351 => 61 | 352 => 62 | 353 => 63 | 354 => 64 | 355 => 65 | 356 => 66 | 357 => 67 | 358 => 68 | 359 => 69 | 360 => 70 | 361 => 71 | 362 => 72 | 366 => 73 | 367 => 79 | n => n, fun | 0 => 0 | 1 => 1 | 2 => 2 | 3 => 3 | 4 => 4 | 5 => 5 | 6 => 6 | 7 => 7 | 8 => 8 | 9 => 9 | 10 => 10 | 11 => 11 | 12 => 12 | 13 => 13 | 14 => 14 | 15 => 15 | 16 => 16 | 17 => 17 | 18 => 18 | 19 => 19 | 20 => 20 | 21 => 21 | 37 => 35 | 46 => 87 | 47 => 88 | 51 => 84 | 52 => 89 | 53 => 76 | 54 => 77 | 70 => 46 | 71 => 47 | 72 => 48 | 74 => 60 | 75 => 61 | 76 => 62 | 77 => 63 | 80 => 51 | 81 => 50 | 83 => 64 | 84 => 74 | 104 => 39 | 111 => 86 | 112 => 36 | 114 => 81 | 127 => 65 | 164 => 72 | 165 => 73 | 171 => 75 | 172 => 78 | 173 => 79 | 174 => 80 | 211 => 82 | 212 => 83 | 213 => 85 | 232 => 90 | 233 => 91 | 238 => 92 | 239 => 93 | 240 => 94 | 241 => 95 | 242 => 96 | 243 => 97 | 244 => 98 | 245 => 99 | 246 => 100 | 247 => 101 | 248 => 102 | 249 => 103 | n => n, fun | 17 => 0 | 18 => 1 | 19 => 2 | n => n⟩
theorem Tryd.lays169 : Lays.n169 Tryd.prog Tryd.lays169_ren := {
  mixed := by kernel_rfl,
  f169 := Tryd.func27.trans (congrArg some (by kernel_rfl)),
  t0 := Tryd.underlying0,
  a0 := Tryd.isAgg0,
  z0 := Tryd.sizeOf0,
  v0 := Tryd.zeroValue0,
  t3 := Tryd.underlying3,
  a3 := Tryd.isAgg3,
  z3 := Tryd.sizeOf3,
  v3 := Tryd.zeroValue3,
  t9 := Tryd.underlying9,
  a9 := Tryd.isAgg9,
  z9 := Tryd.sizeOf9,
  v9 := Tryd.zeroValue9,
  t37 := Tryd.underlying35,
  a37 := Tryd.isAgg35,
  z37 := Tryd.sizeOf35,
  v37 := Tryd.zeroValue35,
  t70 := Tryd.underlying46,
  a70 := Tryd.isAgg46,
  z70 := Tryd.sizeOf46,
  v70 := Tryd.zeroValue46,
  t72 := Tryd.underlying48,
  a72 := Tryd.isAgg48,
  z72 := Tryd.sizeOf48,
  v72 := Tryd.zeroValue48,
  t127 := Tryd.underlying65,
  a127 := Tryd.isAgg65,
  z127 := Tryd.sizeOf65,
  v127 := Tryd.zeroValue65 }
def Tryd.lays170_ren : Go.Shelf.Ren := ⟨fun | 0 => 0 | 1 => 1 | 2 => 2 | 129 => 51 | 166 => 34 | 169 => 27 | 170 => 26 | 171 => 35 | 240 => 42 | 243 => 43 | 246 => 45 | 276 => 44 | 283 => 46 | 284 => 47 | 285 => 48 | 286 => 49 | 317 => 50 | 318 => 52 | 319 => 53 | 320 => 54 | 337 => 55 | 338 => 56 | 347 => 57 | 348 => 58 | 349 => 59 | 350 => 60 | 351 => 61 | 352 => 62 | 353 => 63 | 354 => 64 | 355 => 65 | 356 => 66 | 357 => 67 | 358 => 68 | 359 => 69 | 360 => 70 | 361 => 71 | 362 => 72 | 366 => 73 | 367 => 79 | n => n, fun | 0 => 0 | 1 => 1 | 2 => 2 | 3 => 3 | 4 => 4 | 5 => 5 | 6 => 6 | 7 => 7 | 8 => 8 | 9 => 9 | 10 => 10 | 11 => 11 | 12 => 12 | 13 => 13 | 14 => 14 | 15 => 15 | 16 => 16 | 17 => 17 | 18 => 18 | 19 => 19 | 20 => 20 | 21 => 21 | 37 => 35 | 46 => 87 | 47 => 88 | 51 => 84 | 52 => 89 | 53 => 76 | 54 => 77 | 70 => 46 | 71 => 47 | 72 => 48 | 74 => 60 | 75 => 61 | 76 => 62 | 77 => 63 | 80 => 51 | 81 => 50 | 83 => 64 | 84 => 74 | 104 => 39 | 111 => 86 | 112 => 36 | 114 => 81 | 127 => 65 | 164 => 72 | 165 => 73 | 171 => 75 | 172 => 78 | 173 => 79 | 174 => 80 | 211 => 82 | 212 => 83 | 213 => 85 | 232 => 90 | 233 => 91 | 238 => 92 | 239 => 93 | 240 => 94 | 241 => 95 | 242 => 96 | 243 => 97 | 244 => 98 | 245 => 99 | 246 => 100 | 247 => 101 | 248 => 102 | 249 => 103 | n => n, fun | 17 => 0 | 18 => 1 | 19 => 2 | n => n⟩
theorem Tryd.lays170 : Lays.n170 Tryd.prog Tryd.lays170_ren := {
  mixed := by kernel_rfl,
  f170 := Tryd.func26.trans (congrArg some (by kernel_rfl)),
  t0 := Tryd.underlying0,
  a0 := Tryd.isAgg0,
  z0 := Tryd.sizeOf0,
  v0 := Tryd.zeroValue0,
  t3 := Tryd.underlying3,
  a3 := Tryd.isAgg3,
  z3 := Tryd.sizeOf3,
  v3 := Tryd.zeroValue3,
  t37 := Tryd.underlying35,
  a37 := Tryd.isAgg35,
  z37 := Tryd.sizeOf35,
  v37 := Tryd.zeroValue35,
  t70 := Tryd.underlying46,
  a70 := Tryd.isAgg46,
  z70 := Tryd.sizeOf46,
  v70 := Tryd.zeroValue46,
  t72 := Tryd.underlying48,
  a72 := Tryd.isAgg48,
  z72 := Tryd.sizeOf48,
  v72 := Tryd.zeroValue48 }
theorem Tryd.Builder_Extra_166 : Builder.Extra Tryd.prog Tryd.lays166_ren := { sizeBuilder := by kernel_rfl, liesBuilder := by kernel_rfl, t5 := Tryd.underlying5, a5 := Tryd.isAgg5, z5 := Tryd.sizeOf5, v5 := Tryd.zeroValue5, infoByte := by kernel_rfl, cellsByte := by kernel_rfl, sizeByte := by kernel_rfl, neB5 := by decide }
theorem Tryd.Builder_Extra_169 : Builder.Extra Tryd.prog Tryd.lays169_ren := { sizeBuilder := by kernel_rfl, liesBuilder := by kernel_rfl, t5 := Tryd.underlying5, a5 := Tryd.isAgg5, z5 := Tryd.sizeOf5, v5 := Tryd.zeroValue5, infoByte := by kernel_rfl, cellsByte := by kernel_rfl, sizeByte := by kernel_rfl, neB5 := by decide }
end Go.Proofs
namespace Go.Proofs.YtcdfedbecgfanaaDoor.Giv
open Go.RowKit Go.Lib Go.Sort Go.Proofs.YtcdfedbecgfanaaDoorW.PrintWords Go.Proofs.YtcdfedbecgfanaaDoorW.PrintLast Go.Proofs.YtcdfedbecgfanaaDoorW.PrintMore
set_option linter.unusedVariables false
set_option linter.unusedSimpArgs false
def LaidW (w : World) : Prop := Lib.TabIs Tryd.prog w "internal/strconv.uint64pow10" .u64 Lib.pow10Tab
theorem tabIs_below {n : String} {g : Nat} {k : IntKind} {zs : List Int} {w w' : World} (hg : Tryd.prog.globalNamed n = some g) (h : Lib.TabIs Tryd.prog w n k zs) (hb : Below w.heap.size w w') : Lib.TabIs Tryd.prog w' n k zs := by
  unfold Lib.TabIs World.var? at h ⊢
  rw [hg] at h ⊢
  simp only [Option.bind_some] at h ⊢
  have hlt : g < w.heap.size := by
    rcases Nat.lt_or_ge g w.heap.size with h' | h'
    · exact h'
    · rw [Array.getElem?_eq_none h'] at h; cases h
  rw [hb.block g hlt]
  exact h
theorem pow10_named : Tryd.prog.globalNamed "internal/strconv.uint64pow10" = some 0 := by kernel_rfl
theorem LaidW.below {w w' : World} (h : LaidW w) (hb : Below w.heap.size w w') : LaidW w' := tabIs_below pow10_named h hb
theorem below_grow (w : World) (n : Nat) (os : Array Obj) : Below w.heap.size w (grow (w.drewN n) os) :=
  ⟨rfl, rfl, rfl, by simp [grow], fun b hb => by
    show (w.heap ++ os)[b]? = _
    rw [Array.getElem?_append_left hb]⟩
theorem itoa_calls (n : Int) (w : World) (h0 : -9223372036854775808 ≤ n) (h1 : n ≤ 9223372036854775807) (hL : LaidW w) :
    Calls Tryd.prog 35 #[.int .i64 n] w fun e w' => e = .returned (.string ⟨(Lib.itoa n).toArray⟩) ∧ Below w.heap.size w w' := by
  have c : Calls Tryd.prog 35 #[.int .i64 n] w _ := Any.strconv_Itoa Tryd.LaysM_n171 n h0 h1 w hL
  refine c.mono ?_
  rintro e w' ⟨he, k, os, rfl⟩
  exact ⟨he, below_grow w k os⟩
def Bd (B b : Nat) (l : List UInt8) (w : World) : Prop := B ≤ w.heap.size ∧ Lib.IsBuilderF 48 5 B b (Lib.byteCells l) w
theorem Bd.lt {B b : Nat} {l : List UInt8} {w : World} (h : Bd B b l w) : b < w.heap.size := h.2.elim (fun x => x.lt) (fun x => x.lt)
theorem builderAtF_below {T e B b : Nat} {p : Value} {bs : List Value} {w w' : World} (h : Lib.BuilderAtF T e B b p bs w) (hb : Below w.heap.size w w') : Lib.BuilderAtF T e B b p bs w' := by
  have hlt := h.lt
  obtain ⟨hB, v, hc, hown, hne⟩ := h
  exact ⟨hB, v, (hb.block b hlt).trans hc, hown.kept (row := none) (grown_of_below hb none) (by cases v.ownBlock <;> simp), hne⟩
theorem Bd.below {B b : Nat} {l : List UInt8} {w w' : World} (h : Bd B b l w) (hb : Below w.heap.size w w') : Bd B b l w' :=
  ⟨Nat.le_trans h.1 hb.size, h.2.elim (fun x => .inl (builderAtF_below x hb)) (fun x => .inr (builderAtF_below x hb))⟩
theorem byteCells_length (l : List UInt8) : (Lib.byteCells l).length = l.length := by simp [Lib.byteCells]
theorem byteCells_app (l : List UInt8) (s : ByteArray) : Lib.byteCells l ++ Lib.strCells s = Lib.byteCells (l ++ s.data.toList) := by simp [Lib.byteCells, Lib.strCells]
theorem len_calls {B b : Nat} {l : List UInt8} {w : World} (h : Bd B b l w) :
    Calls Tryd.prog 26 #[.pointer (some ⟨b, 0, none⟩)] w fun e w' => e = .returned (.int .i64 (l.length : Int)) ∧ w = w' := by
  have c : Calls Tryd.prog 26 #[.pointer (some ⟨b, 0, none⟩)] w _ := Any.Builder_Len_f Tryd.lays170 B b _ w h.2
  refine c.mono ?_
  rintro e w' ⟨rfl, rfl⟩
  exact ⟨by rw [byteCells_length], rfl⟩
theorem ws_calls {B b : Nat} {l : List UInt8} {w : World} (s : ByteArray) (h : Bd B b l w) (hl : l.length + s.size ≤ 140737488355328) :
    Calls Tryd.prog 34 #[.pointer (some ⟨b, 0, none⟩), .string s] w fun e w' => e = .returned (.tuple #[.int .i64 s.size, .nilIface]) ∧ Bd B b (l ++ s.data.toList) w' ∧ Below B w w' ∧ Lib.OthersKept 5 (some b) w w' := by
  have c : Calls Tryd.prog 34 #[.pointer (some ⟨b, 0, none⟩), .string s] w _ := Any.Builder_WriteString_k Tryd.lays166 Tryd.Builder_Extra_166 B b _ s w h.2 (by rw [byteCells_length]; exact hl) h.1
  refine c.mono ?_
  rintro e w' ⟨rfl, h1, h2, h3⟩
  rw [byteCells_app] at h1
  exact ⟨rfl, ⟨Nat.le_trans h.1 h2.size, .inr h1⟩, h2, h3⟩
theorem kept_cell {w w1 w2 : World} {cs : Array Value} {b k j : Nat} {u : Value} (hb : Below w.heap.size w w1) (ho : Lib.OthersKept 5 (some b) w1 w2) (hbk : w.heap[k]? = some (.cells cs 24 (0, 0))) (hne : k ≠ b) (hc : w.cell? ⟨k, j, none⟩ = some u) : w2.cell? ⟨k, j, none⟩ = some u := by
  have hlt : k < w.heap.size := (Array.getElem?_eq_some_iff.1 hbk).1
  have h2 := ho k _ ((hb.block k hlt).trans hbk) (fun e => hne (Option.some.inj e)) (fun c fz e => by injection e with _ e2 _; exact absurd e2 (by decide))
  unfold World.cell? at hc ⊢
  simp only [hbk, h2] at hc ⊢
  exact hc
theorem okVs_take {L : List V} (h : okVs L = true) : ∀ i, okVs (L.take i) = true := by
  induction L with
  | nil => intro i; rw [List.take_nil]; exact okVs_nil
  | cons x xs ih =>
    intro i
    rw [okVs_cons] at h
    cases i with
    | zero => rw [List.take_zero]; exact okVs_nil
    | succ i => rw [List.take_succ_cons, okVs_cons]; exact ⟨h.1, ih h.2 i⟩
theorem wts_take : ∀ (L : List V) (i : Nat) (h : i < L.length), wts (L.take i) + wt L[i] ≤ wts L
  | x :: xs, 0, h => by rw [List.take_zero, wts_nil, wts_cons]; simp
  | x :: xs, i + 1, h => by
    rw [List.take_succ_cons, wts_cons, wts_cons]
    have := wts_take xs i (by simpa using h)
    simp
    omega
theorem data_app (a b : ByteArray) : (a ++ b).data.toList = a.data.toList ++ b.data.toList := by
  rw [ByteArray.data_append, Array.toList_append]
theorem str_calls {B b : Nat} {l : List UInt8} {w : World} (h : Bd B b l w) :
    Calls Tryd.prog 27 #[.pointer (some ⟨b, 0, none⟩)] w fun e w' => e = .returned (.string ⟨l.toArray⟩) ∧ Below B w w' := by
  have c : Calls Tryd.prog 27 #[.pointer (some ⟨b, 0, none⟩)] w _ := Any.Builder_String_any_k Tryd.lays169 Tryd.Builder_Extra_169 B b l w h.2 h.1
  refine c.mono ?_
  rintro e w' ⟨rfl, -, h2, -⟩
  exact ⟨rfl, h2⟩
set_option maxHeartbeats 4000000 in
set_option maxRecDepth 100000 in
theorem put_calls (n : Nat) : ∀ (v : V) (A : Option Addr) (c : Nat) (l : List UInt8) (w0 w : World) (B b : Nat), wt v ≤ n → okV v = true → l.length + wt v ≤ 140737488355328 → LaidW w0 → Kd.C P.k24 w0 A v.f3.length v.f3 → v.f3.length ≤ c → w0.heap.size ≤ B → Below w0.heap.size w0 w → Bd B b l w →
    Calls Tryd.prog 25 #[.pointer (some ⟨b, 0, none⟩), .agg #[.int .i64 v.f0, .int .i64 v.f1, .string v.f2, .slice A v.f3.length c]] w fun e w' => e = .returned (.tuple #[]) ∧ Bd B b (putc l v) w' ∧ Below B w w' := by
  induction n with
  | zero => intro v A c l w0 w B b h; have := wt_eq v; omega
  | succ n ih =>
    intro v A c l w0 w B b hwt hok hlen hL hC hc hB0 hbel hBd
    have hbx : Bd B b l (w.alloc (.cells #[.int .i64 v.f0, .int .i64 v.f1, .string v.f2, .slice A v.f3.length c] 24)) := hBd.below ((Below.refl _ _).alloc (Nat.le_refl _) _)
    by_cases c0 : 65536 < l.length
    · have hc0 : decide ((65536 : Int) < (l.length : Int)) = true := decide_eq_true (by omega)
      have HX := Aside0.mk hbx
      have HR := Aside0.mk (show putc l v = l by rw [putc_eq, if_pos c0])
      clear hbx hC hL
      go_enter Tryd.func25, Tryd.ntmps25
      go_wp2_with fail
      refine (len_calls HX.out).mono ?_
      rintro e w1 ⟨rfl, rfl⟩
      go_wp2
      go_returns
      exact ⟨rfl, by rw [HR.out]; exact HX.out, (Below.refl _ _).alloc hBd.1 _⟩
    · have hc0 : decide ((65536 : Int) < (l.length : Int)) = false := decide_eq_false (by omega)
      have hokv := (okV_iff v).1 hok
      have HX := Aside0.mk hbx
      have HL := Aside0.mk (LaidW.below hL (below_alloc hbel (.cells #[.int .i64 v.f0, .int .i64 v.f1, .string v.f2, .slice A v.f3.length c] 24)))
      clear hbx
      by_cases c1 : v.f0 = 1
      · have hc1 : (v.f0 == 1) = true := beq_iff_eq.2 c1
        have HR := Aside0.mk (show putc l v = l ++ (105 :: (itoa v.f1 ++ [101])) by rw [putc_eq, if_neg c0, if_pos c1])
        obtain ⟨h1, h2, -⟩ := hokv
        have hil := itoa_len h1 h2
        have HI := fun w' h => itoa_calls v.f1 w' h1 h2 h
        have hsz := wt_eq v
        generalize hit : itoa v.f1 = il at *
        have hts : (ByteArray.mk il.toArray).size = il.length := by simp [ByteArray.size]
        generalize htt : ByteArray.mk il.toArray = t at *
        have hti : t.size ≤ 20 := by omega
        have htt' := Aside0.mk htt
        have HI' := Aside0.mk HI
        clear htt hit c1 HI hts
        go_enter Tryd.func25, Tryd.ntmps25
        go_wp2_with fail
        refine (len_calls HX.out).mono ?_
        rintro e w1 ⟨rfl, rfl⟩
        go_wp2_with fail
        refine (HI'.out _ HL.out).mono ?_
        rintro e w1 ⟨rfl, hb1⟩
        have HX1 := Aside0.mk (HX.out.below hb1)
        have HB1 := Aside0.mk hb1
        clear hb1
        go_wp2_with fail
        refine (ws_calls _ HX1.out (by rw [ByteArray.size_append, ByteArray.size_append]; show l.length + (1 + t.size + 1) ≤ _; omega)).mono ?_
        rintro e w2 ⟨rfl, hX2, hb2, -⟩
        have HX2 := Aside0.mk hX2
        have HB2 := Aside0.mk hb2
        clear hb2 hX2
        go_wp2
        go_returns
        refine ⟨rfl, ?_, (((Below.refl _ _).alloc hBd.1 _).trans (HB1.out.mono (by simp; have := hBd.1; omega))).trans HB2.out⟩
        rw [HR.out]
        have := HX2.out
        rw [data_app, data_app, ← htt'.out] at this
        simpa using this
      · have hc1 : (v.f0 == 1) = false := beq_eq_false_iff_ne.2 c1
        by_cases c2 : v.f0 = 2
        · have hc2 : (v.f0 == 2) = true := beq_iff_eq.2 c2
          have HR := Aside0.mk (show putc l v = l ++ (itoa (v.f2.size : Int) ++ (58 :: v.f2.data.toList)) by rw [putc_eq, if_neg c0, if_neg c1, if_pos c2])
          have hsz := wt_eq v
          have hdd := dd_any v.f2.size
          have hfz : (v.f2.size : Int) ≤ 140737488355328 := by omega
          have hie : itoa (v.f2.size : Int) = decDigits v.f2.size := by unfold itoa; rw [if_neg (by omega), Int.toNat_natCast]
          have HI := fun w' h => itoa_calls (v.f2.size : Int) w' (by omega) (by omega) h
          rw [hie] at HI HR
          generalize decDigits v.f2.size = il at *
          have hts : (ByteArray.mk il.toArray).size = il.length := by simp [ByteArray.size]
          generalize htt : ByteArray.mk il.toArray = t at *
          have hti : 2 * t.size ≤ v.f2.size + 29 := by omega
          have htt' := Aside0.mk htt
          have HI' := Aside0.mk HI
          have hcell : (w.alloc (.cells #[.int .i64 v.f0, .int .i64 v.f1, .string v.f2, .slice A v.f3.length c] 24)).cell? ⟨w.heap.size, 2, none⟩ = some (.string v.f2) := by
            have h9 : (w.alloc (.cells #[.int .i64 v.f0, .int .i64 v.f1, .string v.f2, .slice A v.f3.length c] 24)).heap[w.heap.size]? = some _ := heap_alloc_new w _
            simp only [World.cell?, h9]
            rfl
          have s1 : t.size + 1 ≤ 9223372036854775807 := by omega
          have s2 : (t ++ (⟨#[58]⟩ : ByteArray)).size + v.f2.size ≤ 9223372036854775807 := by rw [ByteArray.size_append]; show t.size + 1 + v.f2.size ≤ _; omega
          have s3 : t.size + 1 + v.f2.size ≤ 9223372036854775807 := by omega
          have s4 := eq_false (Nat.not_lt.2 s1)
          have s5 := eq_false (Nat.not_lt.2 s2)
          have s6 := eq_false (Nat.not_lt.2 s3)
          have hneb := Nat.ne_of_gt hBd.lt
          clear htt hie c1 c2 HI hts hokv
          go_enter Tryd.func25, Tryd.ntmps25
          go_wp2_with fail
          refine (len_calls HX.out).mono ?_
          rintro e w1 ⟨rfl, rfl⟩
          go_wp2_with fail
          go_region_held3 (fun w' => w'.cell? ⟨w.heap.size, 2, none⟩ = some (.string v.f2)) (first | exact hcell | exact kept_cell hb1 ho2 (heap_alloc_new w _) hneb hcell | exact pw_cell_below hb1 hcell) (first | (go_at_call 35; refine (HI'.out _ (LaidW.below HL.out (below_drew (Below.refl _ _)))).mono ?_; rintro e w1 ⟨rfl, hb1⟩) | (go_at_call 34; refine (ws_calls _ (HX.out.below ((below_drew (Below.refl _ _)).trans hb1)) (by rw [ByteArray.size_append, ByteArray.size_append]; show l.length + (t.size + 1 + v.f2.size) ≤ _; omega)).mono ?_; rintro e w2 ⟨rfl, hX2, hb2, ho2⟩))
          have HX2 := Aside0.mk hX2
          have HB2 := Aside0.mk ((((Below.refl _ _).alloc hBd.1 _).trans (((below_drew (Below.refl _ _)).trans hb1).mono (by simp; have := hBd.1; omega))).trans hb2)
          clear hX2 hb2 hb1 ho2
          go_wp2
          go_returns
          refine ⟨rfl, ?_, HB2.out⟩
          rw [HR.out]
          have := HX2.out
          rw [data_app, data_app, ← htt'.out] at this
          simpa using this
        · have hc2 : (v.f0 == 2) = false := beq_eq_false_iff_ne.2 c2
          have HR := Aside0.mk (show putc l v = putcs (l ++ [108]) v.f3 ++ [101] by rw [putc_eq, if_neg c0, if_neg c1, if_neg c2])
          have hok3 := Aside0.mk hokv.2.2
          have hsz := wt_eq v
          have hcell : (w.alloc (.cells #[.int .i64 v.f0, .int .i64 v.f1, .string v.f2, .slice A v.f3.length c] 24)).cell? ⟨w.heap.size, 3, none⟩ = some (.slice A v.f3.length c) := by
            have h9 : (w.alloc (.cells #[.int .i64 v.f0, .int .i64 v.f1, .string v.f2, .slice A v.f3.length c] 24)).heap[w.heap.size]? = some _ := heap_alloc_new w _
            simp only [World.cell?, h9]
            rfl
          have hneb := Nat.ne_of_gt hBd.lt
          have HC := Aside0.mk hC
          have HBel := Aside0.mk hbel
          have HBd := Aside0.mk hBd
          have hBw := hBd.1
          have HL0 := Aside0.mk hL
          have hL30 := wts_len v.f3
          clear hC hbel hBd hL c1 c2 hokv
          go_enter Tryd.func25, Tryd.ntmps25
          go_wp2_with fail
          refine (len_calls HX.out).mono ?_
          rintro e w1 ⟨rfl, rfl⟩
          go_wp2_with fail
          refine (ws_calls _ HX.out (by show l.length + 1 ≤ _; omega)).mono ?_
          rintro e w1 ⟨rfl, hX1, hb1, ho1⟩
          have hcell1 := kept_cell (Below.refl _ _) ho1 (heap_alloc_new w _) hneb hcell
          have HX1 := Aside0.mk (show Bd B b (l ++ [108]) w1 from hX1)
          have HB1 := Aside0.mk (((Below.refl B w).alloc hBw _).trans hb1)
          clear hX1 hb1 ho1 hcell HX HL
          go_wp2_with fail
          go_loopw [16] (fun v16 wr => ∃ i : Nat, i ≤ v.f3.length ∧ v16 = .int .i64 i ∧ Aside0 (Bd B b (putcs (l ++ [108]) (v.f3.take i)) wr) ∧ Aside0 (Below B w wr)) (fun v16 _ => v.f3.length - (RowKit.intOf v16).toNat)
          case atStart => exact ⟨0, Nat.zero_le _, rfl, ⟨by rw [List.take_zero, putcs_nil]; exact HX1.out⟩, HB1⟩
          case round =>
            obtain ⟨i, hi, rfl, HXr, HBr⟩ := hrel
            clear HX1 HB1
            by_cases hlt : i < v.f3.length
            · have HW := Aside0.mk (HBel.out.trans (HBr.out.mono hB0))
              obtain ⟨ad, A3, c3, e3, hx0, hx1, hx2, hx3, hl3, hi3⟩ := P.at_T24 HC.out (i : Int) (by omega) (by omega)
              have hge : P.rd_T24 v.f3 (i : Int) = v.f3[i] := by unfold P.rd_T24; rw [Int.toNat_natCast, List.getD_eq_getElem?_getD, List.getElem?_eq_getElem hlt, Option.getD_some]
              have hmem : v.f3[i] ∈ v.f3 := List.getElem_mem hlt
              have hwm := wt_mem hmem
              have HOM := Aside0.mk (okV_mem hmem hok3.out)
              have hnext := Aside0.mk (show putcs (l ++ [108]) (v.f3.take (i + 1)) = putc (putcs (l ++ [108]) (v.f3.take i)) v.f3[i] by rw [List.take_succ_eq_append_getElem hlt, putcs_snoc])
              have hok9 : okVs (v.f3.take i) = true := okVs_take hok3.out i
              have hwt9 := wts_take v.f3 i hlt
              have hle9 := putcs_le (v.f3.take i) (l ++ [108]) hok9
              rw [List.length_append] at hle9
              rw [hge] at hx0 hx1 hx2 hx3 hl3 hi3
              rw [Int.toNat_natCast] at hx0 hx1 hx2 hx3
              replace hx0 := pw_cell_below HW.out hx0
              replace hx1 := pw_cell_below HW.out hx1
              replace hx2 := pw_cell_below HW.out hx2
              replace hx3 := pw_cell_below HW.out hx3
              generalize v.f3[i] = x at *
              generalize putcs (l ++ [108]) (v.f3.take i) = lr at *
              have HI3 := Aside0.mk hi3
              have HL3 := Aside0.mk hl3
              have hi1 : (i : Int) < (v.f3.length : Int) := by omega
              cases e3
              clear hi3 hl3 hmem hge hok9
              have hBs := HBr.out.size
              go_wp2_with (first | ((with_reducible refine gate_dst (N := 5) rfl ?_); refine box_event ?hg (N := 5) ?hd (cs := #[.int .i64 0, .int .i64 0, .string (⟨#[]⟩ : ByteArray), .slice none 0 0]) (t := 24) ?hr ?_; (case hd => rfl); (case hg => rfl); (case hr => first | (go_simp; done) | (go_simp; rfl)); intro gb hg w17 hbox hb; have BK := Aside0.mk hbox; have HB17 := Aside0.mk hb; have hgb : wr.heap.size ≤ gb := (by rw [hg]; exact Nat.le_refl _); clear hb hbox hg; have hcz0 : w17.cell? ⟨gb, 0, none⟩ = some (.int .i64 0) := (blk_cell BK.out 0).trans rfl; have hcz1 : w17.cell? ⟨gb, 1, none⟩ = some (.int .i64 0) := (blk_cell BK.out 1).trans rfl; have hcz2 : w17.cell? ⟨gb, 2, none⟩ = some (.string (⟨#[]⟩ : ByteArray)) := (blk_cell BK.out 2).trans rfl; have hcz3 : w17.cell? ⟨gb, 3, none⟩ = some (.slice none 0 0) := (blk_cell BK.out 3).trans rfl; have hfz0 := blk_frozen BK.out 0; have hfz1 := blk_frozen BK.out 1; have hfz2 := blk_frozen BK.out 2; have hfz3 := blk_frozen BK.out 3))
              have HBS := Aside0.mk ((((HB17.out.setCell (p := ⟨gb, 0, none⟩) hgb (.int .i64 x.f0)).setCell (p := ⟨gb, 1, none⟩) hgb (.int .i64 x.f1)).setCell (p := ⟨gb, 2, none⟩) hgb (.string x.f2)).setCell (p := ⟨gb, 3, none⟩) hgb (.slice A3 x.f3.length c3))
              refine (ih x A3 c3 lr w0 _ B b (by omega) HOM.out (by simp only [List.length_cons, List.length_nil] at hle9; omega) HL0.out HI3.out HL3.out hB0 ((HBel.out.trans (HBr.out.mono hB0)).trans (HBS.out.mono (HW.out.size))) (HXr.out.below HBS.out)).mono ?_
              rintro e w2 ⟨rfl, hX2, hb2⟩
              have HX2 := Aside0.mk hX2
              have HB2 := Aside0.mk ((HBr.out.trans (HBS.out.mono (by omega))).trans hb2)
              clear hX2 hb2
              go_wp2
              go_roundw
              case rel => exact ⟨i + 1, by omega, by go_num, by rw [hnext.out]; exact HX2, HB2⟩
              case measure => simp [RowKit.intOf]; omega
            · obtain rfl : i = v.f3.length := by omega
              have hle9 := putcs_le v.f3 (l ++ [108]) hok3.out
              rw [List.length_append] at hle9
              rw [List.take_length] at HXr
              generalize putcs (l ++ [108]) v.f3 = lr at *
              have hle8 : lr.length ≤ l.length + 1 + wts v.f3 := hle9
              clear hle9
              go_wp2_with fail
              refine (ws_calls _ HXr.out (by show lr.length + 1 ≤ _; omega)).mono ?_
              rintro e w2 ⟨rfl, hX2, hb2, -⟩
              have HX2 := Aside0.mk hX2
              have HB2 := Aside0.mk (HBr.out.trans hb2)
              clear hX2 hb2
              go_wp2
              go_returns
              refine ⟨rfl, ?_, HB2.out⟩
              rw [HR.out]
              exact HX2.out
end Go.Proofs.YtcdfedbecgfanaaDoor.Giv
namespace Go.Proofs.YtcdfedbecgfanaaDoor.P
open Go.RowKit Go.Proofs.YtcdfedbecgfanaaDoorW.PrintWords Go.Proofs.YtcdfedbecgfanaaDoorW.PrintLast Go.Proofs.YtcdfedbecgfanaaDoorW.PrintMore
attribute [local go_sem] max2_int min2_int max_two min_two max_three min_three max_four min_four   -- for this text's walks alone
set_option linter.unusedVariables false
set_option linter.unusedSimpArgs false
mutual
def benc_check.j0 : Nat → Int → Int → Bool → Int → Int → ByteArray → List (S24) → Option (Int)
  | 0, _, _, _, _, _, _, _ => none
  | k + 1, x1, x10, x11, x407000, x407001, x407002, x407003 => if x11 = true then (some 0) else (if x10 = 3 then (if x1 ≥ 8 then (benc_check.j1 k x1 22 x407000 x407001 x407002 x407003) else (benc_check.j1 k x1 0 x407000 x407001 x407002 x407003)) else (some 1))
def benc_check.j1 : Nat → Int → Int → Int → Int → ByteArray → List (S24) → Option (Int)
  | 0, _, _, _, _, _, _ => none
  | k + 1, x1, x5, x407000, x407001, x407002, x407003 => benc_check.l0 k x1 x5 x407003 (x407003.length : Int) 0
def benc_check.l0 : Nat → Int → Int → List (S24) → Int → Int → Option (Int)
  | 0, _, _, _, _, _ => none
  | k + 1, x1, x5, x19, x20, x21 => if x21 < x20 then (if 0 ≤ x21 then (if x21 < (x19.length : Int) then ((benc_check.f k ((rd_T24 x19 x21).f0) ((rd_T24 x19 x21).f1) ((rd_T24 x19 x21).f2) ((rd_T24 x19 x21).f3) (wrap64 (x1 + 1))).bind fun t409 => (if t409 = 1 then (some t409) else (if t409 = 22 then (benc_check.l0 k x1 t409 x19 x20 (wrap64 (x21 + 1))) else (benc_check.l0 k x1 x5 x19 x20 (wrap64 (x21 + 1)))))) else (none)) else (none)) else (some x5)
def benc_check.f : Nat → Int → Int → ByteArray → List (S24) → Int → Option (Int)
  | 0, _, _, _, _, _ => none
  | k + 1, a0_0, a0_1, a0_2, l0_3, a1 => if a0_0 = 1 then (benc_check.j0 k a1 a0_0 (a0_0 == 1) a0_0 a0_1 a0_2 l0_3) else (benc_check.j0 k a1 a0_0 (a0_0 == 2) a0_0 a0_1 a0_2 l0_3)
end
set_option maxHeartbeats 8000000 in
set_option maxRecDepth 100000 in
theorem benc_check.calls (k : Nat) : ∀ (a0_0 : Int) (a0_1 : Int) (a0_2 : ByteArray) (A0_3 : Option Addr) (c0_3 : Nat) (l0_3 : List (S24)) (a1 : Int) (r : Int) (w : World) (hr0_3 : Kd.C k24 w A0_3 l0_3.length l0_3) (hc0_3 : l0_3.length ≤ c0_3) (h : benc_check.f k a0_0 a0_1 a0_2 l0_3 a1 = some r),
    Calls Tryd.prog 24 #[.agg #[.int .i64 a0_0, .int .i64 a0_1, .string a0_2, .slice A0_3 l0_3.length c0_3], .int .i64 a1] w fun e w' => e = .returned (.int .i64 r) ∧ Below w.heap.size w w' := by
  induction k using Nat.strongRecOn with
  | _ k ih =>
  intro a0_0 a0_1 a0_2 A0_3 c0_3 l0_3 a1 r w hr0_3 hc0_3 h
  cases k with
  | zero => exact absurd h (by simp [benc_check.f])
  | succ k =>
  simp only [benc_check.f] at h
  have hu24 := Tryd.underlying24
  have HR0_3 := Aside0.mk hr0_3
  have HC0_3 := Aside0.mk hc0_3
  clear hr0_3 hc0_3
  have HB := Aside0.mk (Below.refl w.heap.size w)
  have H : (if a0_0 = 1 then (benc_check.j0 k a1 a0_0 (a0_0 == 1) a0_0 a0_1 a0_2 l0_3) else (benc_check.j0 k a1 a0_0 (a0_0 == 2) a0_0 a0_1 a0_2 l0_3)) = some r := h
  clear h
  have HC3 := Aside0.mk H
  clear H
  go_enter Tryd.func24, Tryd.ntmps24
  go_upto_if 11 with (first | ((with_reducible refine gate_dst (N := 2) rfl ?_); refine box_event ?hg (N := 2) ?hd (cs := #[.int .i64 a0_0, .int .i64 a0_1, .string a0_2, .slice A0_3 l0_3.length c0_3]) (t := 24) ?hr ?_; (case hd => rfl); (case hg => rfl); (case hr => first | (go_simp; done) | (go_simp; rfl)); intro gb406 hg w4 hbox hb; have n0_ := Aside0.mk (below_step (by repeat (first | (with_reducible first | exact HB.out | apply below_alloc | apply pw_below_drewN | apply below_drew1) | exact HB.out)) hb); have n1_ := Aside0.mk (hbox); have n2_ := Aside0.mk ((by rw [hg]; exact (below_size (by repeat (first | (with_reducible first | exact HB.out | apply below_alloc | apply pw_below_drewN | apply below_drew1) | exact HB.out))) : w.heap.size ≤ gb406)); have n3_ := Aside0.mk ((by rw [hg]; exact (below_size (by repeat (first | (with_reducible first | exact HB.out | apply below_alloc | apply pw_below_drewN | apply below_drew1) | exact HB.out))) : w.heap.size ≤ gb406)); clear HB; have HB := n0_; have BK406 := n1_; have GW406 := n2_; have GE406 := n3_; clear n0_ n1_ n2_ n3_; clear hb hbox hg; have hcz5_0 : w4.cell? ⟨gb406, 0, none⟩ = some (.int .i64 a0_0) := (blk_cell BK406.out 0).trans rfl; have hcz5_1 : w4.cell? ⟨gb406, 1, none⟩ = some (.int .i64 a0_1) := (blk_cell BK406.out 1).trans rfl; have hcz5_2 : w4.cell? ⟨gb406, 2, none⟩ = some (.string a0_2) := (blk_cell BK406.out 2).trans rfl; have hcz5_3 : w4.cell? ⟨gb406, 3, none⟩ = some (.slice A0_3 l0_3.length c0_3) := (blk_cell BK406.out 3).trans rfl; have hfz5_0 := blk_frozen BK406.out 0; have hfz5_1 := blk_frozen BK406.out 1; have hfz5_2 := blk_frozen BK406.out 2; have hfz5_3 := blk_frozen BK406.out 3))
  (try simp only [Act.put, List.setIfInBounds_toArray, List.set_cons_zero, List.set_cons_succ])
  go_cut [11] (fun v11 wc => ∃ (kq : Nat) (x11_2 : Bool), v11 = .bool x11_2 ∧ Aside0 (benc_check.j0 kq a1 a0_0 x11_2 a0_0 a0_1 a0_2 l0_3 = some r) ∧ Aside0 (kq ≤ k) ∧ Aside0 (wc.heap[gb406]? = some (.cells #[.int .i64 a0_0, .int .i64 a0_1, .string a0_2, (.slice A0_3 l0_3.length c0_3)] 24 (0, 0))) ∧ Aside0 (Below w.heap.size w wc))
  case first =>
    have H := HC3.out
    clear HC3
    by_cases c6 : a0_0 = 1
    · rw [if_pos c6] at H
      have c6b0 : (a0_0 == 1) = true := beq_iff_eq.mpr c6
      have c6b1 : (a0_0 != 1) = false := bne_eq_false_iff_eq.mpr c6
      clear c6
      (first | rw [c6b0] | (simp only [i64_w, i32_w]; rw [c6b0]) | skip)
      have H' := Aside0.mk H
      clear H
      go_wp2
      go_meet
      case rel => exact ⟨_, ((a0_0 == 1)), (by first | rfl | (simp; done) | (simp [*]; done)), H', ⟨by first | omega | exact Nat.le_refl _⟩, ⟨by (with_reducible repeat (first | refine blk_drewN ?_ _ | refine blk_drew ?_ | refine blk_alloc ?_ _)); exact BK406.out⟩, ⟨by repeat (first | (with_reducible first | exact HB.out | apply below_alloc | apply pw_below_drewN | apply below_drew1 | refine below_set ?_ GE406.out) | exact HB.out)⟩⟩
    · rw [if_neg c6] at H
      have c6b0 : (a0_0 == 1) = false := beq_eq_false_iff_ne.mpr c6
      have c6b1 : (a0_0 != 1) = true := bne_iff_ne.mpr c6
      (first | rw [c6b0] | (simp only [i64_w, i32_w]; rw [c6b0]) | skip)
      have H' := Aside0.mk H
      clear H
      go_wp2
      go_meet
      case rel => exact ⟨_, ((a0_0 == 2)), (by first | rfl | (simp; done) | (simp [*]; done)), H', ⟨by first | omega | exact Nat.le_refl _⟩, ⟨by (with_reducible repeat (first | refine blk_drewN ?_ _ | refine blk_drew ?_ | refine blk_alloc ?_ _)); exact BK406.out⟩, ⟨by repeat (first | (with_reducible first | exact HB.out | apply below_alloc | apply pw_below_drewN | apply below_drew1 | refine below_set ?_ GE406.out) | exact HB.out)⟩⟩
  case rest =>
    clear HC3
    try clear c2
    try clear p2
    try clear c6
    try clear c6b0
    try clear c6b1
    try clear hcz5_0
    try clear hcz5_1
    try clear hcz5_2
    try clear hcz5_3
    try clear hfz5_0
    try clear hfz5_1
    try clear hfz5_2
    try clear hfz5_3
    obtain ⟨kq, x11_2, rfl, HA, HJ2, BK406, HB⟩ := hcut
    cases kq with
    | zero => exact absurd HA.out (by simp [benc_check.j0])
    | succ kj2 =>
      have H := HA.out
      clear HA
      simp only [benc_check.j0] at H
      by_cases c7 : x11_2 = true
      · subst c7
        have H1 : (some 0) = some r := by rw [if_pos rfl] at H; exact H
        clear H
        have H := H1
        clear H1
        obtain rfl := Option.some.inj H
        go_wp2
        go_ret
        exact ⟨by first | rfl | (simp [errW_none, errW_some] <;> rfl) | (simp [*, errW_none, errW_some] <;> rfl), by repeat (first | (with_reducible first | exact HB.out | apply below_alloc | apply pw_below_drewN | apply below_drew1 | refine below_set ?_ GE406.out) | exact HB.out)⟩
      · replace c7 := Bool.eq_false_iff.mpr c7
        subst c7
        have H1 : (if a0_0 = 3 then (if a1 ≥ 8 then (benc_check.j1 kj2 a1 22 a0_0 a0_1 a0_2 l0_3) else (benc_check.j1 kj2 a1 0 a0_0 a0_1 a0_2 l0_3)) else (some 1)) = some r := by rw [if_neg (show ¬ (false = true) by decide)] at H; exact H
        clear H
        have H := H1
        clear H1
        by_cases c8 : a0_0 = 3
        · rw [if_pos c8] at H
          have c8b0 : (a0_0 == 3) = true := beq_iff_eq.mpr c8
          have c8b1 : (a0_0 != 3) = false := bne_eq_false_iff_eq.mpr c8
          clear c8
          have HC9 := Aside0.mk H
          clear H
          go_upto_if 17 with (fail)
          go_cut [5] (fun v5 wc => ∃ (kq : Nat) (x5_8 : Int), v5 = .int .i64 x5_8 ∧ Aside0 (benc_check.j1 kq a1 x5_8 a0_0 a0_1 a0_2 l0_3 = some r) ∧ Aside0 (kq ≤ kj2) ∧ Aside0 (wc.heap[gb406]? = some (.cells #[.int .i64 a0_0, .int .i64 a0_1, .string a0_2, (.slice A0_3 l0_3.length c0_3)] 24 (0, 0))) ∧ Aside0 (Below w.heap.size w wc))
          case first =>
            have H := HC9.out
            clear HC9
            by_cases c10 : a1 ≥ 8
            · rw [if_pos c10] at H
              have c10b0 : decide (8 ≤ a1) = true := decide_eq_true c10
              clear c10
              (first | rw [c10b0] | (simp only [i64_w, i32_w]; rw [c10b0]) | skip)
              have H' := Aside0.mk H
              clear H
              go_wp2
              go_meet
              case rel => exact ⟨_, (22), (by first | rfl | (simp; done) | (simp [*]; done)), H', ⟨by have := HJ2.out; first | omega | exact Nat.le_refl _⟩, ⟨by (with_reducible repeat (first | refine blk_drewN ?_ _ | refine blk_drew ?_ | refine blk_alloc ?_ _)); exact BK406.out⟩, ⟨by repeat (first | (with_reducible first | exact HB.out | apply below_alloc | apply pw_below_drewN | apply below_drew1 | refine below_set ?_ GE406.out) | exact HB.out)⟩⟩
            · rw [if_neg c10] at H
              have c10b0 : decide (8 ≤ a1) = false := decide_eq_false c10
              clear c10
              (first | rw [c10b0] | (simp only [i64_w, i32_w]; rw [c10b0]) | skip)
              have H' := Aside0.mk H
              clear H
              go_wp2
              go_meet
              case rel => exact ⟨_, (0), (by first | rfl | (simp; done) | (simp [*]; done)), H', ⟨by have := HJ2.out; first | omega | exact Nat.le_refl _⟩, ⟨by (with_reducible repeat (first | refine blk_drewN ?_ _ | refine blk_drew ?_ | refine blk_alloc ?_ _)); exact BK406.out⟩, ⟨by repeat (first | (with_reducible first | exact HB.out | apply below_alloc | apply pw_below_drewN | apply below_drew1 | refine below_set ?_ GE406.out) | exact HB.out)⟩⟩
          case rest =>
            clear HC9
            try clear c1
            try clear c2
            try clear p2
            try clear c6
            try clear c6b0
            try clear c6b1
            try clear c7
            try clear c8
            try clear c8b0
            try clear c8b1
            try clear c10
            try clear c10b0
            try clear hcz5_0
            try clear hcz5_1
            try clear hcz5_2
            try clear hcz5_3
            try clear hfz5_0
            try clear hfz5_1
            try clear hfz5_2
            try clear hfz5_3
            try clear p2
            obtain ⟨kq, x5_8, rfl, HA, HJ8, BK406, HB⟩ := hcut
            cases kq with
            | zero => exact absurd HA.out (by simp [benc_check.j1])
            | succ kj8 =>
              have H := HA.out
              clear HA
              simp only [benc_check.j1] at H
              have H' := Aside0.mk H
              clear H
              have hcz11_0 : wc.cell? ⟨gb406, 0, none⟩ = some (.int .i64 a0_0) := (blk_cell BK406.out 0).trans rfl
              have hcz11_1 : wc.cell? ⟨gb406, 1, none⟩ = some (.int .i64 a0_1) := (blk_cell BK406.out 1).trans rfl
              have hcz11_2 : wc.cell? ⟨gb406, 2, none⟩ = some (.string a0_2) := (blk_cell BK406.out 2).trans rfl
              have hcz11_3 : wc.cell? ⟨gb406, 3, none⟩ = some (.slice A0_3 l0_3.length c0_3) := (blk_cell BK406.out 3).trans rfl
              have hfz11_0 := blk_frozen BK406.out 0
              have hfz11_1 := blk_frozen BK406.out 1
              have hfz11_2 := blk_frozen BK406.out 2
              have hfz11_3 := blk_frozen BK406.out 3
              go_wp2
              go_loopg [5, 21] kj8 (fun kq v5 v21 w' => ∃ (x5_3 : Int) (x21_3 : Int), v5 = .int .i64 x5_3 ∧ v21 = .int .i64 x21_3 ∧ Aside0 (benc_check.l0 kq a1 x5_3 l0_3 (l0_3.length : Int) x21_3 = some r) ∧ Aside0 (kq ≤ kj8) ∧ Aside0 (w'.heap[gb406]? = some (.cells #[.int .i64 a0_0, .int .i64 a0_1, .string a0_2, (.slice A0_3 l0_3.length c0_3)] 24 (0, 0))) ∧ Aside0 (Below w.heap.size w w'))
              case atStart => exact ⟨(x5_8), (0), (by first | rfl | (simp; done) | (simp [*]; done)), (by first | rfl | (simp; done) | (simp [*]; done)), H', ⟨Nat.le_refl _⟩, ⟨by (with_reducible repeat (first | refine blk_drewN ?_ _ | refine blk_drew ?_ | refine blk_alloc ?_ _)); exact BK406.out⟩, ⟨by repeat (first | (with_reducible first | exact HB.out | apply below_alloc | apply pw_below_drewN | apply below_drew1 | refine below_set ?_ GE406.out) | exact HB.out)⟩⟩
              case round =>
                clear H'
                try clear c1
                try clear c2
                try clear p2
                try clear c6
                try clear c6b0
                try clear c6b1
                try clear c7
                try clear c8
                try clear c8b0
                try clear c8b1
                try clear c10
                try clear c10b0
                try clear hcz11_0
                try clear hcz11_1
                try clear hcz11_2
                try clear hcz11_3
                try clear hcz5_0
                try clear hcz5_1
                try clear hcz5_2
                try clear hcz5_3
                try clear hfz11_0
                try clear hfz11_1
                try clear hfz11_2
                try clear hfz11_3
                try clear hfz5_0
                try clear hfz5_1
                try clear hfz5_2
                try clear hfz5_3
                try clear p2
                obtain ⟨x5_3, x21_3, rfl, rfl, HA, HK3, BK406, HB⟩ := hrel
                cases gk with
                | zero => exact absurd HA.out (by simp [benc_check.l0])
                | succ k3 =>
                  have H := HA.out
                  clear HA
                  simp only [benc_check.l0] at H
                  by_cases c12 : x21_3 < (l0_3.length : Int)
                  · rw [if_pos c12] at H
                    have c12b0 : decide (x21_3 < (l0_3.length : Int)) = true := decide_eq_true c12
                    clear c12
                    by_cases c13 : 0 ≤ x21_3
                    · rw [if_pos c13] at H
                      have c13b0 : decide (0 ≤ x21_3) = true := decide_eq_true c13
                      clear c13
                      by_cases c14 : x21_3 < (l0_3.length : Int)
                      · rw [if_pos c14] at H
                        have c14b0 : decide (x21_3 < (l0_3.length : Int)) = true := decide_eq_true c14
                        clear c14
                        replace H := Option.bind_eq_some_iff.mp H
                        obtain ⟨t409, A150, H⟩ := H
                        replace H : (if t409 = 1 then (some t409) else (if t409 = 22 then (benc_check.l0 k3 a1 t409 l0_3 (l0_3.length : Int) (wrap64 (x21_3 + 1))) else (benc_check.l0 k3 a1 x5_3 l0_3 (l0_3.length : Int) (wrap64 (x21_3 + 1))))) = some r := H
                        have A15 := Aside0.mk A150
                        clear A150
                        by_cases c16 : t409 = 1
                        · rw [if_pos c16] at H
                          have c16b0 : (t409 == 1) = true := beq_iff_eq.mpr c16
                          have c16b1 : (t409 != 1) = false := bne_eq_false_iff_eq.mpr c16
                          clear c16
                          obtain rfl := Option.some.inj H
                          have p407 : 0 ≤ (x21_3 : Int) := of_decide_eq_true (by first | (with_reducible assumption) | assumption)
                          have q407 : x21_3 < (l0_3.length : Int) := of_decide_eq_true (by first | (with_reducible assumption) | assumption)
                          obtain ⟨ad407, A407_3, c407_3, e407, hx407_0, hx407_1, hx407_2, hx407_3, hl407_3, hi407_3⟩ := at_T24 HR0_3.out x21_3 p407 q407
                          cases e407
                          replace hx407_0 := (HB.out.cell (World.block_lt_of_cell? w _ hx407_0)).trans hx407_0
                          replace hx407_1 := (HB.out.cell (World.block_lt_of_cell? w _ hx407_1)).trans hx407_1
                          replace hx407_2 := (HB.out.cell (World.block_lt_of_cell? w _ hx407_2)).trans hx407_2
                          replace hx407_3 := (HB.out.cell (World.block_lt_of_cell? w _ hx407_3)).trans hx407_3
                          have HR407_3 := Aside0.mk hi407_3
                          have HC407_3 := Aside0.mk hl407_3
                          clear hi407_3 hl407_3
                          replace p407 := eq_true p407
                          replace q407 := eq_true q407
                          go_wp2_with (first | ((with_reducible refine gate_dst (N := 7) rfl ?_); refine box_event ?hg (N := 7) ?hd (cs := #[.int .i64 0, .int .i64 0, .string (⟨#[]⟩ : ByteArray), .slice none 0 0]) (t := 24) ?hr ?_; (case hd => rfl); (case hg => rfl); (case hr => first | (go_simp; done) | (go_simp; rfl)); intro gb408 hg w17 hbox hb; have n0_ := Aside0.mk (blk_below (g := gb406) (o := .cells #[.int .i64 a0_0, .int .i64 a0_1, .string a0_2, .slice (some ad407) l0_3.length c0_3] 24 (0, 0)) (by (with_reducible repeat (first | refine blk_drewN ?_ _ | refine blk_drew ?_ | refine blk_alloc ?_ _)); exact BK406.out) hb); have n1_ := Aside0.mk (below_step (by repeat (first | (with_reducible first | exact HB.out | apply below_alloc | apply pw_below_drewN | apply below_drew1 | refine below_set ?_ GE406.out) | exact HB.out)) hb); have n2_ := Aside0.mk (hbox); have n3_ := Aside0.mk ((by rw [hg]; exact (below_size (by repeat (first | (with_reducible first | exact HB.out | apply below_alloc | apply pw_below_drewN | apply below_drew1 | refine below_set ?_ GE406.out) | exact HB.out))) : w.heap.size ≤ gb408)); have n4_ := Aside0.mk ((by rw [hg]; exact (below_size (by repeat (first | (with_reducible first | exact HB.out | apply below_alloc | apply pw_below_drewN | apply below_drew1 | refine below_set ?_ GE406.out) | exact HB.out))) : w.heap.size ≤ gb408)); have n5_ := Aside0.mk ((by rw [hg]; exact Nat.ne_of_lt (blk_lt (g := gb406) (o := .cells #[.int .i64 a0_0, .int .i64 a0_1, .string a0_2, .slice (some ad407) l0_3.length c0_3] 24 (0, 0)) (by (with_reducible repeat (first | refine blk_drewN ?_ _ | refine blk_drew ?_ | refine blk_alloc ?_ _)); exact BK406.out)) : gb406 ≠ gb408)); have n6_ := Aside0.mk ((by rw [hg]; exact Nat.ne_of_gt (blk_lt (g := gb406) (o := .cells #[.int .i64 a0_0, .int .i64 a0_1, .string a0_2, .slice (some ad407) l0_3.length c0_3] 24 (0, 0)) (by (with_reducible repeat (first | refine blk_drewN ?_ _ | refine blk_drew ?_ | refine blk_alloc ?_ _)); exact BK406.out)) : gb408 ≠ gb406)); clear BK406; clear HB; have BK406 := n0_; have HB := n1_; have BK408 := n2_; have GW408 := n3_; have GE408 := n4_; have NB406_408 := n5_; have NB408_406 := n6_; clear n0_ n1_ n2_ n3_ n4_ n5_ n6_; clear hb hbox hg; have hnb18 := NB408_406.out; have hnc18 := NB406_408.out; have hcz19_0 : w17.cell? ⟨gb408, 0, none⟩ = some (.int .i64 0) := (blk_cell BK408.out 0).trans rfl; have hcz19_1 : w17.cell? ⟨gb408, 1, none⟩ = some (.int .i64 0) := (blk_cell BK408.out 1).trans rfl; have hcz19_2 : w17.cell? ⟨gb408, 2, none⟩ = some (.string (⟨#[]⟩ : ByteArray)) := (blk_cell BK408.out 2).trans rfl; have hcz19_3 : w17.cell? ⟨gb408, 3, none⟩ = some (.slice none 0 0) := (blk_cell BK408.out 3).trans rfl; have hfz19_0 := blk_frozen BK408.out 0; have hfz19_1 := blk_frozen BK408.out 1; have hfz19_2 := blk_frozen BK408.out 2; have hfz19_3 := blk_frozen BK408.out 3) | ((with_reducible refine gate_callee (f := 24) rfl ?_); refine goesL_ (some 28) rfl rfl Tryd.func24 (by kernel_rfl) rfl #[.agg #[.int .i64 ((rd_T24 l0_3 x21_3).f0), .int .i64 ((rd_T24 l0_3 x21_3).f1), .string ((rd_T24 l0_3 x21_3).f2), .slice A407_3 ((rd_T24 l0_3 x21_3).f3).length c407_3], .int .i64 (wrap64 (a1 + 1))] rfl (by (try simp only [List.map_toArray, List.map_cons, List.map_nil]); first | done | rfl | (simp only [List.length_drop, List.length_take]; rfl)) ?_; (with_reducible refine (ih k3 (by have := HJ2.out; have := HJ8.out; have := HK3.out; omega) ((rd_T24 l0_3 x21_3).f0) ((rd_T24 l0_3 x21_3).f1) ((rd_T24 l0_3 x21_3).f2) _ _ ((rd_T24 l0_3 x21_3).f3) (wrap64 (a1 + 1)) t409 _ ?side1 ?side2 A15.out).mono ?_); (case side1 => exact Kd.C_below HR407_3.out (by repeat (first | (with_reducible first | exact HB.out | apply below_alloc | apply pw_below_drewN | apply below_drew1 | refine below_set ?_ GE406.out | refine below_set ?_ GE408.out) | exact HB.out))); (case side2 => exact HC407_3.out); rintro e w20 ⟨rfl, hb⟩; refine ⟨_, rfl, ?_⟩; have n0_ := Aside0.mk (blk_below (g := gb406) (o := .cells #[.int .i64 a0_0, .int .i64 a0_1, .string a0_2, .slice (some ad407) l0_3.length c0_3] 24 (0, 0)) (by (with_reducible repeat (first | refine blk_drewN ?_ _ | refine blk_drew ?_ | refine blk_alloc ?_ _)); refine blk_far ?_ NB406_408.out _; (with_reducible repeat (first | refine blk_drewN ?_ _ | refine blk_drew ?_ | refine blk_alloc ?_ _)); refine blk_far ?_ NB406_408.out _; (with_reducible repeat (first | refine blk_drewN ?_ _ | refine blk_drew ?_ | refine blk_alloc ?_ _)); refine blk_far ?_ NB406_408.out _; (with_reducible repeat (first | refine blk_drewN ?_ _ | refine blk_drew ?_ | refine blk_alloc ?_ _)); refine blk_far ?_ NB406_408.out _; (with_reducible repeat (first | refine blk_drewN ?_ _ | refine blk_drew ?_ | refine blk_alloc ?_ _)); exact BK406.out) hb); have n1_ := Aside0.mk (blk_below (g := gb408) (o := .cells #[.int .i64 ((rd_T24 l0_3 x21_3).f0), .int .i64 ((rd_T24 l0_3 x21_3).f1), .string ((rd_T24 l0_3 x21_3).f2), .slice A407_3 ((rd_T24 l0_3 x21_3).f3).length c407_3] 24 (0, 0)) (by (with_reducible repeat (first | refine blk_drewN ?_ _ | refine blk_drew ?_ | refine blk_alloc ?_ _)); refine blk_put (cs := #[.int .i64 ((rd_T24 l0_3 x21_3).f0), .int .i64 ((rd_T24 l0_3 x21_3).f1), .string ((rd_T24 l0_3 x21_3).f2), .slice none 0 0]) ?_ 3 _ rfl; (with_reducible repeat (first | refine blk_drewN ?_ _ | refine blk_drew ?_ | refine blk_alloc ?_ _)); refine blk_put (cs := #[.int .i64 ((rd_T24 l0_3 x21_3).f0), .int .i64 ((rd_T24 l0_3 x21_3).f1), .string (⟨#[]⟩ : ByteArray), .slice none 0 0]) ?_ 2 _ rfl; (with_reducible repeat (first | refine blk_drewN ?_ _ | refine blk_drew ?_ | refine blk_alloc ?_ _)); refine blk_put (cs := #[.int .i64 ((rd_T24 l0_3 x21_3).f0), .int .i64 0, .string (⟨#[]⟩ : ByteArray), .slice none 0 0]) ?_ 1 _ rfl; (with_reducible repeat (first | refine blk_drewN ?_ _ | refine blk_drew ?_ | refine blk_alloc ?_ _)); refine blk_put (cs := #[.int .i64 0, .int .i64 0, .string (⟨#[]⟩ : ByteArray), .slice none 0 0]) ?_ 0 _ rfl; (with_reducible repeat (first | refine blk_drewN ?_ _ | refine blk_drew ?_ | refine blk_alloc ?_ _)); exact BK408.out) hb); have n2_ := Aside0.mk (below_step (by repeat (first | (with_reducible first | exact HB.out | apply below_alloc | apply pw_below_drewN | apply below_drew1 | refine below_set ?_ GE406.out | refine below_set ?_ GE408.out) | exact HB.out)) hb); clear BK406; clear BK408; clear HB; have BK406 := n0_; have BK408 := n1_; have HB := n2_; clear n0_ n1_ n2_; (try clear hb); (try clear hb2); (try clear hk); (try clear hi)))
                          go_ret
                          exact ⟨by first | rfl | (simp [errW_none, errW_some] <;> rfl) | (simp [*, errW_none, errW_some] <;> rfl), by repeat (first | (with_reducible first | exact HB.out | apply below_alloc | apply pw_below_drewN | apply below_drew1 | refine below_set ?_ GE406.out | refine below_set ?_ GE408.out) | exact HB.out)⟩
                        · rw [if_neg c16] at H
                          have c16b0 : (t409 == 1) = false := beq_eq_false_iff_ne.mpr c16
                          have c16b1 : (t409 != 1) = true := bne_iff_ne.mpr c16
                          by_cases c21 : t409 = 22
                          · rw [if_pos c21] at H
                            have c21b0 : (t409 == 22) = true := beq_iff_eq.mpr c21
                            have c21b1 : (t409 != 22) = false := bne_eq_false_iff_eq.mpr c21
                            clear c21
                            have H' := Aside0.mk H
                            clear H
                            have p407 : 0 ≤ (x21_3 : Int) := of_decide_eq_true (by first | (with_reducible assumption) | assumption)
                            have q407 : x21_3 < (l0_3.length : Int) := of_decide_eq_true (by first | (with_reducible assumption) | assumption)
                            obtain ⟨ad407, A407_3, c407_3, e407, hx407_0, hx407_1, hx407_2, hx407_3, hl407_3, hi407_3⟩ := at_T24 HR0_3.out x21_3 p407 q407
                            cases e407
                            replace hx407_0 := (HB.out.cell (World.block_lt_of_cell? w _ hx407_0)).trans hx407_0
                            replace hx407_1 := (HB.out.cell (World.block_lt_of_cell? w _ hx407_1)).trans hx407_1
                            replace hx407_2 := (HB.out.cell (World.block_lt_of_cell? w _ hx407_2)).trans hx407_2
                            replace hx407_3 := (HB.out.cell (World.block_lt_of_cell? w _ hx407_3)).trans hx407_3
                            have HR407_3 := Aside0.mk hi407_3
                            have HC407_3 := Aside0.mk hl407_3
                            clear hi407_3 hl407_3
                            replace p407 := eq_true p407
                            replace q407 := eq_true q407
                            go_wp2_with (first | ((with_reducible refine gate_dst (N := 7) rfl ?_); refine box_event ?hg (N := 7) ?hd (cs := #[.int .i64 0, .int .i64 0, .string (⟨#[]⟩ : ByteArray), .slice none 0 0]) (t := 24) ?hr ?_; (case hd => rfl); (case hg => rfl); (case hr => first | (go_simp; done) | (go_simp; rfl)); intro gb408 hg w22 hbox hb; have n0_ := Aside0.mk (blk_below (g := gb406) (o := .cells #[.int .i64 a0_0, .int .i64 a0_1, .string a0_2, .slice (some ad407) l0_3.length c0_3] 24 (0, 0)) (by (with_reducible repeat (first | refine blk_drewN ?_ _ | refine blk_drew ?_ | refine blk_alloc ?_ _)); exact BK406.out) hb); have n1_ := Aside0.mk (below_step (by repeat (first | (with_reducible first | exact HB.out | apply below_alloc | apply pw_below_drewN | apply below_drew1 | refine below_set ?_ GE406.out) | exact HB.out)) hb); have n2_ := Aside0.mk (hbox); have n3_ := Aside0.mk ((by rw [hg]; exact (below_size (by repeat (first | (with_reducible first | exact HB.out | apply below_alloc | apply pw_below_drewN | apply below_drew1 | refine below_set ?_ GE406.out) | exact HB.out))) : w.heap.size ≤ gb408)); have n4_ := Aside0.mk ((by rw [hg]; exact (below_size (by repeat (first | (with_reducible first | exact HB.out | apply below_alloc | apply pw_below_drewN | apply below_drew1 | refine below_set ?_ GE406.out) | exact HB.out))) : w.heap.size ≤ gb408)); have n5_ := Aside0.mk ((by rw [hg]; exact Nat.ne_of_lt (blk_lt (g := gb406) (o := .cells #[.int .i64 a0_0, .int .i64 a0_1, .string a0_2, .slice (some ad407) l0_3.length c0_3] 24 (0, 0)) (by (with_reducible repeat (first | refine blk_drewN ?_ _ | refine blk_drew ?_ | refine blk_alloc ?_ _)); exact BK406.out)) : gb406 ≠ gb408)); have n6_ := Aside0.mk ((by rw [hg]; exact Nat.ne_of_gt (blk_lt (g := gb406) (o := .cells #[.int .i64 a0_0, .int .i64 a0_1, .string a0_2, .slice (some ad407) l0_3.length c0_3] 24 (0, 0)) (by (with_reducible repeat (first | refine blk_drewN ?_ _ | refine blk_drew ?_ | refine blk_alloc ?_ _)); exact BK406.out)) : gb408 ≠ gb406)); clear BK406; clear HB; have BK406 := n0_; have HB := n1_; have BK408 := n2_; have GW408 := n3_; have GE408 := n4_; have NB406_408 := n5_; have NB408_406 := n6_; clear n0_ n1_ n2_ n3_ n4_ n5_ n6_; clear hb hbox hg; have hnb23 := NB408_406.out; have hnc23 := NB406_408.out; have hcz24_0 : w22.cell? ⟨gb408, 0, none⟩ = some (.int .i64 0) := (blk_cell BK408.out 0).trans rfl; have hcz24_1 : w22.cell? ⟨gb408, 1, none⟩ = some (.int .i64 0) := (blk_cell BK408.out 1).trans rfl; have hcz24_2 : w22.cell? ⟨gb408, 2, none⟩ = some (.string (⟨#[]⟩ : ByteArray)) := (blk_cell BK408.out 2).trans rfl; have hcz24_3 : w22.cell? ⟨gb408, 3, none⟩ = some (.slice none 0 0) := (blk_cell BK408.out 3).trans rfl; have hfz24_0 := blk_frozen BK408.out 0; have hfz24_1 := blk_frozen BK408.out 1; have hfz24_2 := blk_frozen BK408.out 2; have hfz24_3 := blk_frozen BK408.out 3) | ((with_reducible refine gate_callee (f := 24) rfl ?_); refine goesL_ (some 28) rfl rfl Tryd.func24 (by kernel_rfl) rfl #[.agg #[.int .i64 ((rd_T24 l0_3 x21_3).f0), .int .i64 ((rd_T24 l0_3 x21_3).f1), .string ((rd_T24 l0_3 x21_3).f2), .slice A407_3 ((rd_T24 l0_3 x21_3).f3).length c407_3], .int .i64 (wrap64 (a1 + 1))] rfl (by (try simp only [List.map_toArray, List.map_cons, List.map_nil]); first | done | rfl | (simp only [List.length_drop, List.length_take]; rfl)) ?_; (with_reducible refine (ih k3 (by have := HJ2.out; have := HJ8.out; have := HK3.out; omega) ((rd_T24 l0_3 x21_3).f0) ((rd_T24 l0_3 x21_3).f1) ((rd_T24 l0_3 x21_3).f2) _ _ ((rd_T24 l0_3 x21_3).f3) (wrap64 (a1 + 1)) t409 _ ?side1 ?side2 A15.out).mono ?_); (case side1 => exact Kd.C_below HR407_3.out (by repeat (first | (with_reducible first | exact HB.out | apply below_alloc | apply pw_below_drewN | apply below_drew1 | refine below_set ?_ GE406.out | refine below_set ?_ GE408.out) | exact HB.out))); (case side2 => exact HC407_3.out); rintro e w25 ⟨rfl, hb⟩; refine ⟨_, rfl, ?_⟩; have n0_ := Aside0.mk (blk_below (g := gb406) (o := .cells #[.int .i64 a0_0, .int .i64 a0_1, .string a0_2, .slice (some ad407) l0_3.length c0_3] 24 (0, 0)) (by (with_reducible repeat (first | refine blk_drewN ?_ _ | refine blk_drew ?_ | refine blk_alloc ?_ _)); refine blk_far ?_ NB406_408.out _; (with_reducible repeat (first | refine blk_drewN ?_ _ | refine blk_drew ?_ | refine blk_alloc ?_ _)); refine blk_far ?_ NB406_408.out _; (with_reducible repeat (first | refine blk_drewN ?_ _ | refine blk_drew ?_ | refine blk_alloc ?_ _)); refine blk_far ?_ NB406_408.out _; (with_reducible repeat (first | refine blk_drewN ?_ _ | refine blk_drew ?_ | refine blk_alloc ?_ _)); refine blk_far ?_ NB406_408.out _; (with_reducible repeat (first | refine blk_drewN ?_ _ | refine blk_drew ?_ | refine blk_alloc ?_ _)); exact BK406.out) hb); have n1_ := Aside0.mk (blk_below (g := gb408) (o := .cells #[.int .i64 ((rd_T24 l0_3 x21_3).f0), .int .i64 ((rd_T24 l0_3 x21_3).f1), .string ((rd_T24 l0_3 x21_3).f2), .slice A407_3 ((rd_T24 l0_3 x21_3).f3).length c407_3] 24 (0, 0)) (by (with_reducible repeat (first | refine blk_drewN ?_ _ | refine blk_drew ?_ | refine blk_alloc ?_ _)); refine blk_put (cs := #[.int .i64 ((rd_T24 l0_3 x21_3).f0), .int .i64 ((rd_T24 l0_3 x21_3).f1), .string ((rd_T24 l0_3 x21_3).f2), .slice none 0 0]) ?_ 3 _ rfl; (with_reducible repeat (first | refine blk_drewN ?_ _ | refine blk_drew ?_ | refine blk_alloc ?_ _)); refine blk_put (cs := #[.int .i64 ((rd_T24 l0_3 x21_3).f0), .int .i64 ((rd_T24 l0_3 x21_3).f1), .string (⟨#[]⟩ : ByteArray), .slice none 0 0]) ?_ 2 _ rfl; (with_reducible repeat (first | refine blk_drewN ?_ _ | refine blk_drew ?_ | refine blk_alloc ?_ _)); refine blk_put (cs := #[.int .i64 ((rd_T24 l0_3 x21_3).f0), .int .i64 0, .string (⟨#[]⟩ : ByteArray), .slice none 0 0]) ?_ 1 _ rfl; (with_reducible repeat (first | refine blk_drewN ?_ _ | refine blk_drew ?_ | refine blk_alloc ?_ _)); refine blk_put (cs := #[.int .i64 0, .int .i64 0, .string (⟨#[]⟩ : ByteArray), .slice none 0 0]) ?_ 0 _ rfl; (with_reducible repeat (first | refine blk_drewN ?_ _ | refine blk_drew ?_ | refine blk_alloc ?_ _)); exact BK408.out) hb); have n2_ := Aside0.mk (below_step (by repeat (first | (with_reducible first | exact HB.out | apply below_alloc | apply pw_below_drewN | apply below_drew1 | refine below_set ?_ GE406.out | refine below_set ?_ GE408.out) | exact HB.out)) hb); clear BK406; clear BK408; clear HB; have BK406 := n0_; have BK408 := n1_; have HB := n2_; clear n0_ n1_ n2_; (try clear hb); (try clear hb2); (try clear hk); (try clear hi)))
                            go_roundg k3
                            case measure => have := HJ2.out; have := HJ8.out; have := HK3.out; omega
                            case rel => exact ⟨(t409), (wrap64 (x21_3 + 1)), (by first | rfl | (simp; done) | (simp [*]; done)), (by first | rfl | (simp; done) | (simp [*]; done)), H', ⟨by have := HJ2.out; have := HJ8.out; have := HK3.out; omega⟩, ⟨by (with_reducible repeat (first | refine blk_drewN ?_ _ | refine blk_drew ?_ | refine blk_alloc ?_ _)); exact BK406.out⟩, ⟨by repeat (first | (with_reducible first | exact HB.out | apply below_alloc | apply pw_below_drewN | apply below_drew1 | refine below_set ?_ GE406.out | refine below_set ?_ GE408.out) | exact HB.out)⟩⟩
                          · rw [if_neg c21] at H
                            have c21b0 : (t409 == 22) = false := beq_eq_false_iff_ne.mpr c21
                            have c21b1 : (t409 != 22) = true := bne_iff_ne.mpr c21
                            have H' := Aside0.mk H
                            clear H
                            have p407 : 0 ≤ (x21_3 : Int) := of_decide_eq_true (by first | (with_reducible assumption) | assumption)
                            have q407 : x21_3 < (l0_3.length : Int) := of_decide_eq_true (by first | (with_reducible assumption) | assumption)
                            obtain ⟨ad407, A407_3, c407_3, e407, hx407_0, hx407_1, hx407_2, hx407_3, hl407_3, hi407_3⟩ := at_T24 HR0_3.out x21_3 p407 q407
                            cases e407
                            replace hx407_0 := (HB.out.cell (World.block_lt_of_cell? w _ hx407_0)).trans hx407_0
                            replace hx407_1 := (HB.out.cell (World.block_lt_of_cell? w _ hx407_1)).trans hx407_1
                            replace hx407_2 := (HB.out.cell (World.block_lt_of_cell? w _ hx407_2)).trans hx407_2
                            replace hx407_3 := (HB.out.cell (World.block_lt_of_cell? w _ hx407_3)).trans hx407_3
                            have HR407_3 := Aside0.mk hi407_3
                            have HC407_3 := Aside0.mk hl407_3
                            clear hi407_3 hl407_3
                            replace p407 := eq_true p407
                            replace q407 := eq_true q407
                            go_wp2_with (first | ((with_reducible refine gate_dst (N := 7) rfl ?_); refine box_event ?hg (N := 7) ?hd (cs := #[.int .i64 0, .int .i64 0, .string (⟨#[]⟩ : ByteArray), .slice none 0 0]) (t := 24) ?hr ?_; (case hd => rfl); (case hg => rfl); (case hr => first | (go_simp; done) | (go_simp; rfl)); intro gb408 hg w26 hbox hb; have n0_ := Aside0.mk (blk_below (g := gb406) (o := .cells #[.int .i64 a0_0, .int .i64 a0_1, .string a0_2, .slice (some ad407) l0_3.length c0_3] 24 (0, 0)) (by (with_reducible repeat (first | refine blk_drewN ?_ _ | refine blk_drew ?_ | refine blk_alloc ?_ _)); exact BK406.out) hb); have n1_ := Aside0.mk (below_step (by repeat (first | (with_reducible first | exact HB.out | apply below_alloc | apply pw_below_drewN | apply below_drew1 | refine below_set ?_ GE406.out) | exact HB.out)) hb); have n2_ := Aside0.mk (hbox); have n3_ := Aside0.mk ((by rw [hg]; exact (below_size (by repeat (first | (with_reducible first | exact HB.out | apply below_alloc | apply pw_below_drewN | apply below_drew1 | refine below_set ?_ GE406.out) | exact HB.out))) : w.heap.size ≤ gb408)); have n4_ := Aside0.mk ((by rw [hg]; exact (below_size (by repeat (first | (with_reducible first | exact HB.out | apply below_alloc | apply pw_below_drewN | apply below_drew1 | refine below_set ?_ GE406.out) | exact HB.out))) : w.heap.size ≤ gb408)); have n5_ := Aside0.mk ((by rw [hg]; exact Nat.ne_of_lt (blk_lt (g := gb406) (o := .cells #[.int .i64 a0_0, .int .i64 a0_1, .string a0_2, .slice (some ad407) l0_3.length c0_3] 24 (0, 0)) (by (with_reducible repeat (first | refine blk_drewN ?_ _ | refine blk_drew ?_ | refine blk_alloc ?_ _)); exact BK406.out)) : gb406 ≠ gb408)); have n6_ := Aside0.mk ((by rw [hg]; exact Nat.ne_of_gt (blk_lt (g := gb406) (o := .cells #[.int .i64 a0_0, .int .i64 a0_1, .string a0_2, .slice (some ad407) l0_3.length c0_3] 24 (0, 0)) (by (with_reducible repeat (first | refine blk_drewN ?_ _ | refine blk_drew ?_ | refine blk_alloc ?_ _)); exact BK406.out)) : gb408 ≠ gb406)); clear BK406; clear HB; have BK406 := n0_; have HB := n1_; have BK408 := n2_; have GW408 := n3_; have GE408 := n4_; have NB406_408 := n5_; have NB408_406 := n6_; clear n0_ n1_ n2_ n3_ n4_ n5_ n6_; clear hb hbox hg; have hnb27 := NB408_406.out; have hnc27 := NB406_408.out; have hcz28_0 : w26.cell? ⟨gb408, 0, none⟩ = some (.int .i64 0) := (blk_cell BK408.out 0).trans rfl; have hcz28_1 : w26.cell? ⟨gb408, 1, none⟩ = some (.int .i64 0) := (blk_cell BK408.out 1).trans rfl; have hcz28_2 : w26.cell? ⟨gb408, 2, none⟩ = some (.string (⟨#[]⟩ : ByteArray)) := (blk_cell BK408.out 2).trans rfl; have hcz28_3 : w26.cell? ⟨gb408, 3, none⟩ = some (.slice none 0 0) := (blk_cell BK408.out 3).trans rfl; have hfz28_0 := blk_frozen BK408.out 0; have hfz28_1 := blk_frozen BK408.out 1; have hfz28_2 := blk_frozen BK408.out 2; have hfz28_3 := blk_frozen BK408.out 3) | ((with_reducible refine gate_callee (f := 24) rfl ?_); refine goesL_ (some 28) rfl rfl Tryd.func24 (by kernel_rfl) rfl #[.agg #[.int .i64 ((rd_T24 l0_3 x21_3).f0), .int .i64 ((rd_T24 l0_3 x21_3).f1), .string ((rd_T24 l0_3 x21_3).f2), .slice A407_3 ((rd_T24 l0_3 x21_3).f3).length c407_3], .int .i64 (wrap64 (a1 + 1))] rfl (by (try simp only [List.map_toArray, List.map_cons, List.map_nil]); first | done | rfl | (simp only [List.length_drop, List.length_take]; rfl)) ?_; (with_reducible refine (ih k3 (by have := HJ2.out; have := HJ8.out; have := HK3.out; omega) ((rd_T24 l0_3 x21_3).f0) ((rd_T24 l0_3 x21_3).f1) ((rd_T24 l0_3 x21_3).f2) _ _ ((rd_T24 l0_3 x21_3).f3) (wrap64 (a1 + 1)) t409 _ ?side1 ?side2 A15.out).mono ?_); (case side1 => exact Kd.C_below HR407_3.out (by repeat (first | (with_reducible first | exact HB.out | apply below_alloc | apply pw_below_drewN | apply below_drew1 | refine below_set ?_ GE406.out | refine below_set ?_ GE408.out) | exact HB.out))); (case side2 => exact HC407_3.out); rintro e w29 ⟨rfl, hb⟩; refine ⟨_, rfl, ?_⟩; have n0_ := Aside0.mk (blk_below (g := gb406) (o := .cells #[.int .i64 a0_0, .int .i64 a0_1, .string a0_2, .slice (some ad407) l0_3.length c0_3] 24 (0, 0)) (by (with_reducible repeat (first | refine blk_drewN ?_ _ | refine blk_drew ?_ | refine blk_alloc ?_ _)); refine blk_far ?_ NB406_408.out _; (with_reducible repeat (first | refine blk_drewN ?_ _ | refine blk_drew ?_ | refine blk_alloc ?_ _)); refine blk_far ?_ NB406_408.out _; (with_reducible repeat (first | refine blk_drewN ?_ _ | refine blk_drew ?_ | refine blk_alloc ?_ _)); refine blk_far ?_ NB406_408.out _; (with_reducible repeat (first | refine blk_drewN ?_ _ | refine blk_drew ?_ | refine blk_alloc ?_ _)); refine blk_far ?_ NB406_408.out _; (with_reducible repeat (first | refine blk_drewN ?_ _ | refine blk_drew ?_ | refine blk_alloc ?_ _)); exact BK406.out) hb); have n1_ := Aside0.mk (blk_below (g := gb408) (o := .cells #[.int .i64 ((rd_T24 l0_3 x21_3).f0), .int .i64 ((rd_T24 l0_3 x21_3).f1), .string ((rd_T24 l0_3 x21_3).f2), .slice A407_3 ((rd_T24 l0_3 x21_3).f3).length c407_3] 24 (0, 0)) (by (with_reducible repeat (first | refine blk_drewN ?_ _ | refine blk_drew ?_ | refine blk_alloc ?_ _)); refine blk_put (cs := #[.int .i64 ((rd_T24 l0_3 x21_3).f0), .int .i64 ((rd_T24 l0_3 x21_3).f1), .string ((rd_T24 l0_3 x21_3).f2), .slice none 0 0]) ?_ 3 _ rfl; (with_reducible repeat (first | refine blk_drewN ?_ _ | refine blk_drew ?_ | refine blk_alloc ?_ _)); refine blk_put (cs := #[.int .i64 ((rd_T24 l0_3 x21_3).f0), .int .i64 ((rd_T24 l0_3 x21_3).f1), .string (⟨#[]⟩ : ByteArray), .slice none 0 0]) ?_ 2 _ rfl; (with_reducible repeat (first | refine blk_drewN ?_ _ | refine blk_drew ?_ | refine blk_alloc ?_ _)); refine blk_put (cs := #[.int .i64 ((rd_T24 l0_3 x21_3).f0), .int .i64 0, .string (⟨#[]⟩ : ByteArray), .slice none 0 0]) ?_ 1 _ rfl; (with_reducible repeat (first | refine blk_drewN ?_ _ | refine blk_drew ?_ | refine blk_alloc ?_ _)); refine blk_put (cs := #[.int .i64 0, .int .i64 0, .string (⟨#[]⟩ : ByteArray), .slice none 0 0]) ?_ 0 _ rfl; (with_reducible repeat (first | refine blk_drewN ?_ _ | refine blk_drew ?_ | refine blk_alloc ?_ _)); exact BK408.out) hb); have n2_ := Aside0.mk (below_step (by repeat (first | (with_reducible first | exact HB.out | apply below_alloc | apply pw_below_drewN | apply below_drew1 | refine below_set ?_ GE406.out | refine below_set ?_ GE408.out) | exact HB.out)) hb); clear BK406; clear BK408; clear HB; have BK406 := n0_; have BK408 := n1_; have HB := n2_; clear n0_ n1_ n2_; (try clear hb); (try clear hb2); (try clear hk); (try clear hi)))
                            go_roundg k3
                            case measure => have := HJ2.out; have := HJ8.out; have := HK3.out; omega
                            case rel => exact ⟨(x5_3), (wrap64 (x21_3 + 1)), (by first | rfl | (simp; done) | (simp [*]; done)), (by first | rfl | (simp; done) | (simp [*]; done)), H', ⟨by have := HJ2.out; have := HJ8.out; have := HK3.out; omega⟩, ⟨by (with_reducible repeat (first | refine blk_drewN ?_ _ | refine blk_drew ?_ | refine blk_alloc ?_ _)); exact BK406.out⟩, ⟨by repeat (first | (with_reducible first | exact HB.out | apply below_alloc | apply pw_below_drewN | apply below_drew1 | refine below_set ?_ GE406.out | refine below_set ?_ GE408.out) | exact HB.out)⟩⟩
                      · rw [if_neg c14] at H
                        exact absurd H (by simp)
                    · rw [if_neg c13] at H
                      exact absurd H (by simp)
                  · rw [if_neg c12] at H
                    have c12b0 : decide (x21_3 < (l0_3.length : Int)) = false := decide_eq_false c12
                    clear c12
                    obtain rfl := Option.some.inj H
                    go_wp2
                    go_ret
                    exact ⟨by first | rfl | (simp [errW_none, errW_some] <;> rfl) | (simp [*, errW_none, errW_some] <;> rfl), by repeat (first | (with_reducible first | exact HB.out | apply below_alloc | apply pw_below_drewN | apply below_drew1 | refine below_set ?_ GE406.out) | exact HB.out)⟩
        · rw [if_neg c8] at H
          have c8b0 : (a0_0 == 3) = false := beq_eq_false_iff_ne.mpr c8
          have c8b1 : (a0_0 != 3) = true := bne_iff_ne.mpr c8
          obtain rfl := Option.some.inj H
          go_wp2
          go_ret
          exact ⟨by first | rfl | (simp [errW_none, errW_some] <;> rfl) | (simp [*, errW_none, errW_some] <;> rfl), by repeat (first | (with_reducible first | exact HB.out | apply below_alloc | apply pw_below_drewN | apply below_drew1 | refine below_set ?_ GE406.out) | exact HB.out)⟩
def IsS56 (w0 W : World) (g : Nat) (f0 : ByteArray) (f1 : Int) (f2 : Int) : Prop := W.heap[g]? = some (.cells #[.string f0, .int .i64 f1, .int .i64 f2] 56 (0, 0)) ∧ w0.heap.size ≤ g
theorem IsS56.grown {w0 W : World} {g : Nat} {f0 : ByteArray} {f1 : Int} {f2 : Int} {W1 : World} {row : Option Nat} (h : IsS56 w0 W g f0 f1 f2) (hw : W.grownBy W1 row) (hne : some g ≠ row) : IsS56 w0 W1 g f0 f1 f2 := by
  obtain ⟨hb, hg⟩ := h
  exact ⟨blk_grown hb hw hne, hg⟩
theorem IsS56.kept {w0 W : World} {g : Nat} {f0 : ByteArray} {f1 : Int} {f2 : Int} {W1 : World} {S : Nat → Prop} (h : IsS56 w0 W g f0 f1 f2) (hk : Kept W W1 S) (hne : ¬ S g) : IsS56 w0 W1 g f0 f1 f2 := by
  obtain ⟨hb, hg⟩ := h
  exact ⟨blk_kept hb hk hne, hg⟩
theorem IsS56.below {w0 W : World} {g : Nat} {f0 : ByteArray} {f1 : Int} {f2 : Int} {W1 : World} (h : IsS56 w0 W g f0 f1 f2) (hw : Below W.heap.size W W1) : IsS56 w0 W1 g f0 f1 f2 := h.grown (grown_of_below hw none) (by simp)
theorem IsS56.alloc {w0 W : World} {g : Nat} {f0 : ByteArray} {f1 : Int} {f2 : Int} (h : IsS56 w0 W g f0 f1 f2) (o : Obj) : IsS56 w0 (W.alloc o) g f0 f1 f2 := h.below (below_alloc (Below.refl _ _) o)
theorem IsS56.drewN {w0 W : World} {g : Nat} {f0 : ByteArray} {f1 : Int} {f2 : Int} (h : IsS56 w0 W g f0 f1 f2) (m : Nat) : IsS56 w0 (W.drewN m) g f0 f1 f2 := h
theorem IsS56.drew {w0 W : World} {g : Nat} {f0 : ByteArray} {f1 : Int} {f2 : Int} (h : IsS56 w0 W g f0 f1 f2) : IsS56 w0 W.drew g f0 f1 f2 := h
theorem IsS56.at_ {w0 W : World} {g : Nat} {f0 : ByteArray} {f1 : Int} {f2 : Int} {w' : World} {m : Nat} (hq : W.drewN m = w') (h : IsS56 w0 W g f0 f1 f2) : IsS56 w0 w' g f0 f1 f2 := by subst hq; exact IsS56.drewN h m
theorem IsS56.apart {w0 W : World} {g : Nat} {f0 : ByteArray} {f1 : Int} {f2 : Int} {α : Type} {d : Kd α} {e : Nat} {base : Nat} {ok : Nat → Prop} {v : Value} {xs : List α} (h : IsS56 w0 W g f0 f1 f2) (ho : d.R e W base ok v xs) (ht : ∀ q, q ∈ e :: d.E → q ≠ 56) : d.R e W base (fun k => ok k ∧ k ≠ g) v xs := by
  obtain ⟨hb, hg⟩ := h
  exact Kd.R_types ho hb ht
theorem IsS56.own_ne {w0 W : World} {g : Nat} {f0 : ByteArray} {f1 : Int} {f2 : Int} {α : Type} {d : Kd α} {e : Nat} {base : Nat} {ok : Nat → Prop} {v : Value} {xs : List α} (h : IsS56 w0 W g f0 f1 f2) (ho : d.R e W base ok v xs) (ht : e ≠ 56) : some g ≠ v.ownBlock := by
  obtain ⟨hb, hg⟩ := h
  exact Kd.R_ne ho hb ht
theorem IsS56.lt {w0 W : World} {g : Nat} {f0 : ByteArray} {f1 : Int} {f2 : Int} (h : IsS56 w0 W g f0 f1 f2) : g < W.heap.size := by
  obtain ⟨hb, hg⟩ := h
  exact blk_lt hb
theorem IsS56.ge {w0 W : World} {g : Nat} {f0 : ByteArray} {f1 : Int} {f2 : Int} (h : IsS56 w0 W g f0 f1 f2) : w0.heap.size ≤ g := by
  obtain ⟨hb, hg⟩ := h
  exact hg
theorem cellS56_0 {W : World} {g : Nat} {f0 : ByteArray} {f1 : Int} {f2 : Int} (h : W.heap[g]? = some (.cells #[.string f0, .int .i64 f1, .int .i64 f2] 56 (0, 0))) : W.cell? ⟨g, 0, none⟩ = some (.string f0) := (blk_cell h 0).trans rfl
theorem IsS56.set_0 {w0 W : World} {g : Nat} {f0 : ByteArray} {f1 : Int} {f2 : Int} (h : IsS56 w0 W g f0 f1 f2) (x : ByteArray) : IsS56 w0 (W.setCell ⟨g, 0, none⟩ (.string x)) g x f1 f2 := by
  obtain ⟨hb, hg⟩ := h
  exact ⟨by simpa using blk_set hb 0 (.string x), hg⟩
theorem cellS56_1 {W : World} {g : Nat} {f0 : ByteArray} {f1 : Int} {f2 : Int} (h : W.heap[g]? = some (.cells #[.string f0, .int .i64 f1, .int .i64 f2] 56 (0, 0))) : W.cell? ⟨g, 1, none⟩ = some (.int .i64 f1) := (blk_cell h 1).trans rfl
theorem IsS56.set_1 {w0 W : World} {g : Nat} {f0 : ByteArray} {f1 : Int} {f2 : Int} (h : IsS56 w0 W g f0 f1 f2) (x : Int) : IsS56 w0 (W.setCell ⟨g, 1, none⟩ (.int .i64 x)) g f0 x f2 := by
  obtain ⟨hb, hg⟩ := h
  exact ⟨by simpa using blk_set hb 1 (.int .i64 x), hg⟩
theorem cellS56_2 {W : World} {g : Nat} {f0 : ByteArray} {f1 : Int} {f2 : Int} (h : W.heap[g]? = some (.cells #[.string f0, .int .i64 f1, .int .i64 f2] 56 (0, 0))) : W.cell? ⟨g, 2, none⟩ = some (.int .i64 f2) := (blk_cell h 2).trans rfl
theorem IsS56.set_2 {w0 W : World} {g : Nat} {f0 : ByteArray} {f1 : Int} {f2 : Int} (h : IsS56 w0 W g f0 f1 f2) (x : Int) : IsS56 w0 (W.setCell ⟨g, 2, none⟩ (.int .i64 x)) g f0 f1 x := by
  obtain ⟨hb, hg⟩ := h
  exact ⟨by simpa using blk_set hb 2 (.int .i64 x), hg⟩
theorem IsS56.new (w0 W : World) (f0 : ByteArray) (f1 : Int) (f2 : Int) (hB : Below w0.heap.size w0 W) : IsS56 w0 (W.alloc (.cells #[.string f0, .int .i64 f1, .int .i64 f2] 56)) W.heap.size f0 f1 f2 := ⟨by simpa using heap_alloc_new W _, hB.size⟩
def benc_reader_fail.f (s0_0 : ByteArray) (s0_1 : Int) (s0_2 : Int) (a1 : Int) : Option (ByteArray × Int × Int) := if s0_2 = 0 then (some (s0_0, s0_1, a1)) else (some (s0_0, s0_1, s0_2))
set_option maxHeartbeats 8000000 in
set_option maxRecDepth 100000 in
theorem benc_reader_fail.calls (g : Nat) (s0_0 : ByteArray) (s0_1 : Int) (s0_2 : Int) (a1 : Int) (r1 : ByteArray) (r2 : Int) (r3 : Int) (w0 w : World) (hI : IsS56 w0 w g s0_0 s0_1 s0_2) (hB : Below w0.heap.size w0 w) (h : benc_reader_fail.f s0_0 s0_1 s0_2 a1 = some (r1, r2, r3)) :
    Calls Tryd.prog 39 #[.pointer (some ⟨g, 0, none⟩), .int .i64 a1] w fun e w' => e = .returned (.tuple #[]) ∧ IsS56 w0 w' g r1 r2 r3 ∧ Below w0.heap.size w0 w' ∧ KeepBut w w' g none := by
  have HI0 := Aside0.mk hI
  have HK := Aside0.mk (KeepBut.refl w g none)
  have HL := Aside0.mk hB.size
  clear hI
  have HW0 := Aside0.mk hB.size
  have HB := Aside0.mk hB
  clear hB
  have H : (if s0_2 = 0 then (some (s0_0, s0_1, a1)) else (some (s0_0, s0_1, s0_2))) = some (r1, r2, r3) := h
  clear h
  by_cases c3 : s0_2 = 0
  · rw [if_pos c3] at H
    have c3b0 : (s0_2 == 0) = true := beq_iff_eq.mpr c3
    have c3b1 : (s0_2 != 0) = false := bne_eq_false_iff_eq.mpr c3
    clear c3
    simp only [Option.some.injEq, Prod.mk.injEq] at H
    obtain ⟨rfl, rfl, rfl⟩ := H
    obtain ⟨HGz4, hgz4⟩ := HI0.out
    have hcz4_0 := cellS56_0 HGz4
    have hcz4_1 := cellS56_1 HGz4
    have hcz4_2 := cellS56_2 HGz4
    have hfz4_0 := blk_frozen HGz4 0
    have hfz4_1 := blk_frozen HGz4 1
    have hfz4_2 := blk_frozen HGz4 2
    clear HGz4 hgz4
    go_enter Tryd.func39, Tryd.ntmps39
    go_wp2
    first | go_end0 | ((try simp only [Exit.inBlock, Exit.then]); refine bodyPost_ret (results_none rfl _ _ _) rfl ?_)
    exact ⟨by first | rfl | (simp [errW_none, errW_some] <;> rfl) | (simp [*, errW_none, errW_some] <;> rfl), by repeat (first | (with_reducible first | exact HI0.out | apply IsS56.alloc | apply IsS56.drewN | apply IsS56.drew | apply IsS56.set_0 | apply IsS56.set_1 | apply IsS56.set_2) | exact HI0.out), by repeat (first | (with_reducible first | exact HB.out | apply below_alloc | apply pw_below_drewN | apply below_drew1 | refine below_set ?_ (IsS56.ge HI0.out)) | exact HB.out), by repeat (first | (with_reducible first | exact HK.out | apply KeepBut.set_ | apply keep_drewN | apply keep_drew | apply keep_alloc) | exact HK.out)⟩
  · rw [if_neg c3] at H
    have c3b0 : (s0_2 == 0) = false := beq_eq_false_iff_ne.mpr c3
    have c3b1 : (s0_2 != 0) = true := bne_iff_ne.mpr c3
    simp only [Option.some.injEq, Prod.mk.injEq] at H
    obtain ⟨rfl, rfl, rfl⟩ := H
    obtain ⟨HGz5, hgz5⟩ := HI0.out
    have hcz5_0 := cellS56_0 HGz5
    have hcz5_1 := cellS56_1 HGz5
    have hcz5_2 := cellS56_2 HGz5
    have hfz5_0 := blk_frozen HGz5 0
    have hfz5_1 := blk_frozen HGz5 1
    have hfz5_2 := blk_frozen HGz5 2
    clear HGz5 hgz5
    go_enter Tryd.func39, Tryd.ntmps39
    go_wp2
    first | go_end0 | ((try simp only [Exit.inBlock, Exit.then]); refine bodyPost_ret (results_none rfl _ _ _) rfl ?_)
    exact ⟨by first | rfl | (simp [errW_none, errW_some] <;> rfl) | (simp [*, errW_none, errW_some] <;> rfl), by repeat (first | (with_reducible first | exact HI0.out | apply IsS56.alloc | apply IsS56.drewN | apply IsS56.drew | apply IsS56.set_0 | apply IsS56.set_1 | apply IsS56.set_2) | exact HI0.out), by repeat (first | (with_reducible first | exact HB.out | apply below_alloc | apply pw_below_drewN | apply below_drew1 | refine below_set ?_ (IsS56.ge HI0.out)) | exact HB.out), by repeat (first | (with_reducible first | exact HK.out | apply KeepBut.set_ | apply keep_drewN | apply keep_drew | apply keep_alloc) | exact HK.out)⟩
def benc_reader_next.f (s0_0 : ByteArray) (s0_1 : Int) (s0_2 : Int) : Option (Int × ByteArray × Int × Int) := if s0_1 = (s0_0.size : Int) then ((benc_reader_fail.f s0_0 s0_1 s0_2 21).bind fun bt410 => (some (0, bt410.1, bt410.2.1, bt410.2.2))) else (if 0 ≤ s0_1 then (if s0_1 < (s0_0.size : Int) then (some (bt s0_0 s0_1, s0_0, s0_1, s0_2)) else (none)) else (none))
set_option maxHeartbeats 8000000 in
set_option maxRecDepth 100000 in
theorem benc_reader_next.calls (g : Nat) (s0_0 : ByteArray) (s0_1 : Int) (s0_2 : Int) (r1 : Int) (r2 : ByteArray) (r3 : Int) (r4 : Int) (w0 w : World) (hI : IsS56 w0 w g s0_0 s0_1 s0_2) (hB : Below w0.heap.size w0 w) (h : benc_reader_next.f s0_0 s0_1 s0_2 = some (r1, r2, r3, r4)) :
    Calls Tryd.prog 37 #[.pointer (some ⟨g, 0, none⟩)] w fun e w' => e = .returned (.int .u8 r1) ∧ IsS56 w0 w' g r2 r3 r4 ∧ Below w0.heap.size w0 w' ∧ KeepBut w w' g none := by
  have HI0 := Aside0.mk hI
  have HK := Aside0.mk (KeepBut.refl w g none)
  have HL := Aside0.mk hB.size
  clear hI
  have HW0 := Aside0.mk hB.size
  have HB := Aside0.mk hB
  clear hB
  have H : (if s0_1 = (s0_0.size : Int) then ((benc_reader_fail.f s0_0 s0_1 s0_2 21).bind fun bt410 => (some (0, bt410.1, bt410.2.1, bt410.2.2))) else (if 0 ≤ s0_1 then (if s0_1 < (s0_0.size : Int) then (some (bt s0_0 s0_1, s0_0, s0_1, s0_2)) else (none)) else (none))) = some (r1, r2, r3, r4) := h
  clear h
  by_cases c2 : s0_1 = (s0_0.size : Int)
  · rw [if_pos c2] at H
    have c2b0 : (s0_1 == (s0_0.size : Int)) = true := beq_iff_eq.mpr c2
    have c2b1 : (s0_1 != (s0_0.size : Int)) = false := bne_eq_false_iff_eq.mpr c2
    clear c2
    replace H := Option.bind_eq_some_iff.mp H
    obtain ⟨⟨t410, t411, t412⟩, A30, H⟩ := H
    replace H : (some (0, t410, t411, t412)) = some (r1, r2, r3, r4) := H
    have A3 := Aside0.mk A30
    clear A30
    simp only [Option.some.injEq, Prod.mk.injEq] at H
    obtain ⟨rfl, rfl, rfl, rfl⟩ := H
    obtain ⟨HGz4, hgz4⟩ := HI0.out
    have hcz4_0 := cellS56_0 HGz4
    have hcz4_1 := cellS56_1 HGz4
    have hcz4_2 := cellS56_2 HGz4
    have hfz4_0 := blk_frozen HGz4 0
    have hfz4_1 := blk_frozen HGz4 1
    have hfz4_2 := blk_frozen HGz4 2
    clear HGz4 hgz4
    go_enter Tryd.func37, Tryd.ntmps37
    go_wp2_with (first | (go_at_call 39; (with_reducible refine (benc_reader_fail.calls g s0_0 s0_1 s0_2 21 t410 t411 t412 w0 _ ?side1 ?side2 A3.out).mono ?_); (case side1 => repeat (first | (with_reducible first | exact HI0.out | apply IsS56.alloc | apply IsS56.drewN | apply IsS56.drew | apply IsS56.set_0 | apply IsS56.set_1 | apply IsS56.set_2) | exact HI0.out)); (case side2 => repeat (first | (with_reducible first | exact HB.out | apply below_alloc | apply pw_below_drewN | apply below_drew1 | refine below_set ?_ (IsS56.ge HI0.out)) | exact HB.out)); rintro e w5 ⟨rfl, hi, hb, hk⟩; have n0_ := Aside0.mk (KeepBut.trans (by repeat (first | (with_reducible first | exact HK.out | apply KeepBut.set_ | apply keep_drewN | apply keep_drew | apply keep_alloc) | exact HK.out)) hk (.inl rfl)); have n1_ := Aside0.mk (hb); have n2_ := Aside0.mk (hi); clear HK; clear HB; clear HI0; have HK := n0_; have HB := n1_; have HI0 := n2_; clear n0_ n1_ n2_; (try clear hb); (try clear hb2); (try clear hk); (try clear hi)))
    repeat (go_quiet (first | (go_at_call 39; (with_reducible refine (benc_reader_fail.calls g s0_0 s0_1 s0_2 21 t410 t411 t412 w0 _ ?side1 ?side2 A3.out).mono ?_); (case side1 => repeat (first | (with_reducible first | exact HI0.out | apply IsS56.alloc | apply IsS56.drewN | apply IsS56.drew | apply IsS56.set_0 | apply IsS56.set_1 | apply IsS56.set_2) | exact HI0.out)); (case side2 => repeat (first | (with_reducible first | exact HB.out | apply below_alloc | apply pw_below_drewN | apply below_drew1 | refine below_set ?_ (IsS56.ge HI0.out)) | exact HB.out)); rintro e w5 ⟨rfl, hi, hb, hk⟩; have n0_ := Aside0.mk (KeepBut.trans (by repeat (first | (with_reducible first | exact HK.out | apply KeepBut.set_ | apply keep_drewN | apply keep_drew | apply keep_alloc) | exact HK.out)) hk (.inl rfl)); have n1_ := Aside0.mk (hb); have n2_ := Aside0.mk (hi); clear HK; clear HB; clear HI0; have HK := n0_; have HB := n1_; have HI0 := n2_; clear n0_ n1_ n2_; (try clear hb); (try clear hb2); (try clear hk); (try clear hi))); try go_wp2_with (first | (go_at_call 39; (with_reducible refine (benc_reader_fail.calls g s0_0 s0_1 s0_2 21 t410 t411 t412 w0 _ ?side1 ?side2 A3.out).mono ?_); (case side1 => repeat (first | (with_reducible first | exact HI0.out | apply IsS56.alloc | apply IsS56.drewN | apply IsS56.drew | apply IsS56.set_0 | apply IsS56.set_1 | apply IsS56.set_2) | exact HI0.out)); (case side2 => repeat (first | (with_reducible first | exact HB.out | apply below_alloc | apply pw_below_drewN | apply below_drew1 | refine below_set ?_ (IsS56.ge HI0.out)) | exact HB.out)); rintro e w5 ⟨rfl, hi, hb, hk⟩; have n0_ := Aside0.mk (KeepBut.trans (by repeat (first | (with_reducible first | exact HK.out | apply KeepBut.set_ | apply keep_drewN | apply keep_drew | apply keep_alloc) | exact HK.out)) hk (.inl rfl)); have n1_ := Aside0.mk (hb); have n2_ := Aside0.mk (hi); clear HK; clear HB; clear HI0; have HK := n0_; have HB := n1_; have HI0 := n2_; clear n0_ n1_ n2_; (try clear hb); (try clear hb2); (try clear hk); (try clear hi))))
    go_ret
    exact ⟨by first | rfl | (simp [errW_none, errW_some] <;> rfl) | (simp [*, errW_none, errW_some] <;> rfl), by repeat (first | (with_reducible first | exact HI0.out | apply IsS56.alloc | apply IsS56.drewN | apply IsS56.drew | apply IsS56.set_0 | apply IsS56.set_1 | apply IsS56.set_2) | exact HI0.out), by repeat (first | (with_reducible first | exact HB.out | apply below_alloc | apply pw_below_drewN | apply below_drew1 | refine below_set ?_ (IsS56.ge HI0.out)) | exact HB.out), by repeat (first | (with_reducible first | exact HK.out | apply KeepBut.set_ | apply keep_drewN | apply keep_drew | apply keep_alloc) | exact HK.out)⟩
  · rw [if_neg c2] at H
    have c2b0 : (s0_1 == (s0_0.size : Int)) = false := beq_eq_false_iff_ne.mpr c2
    have c2b1 : (s0_1 != (s0_0.size : Int)) = true := bne_iff_ne.mpr c2
    by_cases c6 : 0 ≤ s0_1
    · rw [if_pos c6] at H
      have c6b0 : decide (0 ≤ s0_1) = true := decide_eq_true c6
      clear c6
      by_cases c7 : s0_1 < (s0_0.size : Int)
      · rw [if_pos c7] at H
        have c7b0 : decide (s0_1 < (s0_0.size : Int)) = true := decide_eq_true c7
        clear c7
        simp only [Option.some.injEq, Prod.mk.injEq] at H
        obtain ⟨rfl, rfl, rfl, rfl⟩ := H
        obtain ⟨HGz9, hgz9⟩ := HI0.out
        have hcz9_0 := cellS56_0 HGz9
        have hcz9_1 := cellS56_1 HGz9
        have hcz9_2 := cellS56_2 HGz9
        have hfz9_0 := blk_frozen HGz9 0
        have hfz9_1 := blk_frozen HGz9 1
        have hfz9_2 := blk_frozen HGz9 2
        clear HGz9 hgz9
        have p8 : 0 ≤ (s0_1 : Int) := of_decide_eq_true (by first | (with_reducible assumption) | assumption)
        have q8 : s0_1 < (s0_0.size : Int) := of_decide_eq_true (by first | (with_reducible assumption) | assumption)
        have hx8 := bt_at s0_0 s0_1
        replace p8 := eq_true p8
        replace q8 := eq_true q8
        go_enter Tryd.func37, Tryd.ntmps37
        go_wp2
        repeat (go_quiet (fail); try go_wp2)
        go_ret
        exact ⟨by first | rfl | (simp [errW_none, errW_some] <;> rfl) | (simp [*, errW_none, errW_some] <;> rfl), by repeat (first | (with_reducible first | exact HI0.out | apply IsS56.alloc | apply IsS56.drewN | apply IsS56.drew | apply IsS56.set_0 | apply IsS56.set_1 | apply IsS56.set_2) | exact HI0.out), by repeat (first | (with_reducible first | exact HB.out | apply below_alloc | apply pw_below_drewN | apply below_drew1 | refine below_set ?_ (IsS56.ge HI0.out)) | exact HB.out), by repeat (first | (with_reducible first | exact HK.out | apply KeepBut.set_ | apply keep_drewN | apply keep_drew | apply keep_alloc) | exact HK.out)⟩
      · rw [if_neg c7] at H
        exact absurd H (by simp)
    · rw [if_neg c6] at H
      exact absurd H (by simp)
end Go.Proofs.YtcdfedbecgfanaaDoor.P
namespace Go.Proofs.YtcdfedbecgfanaaDoor.Giv
open Go.RowKit Go.Lib Go.Sort Go.Proofs.YtcdfedbecgfanaaDoorW.PrintWords Go.Proofs.YtcdfedbecgfanaaDoorW.PrintLast Go.Proofs.YtcdfedbecgfanaaDoorW.PrintMore
set_option linter.unusedVariables false
set_option linter.unusedSimpArgs false
theorem w64 {n : Int} (h0 : -9223372036854775808 ≤ n) (h1 : n ≤ 9223372036854775807) : wrap64 n = n := by unfold wrap64; omega
theorem Ev.to {α : Type} {g : Nat → Option α} {r r' : α} (h : Ev g r) (e : r = r') : Ev g r' := e ▸ h
theorem rd_at (L : List V) (i : Nat) (h : i < L.length) : P.rd_T24 L (i : Int) = L[i] := by
  unfold P.rd_T24
  rw [Int.toNat_natCast, List.getD_eq_getElem?_getD, List.getElem?_eq_getElem h, Option.getD_some]
theorem check_ev (n : Nat) : ∀ (v : V) (w : Nat), wt v ≤ n → w + wt v ≤ 4611686018427387904 → Ev (fun k => P.benc_check.f k v.f0 v.f1 v.f2 v.f3 (w : Int)) (chk v w) := by
  induction n with
  | zero => intro v w h; have := wt_eq v; omega
  | succ n ih =>
    intro v w hn hw
    have hz := wt_eq v
    have loop : ∀ (d : Nat) (i : Nat) (o : Int), v.f3.length - i ≤ d → i ≤ v.f3.length → Ev (fun k => P.benc_check.l0 k (w : Int) o v.f3 (v.f3.length : Int) (i : Int)) (chks o w (v.f3.drop i)) := by
      have hll := wts_len v.f3
      intro d
      induction d with
      | zero =>
        intro i o hd hi
        rw [List.drop_of_length_le (by omega), chks_nil]
        refine Ev.step (f := fun _ => some o) (fun k => ?_) (Ev.now _)
        simp only [P.benc_check.l0]
        rw [if_neg (by omega)]
      | succ d ihd =>
        intro i o hd hi
        by_cases hlt : i < v.f3.length
        · rw [List.drop_eq_getElem_cons hlt, chks_cons]
          have hm := wt_mem (List.getElem_mem hlt)
          have hx := ih v.f3[i] (w + 1) (by omega) (by omega)
          have hn1 := ihd (i + 1) o (by omega) (by omega)
          have hn2 := ihd (i + 1) 22 (by omega) (by omega)
          refine Ev.step (f := fun k => (P.benc_check.f k v.f3[i].f0 v.f3[i].f1 v.f3[i].f2 v.f3[i].f3 ((w + 1 : Nat) : Int)).bind fun t => if t = 1 then some t else if t = 22 then P.benc_check.l0 k (w : Int) t v.f3 (v.f3.length : Int) ((i + 1 : Nat) : Int) else P.benc_check.l0 k (w : Int) o v.f3 (v.f3.length : Int) ((i + 1 : Nat) : Int)) (fun k => ?_) ?_
          · simp only [P.benc_check.l0]
            rw [if_pos (by omega), if_pos (by omega), if_pos (by omega), rd_at _ _ hlt, w64 (n := (w : Int) + 1) (by omega) (by omega), w64 (n := (i : Int) + 1) (by omega) (by omega)]
            rfl
          · refine Ev.bind hx ?_
            generalize chk v.f3[i] (w + 1) = t
            by_cases c1 : t = 1
            · rw [if_pos c1]
              refine Ev.congr (fun k => if_pos c1) ?_
              rw [c1]
              exact Ev.now _
            · rw [if_neg c1]
              refine Ev.congr (fun k => if_neg c1) ?_
              by_cases c2 : t = 22
              · rw [if_pos c2]
                refine Ev.congr (fun k => if_pos c2) ?_
                rw [c2]
                exact hn2
              · rw [if_neg c2]
                exact Ev.congr (fun k => if_neg c2) hn1
        · rw [List.drop_of_length_le (by omega), chks_nil]
          refine Ev.step (f := fun _ => some o) (fun k => ?_) (Ev.now _)
          simp only [P.benc_check.l0]
          rw [if_neg (by omega)]
    rw [chk_eq]
    by_cases c1 : v.f0 = 1
    · rw [if_pos c1]
      refine Ev.step (f := fun k => P.benc_check.j0 k (w : Int) v.f0 true v.f0 v.f1 v.f2 v.f3) (fun k => ?_) ?_
      · simp only [P.benc_check.f]
        rw [if_pos c1, c1]
        rfl
      · refine Ev.step (f := fun _ => some 0) (fun k => ?_) (Ev.now _)
        simp only [P.benc_check.j0]
        rfl
    · rw [if_neg c1]
      by_cases c2 : v.f0 = 2
      · rw [if_pos c2]
        refine Ev.step (f := fun k => P.benc_check.j0 k (w : Int) v.f0 true v.f0 v.f1 v.f2 v.f3) (fun k => ?_) ?_
        · simp only [P.benc_check.f]
          rw [if_neg c1, c2]
          rfl
        · refine Ev.step (f := fun _ => some 0) (fun k => ?_) (Ev.now _)
          simp only [P.benc_check.j0]
          rfl
      · rw [if_neg c2]
        refine Ev.step (f := fun k => P.benc_check.j0 k (w : Int) v.f0 false v.f0 v.f1 v.f2 v.f3) (fun k => ?_) ?_
        · simp only [P.benc_check.f]
          rw [if_neg c1, beq_eq_false_iff_ne.2 c2]
        · by_cases c3 : v.f0 = 3
          · rw [if_pos c3]
            by_cases c4 : 8 ≤ w
            · rw [if_pos c4]
              refine Ev.step (f := fun k => P.benc_check.j1 k (w : Int) 22 v.f0 v.f1 v.f2 v.f3) (fun k => ?_) ?_
              · simp only [P.benc_check.j0]
                rw [if_neg (by decide), if_pos c3, if_pos (by omega)]
              · refine Ev.step (f := fun k => P.benc_check.l0 k (w : Int) 22 v.f3 (v.f3.length : Int) ((0 : Nat) : Int)) (fun k => ?_) (loop _ 0 22 (Nat.le_refl _) (Nat.zero_le _))
                simp only [P.benc_check.j1]
                rfl
            · rw [if_neg c4]
              refine Ev.step (f := fun k => P.benc_check.j1 k (w : Int) 0 v.f0 v.f1 v.f2 v.f3) (fun k => ?_) ?_
              · simp only [P.benc_check.j0]
                rw [if_neg (by decide), if_pos c3, if_neg (by omega)]
              · refine Ev.step (f := fun k => P.benc_check.l0 k (w : Int) 0 v.f3 (v.f3.length : Int) ((0 : Nat) : Int)) (fun k => ?_) (loop _ 0 0 (Nat.le_refl _) (Nat.zero_le _))
                simp only [P.benc_check.j1]
                rfl
          · rw [if_neg c3]
            refine Ev.step (f := fun _ => some 1) (fun k => ?_) (Ev.now _)
            simp only [P.benc_check.j0]
            rw [if_neg (by decide), if_neg c3]
theorem check_calls (v : V) (A : Option Addr) (c : Nat) (w : World) (hw : wt v ≤ 70368744177664) (hC : Kd.C P.k24 w A v.f3.length v.f3) (hc : v.f3.length ≤ c) :
    Calls Tryd.prog 24 #[.agg #[.int .i64 v.f0, .int .i64 v.f1, .string v.f2, .slice A v.f3.length c], .int .i64 0] w fun e w' => e = .returned (.int .i64 (chk v 0)) ∧ Below w.heap.size w w' := by
  obtain ⟨k, hk⟩ := Ev.rounds (check_ev (wt v) v 0 (Nat.le_refl _) (by omega))
  exact P.benc_check.calls k v.f0 v.f1 v.f2 A c v.f3 0 _ w hC hc hk
def fitV (v : V) : Bool := okV v && decide (wt v ≤ 70368744177664)
set_option maxHeartbeats 4000000 in
set_option maxRecDepth 100000 in
theorem Put_calls (v : V) (A : Option Addr) (c : Nat) (w : World) (hf : fitV v = true) (hL : LaidW w) (hC : Kd.C P.k24 w A v.f3.length v.f3) (hc : v.f3.length ≤ c) :
    Calls Tryd.prog 12 #[.agg #[.int .i64 v.f0, .int .i64 v.f1, .string v.f2, .slice A v.f3.length c]] w fun e w' => e = .returned (.tuple #[.string (putM v).1, .int .i64 (putM v).2]) ∧ Below w.heap.size w w' := by
  obtain ⟨ho, hw⟩ : okV v = true ∧ wt v ≤ 70368744177664 := by unfold fitV at hf; simpa using hf
  have HCk := Aside0.mk (fun w' hb => check_calls v A c w' hw (Kd.C_below hC hb) hc)
  by_cases hk : chk v 0 = 0
  · have HK := Aside0.mk hk
    have HP := Aside0.mk (fun (B b : Nat) (w' : World) h1 h2 h3 => put_calls (wt v) v A c [] w w' B b (Nat.le_refl _) ho (by simp; omega) hL hC hc h1 h2 h3)
    have hle := putc_le v [] ho
    have hsp := putc_spec v []
    rw [List.nil_append] at hsp
    have HSP := Aside0.mk hsp
    have HM := Aside0.mk (show putM v = if (enc v).length ≤ 65536 then (⟨(enc v).toArray⟩, 0) else (⟨#[]⟩, 23) by unfold putM; rw [if_pos hk])
    clear hk hsp hC hL
    generalize putc [] v = l at *
    by_cases hl : 65536 < l.length
    · have hl0 : decide ((65536 : Int) < (l.length : Int)) = true := decide_eq_true (by omega)
      have HM2 := Aside0.mk (show putM v = (⟨#[]⟩, 23) by
        rw [HM.out, if_neg]
        intro h
        have := HSP.out.1 h
        rw [this] at hl
        omega)
      go_enter Tryd.func12, Tryd.ntmps12
      go_wp2_with fail
      refine (HCk.out _ ((Below.refl _ _).alloc (Nat.le_refl _) _)).mono ?_
      rw [HK.out]
      rintro e w1 ⟨rfl, hb1⟩
      have bk := blk_below (blk_new w (.cells #[.int .i64 v.f0, .int .i64 v.f1, .string v.f2, .slice A v.f3.length c] 24)) hb1
      have hc0 : (w1.alloc (.cells #[.pointer none, .slice none 0 0] 48)).cell? ⟨w.heap.size, 0, none⟩ = some (.int .i64 v.f0) := (blk_cell (blk_alloc bk _) 0).trans rfl
      have hc1 : (w1.alloc (.cells #[.pointer none, .slice none 0 0] 48)).cell? ⟨w.heap.size, 1, none⟩ = some (.int .i64 v.f1) := (blk_cell (blk_alloc bk _) 1).trans rfl
      have hc2 : (w1.alloc (.cells #[.pointer none, .slice none 0 0] 48)).cell? ⟨w.heap.size, 2, none⟩ = some (.string v.f2) := (blk_cell (blk_alloc bk _) 2).trans rfl
      have hc3 : (w1.alloc (.cells #[.pointer none, .slice none 0 0] 48)).cell? ⟨w.heap.size, 3, none⟩ = some (.slice A v.f3.length c) := (blk_cell (blk_alloc bk _) 3).trans rfl
      have HB1 := Aside0.mk (((Below.refl _ w).alloc (Nat.le_refl _) (.cells #[.int .i64 v.f0, .int .i64 v.f1, .string v.f2, .slice A v.f3.length c] 24)).trans (hb1.mono (by simp)))
      have hz1 : w.heap.size ≤ w1.heap.size := HB1.out.size
      clear hb1 bk
      go_wp2_with fail
      refine (HP.out w1.heap.size w1.heap.size _ hz1 (HB1.out.alloc hz1 _) ⟨by simp, Lib.IsBuilderF.of (Lib.fresh_isBuilder 48 5 w1)⟩).mono ?_
      rintro e w2 ⟨rfl, hX2, hb2⟩
      have HX2 := Aside0.mk hX2
      have HB2 := Aside0.mk ((HB1.out.alloc hz1 (.cells #[.pointer none, .slice none 0 0] 48)).trans (hb2.mono hz1))
      clear hX2 hb2
      go_wp2_with fail
      refine (len_calls HX2.out).mono ?_
      rintro e w3 ⟨rfl, rfl⟩
      go_wp2
      go_ret2
      rw [HM2.out]
      exact ⟨rfl, HB2.out⟩
    · have hl0 : decide ((65536 : Int) < (l.length : Int)) = false := decide_eq_false (by omega)
      have HM2 := Aside0.mk (show putM v = (⟨l.toArray⟩, 0) by
        have h : (enc v).length ≤ 65536 := by
          rcases Nat.lt_or_ge 65536 (enc v).length with h | h
          · exact absurd (HSP.out.2 h) hl
          · exact h
        rw [HM.out, if_pos h, HSP.out.1 h])
      go_enter Tryd.func12, Tryd.ntmps12
      go_wp2_with fail
      refine (HCk.out _ ((Below.refl _ _).alloc (Nat.le_refl _) _)).mono ?_
      rw [HK.out]
      rintro e w1 ⟨rfl, hb1⟩
      have bk := blk_below (blk_new w (.cells #[.int .i64 v.f0, .int .i64 v.f1, .string v.f2, .slice A v.f3.length c] 24)) hb1
      have hc0 : (w1.alloc (.cells #[.pointer none, .slice none 0 0] 48)).cell? ⟨w.heap.size, 0, none⟩ = some (.int .i64 v.f0) := (blk_cell (blk_alloc bk _) 0).trans rfl
      have hc1 : (w1.alloc (.cells #[.pointer none, .slice none 0 0] 48)).cell? ⟨w.heap.size, 1, none⟩ = some (.int .i64 v.f1) := (blk_cell (blk_alloc bk _) 1).trans rfl
      have hc2 : (w1.alloc (.cells #[.pointer none, .slice none 0 0] 48)).cell? ⟨w.heap.size, 2, none⟩ = some (.string v.f2) := (blk_cell (blk_alloc bk _) 2).trans rfl
      have hc3 : (w1.alloc (.cells #[.pointer none, .slice none 0 0] 48)).cell? ⟨w.heap.size, 3, none⟩ = some (.slice A v.f3.length c) := (blk_cell (blk_alloc bk _) 3).trans rfl
      have HB1 := Aside0.mk (((Below.refl _ w).alloc (Nat.le_refl _) (.cells #[.int .i64 v.f0, .int .i64 v.f1, .string v.f2, .slice A v.f3.length c] 24)).trans (hb1.mono (by simp)))
      have hz1 : w.heap.size ≤ w1.heap.size := HB1.out.size
      clear hb1 bk
      go_wp2_with fail
      refine (HP.out w1.heap.size w1.heap.size _ hz1 (HB1.out.alloc hz1 _) ⟨by simp, Lib.IsBuilderF.of (Lib.fresh_isBuilder 48 5 w1)⟩).mono ?_
      rintro e w2 ⟨rfl, hX2, hb2⟩
      have HX2 := Aside0.mk hX2
      have HB2 := Aside0.mk ((HB1.out.alloc hz1 (.cells #[.pointer none, .slice none 0 0] 48)).trans (hb2.mono hz1))
      clear hX2 hb2
      go_wp2_with fail
      refine (len_calls HX2.out).mono ?_
      rintro e w3 ⟨rfl, rfl⟩
      go_wp2_with fail
      refine (str_calls HX2.out).mono ?_
      rintro e w4 ⟨rfl, hb4⟩
      have HB4 := Aside0.mk (HB2.out.trans (hb4.mono hz1))
      clear hb4
      go_wp2
      go_ret2
      rw [HM2.out]
      exact ⟨rfl, HB4.out⟩
  · have hk0 : (chk v 0 != 0) = true := bne_iff_ne.2 hk
    have HM2 := Aside0.mk (show putM v = (⟨#[]⟩, chk v 0) by unfold putM; rw [if_neg hk])
    clear hC hL hk
    generalize chk v 0 = e0 at *
    go_enter Tryd.func12, Tryd.ntmps12
    go_wp2_with fail
    refine (HCk.out _ ((Below.refl _ _).alloc (Nat.le_refl _) _)).mono ?_
    rintro e w1 ⟨rfl, hb1⟩
    have HB1 := Aside0.mk (((Below.refl _ w).alloc (Nat.le_refl _) (.cells #[.int .i64 v.f0, .int .i64 v.f1, .string v.f2, .slice A v.f3.length c] 24)).trans (hb1.mono (by simp)))
    clear hb1
    go_wp2
    go_ret2
    rw [HM2.out]
    exact ⟨rfl, HB1.out⟩
def benc_Put.f (a0 : Int) (a1 : Int) (a2 : ByteArray) (l3 : List V) : Option (ByteArray × Int) := if fitV ⟨a0, a1, a2, l3⟩ = true then some (putM ⟨a0, a1, a2, l3⟩) else none
theorem benc_Put.calls (a0_0 : Int) (a0_1 : Int) (a0_2 : ByteArray) (A0_3 : Option Addr) (c0_3 : Nat) (l0_3 : List V) (r1 : ByteArray) (r2 : Int) (w : World) (hL : LaidW w) (hr0_3 : Kd.C P.k24 w A0_3 l0_3.length l0_3) (hc0_3 : l0_3.length ≤ c0_3) (h : benc_Put.f a0_0 a0_1 a0_2 l0_3 = some (r1, r2)) :
    Calls Tryd.prog 12 #[.agg #[.int .i64 a0_0, .int .i64 a0_1, .string a0_2, .slice A0_3 l0_3.length c0_3]] w fun e w' => e = .returned (.tuple #[.string r1, .int .i64 r2]) ∧ Below w.heap.size w w' := by
  unfold benc_Put.f at h
  split at h
  · rename_i hf
    have e := Option.some.inj h
    have c := Put_calls ⟨a0_0, a0_1, a0_2, l0_3⟩ A0_3 c0_3 w hf hL hr0_3 hc0_3
    rw [e] at c
    exact c
  · cases h
end Go.Proofs.YtcdfedbecgfanaaDoor.Giv
