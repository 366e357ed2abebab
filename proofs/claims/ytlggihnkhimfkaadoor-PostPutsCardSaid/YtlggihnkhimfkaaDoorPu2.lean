/- Texts put together by prune.py: Px0, BncM, BncN, BncD, Aid, ShelfH, HexW, HexU, HexV, HexX, ShelfB, PstL, BncW. -/
import Derived.Test.YtlggihnkhimfkaaDoorProg
import Derived.Below
import Derived.Deep.Draws
import Derived.Deep.AppendLies
import Derived.Maps.AppendAt
import Derived.OwnWalk
import Derived.Laws.BytesArg
import Derived.Laws.MakeOwn
import Derived.Laws.OwnMore
import Derived.Deep.OwnRows
import Derived.Tactics
import Derived.Lib.ConvBytes
import Derived.Laws.Slices
import Derived.WalkKit
import Derived.KernelRfl
import Derived.RowKit3
import Derived.Deep.LoopGhost
import Derived.Deep.QuietTactic
import Derived.BigQuiet
import Derived.WideLaws
import Derived.Deep.DeepCutAuto
import Derived.Deep.CutBlock
import Derived.Deep.RegionHeld3
import Derived.Laws.Rows
import Derived.Lib.AppendStr
import Derived.ArgAppend
import Derived.Laws.IdiomCopy
import Derived.OrdersHeld
import Derived.Laws.BitsLemmas
import Derived.RowKit
import Derived.Lib.ItoaNum
import Derived.Deep.Quiet
import Derived.Shelf.Spec.TrailingZeros
import Derived.Shelf.Strconv.ToError
import Derived.Shelf.Strconv.ToErrorRange
import Derived.WalkSpells
import Derived.WalkLawsBesides
import Derived.Laws.Bits64b
import Derived.Lib.Strings
import Derived.Lib.Walk
import Derived.Lib.ParseIntBMem
import Derived.Lib.Hide
import Derived.Laws.Strings3
import Derived.Laws.Closers25
import Derived.Laws.Closers25b
import Derived.BigCall
import Derived.BigGuard
import Derived.Lib.AtoiAllMem
import Derived.Lib.AtoiAllCases
import Derived.Lib.IfaceNeq
import Derived.Lib.ItoaWalk
import Derived.Shelf.Strconv.Itoa3
import Derived.Shelf.Strings.BuilderK
import Derived.Shelf.Strings.BuilderF
import Derived.Lib.OthersKept
import Derived.Handy
import Derived.Outline
import Derived.Deep.DrawnRows
import Derived.Test.YtlggihnkhimfkaaDoorPu1
namespace Go.Proofs.YtlggihnkhimfkaaDoor.P
open Go.RowKit Go.Proofs.YtlggihnkhimfkaaDoorW.PrintWords Go.Proofs.YtlggihnkhimfkaaDoorW.PrintLast Go.Proofs.YtlggihnkhimfkaaDoorW.PrintMore
attribute [local go_sem] max2_int min2_int max_two min_two max_three min_three max_four min_four   -- for this text's walks alone
set_option linter.unusedVariables false
set_option linter.unusedSimpArgs false
def errW : Option Int → Value
  | none => .nilIface
  | some c => .iface 0 (.int .i64 c)
theorem errW_none : errW none = .nilIface := rfl
theorem errW_some (c : Int) : errW (some c) = .iface 0 (.int .i64 c) := rfl
theorem info3 : (Tryd.prog.info? 3).map (fun i => (i.zero, i.size, i.bytes)) = some (some (.int .i64 0), 1, 8) := by kernel_rfl
theorem info5 : (Tryd.prog.info? 5).map (fun i => (i.zero, i.size, i.bytes)) = some (some (.int .u8 0), 1, 1) := by kernel_rfl
theorem info49 : (Tryd.prog.info? 49).map (fun i => (i.zero, i.size, i.bytes)) = some (some (.agg #[(.int .i64 0), (.int .i64 0), (.string ⟨#[]⟩), (.slice none 0 0)]), 4, 56) := by kernel_rfl
theorem info52 : (Tryd.prog.info? 52).map (fun i => (i.zero, i.size, i.bytes)) = some (some (.agg #[(.int .i64 0), (.int .i64 0)]), 2, 16) := by kernel_rfl
structure S52 where
  f0 : Int
  f1 : Int
def z52 : S52 := ⟨(0 : Int), (0 : Int)⟩
def k52 : Kd S52 := Kd.iso (Kd.pair (Kd.int .i64) (Kd.int .i64)) (fun x : S52 => (x.f0, x.f1))
theorem k52_open {w : World} {x : S52} {cs : List Value} (h : k52.K w x cs) : cs = [.int .i64 x.f0, .int .i64 x.f1] := by
  obtain ⟨_, _, rfl, rfl, rfl⟩ := h
  exact rfl
theorem k52_mk (w : World) (x : S52)  : k52.K w x [.int .i64 x.f0, .int .i64 x.f1] := ⟨[.int .i64 x.f0], [.int .i64 x.f1], rfl, rfl, rfl⟩
theorem k52_mkM (w : World) (base : Nat) (ok : Nat → Prop) (x : S52)  : k52.M w base ok x [.int .i64 x.f0, .int .i64 x.f1] := ⟨[.int .i64 x.f0], [.int .i64 x.f1], rfl, rfl, rfl⟩
def rd_T52 (xs : List S52) (i : Int) : S52 := xs.getD i.toNat z52
theorem at_T52 {w : World} {A : Option Addr} {n : Nat} {xs : List S52} (h : Kd.C k52 w A n xs) (i : Int) (h0 : 0 ≤ i) (h1 : i < n) : ∃ ad , A = some ad ∧ w.cell? (ad.add (i.toNat * 2)) = some (.int .i64 (rd_T52 xs i).f0) ∧ w.cell? ⟨(ad.add (i.toNat * 2)).block, (ad.add (i.toNat * 2)).off + 1, none⟩ = some (.int .i64 (rd_T52 xs i).f1) := by
  obtain ⟨ad, c, e, _, hK, hc0⟩ := Kd.C_get h z52 i h0 h1
  have hc : ∀ j u, c[j]? = some u → w.cell? (ad.add (i.toNat * 2 + j)) = some u := hc0
  obtain rfl := k52_open hK
  exact ⟨ad, e, hc 0 _ rfl, by rw [← add_field _ _ 1 (by omega)]; exact hc 1 _ rfl⟩
structure S49 where
  f0 : Int
  f1 : Int
  f2 : ByteArray
  f3 : (List S49)
def z49 : S49 := ⟨(0 : Int), (0 : Int), (⟨#[]⟩ : ByteArray), ([] : List S49)⟩
def F49 (d : Kd S49) : Kd S49 := Kd.iso (Kd.pair (Kd.int .i64) (Kd.pair (Kd.int .i64) (Kd.pair Kd.string (Kd.slice 49 d)))) (fun x : S49 => (x.f0, x.f1, x.f2, x.f3))
theorem mono49 : Kd.Mono F49 := Kd.mono_iso _ (Kd.mono_pair (Kd.mono_const _) (Kd.mono_pair (Kd.mono_const _) (Kd.mono_pair (Kd.mono_const _) (Kd.mono_slice 49 Kd.mono_id))))
theorem sub49 : Kd.Sub F49 [49] := Kd.sub_iso _ (Kd.sub_pair (Kd.sub_const _ (by decide)) (Kd.sub_pair (Kd.sub_const _ (by decide)) (Kd.sub_pair (Kd.sub_const _ (by decide)) (Kd.sub_slice 49 (by decide) Kd.sub_id))))
theorem sz49 : ∀ n, (Kd.upto F49 4 [49] n).sz = 4 := Kd.upto_sz (fun _ => rfl)
def k49 : Kd S49 := Kd.fix F49 4 [49] sz49 (Kd.upto_E sub49)
theorem k49_open {w : World} {x : S49} {cs : List Value} (h : k49.K w x cs) : ∃ A3 c3, cs = [.int .i64 x.f0, .int .i64 x.f1, .string x.f2, .slice A3 x.f3.length c3] ∧ x.f3.length ≤ c3 ∧ k49.C w A3 x.f3.length x.f3 := by
  obtain ⟨n, h⟩ := h
  cases n with
  | zero => exact h.elim
  | succ n =>
    obtain ⟨_, _, rfl, rfl, ⟨_, _, rfl, rfl, ⟨_, _, rfl, rfl, ⟨A3, c3, rfl, l3, g3⟩⟩⟩⟩ := h
    exact ⟨A3, c3, rfl, l3, Kd.fix_C g3⟩
theorem k49_mk (w : World) (x : S49) {A3 : Option Addr} {c3 : Nat} (l3 : x.f3.length ≤ c3) (g3 : k49.C w A3 x.f3.length x.f3) : k49.K w x [.int .i64 x.f0, .int .i64 x.f1, .string x.f2, .slice A3 x.f3.length c3] := by
  obtain ⟨n3, q3⟩ := Kd.fix_C_back mono49 g3
  have r3 := Kd.upto_C_le mono49 sz49 (show n3 ≤ n3 by omega) q3
  exact ⟨n3 + 1, ⟨[.int .i64 x.f0], [.int .i64 x.f1, .string x.f2, .slice A3 x.f3.length c3], rfl, rfl, ⟨[.int .i64 x.f1], [.string x.f2, .slice A3 x.f3.length c3], rfl, rfl, ⟨[.string x.f2], [.slice A3 x.f3.length c3], rfl, rfl, ⟨A3, c3, rfl, l3, r3⟩⟩⟩⟩⟩
theorem k49_mkM (w : World) (base : Nat) (ok : Nat → Prop) (x : S49) {v3 : Value} (g3 : k49.R 49 w base ok v3 x.f3) : k49.M w base ok x [.int .i64 x.f0, .int .i64 x.f1, .string x.f2, v3] := by
  obtain ⟨n3, q3⟩ := Kd.fix_R_back mono49 g3
  have r3 := Kd.upto_R_le mono49 sz49 (show n3 ≤ n3 by omega) q3
  exact ⟨n3 + 1, ⟨[.int .i64 x.f0], [.int .i64 x.f1, .string x.f2, v3], rfl, rfl, ⟨[.int .i64 x.f1], [.string x.f2, v3], rfl, rfl, ⟨[.string x.f2], [v3], rfl, rfl, ⟨v3, rfl, r3⟩⟩⟩⟩⟩
theorem k49_mkF (W : World) (ok : Nat → Prop) (x : S49) {A3 : Option Addr} {c3 : Nat} (l3 : x.f3.length ≤ c3) (g3 : Kd.F k49 W ok A3 x.f3.length x.f3) : Kd.FK k49 W ok x [.int .i64 x.f0, .int .i64 x.f1, .string x.f2, .slice A3 x.f3.length c3] := fun W2 hW => k49_mk W2 x l3 (g3 W2 hW)
def rd_T49 (xs : List S49) (i : Int) : S49 := xs.getD i.toNat z49
theorem at_T49 {w : World} {A : Option Addr} {n : Nat} {xs : List S49} (h : Kd.C k49 w A n xs) (i : Int) (h0 : 0 ≤ i) (h1 : i < n) : ∃ ad A3 c3, A = some ad ∧ w.cell? (ad.add (i.toNat * 4)) = some (.int .i64 (rd_T49 xs i).f0) ∧ w.cell? ⟨(ad.add (i.toNat * 4)).block, (ad.add (i.toNat * 4)).off + 1, none⟩ = some (.int .i64 (rd_T49 xs i).f1) ∧ w.cell? ⟨(ad.add (i.toNat * 4)).block, (ad.add (i.toNat * 4)).off + 2, none⟩ = some (.string (rd_T49 xs i).f2) ∧ w.cell? ⟨(ad.add (i.toNat * 4)).block, (ad.add (i.toNat * 4)).off + 3, none⟩ = some (.slice A3 (rd_T49 xs i).f3.length c3) ∧ (rd_T49 xs i).f3.length ≤ c3 ∧ k49.C w A3 (rd_T49 xs i).f3.length (rd_T49 xs i).f3 := by
  obtain ⟨ad, c, e, _, hK, hc0⟩ := Kd.C_get h z49 i h0 h1
  have hc : ∀ j u, c[j]? = some u → w.cell? (ad.add (i.toNat * 4 + j)) = some u := hc0
  obtain ⟨A3, c3, rfl, l3, g3⟩ := k49_open hK
  exact ⟨ad, A3, c3, e, hc 0 _ rfl, by rw [← add_field _ _ 1 (by omega)]; exact hc 1 _ rfl, by rw [← add_field _ _ 2 (by omega)]; exact hc 2 _ rfl, by rw [← add_field _ _ 3 (by omega)]; exact hc 3 _ rfl, l3, g3⟩
end Go.Proofs.YtlggihnkhimfkaaDoor.P
namespace Go.Proofs.YtlggihnkhimfkaaDoor.Giv
open Go.RowKit Go.Lib
set_option linter.unusedVariables false
set_option linter.unusedSimpArgs false
abbrev V := P.S49
def zV : V := ⟨0, 0, ⟨#[]⟩, []⟩
def intV (n : Int) : V := ⟨1, n, ⟨#[]⟩, []⟩
def strV (s : ByteArray) : V := ⟨2, 0, s, []⟩
def lisV (l : List V) : V := ⟨3, 0, ⟨#[]⟩, l⟩
mutual
def wt : V → Nat
  | ⟨_, _, s, L⟩ => 30 + 2 * s.size + wts L
def wts : List V → Nat
  | [] => 0
  | x :: xs => wt x + wts xs
end
mutual
def okV : V → Bool
  | ⟨_, n, _, L⟩ => decide (-9223372036854775808 ≤ n) && (decide (n ≤ 9223372036854775807) && okVs L)
def okVs : List V → Bool
  | [] => true
  | x :: xs => okV x && okVs xs
end
theorem okV_iff (v : V) : okV v = true ↔ -9223372036854775808 ≤ v.f1 ∧ v.f1 ≤ 9223372036854775807 ∧ okVs v.f3 = true := by
  obtain ⟨k, n, s, L⟩ := v
  rw [okV]
  simp
theorem okVs_cons (x : V) (xs : List V) : okVs (x :: xs) = true ↔ okV x = true ∧ okVs xs = true := by rw [okVs]; simp
theorem wt_eq (v : V) : wt v = 30 + 2 * v.f2.size + wts v.f3 := by obtain ⟨k, n, s, L⟩ := v; rw [wt]
theorem wts_cons (x : V) (xs : List V) : wts (x :: xs) = wt x + wts xs := by rw [wts]
theorem wts_nil : wts [] = 0 := by rw [wts]
theorem okVs_nil : okVs [] = true := by rw [okVs]
theorem wt_mem {x : V} : ∀ {L : List V}, x ∈ L → wt x ≤ wts L
  | y :: ys, h => by
    rw [wts_cons]
    rcases List.mem_cons.1 h with rfl | h
    · omega
    · have := wt_mem h; omega
theorem okV_mem {x : V} : ∀ {L : List V}, x ∈ L → okVs L = true → okV x = true
  | y :: ys, h, ho => by
    rw [okVs_cons] at ho
    rcases List.mem_cons.1 h with rfl | h
    · exact ho.1
    · exact okV_mem h ho.2
theorem wts_len : ∀ (L : List V), 30 * L.length ≤ wts L
  | [] => by simp
  | x :: xs => by rw [wts_cons]; have := wts_len xs; have := wt_eq x; simp; omega
theorem wts_app (L R : List V) : wts (L ++ R) = wts L + wts R := by
  induction L with
  | nil => simp [wts_nil]
  | cons x xs ih => rw [List.cons_append, wts_cons, wts_cons, ih]; omega
mutual
def enc : V → List UInt8
  | ⟨k, n, s, L⟩ => if k = 1 then 105 :: (itoa n ++ [101]) else if k = 2 then itoa (s.size : Int) ++ (58 :: s.data.toList) else 108 :: (encs L ++ [101])
def encs : List V → List UInt8
  | [] => []
  | x :: xs => enc x ++ encs xs
end
theorem enc_eq (v : V) : enc v = if v.f0 = 1 then 105 :: (itoa v.f1 ++ [101]) else if v.f0 = 2 then itoa (v.f2.size : Int) ++ (58 :: v.f2.data.toList) else 108 :: (encs v.f3 ++ [101]) := by
  obtain ⟨k, n, s, L⟩ := v; rw [enc]
theorem encs_cons (x : V) (xs : List V) : encs (x :: xs) = enc x ++ encs xs := by rw [encs]
theorem encs_nil : encs [] = [] := by rw [encs]
theorem encs_app (L R : List V) : encs (L ++ R) = encs L ++ encs R := by
  induction L with
  | nil => rw [encs_nil]; rfl
  | cons x xs ih => rw [List.cons_append, encs_cons, encs_cons, ih, List.append_assoc]
mutual
def putc : List UInt8 → V → List UInt8
  | l, ⟨k, n, s, L⟩ => if 65536 < l.length then l else if k = 1 then l ++ (105 :: (itoa n ++ [101])) else if k = 2 then l ++ (itoa (s.size : Int) ++ (58 :: s.data.toList)) else putcs (l ++ [108]) L ++ [101]
def putcs : List UInt8 → List V → List UInt8
  | l, [] => l
  | l, x :: xs => putcs (putc l x) xs
end
theorem putc_eq (l : List UInt8) (v : V) : putc l v = if 65536 < l.length then l else if v.f0 = 1 then l ++ (105 :: (itoa v.f1 ++ [101])) else if v.f0 = 2 then l ++ (itoa (v.f2.size : Int) ++ (58 :: v.f2.data.toList)) else putcs (l ++ [108]) v.f3 ++ [101] := by
  obtain ⟨k, n, s, L⟩ := v; rw [putc]
theorem putcs_cons (l : List UInt8) (x : V) (xs : List V) : putcs l (x :: xs) = putcs (putc l x) xs := by rw [putcs]
theorem putcs_nil (l : List UInt8) : putcs l [] = l := by rw [putcs]
theorem putcs_snoc (l : List UInt8) (L : List V) (x : V) : putcs l (L ++ [x]) = putc (putcs l L) x := by
  induction L generalizing l with
  | nil => rw [List.nil_append, putcs_cons, putcs_nil, putcs_nil]
  | cons y ys ih => rw [List.cons_append, putcs_cons, putcs_cons, ih]
theorem dd_small {u : Nat} (h : u < 10) : decDigits u = [UInt8.ofNat (48 + u)] := by rw [decDigits, dif_pos h]
theorem dd_big {u : Nat} (h : ¬ u < 10) : decDigits u = decDigits (u / 10) ++ [UInt8.ofNat (48 + u % 10)] := by rw [decDigits, dif_neg h]
theorem dd_len (k u : Nat) (h : u < 10 ^ (k + 1)) : (decDigits u).length ≤ k + 1 := by
  induction k generalizing u with
  | zero => rw [dd_small (by simpa using h)]; simp
  | succ k ih =>
    by_cases c : u < 10
    · rw [dd_small c]; simp
    · rw [dd_big c]
      have := ih (u / 10) (by rw [Nat.pow_succ] at h; omega)
      simp
      omega
theorem dd_any (u : Nat) : 2 * (decDigits u).length ≤ u + 29 := by
  induction u using Nat.strongRecOn with
  | _ u ih =>
    by_cases c : u < 10
    · rw [dd_small c]; simp
    · rw [dd_big c]
      have := ih (u / 10) (by omega)
      simp
      omega
theorem dd_pos (u : Nat) : 1 ≤ (decDigits u).length := by
  by_cases c : u < 10
  · rw [dd_small c]; simp
  · rw [dd_big c]; simp
theorem itoa_len {n : Int} (h0 : -9223372036854775808 ≤ n) (h1 : n ≤ 9223372036854775807) : 1 ≤ (itoa n).length ∧ (itoa n).length ≤ 20 := by
  unfold itoa
  split
  · have := dd_len 18 n.natAbs (by have : n.natAbs ≤ 9223372036854775808 := by omega
                                   exact Nat.lt_of_le_of_lt this (by decide))
    simp; omega
  · have := dd_len 18 n.toNat (by have : n.toNat ≤ 9223372036854775807 := by omega
                                  exact Nat.lt_of_le_of_lt this (by decide))
    have := dd_pos n.toNat
    omega
theorem data_size (s : ByteArray) : s.data.toList.length = s.size := by rw [Array.length_toList]; rfl
mutual
theorem putc_grows : ∀ (v : V) (l : List UInt8), l.length ≤ (putc l v).length
  | ⟨k, n, s, L⟩, l => by
    rw [putc]
    split
    · omega
    · split
      · simp
      · split
        · simp
        · have := putcs_grows L (l ++ [108])
          simp at this ⊢
          omega
theorem putcs_grows : ∀ (L : List V) (l : List UInt8), l.length ≤ (putcs l L).length
  | [], l => by rw [putcs]; omega
  | x :: xs, l => by
    rw [putcs]
    have := putc_grows x l
    have := putcs_grows xs (putc l x)
    omega
end
mutual
theorem putc_spec : ∀ (v : V) (l : List UInt8), ((l ++ enc v).length ≤ 65536 → putc l v = l ++ enc v) ∧ (65536 < (l ++ enc v).length → 65536 < (putc l v).length)
  | ⟨k, n, s, L⟩, l => by
    rw [putc, enc]
    by_cases c : 65536 < l.length
    · rw [if_pos c]
      exact ⟨fun h => by rw [List.length_append] at h; omega, fun _ => c⟩
    · rw [if_neg c]
      by_cases c1 : k = 1
      · rw [if_pos c1, if_pos c1]; exact ⟨fun _ => rfl, fun h => h⟩
      · rw [if_neg c1, if_neg c1]
        by_cases c2 : k = 2
        · rw [if_pos c2, if_pos c2]; exact ⟨fun _ => rfl, fun h => h⟩
        · rw [if_neg c2, if_neg c2]
          have := putcs_spec L (l ++ [108])
          simp only [List.length_append, List.length_cons, List.length_nil] at this ⊢
          constructor
          · intro h
            rw [this.1 (by omega)]
            simp
          · intro h
            by_cases e : l.length + 1 + (encs L).length ≤ 65536
            · rw [this.1 (by omega)]
              simp
              omega
            · have := this.2 (by omega)
              omega
theorem putcs_spec : ∀ (L : List V) (l : List UInt8), ((l ++ encs L).length ≤ 65536 → putcs l L = l ++ encs L) ∧ (65536 < (l ++ encs L).length → 65536 < (putcs l L).length)
  | [], l => by rw [putcs, encs, List.append_nil]; exact ⟨fun _ => rfl, fun h => h⟩
  | x :: xs, l => by
    rw [putcs, encs]
    have h1 := putc_spec x l
    have h2 := putcs_spec xs (putc l x)
    simp only [List.length_append] at h1 h2 ⊢
    constructor
    · intro h
      have e := h1.1 (by omega)
      rw [e] at h2 ⊢
      rw [h2.1 (by simp; omega), List.append_assoc]
    · intro h
      by_cases c : l.length + (enc x).length ≤ 65536
      · have e := h1.1 c
        rw [e] at h2 ⊢
        exact h2.2 (by simp; omega)
      · have := h1.2 (by omega)
        have := putcs_grows xs (putc l x)
        omega
end
mutual
theorem putc_le : ∀ (v : V) (l : List UInt8), okV v = true → (putc l v).length ≤ l.length + wt v
  | ⟨k, n, s, L⟩, l, ho => by
    obtain ⟨h0, h1, h2⟩ := (okV_iff _).1 ho
    replace h0 : -9223372036854775808 ≤ n := h0
    replace h1 : n ≤ 9223372036854775807 := h1
    rw [putc, wt]
    split
    · omega
    · split
      · have := itoa_len h0 h1; simp; omega
      · split
        · have hz := data_size s
          have e : ((s.size : Int)).toNat = s.size := by omega
          have hd := dd_any s.size
          simp only [List.length_append, List.length_cons, hz, itoa]
          rw [if_neg (by omega), e]
          omega
        · have := putcs_le L (l ++ [108]) h2
          simp at this ⊢
          omega
theorem putcs_le : ∀ (L : List V) (l : List UInt8), okVs L = true → (putcs l L).length ≤ l.length + wts L
  | [], l, _ => by rw [putcs]; omega
  | x :: xs, l, ho => by
    rw [okVs_cons] at ho
    rw [putcs, wts]
    have := putc_le x l ho.1
    have := putcs_le xs (putc l x) ho.2
    omega
end
mutual
def chk : V → Nat → Int
  | ⟨k, _, _, L⟩, w => if k = 1 then 0 else if k = 2 then 0 else if k = 3 then chks (if 8 ≤ w then 22 else 0) w L else 1
def chks : Int → Nat → List V → Int
  | o, _, [] => o
  | o, w, x :: xs => if chk x (w + 1) = 1 then 1 else if chk x (w + 1) = 22 then chks 22 w xs else chks o w xs
end
mutual
def kin : V → Bool
  | ⟨k, _, _, L⟩ => if k = 1 then true else if k = 2 then true else if k = 3 then kins L else false
def kins : List V → Bool
  | [] => true
  | x :: xs => kin x && kins xs
end
mutual
def dep : V → Nat
  | ⟨k, _, _, L⟩ => if k = 3 then deps L + 1 else 0
def deps : List V → Nat
  | [] => 0
  | x :: xs => max (dep x) (deps xs)
end
theorem chk_eq (v : V) (w : Nat) : chk v w = if v.f0 = 1 then 0 else if v.f0 = 2 then 0 else if v.f0 = 3 then chks (if 8 ≤ w then 22 else 0) w v.f3 else 1 := by obtain ⟨k, n, s, L⟩ := v; rw [chk]
theorem chks_nil (o : Int) (w : Nat) : chks o w [] = o := by rw [chks]
theorem chks_cons (o : Int) (w : Nat) (x : V) (xs : List V) : chks o w (x :: xs) = if chk x (w + 1) = 1 then 1 else if chk x (w + 1) = 22 then chks 22 w xs else chks o w xs := by rw [chks]
theorem kin_eq (v : V) : kin v = if v.f0 = 1 then true else if v.f0 = 2 then true else if v.f0 = 3 then kins v.f3 else false := by obtain ⟨k, n, s, L⟩ := v; rw [kin]
theorem kins_nil : kins [] = true := by rw [kins]
theorem kins_cons (x : V) (xs : List V) : kins (x :: xs) = (kin x && kins xs) := by rw [kins]
theorem dep_eq (v : V) : dep v = if v.f0 = 3 then deps v.f3 + 1 else 0 := by obtain ⟨k, n, s, L⟩ := v; rw [dep]
theorem deps_nil : deps [] = 0 := by rw [deps]
theorem deps_cons (x : V) (xs : List V) : deps (x :: xs) = max (dep x) (deps xs) := by rw [deps]
theorem deps_app (L R : List V) : deps (L ++ R) = max (deps L) (deps R) := by
  induction L with
  | nil => rw [deps_nil, List.nil_append]; omega
  | cons x xs ih => rw [List.cons_append, deps_cons, deps_cons, ih]; omega
theorem kins_app (L R : List V) : kins (L ++ R) = (kins L && kins R) := by
  induction L with
  | nil => rw [kins_nil, List.nil_append, Bool.true_and]
  | cons x xs ih => rw [List.cons_append, kins_cons, kins_cons, ih, Bool.and_assoc]
mutual
theorem dep_wt : ∀ v : V, dep v ≤ wt v
  | ⟨k, n, s, L⟩ => by
    rw [dep, wt]
    have := deps_wts L
    split <;> omega
theorem deps_wts : ∀ L : List V, deps L ≤ wts L
  | [] => by rw [deps]; omega
  | x :: xs => by
    rw [deps, wts]
    have := dep_wt x
    have := deps_wts xs
    omega
end
mutual
theorem chk_spec : ∀ (v : V) (w : Nat), chk v w = if kin v = true then (if 8 < dep v + w ∧ dep v ≠ 0 then 22 else 0) else 1
  | ⟨k, n, s, L⟩, w => by
    rw [chk, kin, dep]
    by_cases c1 : k = 1
    · subst c1; simp
    · by_cases c2 : k = 2
      · subst c2; simp
      · by_cases c3 : k = 3
        · rw [if_neg c1, if_neg c2, if_pos c3, if_neg c1, if_neg c2, if_pos c3, if_pos c3, chks_spec L]
          by_cases hk : kins L = true
          · rw [if_pos hk, if_pos hk]
            by_cases h8 : 8 ≤ w
            · rw [if_pos h8, if_pos (show 8 < deps L + 1 + w ∧ deps L + 1 ≠ 0 by omega)]
              split <;> rfl
            · rw [if_neg h8]
              by_cases hd : 8 < deps L + 1 + w ∧ deps L ≠ 0
              · rw [if_pos (show 8 < deps L + (w + 1) ∧ deps L ≠ 0 by omega), if_pos (show 8 < deps L + 1 + w ∧ deps L + 1 ≠ 0 by omega)]
              · rw [if_neg (show ¬(8 < deps L + (w + 1) ∧ deps L ≠ 0) by omega), if_neg (show ¬(8 < deps L + 1 + w ∧ deps L + 1 ≠ 0) by omega)]
          · rw [if_neg hk, if_neg hk]
        · rw [if_neg c1, if_neg c2, if_neg c3, if_neg c1, if_neg c2, if_neg c3]; simp
theorem chks_spec : ∀ (L : List V) (o : Int) (w : Nat), chks o w L = if kins L = true then (if 8 < deps L + (w + 1) ∧ deps L ≠ 0 then 22 else o) else 1
  | [], o, w => by rw [chks, kins, deps]; simp
  | x :: xs, o, w => by
    rw [chks, kins, deps, chk_spec x, chks_spec xs, chks_spec xs]
    by_cases h1 : kin x = true
    · rw [if_pos h1, h1, Bool.true_and]
      by_cases h2 : 8 < dep x + (w + 1) ∧ dep x ≠ 0
      · rw [if_pos h2, if_neg (by decide), if_pos rfl]
        by_cases h3 : kins xs = true
        · rw [if_pos h3, if_pos h3, if_pos (show 8 < max (dep x) (deps xs) + (w + 1) ∧ max (dep x) (deps xs) ≠ 0 by omega)]
          split <;> rfl
        · rw [if_neg h3, if_neg h3]
      · rw [if_neg h2, if_neg (by decide), if_neg (by decide)]
        by_cases h3 : kins xs = true
        · rw [if_pos h3, if_pos h3]
          by_cases h4 : 8 < deps xs + (w + 1) ∧ deps xs ≠ 0
          · rw [if_pos h4, if_pos (show 8 < max (dep x) (deps xs) + (w + 1) ∧ max (dep x) (deps xs) ≠ 0 by omega)]
          · rw [if_neg h4, if_neg (show ¬(8 < max (dep x) (deps xs) + (w + 1) ∧ max (dep x) (deps xs) ≠ 0) by omega)]
        · rw [if_neg h3, if_neg h3]
    · rw [if_neg h1, if_pos rfl, if_neg (by simp [h1])]
end
theorem chk_top (v : V) : chk v 0 = if kin v = true then (if 8 < dep v then 22 else 0) else 1 := by
  rw [chk_spec]
  by_cases h : 8 < dep v
  · rw [if_pos (show 8 < dep v + 0 ∧ dep v ≠ 0 by omega), if_pos h]
  · rw [if_neg (show ¬(8 < dep v + 0 ∧ dep v ≠ 0) by omega), if_neg h]
def putM (v : V) : ByteArray × Int := if chk v 0 = 0 then (if (enc v).length ≤ 65536 then (⟨(enc v).toArray⟩, 0) else (⟨#[]⟩, 23)) else (⟨#[]⟩, chk v 0)
def numL (neg : Bool) : Bool → Bool → Int → List UInt8 → Int × Int × Nat
  | _, _, _, [] => (21, 0, 0)
  | z, st, n, c :: t =>
    if c = 101 ∧ st = true then (0, n, 1)
    else if c < 48 ∨ 57 < c ∨ (st = true ∧ z = true) ∨ (st = false ∧ c = 48 ∧ neg = true) then (20, 0, 0)
    else if neg = true then (if 10 * n - ((c.toNat : Int) - 48) < -9223372036854775808 then (20, 0, 0) else let r := numL neg (if st then z else c == 48) true (10 * n - ((c.toNat : Int) - 48)) t; (r.1, r.2.1, r.2.2 + 1))
    else (if 9223372036854775807 < 10 * n + ((c.toNat : Int) - 48) then (20, 0, 0) else let r := numL neg (if st then z else c == 48) true (10 * n + ((c.toNat : Int) - 48)) t; (r.1, r.2.1, r.2.2 + 1))
def lenL : Bool → Bool → Nat → List UInt8 → Int × Nat × Nat
  | _, _, _, [] => (21, 0, 0)
  | z, st, n, c :: t =>
    if c = 58 ∧ st = true then (0, n, 1)
    else if c < 48 ∨ 57 < c ∨ (st = true ∧ z = true) then (20, 0, 0)
    else if 65536 < 10 * n + (c.toNat - 48) then (23, 0, 0)
    else let r := lenL (if st then z else c == 48) true (10 * n + (c.toNat - 48)) t; (r.1, r.2.1, r.2.2 + 1)
def listL (f : List UInt8 → Int × V × Nat) : Nat → List UInt8 → Int × List V × Nat
  | _, [] => (21, [], 0)
  | 0, _ => (21, [], 0)
  | k + 1, c :: t => if c = 101 then (0, [], 1) else if (f (c :: t)).1 = 0 then (if (listL f k ((c :: t).drop (f (c :: t)).2.2)).1 = 0 then (0, (f (c :: t)).2.1 :: (listL f k ((c :: t).drop (f (c :: t)).2.2)).2.1, (f (c :: t)).2.2 + (listL f k ((c :: t).drop (f (c :: t)).2.2)).2.2) else ((listL f k ((c :: t).drop (f (c :: t)).2.2)).1, [], 0)) else ((f (c :: t)).1, [], 0)
def intL (t : List UInt8) : Int × Int × Nat := if t.head? = some 45 then ((numL true false false 0 t.tail).1, (numL true false false 0 t.tail).2.1, (numL true false false 0 t.tail).2.2 + 1) else numL false false false 0 t
def valL : Nat → List UInt8 → Int × V × Nat
  | _, [] => (21, zV, 0)
  | d, c :: t =>
    if c = 105 then (if (intL t).1 = 0 then (0, intV (intL t).2.1, (intL t).2.2 + 1) else ((intL t).1, zV, 0))
    else if 48 ≤ c ∧ c ≤ 57 then
      (if (lenL false false 0 (c :: t)).1 = 0 then
        (if (c :: t).length < (lenL false false 0 (c :: t)).2.2 + (lenL false false 0 (c :: t)).2.1 then (21, zV, 0)
         else (0, strV ⟨(((c :: t).drop (lenL false false 0 (c :: t)).2.2).take (lenL false false 0 (c :: t)).2.1).toArray⟩, (lenL false false 0 (c :: t)).2.2 + (lenL false false 0 (c :: t)).2.1))
       else ((lenL false false 0 (c :: t)).1, zV, 0))
    else if c ≠ 108 then (20, zV, 0)
    else match d with
      | 0 => (22, zV, 0)
      | d + 1 => if (listL (valL d) t.length t).1 = 0 then (0, lisV (listL (valL d) t.length t).2.1, (listL (valL d) t.length t).2.2 + 1) else ((listL (valL d) t.length t).1, zV, 0)
def takeM (s : ByteArray) : V × Int × Int := if (valL 8 s.data.toList).1 = 0 then (if (valL 8 s.data.toList).2.2 ≤ 65536 then ((valL 8 s.data.toList).2.1, ((valL 8 s.data.toList).2.2 : Int), 0) else (zV, 0, 23)) else (zV, 0, (valL 8 s.data.toList).1)
theorem numL_used (neg : Bool) : ∀ (l : List UInt8) (z st : Bool) (n : Int), (numL neg z st n l).1 = 0 → 1 ≤ (numL neg z st n l).2.2 ∧ (numL neg z st n l).2.2 ≤ l.length ∧ (st = false → 2 ≤ (numL neg z st n l).2.2)
 | [], z, st, n, h => by rw [numL] at h; cases h
 | c :: t, z, st, n, h => by
  rw [numL] at h ⊢
  split at h
  ·
   rename_i h1
   rw [if_pos h1]
   exact ⟨Nat.le_refl _, by simp, fun e => by rw [e] at h1; simp at h1⟩
  ·
   rename_i h1
   rw [if_neg h1]
   split at h
   ·
    cases h
   ·
    rename_i h2
    rw [if_neg h2]
    split at h
    ·
     rename_i h3
     rw [if_pos h3]
     split at h
     ·
      cases h
     ·
      rename_i h4
      rw [if_neg h4]
      have := numL_used neg t _ true _ h
      simp only [List.length_cons]
      omega
    ·
     rename_i h3
     rw [if_neg h3]
     split at h
     ·
      cases h
     ·
      rename_i h4
      rw [if_neg h4]
      have := numL_used neg t _ true _ h
      simp only [List.length_cons]
      omega
theorem lenL_used : ∀ (l : List UInt8) (z st : Bool) (n : Nat), (lenL z st n l).1 = 0 → 1 ≤ (lenL z st n l).2.2 ∧ (lenL z st n l).2.2 ≤ l.length ∧ (st = false → 2 ≤ (lenL z st n l).2.2) ∧ (n ≤ 65536 → (lenL z st n l).2.1 ≤ 65536)
  | [], z, st, n, h => by rw [lenL] at h; cases h
  | c :: t, z, st, n, h => by
    rw [lenL] at h ⊢
    split at h
    · rename_i h1
      rw [if_pos h1]
      exact ⟨Nat.le_refl _, by simp, fun e => by rw [e] at h1; simp at h1, fun h => h⟩
    · rename_i h1
      rw [if_neg h1]
      split at h
      · cases h
      · rename_i h2
        rw [if_neg h2]
        split at h
        · cases h
        · rename_i h3
          rw [if_neg h3]
          obtain ⟨a1, a2, a3, a4⟩ := lenL_used t _ true _ h
          simp only [List.length_cons]
          exact ⟨by omega, by omega, by omega, fun _ => a4 (by omega)⟩
theorem intL_used (t : List UInt8) (h : (intL t).1 = 0) : 2 ≤ (intL t).2.2 ∧ (intL t).2.2 ≤ t.length := by
  unfold intL at h ⊢
  split at h
  · rename_i h1
    rw [if_pos h1]
    have := numL_used true t.tail false false 0 h
    have := this.2.2 rfl
    have ht : t.tail.length + 1 = t.length := by
      cases t with
      | nil => cases h1
      | cons a b => simp
    simp only
    omega
  · rename_i h1
    rw [if_neg h1]
    have := numL_used false t false false 0 h
    have := this.2.2 rfl
    omega
theorem listL_used (f : List UInt8 → Int × V × Nat) (hf : ∀ l, (f l).1 = 0 → 1 ≤ (f l).2.2 ∧ (f l).2.2 ≤ l.length) : ∀ (k : Nat) (l : List UInt8), (listL f k l).1 = 0 → 1 ≤ (listL f k l).2.2 ∧ (listL f k l).2.2 ≤ l.length
  | _, [], h => by rw [listL] at h; cases h
  | 0, c :: t, h => by rw [listL] at h; cases h; simp
  | k + 1, c :: t, h => by
    rw [listL] at h ⊢
    split at h
    · rename_i h1; rw [if_pos h1]; simp
    · rename_i h1
      rw [if_neg h1]
      split at h
      · rename_i h2
        rw [if_pos h2]
        split at h
        · rename_i h3
          rw [if_pos h3]
          have a := hf _ h2
          have b := listL_used f hf k _ h3
          rw [List.length_drop] at b
          simp only
          omega
        · rename_i h3; exact absurd h h3
      · rename_i h2; exact absurd h h2
theorem valL_used : ∀ (d : Nat) (l : List UInt8), (valL d l).1 = 0 → 2 ≤ (valL d l).2.2 ∧ (valL d l).2.2 ≤ l.length := by
 intro d
 induction d with
 | zero =>
  intro l h
  cases l with
  | nil => rw [valL] at h; cases h
  | cons c t =>
   rw [valL] at h ⊢
   split at h
   ·
    rename_i h1
    rw [if_pos h1]
    split at h
    ·
     rename_i h2
     rw [if_pos h2]
     have := intL_used t h2
     simp only [List.length_cons]
     omega
    ·
     rename_i h2; exact absurd h h2
   ·
    rename_i h1
    rw [if_neg h1]
    split at h
    ·
     rename_i h2
     rw [if_pos h2]
     split at h
     ·
      rename_i h3
      rw [if_pos h3]
      split at h
      ·
       cases h
      ·
       rename_i h4
       rw [if_neg h4]
       have := lenL_used _ false false 0 h3
       have := this.2.2.1 rfl
       simp only
       omega
     ·
      rename_i h3; exact absurd h h3
    ·
     split at h
     ·
      cases h
     ·
      cases h
 | succ d ih =>
  intro l h
  cases l with
  | nil => rw [valL] at h; cases h
  | cons c t =>
   rw [valL] at h ⊢
   split at h
   ·
    rename_i h1
    rw [if_pos h1]
    split at h
    ·
     rename_i h2
     rw [if_pos h2]
     have := intL_used t h2
     simp only [List.length_cons]
     omega
    ·
     rename_i h2; exact absurd h h2
   ·
    rename_i h1
    rw [if_neg h1]
    split at h
    ·
     rename_i h2
     rw [if_pos h2]
     split at h
     ·
      rename_i h3
      rw [if_pos h3]
      split at h
      ·
       cases h
      ·
       rename_i h4
       rw [if_neg h4]
       have := lenL_used _ false false 0 h3
       have := this.2.2.1 rfl
       simp only
       omega
     ·
      rename_i h3; exact absurd h h3
    ·
     rename_i h2
     rw [if_neg h2]
     split at h
     ·
      cases h
     ·
      rename_i h3
      rw [if_neg h3]
      split at h
      ·
       rename_i h4
       simp only [h4, if_true]
       have := listL_used (valL d) (fun l h => by have := ih l h; omega) _ _ h4
       simp only [List.length_cons]
       omega
      ·
       rename_i h4; exact absurd h h4
def isD (c : UInt8) : Prop := 48 ≤ c.toNat ∧ c.toNat ≤ 57
def dv (c : UInt8) : Nat := c.toNat - 48
def foldN (a : Nat) (ds : List UInt8) : Nat := ds.foldl (fun a c => 10 * a + dv c) a
theorem foldN_nil (a : Nat) : foldN a [] = a := rfl
theorem foldN_cons (a : Nat) (c : UInt8) (t : List UInt8) : foldN a (c :: t) = foldN (10 * a + dv c) t := by unfold foldN; rw [List.foldl_cons]
theorem foldN_app (a : Nat) (l r : List UInt8) : foldN a (l ++ r) = foldN (foldN a l) r := List.foldl_append ..
theorem foldN_ge : ∀ (ds : List UInt8) (a : Nat), a ≤ foldN a ds
  | [], a => Nat.le_refl _
  | c :: t, a => by rw [foldN_cons]; have := foldN_ge t (10 * a + dv c); omega
theorem digit_of {u : Nat} (h : u < 10) : (UInt8.ofNat (48 + u)).toNat = 48 + u := by
  rw [UInt8.toNat_ofNat']
  omega
theorem dd_isD (u : Nat) : ∀ c ∈ decDigits u, isD c := by
  induction u using Nat.strongRecOn with
  | _ u ih =>
    intro c hc
    by_cases h : u < 10
    · rw [dd_small h] at hc
      rw [List.mem_singleton.1 hc]
      unfold isD
      rw [digit_of h]
      omega
    · rw [dd_big h] at hc
      rcases List.mem_append.1 hc with hc | hc
      · exact ih (u / 10) (by omega) c hc
      · rw [List.mem_singleton.1 hc]
        unfold isD
        rw [digit_of (by omega)]
        omega
theorem dd_fold (u : Nat) : foldN 0 (decDigits u) = u := by
  induction u using Nat.strongRecOn with
  | _ u ih =>
    by_cases h : u < 10
    · rw [dd_small h, foldN_cons, foldN_nil]
      unfold dv
      rw [digit_of h]
      omega
    · rw [dd_big h, foldN_app, ih (u / 10) (by omega), foldN_cons, foldN_nil]
      unfold dv
      rw [digit_of (by omega)]
      omega
theorem dd_head (u : Nat) : ∃ c t, decDigits u = c :: t ∧ (c.toNat = 48 → u = 0 ∧ t = []) := by
  induction u using Nat.strongRecOn with
  | _ u ih =>
    by_cases h : u < 10
    · rw [dd_small h]
      exact ⟨_, _, rfl, fun e => by rw [digit_of h] at e; exact ⟨by omega, rfl⟩⟩
    · rw [dd_big h]
      obtain ⟨c, t, e, h2⟩ := ih (u / 10) (by omega)
      rw [e]
      exact ⟨c, _, rfl, fun e2 => by have := (h2 e2).1; omega⟩
def sgn (neg : Bool) (m : Nat) : Int := if neg = true then -(m : Int) else (m : Int)
def fits (neg : Bool) (m : Nat) : Prop := m ≤ 9223372036854775807 + (if neg = true then 1 else 0)
instance (neg : Bool) (m : Nat) : Decidable (fits neg m) := by unfold fits; infer_instance
theorem u8_ne {c d : UInt8} (h : c.toNat ≠ d.toNat) : ¬ c = d := fun e => h (by rw [e])
theorem isD_not {c : UInt8} (h : isD c) : ¬ c = 101 ∧ ¬ c = 58 ∧ ¬ c < 48 ∧ ¬ 57 < c := by
  unfold isD at h
  refine ⟨u8_ne ?_, u8_ne ?_, ?_, ?_⟩
  · show c.toNat ≠ 101; omega
  · show c.toNat ≠ 58; omega
  · rw [UInt8.lt_iff_toNat_lt]; show ¬ c.toNat < 48; omega
  · rw [UInt8.lt_iff_toNat_lt]; show ¬ 57 < c.toNat; omega
theorem numL_digit (neg z st : Bool) (m : Nat) (c : UInt8) (t : List UInt8) (hc : isD c) (hz : st = true → z = false) (h0 : st = false → c.toNat = 48 → neg = false) :
    numL neg z st (sgn neg m) (c :: t) = if fits neg (10 * m + dv c) then ((numL neg (if st then z else c == 48) true (sgn neg (10 * m + dv c)) t).1, (numL neg (if st then z else c == 48) true (sgn neg (10 * m + dv c)) t).2.1, (numL neg (if st then z else c == 48) true (sgn neg (10 * m + dv c)) t).2.2 + 1) else (20, 0, 0) := by
  obtain ⟨n1, n2, n3, n4⟩ := isD_not hc
  have hcv : ((c.toNat : Int) - 48) = (dv c : Int) := by unfold isD at hc; unfold dv; omega
  have hb : ¬(c < 48 ∨ 57 < c ∨ (st = true ∧ z = true) ∨ (st = false ∧ c = 48 ∧ neg = true)) := by
    rintro (h | h | ⟨h, h'⟩ | ⟨h, h', h''⟩)
    · exact n3 h
    · exact n4 h
    · rw [hz h] at h'; cases h'
    · rw [h0 h (by rw [h']; rfl)] at h''; cases h''
  rw [numL, if_neg (by rintro ⟨e, _⟩; exact n1 e), if_neg hb, hcv]
  cases neg with
  | true =>
    rw [if_pos rfl]
    have e : 10 * sgn true m - (dv c : Int) = sgn true (10 * m + dv c) := by unfold sgn; rw [if_pos rfl, if_pos rfl]; omega
    rw [e]
    by_cases hf : fits true (10 * m + dv c)
    · rw [if_pos hf, if_neg (by unfold fits at hf; unfold sgn; rw [if_pos rfl] at hf ⊢; omega)]
    · rw [if_neg hf, if_pos (by unfold fits at hf; unfold sgn; rw [if_pos rfl] at hf ⊢; omega)]
  | false =>
    rw [if_neg (by decide)]
    have e : 10 * sgn false m + (dv c : Int) = sgn false (10 * m + dv c) := by unfold sgn; rw [if_neg (by decide), if_neg (by decide)]; omega
    rw [e]
    by_cases hf : fits false (10 * m + dv c)
    · rw [if_pos hf, if_neg (by unfold fits at hf; unfold sgn; rw [if_neg (by decide)] at hf ⊢; omega)]
    · rw [if_neg hf, if_pos (by unfold fits at hf; unfold sgn; rw [if_neg (by decide)] at hf ⊢; omega)]
theorem fits_le {neg : Bool} {a b : Nat} (h : fits neg b) (hab : a ≤ b) : fits neg a := by unfold fits at *; omega
theorem numL_run (neg : Bool) (rest : List UInt8) : ∀ (ds : List UInt8) (m : Nat), (∀ c ∈ ds, isD c) → fits neg (foldN m ds) → numL neg false true (sgn neg m) (ds ++ 101 :: rest) = (0, sgn neg (foldN m ds), ds.length + 1)
  | [], m, _, _ => by
    rw [List.nil_append, numL, if_pos ⟨rfl, rfl⟩]
    rfl
  | c :: t, m, hD, hf => by
    rw [foldN_cons] at hf ⊢
    have hf1 : fits neg (10 * m + dv c) := fits_le hf (foldN_ge t _)
    rw [List.cons_append, numL_digit neg false true m c (t ++ 101 :: rest) (hD c (by simp)) (fun _ => rfl) (fun h => by cases h), if_pos hf1, if_pos rfl, numL_run neg rest t (10 * m + dv c) (fun x hx => hD x (by simp [hx])) hf]
    simp
theorem numL_dd (neg : Bool) (m : Nat) (rest : List UInt8) (hf : fits neg m) (h0 : neg = true → m ≠ 0) : numL neg false false 0 (decDigits m ++ 101 :: rest) = (0, sgn neg m, (decDigits m).length + 1) := by
  obtain ⟨c, t, e, h48⟩ := dd_head m
  have hD := dd_isD m
  have hF := dd_fold m
  rw [e] at hD hF ⊢
  rw [foldN_cons] at hF
  have hs : (0 : Int) = sgn neg 0 := by unfold sgn; split <;> rfl
  have hc48 : c.toNat = 48 → neg = false := fun h => by
    cases hn : neg with
    | false => rfl
    | true => exact absurd (h48 h).1 (h0 hn)
  have key := numL_digit neg false false 0 c (t ++ 101 :: rest) (hD c (by simp)) (fun h => by cases h) (fun _ => hc48)
  rw [← hs] at key
  rw [List.cons_append, key, if_pos (fits_le hf (by rw [← hF]; exact foldN_ge t _)), if_neg (by decide)]
  by_cases hz : c.toNat = 48
  · obtain ⟨hm, ht⟩ := h48 hz
    subst ht
    rw [foldN_nil] at hF
    rw [hF, List.nil_append, numL, if_pos ⟨rfl, rfl⟩]
    rfl
  · have hzz : (c == 48) = false := beq_eq_false_iff_ne.2 (u8_ne (by show c.toNat ≠ 48; exact hz))
    rw [hzz, numL_run neg rest t (10 * 0 + dv c) (fun x hx => hD x (by simp [hx])) (by rw [hF]; exact hf), hF]
    simp
theorem lenL_digit (z st : Bool) (m : Nat) (c : UInt8) (t : List UInt8) (hc : isD c) (hz : st = true → z = false) :
    lenL z st m (c :: t) = if 65536 < 10 * m + dv c then (23, 0, 0) else ((lenL (if st then z else c == 48) true (10 * m + dv c) t).1, (lenL (if st then z else c == 48) true (10 * m + dv c) t).2.1, (lenL (if st then z else c == 48) true (10 * m + dv c) t).2.2 + 1) := by
  obtain ⟨n1, n2, n3, n4⟩ := isD_not hc
  have hb : ¬(c < 48 ∨ 57 < c ∨ (st = true ∧ z = true)) := by
    rintro (h | h | ⟨h, h'⟩)
    · exact n3 h
    · exact n4 h
    · rw [hz h] at h'; cases h'
  rw [lenL, if_neg (by rintro ⟨e, _⟩; exact n2 e), if_neg hb]
  rfl
theorem lenL_run (rest : List UInt8) : ∀ (ds : List UInt8) (m : Nat), (∀ c ∈ ds, isD c) → foldN m ds ≤ 65536 → lenL false true m (ds ++ 58 :: rest) = (0, foldN m ds, ds.length + 1)
  | [], m, _, _ => by
    rw [List.nil_append, lenL, if_pos ⟨rfl, rfl⟩]
    rfl
  | c :: t, m, hD, hf => by
    rw [foldN_cons] at hf ⊢
    have := foldN_ge t (10 * m + dv c)
    rw [List.cons_append, lenL_digit false true m c (t ++ 58 :: rest) (hD c (by simp)) (fun _ => rfl), if_neg (by omega), if_pos rfl, lenL_run rest t (10 * m + dv c) (fun x hx => hD x (by simp [hx])) hf]
    simp
theorem lenL_dd (m : Nat) (rest : List UInt8) (hf : m ≤ 65536) : lenL false false 0 (decDigits m ++ 58 :: rest) = (0, m, (decDigits m).length + 1) := by
  obtain ⟨c, t, e, h48⟩ := dd_head m
  have hD := dd_isD m
  have hF := dd_fold m
  rw [e] at hD hF ⊢
  rw [foldN_cons] at hF
  have := foldN_ge t (10 * 0 + dv c)
  rw [List.cons_append, lenL_digit false false 0 c (t ++ 58 :: rest) (hD c (by simp)) (fun h => by cases h), if_neg (by omega), if_neg (by decide)]
  by_cases hz : c.toNat = 48
  · obtain ⟨hm, ht⟩ := h48 hz
    subst ht
    rw [foldN_nil] at hF
    rw [hF, List.nil_append, lenL, if_pos ⟨rfl, rfl⟩]
    rfl
  · have hzz : (c == 48) = false := beq_eq_false_iff_ne.2 (u8_ne (by show c.toNat ≠ 48; exact hz))
    rw [hzz, lenL_run rest t (10 * 0 + dv c) (fun x hx => hD x (by simp [hx])) (by omega), hF]
    simp
end Go.Proofs.YtlggihnkhimfkaaDoor.Giv
namespace Go.Proofs.YtlggihnkhimfkaaDoor
open Go.RowKit
def Veil (p : Prop) : Prop := Unit → p
theorem Veil.out {p : Prop} (h : Veil p) : p := h ()
theorem veil {p : Prop} (h : p) : Veil p := fun _ => h
theorem ret_int {k : IntKind} {a b : Int} (h : a = b) : Ending.returned (.int k a) = .returned (.int k b) := by rw [h]
theorem val_int {k : IntKind} {a b : Int} (h : a = b) : Value.int k a = .int k b := by rw [h]
theorem ret_bool {a b : Bool} (h : a = b) : Ending.returned (.bool a) = .returned (.bool b) := by rw [h]
theorem i64_in {n : Int} (h0 : -9223372036854775808 ≤ n) (h1 : n ≤ 9223372036854775807) : IntKind.i64.wrap n = n := by rw [IntKind.wrap_i64]; omega
theorem xor_i64 (a b : Nat) (ha : a < 2 ^ 40) (hb : b < 2 ^ 40) : bits .xor .i64 (a : Int) (b : Int) = ((a ^^^ b : Nat) : Int) := by
  have hx : a ^^^ b < 2 ^ 40 := Nat.xor_lt_two_pow ha hb
  show IntKind.i64.wrap ((BitVec.ofInt 64 (a : Int) ^^^ BitVec.ofInt 64 (b : Int)).toNat : Int) = _
  rw [BitVec.toNat_xor, BitVec.ofInt_natCast, BitVec.ofInt_natCast, BitVec.toNat_ofNat, BitVec.toNat_ofNat, Nat.mod_eq_of_lt (by omega), Nat.mod_eq_of_lt (by omega)]
  exact i64_in (by omega) (by omega)
theorem and_mask_i64 (x : Int) (i : Nat) (hi : i ≤ 62) : bits .and .i64 x ((2 ^ i - 1 : Nat) : Int) = x % ((2 ^ i : Nat) : Int) := by
  have hp : 0 < 2 ^ i := Nat.two_pow_pos i
  have hle : 2 ^ i ≤ 2 ^ 62 := Nat.pow_le_pow_right (by decide) hi
  show IntKind.i64.wrap ((BitVec.ofInt 64 x &&& BitVec.ofInt 64 ((2 ^ i - 1 : Nat) : Int)).toNat : Int) = _
  rw [BitVec.toNat_and, BitVec.ofInt_natCast, BitVec.toNat_ofNat, Nat.mod_eq_of_lt (by omega), BitVec.toNat_ofInt, Nat.and_two_pow_sub_one_eq_mod]
  have hm := Int.emod_nonneg x (show (18446744073709551616 : Int) ≠ 0 by decide)
  have hd : ((2 ^ i : Nat) : Int) ∣ 18446744073709551616 := by
    have : (2 ^ i : Nat) ∣ 2 ^ 64 := Nat.pow_dvd_pow 2 (by omega)
    exact Int.natCast_dvd_natCast.2 this
  have e : (((x % 18446744073709551616).toNat % 2 ^ i : Nat) : Int) = x % ((2 ^ i : Nat) : Int) := by
    rw [Int.natCast_emod, Int.toNat_of_nonneg hm]
    exact Int.emod_emod_of_dvd x hd
  have e' : (((x % ((2 ^ 64 : Nat) : Int)).toNat % 2 ^ i : Nat) : Int) = x % ((2 ^ i : Nat) : Int) := e
  rw [e']
  have h0 := Int.emod_nonneg x (show ((2 ^ i : Nat) : Int) ≠ 0 by omega)
  have h1 := Int.emod_lt_of_pos x (show (0 : Int) < ((2 ^ i : Nat) : Int) by omega)
  exact i64_in (by omega) (by omega)
theorem take_snoc (s : ByteArray) (k : Nat) (h : k < s.size) : s.data.toList.take (k + 1) = s.data.toList.take k ++ [s[k]] := by
  rw [List.take_succ_eq_append_getElem (by simpa using h)]; rfl
def Blk (w : World) (b : Nat) (c : Array Value) (t : TypeId) : Prop := w.heap[b]? = some (.cells c t (0, 0))
theorem Blk.lt {w : World} {b : Nat} {c : Array Value} {t : TypeId} (h : Blk w b c t) : b < w.heap.size := (Array.getElem?_eq_some_iff.1 h).1
theorem Blk.cell {w : World} {b : Nat} {c : Array Value} {t : TypeId} (h : Blk w b c t) (i : Nat) : w.cell? ⟨b, i, none⟩ = c[i]? := by
  unfold Blk at h
  simp [World.cell?, h]
theorem Blk.free {w : World} {b : Nat} {c : Array Value} {t : TypeId} (h : Blk w b c t) (i : Nat) : w.frozen? ⟨b, i, none⟩ = false := by
  unfold Blk at h
  simp [World.frozen?, h]
theorem Blk.new (w : World) (c : Array Value) (t : TypeId) : Blk (w.alloc (.cells c t)) w.heap.size c t := by
  show (w.heap.push _)[w.heap.size]? = _
  rw [Array.getElem?_push, if_pos rfl]
theorem Blk.alloc {w : World} {b : Nat} {c : Array Value} {t : TypeId} (h : Blk w b c t) (o : Obj) : Blk (w.alloc o) b c t := by
  have := h.lt
  unfold Blk at *
  rw [Below.heap_alloc _ _ _ this]; exact h
theorem Blk.drew {w : World} {b : Nat} {c : Array Value} {t : TypeId} (h : Blk w b c t) : Blk w.drew b c t := h
theorem Blk.set {w : World} {b : Nat} {c : Array Value} {t : TypeId} (h : Blk w b c t) (i : Nat) (v : Value) : Blk (w.setCell ⟨b, i, none⟩ v) b (c.setIfInBounds i v) t := by
  unfold Blk at *
  simp [World.setCell, Array.getElem?_modify, h]
theorem Blk.below {w w' : World} {B b : Nat} {c : Array Value} {t : TypeId} (h : Blk w b c t) (hb : Below B w w') (hB : b < B) : Blk w' b c t := by
  unfold Blk at *
  rw [hb.block b hB]; exact h
def BlkM (w : World) (b : Nat) (c : Array Value) (t : TypeId) (f : Nat × Nat) : Prop := w.heap[b]? = some (.cells c t f)
theorem BlkM.lt {w : World} {b : Nat} {c : Array Value} {t : TypeId} {f : Nat × Nat} (h : BlkM w b c t f) : b < w.heap.size := (Array.getElem?_eq_some_iff.1 h).1
theorem BlkM.cell {w : World} {b : Nat} {c : Array Value} {t : TypeId} {f : Nat × Nat} (h : BlkM w b c t f) (i : Nat) : w.cell? ⟨b, i, none⟩ = c[i]? := by
  unfold BlkM at h
  simp [World.cell?, h]
theorem BlkM.free {w : World} {b : Nat} {c : Array Value} {t : TypeId} {f : Nat × Nat} (h : BlkM w b c t f) {i : Nat} (hi : i < f.1) : w.frozen? ⟨b, i, none⟩ = false := by
  unfold BlkM at h
  simp [World.frozen?, h]
  omega
theorem BlkM.new (w : World) (c : Array Value) (t : TypeId) (f : Nat × Nat) : BlkM (w.alloc (.cells c t f)) w.heap.size c t f := by
  show (w.heap.push _)[w.heap.size]? = _
  rw [Array.getElem?_push, if_pos rfl]
theorem BlkM.alloc {w : World} {b : Nat} {c : Array Value} {t : TypeId} {f : Nat × Nat} (h : BlkM w b c t f) (o : Obj) : BlkM (w.alloc o) b c t f := by
  have := h.lt
  unfold BlkM at *
  rw [Below.heap_alloc _ _ _ this]; exact h
theorem BlkM.drew {w : World} {b : Nat} {c : Array Value} {t : TypeId} {f : Nat × Nat} (h : BlkM w b c t f) : BlkM w.drew b c t f := h
theorem BlkM.set {w : World} {b : Nat} {c : Array Value} {t : TypeId} {f : Nat × Nat} (h : BlkM w b c t f) (i : Nat) (v : Value) : BlkM (w.setCell ⟨b, i, none⟩ v) b (c.setIfInBounds i v) t f := by
  unfold BlkM at *
  simp [World.setCell, Array.getElem?_modify, h]
theorem BlkM.below {w w' : World} {B b : Nat} {c : Array Value} {t : TypeId} {f : Nat × Nat} (h : BlkM w b c t f) (hb : Below B w w') (hB : b < B) : BlkM w' b c t f := by
  unfold BlkM at *
  rw [hb.block b hB]; exact h
def Later (w : World) : Type := { v : World // Below w.heap.size w v }
instance (w : World) : Nonempty (Later w) := ⟨⟨w, Below.refl _ _⟩⟩
theorem Later.call {P : Program} {f : FuncId} {args : Array Value} {w : World} {v : Value} {x : Later w}
    (h : Calls P f args x.1 fun e w' => e = .returned v ∧ Below x.1.heap.size x.1 w') : Calls P f args x.1 fun e w' => e = .returned v ∧ ∃ y : Later w, w' = y.1 :=
  h.mono fun _ w' ⟨he, hb⟩ => ⟨he, ⟨w', x.2.trans (hb.mono x.2.size)⟩, rfl⟩
theorem Later.cell {w : World} (x : Later w) {p : Addr} (hp : p.block < w.heap.size) : x.1.cell? p = w.cell? p := x.2.cell hp
end Go.Proofs.YtlggihnkhimfkaaDoor
namespace Go.Proofs
open Go.Shelf Go.RowKit Go.Lib
def Tryd.Lays7_n27_ren : Go.Shelf.Ren := ⟨fun | 0 => 0 | 1 => 1 | 2 => 2 | 27 => 80 | 28 => 83 | 29 => 84 | 52 => 62 | 59 => 70 | 71 => 94 | 72 => 95 | 73 => 96 | 74 => 97 | 75 => 98 | 76 => 99 | 77 => 100 | 78 => 101 | 79 => 102 | 80 => 103 | 81 => 104 | 82 => 105 | 83 => 106 | 84 => 107 | 85 => 108 | 86 => 109 | 87 => 37 | 88 => 113 | 89 => 121 | n => n, fun | 0 => 0 | 1 => 1 | 2 => 2 | 3 => 3 | 4 => 4 | 5 => 5 | 6 => 6 | 7 => 7 | 8 => 8 | 9 => 9 | 10 => 10 | 11 => 11 | 12 => 12 | 13 => 13 | 14 => 14 | 15 => 15 | 16 => 16 | 17 => 17 | 18 => 18 | 19 => 19 | 20 => 20 | 21 => 21 | 22 => 115 | 25 => 97 | 26 => 127 | 27 => 125 | 28 => 129 | 29 => 116 | 30 => 39 | 36 => 69 | 37 => 88 | 38 => 89 | 39 => 90 | 42 => 22 | 44 => 61 | 53 => 136 | 54 => 137 | 55 => 76 | 58 => 70 | 59 => 71 | 73 => 112 | 74 => 113 | 89 => 74 | 90 => 147 | 91 => 148 | 92 => 149 | 93 => 150 | 94 => 151 | 95 => 73 | 96 => 152 | 97 => 153 | 98 => 154 | 99 => 93 | 100 => 155 | 101 => 156 | 102 => 157 | 103 => 158 | n => n, fun | 0 => 1 | 1 => 2 | n => n⟩
theorem Tryd.Lays7_n27 : Lays7.n27 Tryd.prog Tryd.Lays7_n27_ren := {
 mixed := by kernel_rfl,
 f27 := Tryd.func80.trans (congrArg some (by kernel_rfl)),
 f28 := Tryd.func83.trans (congrArg some (by kernel_rfl)),
 f29 := Tryd.func84.trans (congrArg some (by kernel_rfl)),
 t0 := Tryd.underlying0,
 a0 := Tryd.isAgg0,
 z0 := Tryd.sizeOf0,
 v0 := Tryd.zeroValue0,
 i0 := by kernel_rfl,
 t3 := Tryd.underlying3,
 a3 := Tryd.isAgg3,
 z3 := Tryd.sizeOf3,
 v3 := Tryd.zeroValue3,
 i3 := by kernel_rfl,
 t4 := Tryd.underlying4,
 a4 := Tryd.isAgg4,
 z4 := Tryd.sizeOf4,
 v4 := Tryd.zeroValue4,
 i4 := by kernel_rfl,
 t5 := Tryd.underlying5,
 a5 := Tryd.isAgg5,
 z5 := Tryd.sizeOf5,
 v5 := Tryd.zeroValue5,
 i5 := by kernel_rfl,
 t22 := Tryd.underlying115,
 a22 := Tryd.isAgg115,
 z22 := Tryd.sizeOf115,
 v22 := Tryd.zeroValue115,
 i22 := by kernel_rfl,
 t25 := Tryd.underlying97,
 a25 := Tryd.isAgg97,
 z25 := Tryd.sizeOf97,
 v25 := Tryd.zeroValue97,
 i25 := by kernel_rfl,
 t27 := Tryd.underlying125,
 a27 := Tryd.isAgg125,
 z27 := Tryd.sizeOf125,
 v27 := Tryd.zeroValue125,
 i27 := by kernel_rfl,
 t53 := Tryd.underlying136,
 a53 := Tryd.isAgg136,
 z53 := Tryd.sizeOf136,
 v53 := Tryd.zeroValue136,
 i53 := by kernel_rfl,
 t54 := Tryd.underlying137,
 a54 := Tryd.isAgg137,
 z54 := Tryd.sizeOf137,
 g0 := by kernel_rfl,
 g1 := by kernel_rfl }
def Tryd.LaysC_n245_ren : Go.Shelf.Ren := ⟨fun | 0 => 0 | 1 => 1 | 2 => 2 | 129 => 77 | 166 => 53 | 169 => 37 | 170 => 36 | 171 => 54 | 173 => 55 | 174 => 75 | 205 => 93 | 240 => 62 | 243 => 63 | 245 => 82 | 246 => 64 | 247 => 81 | 276 => 70 | 279 => 86 | 280 => 87 | 281 => 88 | 282 => 89 | 283 => 71 | 284 => 72 | 285 => 73 | 286 => 74 | 287 => 85 | 316 => 92 | 317 => 76 | 318 => 78 | 319 => 79 | 320 => 80 | 321 => 90 | 322 => 91 | 337 => 83 | 338 => 84 | 347 => 94 | 348 => 95 | 349 => 96 | 350 => 97 | 351 => 98 | 352 => 99 | 353 => 100 | 354 => 101 | 355 => 102 | 356 => 103 | 357 => 104 | 358 => 105 | 359 => 106 | 360 => 107 | 361 => 108 | 362 => 109 | 363 => 112 | 364 => 110 | 365 => 111 | 366 => 113 | 367 => 121 | n => n, fun | 0 => 0 | 1 => 1 | 2 => 2 | 3 => 3 | 4 => 4 | 5 => 5 | 6 => 6 | 7 => 7 | 8 => 8 | 9 => 9 | 10 => 10 | 11 => 11 | 12 => 12 | 13 => 13 | 14 => 14 | 15 => 15 | 16 => 16 | 17 => 17 | 18 => 18 | 19 => 19 | 20 => 20 | 21 => 21 | 28 => 22 | 31 => 61 | 34 => 87 | 37 => 39 | 45 => 77 | 46 => 97 | 47 => 127 | 51 => 125 | 52 => 129 | 53 => 115 | 54 => 116 | 69 => 140 | 70 => 69 | 71 => 70 | 72 => 71 | 74 => 88 | 75 => 89 | 76 => 90 | 77 => 91 | 80 => 74 | 81 => 73 | 83 => 92 | 84 => 94 | 85 => 120 | 86 => 121 | 103 => 76 | 104 => 139 | 108 => 143 | 111 => 42 | 114 => 122 | 127 => 93 | 128 => 128 | 143 => 144 | 144 => 145 | 145 => 146 | 164 => 112 | 165 => 113 | 167 => 130 | 168 => 133 | 169 => 134 | 170 => 135 | 171 => 114 | 172 => 117 | 173 => 118 | 174 => 119 | 175 => 131 | 176 => 132 | 209 => 141 | 210 => 142 | 211 => 123 | 212 => 124 | 213 => 126 | 214 => 138 | 222 => 47 | 232 => 136 | 233 => 137 | 238 => 147 | 239 => 148 | 240 => 149 | 241 => 150 | 242 => 151 | 243 => 152 | 244 => 153 | 245 => 154 | 246 => 155 | 247 => 156 | 248 => 157 | 249 => 158 | n => n, fun | 15 => 3 | 16 => 4 | 17 => 0 | 18 => 1 | 19 => 2 | n => n⟩
theorem Tryd.LaysC_n245 : LaysC.n245 Tryd.prog Tryd.LaysC_n245_ren := {
 mixed := by kernel_rfl,
 f129 := Tryd.func77.trans (congrArg some (by kernel_rfl)),
 f171 := Tryd.func54.trans (congrArg some (by kernel_rfl)),
 f205 := Tryd.func93.trans (congrArg some (by kernel_rfl)),
 f243 := Tryd.func63.trans (congrArg some (by kernel_rfl)),
 f245 := Tryd.func82.trans (congrArg some (by kernel_rfl)),
 f246 := Tryd.func64.trans (congrArg some (by kernel_rfl)),
 f279 := Tryd.func86.trans (congrArg some (by kernel_rfl)),
 f280 := Tryd.func87.trans (congrArg some (by kernel_rfl)),
 f281 := Tryd.func88.trans (congrArg some (by kernel_rfl)),
 f282 := Tryd.func89.trans (congrArg some (by kernel_rfl)),
 f283 := Tryd.func71.trans (congrArg some (by kernel_rfl)),
 f284 := Tryd.func72.trans (congrArg some (by kernel_rfl)),
 f285 := Tryd.func73.trans (congrArg some (by kernel_rfl)),
 f286 := Tryd.func74.trans (congrArg some (by kernel_rfl)),
 f316 := Tryd.func92.trans (congrArg some (by kernel_rfl)),
 f317 := Tryd.func76.trans (congrArg some (by kernel_rfl)),
 f318 := Tryd.func78.trans (congrArg some (by kernel_rfl)),
 f319 := Tryd.func79.trans (congrArg some (by kernel_rfl)),
 f320 := Tryd.func80.trans (congrArg some (by kernel_rfl)),
 f337 := Tryd.func83.trans (congrArg some (by kernel_rfl)),
 f338 := Tryd.func84.trans (congrArg some (by kernel_rfl)),
 t0 := Tryd.underlying0,
 a0 := Tryd.isAgg0,
 z0 := Tryd.sizeOf0,
 v0 := Tryd.zeroValue0,
 t2 := Tryd.underlying2,
 a2 := Tryd.isAgg2,
 z2 := Tryd.sizeOf2,
 v2 := Tryd.zeroValue2,
 t3 := Tryd.underlying3,
 a3 := Tryd.isAgg3,
 z3 := Tryd.sizeOf3,
 v3 := Tryd.zeroValue3,
 t4 := Tryd.underlying4,
 a4 := Tryd.isAgg4,
 z4 := Tryd.sizeOf4,
 v4 := Tryd.zeroValue4,
 t5 := Tryd.underlying5,
 a5 := Tryd.isAgg5,
 z5 := Tryd.sizeOf5,
 v5 := Tryd.zeroValue5,
 t9 := Tryd.underlying9,
 a9 := Tryd.isAgg9,
 z9 := Tryd.sizeOf9,
 v9 := Tryd.zeroValue9,
 t20 := Tryd.underlying20,
 a20 := Tryd.isAgg20,
 z20 := Tryd.sizeOf20,
 v20 := Tryd.zeroValue20,
 t37 := Tryd.underlying39,
 a37 := Tryd.isAgg39,
 z37 := Tryd.sizeOf39,
 v37 := Tryd.zeroValue39,
 t46 := Tryd.underlying97,
 a46 := Tryd.isAgg97,
 z46 := Tryd.sizeOf97,
 v46 := Tryd.zeroValue97,
 t51 := Tryd.underlying125,
 a51 := Tryd.isAgg125,
 z51 := Tryd.sizeOf125,
 v51 := Tryd.zeroValue125,
 t53 := Tryd.underlying115,
 a53 := Tryd.isAgg115,
 z53 := Tryd.sizeOf115,
 v53 := Tryd.zeroValue115,
 t75 := Tryd.underlying89,
 a75 := Tryd.isAgg89,
 z75 := Tryd.sizeOf89,
 v75 := Tryd.zeroValue89,
 t127 := Tryd.underlying93,
 a127 := Tryd.isAgg93,
 z127 := Tryd.sizeOf93,
 v127 := Tryd.zeroValue93,
 t143 := Tryd.underlying144,
 a143 := Tryd.isAgg144,
 z143 := Tryd.sizeOf144,
 v143 := Tryd.zeroValue144,
 t145 := Tryd.underlying146,
 a145 := Tryd.isAgg146,
 z145 := Tryd.sizeOf146,
 v145 := Tryd.zeroValue146,
 t167 := Tryd.underlying130,
 a167 := Tryd.isAgg130,
 z167 := Tryd.sizeOf130,
 v167 := Tryd.zeroValue130,
 t168 := Tryd.underlying133,
 a168 := Tryd.isAgg133,
 z168 := Tryd.sizeOf133,
 v168 := Tryd.zeroValue133,
 t171 := Tryd.underlying114,
 a171 := Tryd.isAgg114,
 z171 := Tryd.sizeOf114,
 v171 := Tryd.zeroValue114,
 t173 := Tryd.underlying118,
 a173 := Tryd.isAgg118,
 z173 := Tryd.sizeOf118,
 v173 := Tryd.zeroValue118,
 t210 := Tryd.underlying142,
 a210 := Tryd.isAgg142,
 z210 := Tryd.sizeOf142,
 v210 := Tryd.zeroValue142,
 t212 := Tryd.underlying124,
 a212 := Tryd.isAgg124,
 z212 := Tryd.sizeOf124,
 v212 := Tryd.zeroValue124,
 t213 := Tryd.underlying126,
 a213 := Tryd.isAgg126,
 z213 := Tryd.sizeOf126,
 t232 := Tryd.underlying136,
 a232 := Tryd.isAgg136,
 z232 := Tryd.sizeOf136,
 v232 := Tryd.zeroValue136,
 t233 := Tryd.underlying137,
 a233 := Tryd.isAgg137,
 z233 := Tryd.sizeOf137,
 v233 := Tryd.zeroValue137,
 g15 := by kernel_rfl,
 g16 := by kernel_rfl,
 g17 := by kernel_rfl,
 g18 := by kernel_rfl,
 g19 := by kernel_rfl,
 t80 := Tryd.underlying74,
 a80 := Tryd.isAgg74,
 z80 := Tryd.sizeOf74,
 v80 := Tryd.zeroValue74,
 i0 := by kernel_rfl,
 i2 := by kernel_rfl,
 i3 := by kernel_rfl,
 i4 := by kernel_rfl,
 i5 := by kernel_rfl,
 i9 := by kernel_rfl,
 i20 := by kernel_rfl,
 i37 := by kernel_rfl,
 i46 := by kernel_rfl,
 i51 := by kernel_rfl,
 i53 := by kernel_rfl,
 i75 := by kernel_rfl,
 i80 := by kernel_rfl,
 i127 := by kernel_rfl,
 i143 := by kernel_rfl,
 i145 := by kernel_rfl,
 i167 := by kernel_rfl,
 i168 := by kernel_rfl,
 i171 := by kernel_rfl,
 i173 := by kernel_rfl,
 i210 := by kernel_rfl,
 i212 := by kernel_rfl,
 i232 := by kernel_rfl,
 i233 := by kernel_rfl,
 m15 := by kernel_rfl,
 m16 := by kernel_rfl,
 m17 := by kernel_rfl,
 m18 := by kernel_rfl,
 m19 := by kernel_rfl,
 c0 := by kernel_rfl,
 c2 := by kernel_rfl,
 c3 := by kernel_rfl,
 c4 := by kernel_rfl,
 c5 := by kernel_rfl,
 c9 := by kernel_rfl,
 c20 := by kernel_rfl,
 c37 := by kernel_rfl,
 c46 := by kernel_rfl,
 c51 := by kernel_rfl,
 c53 := by kernel_rfl,
 c75 := by kernel_rfl,
 c80 := by kernel_rfl,
 c127 := by kernel_rfl,
 c143 := by kernel_rfl,
 c145 := by kernel_rfl,
 c167 := by kernel_rfl,
 c168 := by kernel_rfl,
 c171 := by kernel_rfl,
 c173 := by kernel_rfl,
 c210 := by kernel_rfl,
 c212 := by kernel_rfl,
 c213 := by kernel_rfl,
 c232 := by kernel_rfl,
 c233 := by kernel_rfl }
end Go.Proofs
namespace Go.Proofs.YtlggihnkhimfkaaDoor.Hx
open Go.RowKit Go.Lib
def hexDig (d : Nat) : Nat := if d < 10 then 48 + d else 87 + d
def hexArr (n j : Nat) : Array Value := ((List.range 65).map fun i => Value.int .u8 (if 65 ≤ i + j then (hexDig (n / 16 ^ (64 - i) % 16) : Int) else 0)).toArray
theorem hexArr_zero (n : Nat) : hexArr n 0 = ((List.range 65).map fun _ => Value.int .u8 0).toArray := by
  unfold hexArr
  refine congrArg List.toArray (List.map_congr_left fun i hi => ?_)
  rw [List.mem_range] at hi
  rw [if_neg (by omega)]
theorem hexArr_size (n j : Nat) : (hexArr n j).size = 65 := by simp [hexArr]
theorem hexArr_set (n j : Nat) (hj : j < 65) : (hexArr n j).setIfInBounds (64 - j) (.int .u8 (hexDig (n / 16 ^ j % 16) : Int)) = hexArr n (j + 1) := by
  apply Array.ext_getElem?
  intro i
  rw [Array.getElem?_setIfInBounds]
  by_cases h : 64 - j = i
  · subst h
    rw [if_pos rfl, if_pos (by rw [hexArr_size]; omega)]
    simp only [hexArr, List.getElem?_toArray, List.getElem?_map]
    rw [List.getElem?_range (by omega)]
    simp only [Option.map_some]
    rw [if_pos (by omega), show 64 - (64 - j) = j by omega]
  · rw [if_neg h]
    simp only [hexArr, List.getElem?_toArray, List.getElem?_map]
    by_cases h2 : i < 65
    · rw [List.getElem?_range h2]
      simp only [Option.map_some]
      congr 2
      by_cases h3 : 65 ≤ i + j
      · rw [if_pos h3, if_pos (by omega)]
      · rw [if_neg h3, if_neg (by omega)]
    · rw [List.getElem?_eq_none (by simpa using h2)]; rfl
set_option maxRecDepth 100000 in
theorem zero65 (n : Nat) (W : World) : (zeroValue 126).run Tryd.prog W = .ok (.agg (hexArr n 0)) W := by
  rw [hexArr_zero]; rfl
theorem pow2_16 (w : World) : Calls Tryd.prog 79 #[.int .i64 16] w fun e w' => e = .returned (.bool true) ∧ w' = w := by
  have hb : bits .and .i64 16 15 = 0 := by decide +kernel
  go_enter Tryd.func79, Tryd.ntmps79
  go_wp2
  go_ret
  exact ⟨rfl, rfl⟩
theorem tz_16 (w : World) (hT : TabAt 2 Lib.deBruijn64tab w) : Calls Tryd.prog 80 #[.int .u64 16] w fun e w' => e = .returned (.int .i64 4) ∧ w' = w := by
  have c : Calls Tryd.prog 80 #[.int .u64 16] w _ := Any7.bits_TrailingZeros Tryd.Lays7_n27 16 (by decide) w (fun _ => hT)
  have e : (Lib.ctz 64 16 : Int) = 4 := by decide +kernel
  rw [e] at c
  exact c
theorem TabAt_below {g : Nat} {tab : List Nat} {w w' : World} (h : TabAt g tab w) (hb : Below w.heap.size w w') : TabAt g tab w' := fun j hj =>
  (hb.cell (World.block_lt_of_cell? w _ (h j hj))).trans (h j hj)
theorem and15 (q : Nat) (h : q < 33554432) : bits .and .u64 (q : Int) 15 = ((q % 16 : Nat) : Int) := by
  have := bits_and_u64_nat q 15 (by omega) (by omega)
  rw [show q &&& 15 = q % 16 from Nat.and_two_pow_sub_one_eq_mod q 4] at this
  exact this
theorem dig16 (d : Nat) (h : d < 16) : ∀ hx : d < (⟨#[48, 49, 50, 51, 52, 53, 54, 55, 56, 57, 97, 98, 99, 100, 101, 102, 103, 104, 105, 106, 107, 108, 109, 110, 111, 112, 113, 114, 115, 116, 117, 118, 119, 120, 121, 122]⟩ : ByteArray).size, (((⟨#[48, 49, 50, 51, 52, 53, 54, 55, 56, 57, 97, 98, 99, 100, 101, 102, 103, 104, 105, 106, 107, 108, 109, 110, 111, 112, 113, 114, 115, 116, 117, 118, 119, 120, 121, 122]⟩ : ByteArray)[d]'hx).toNat) = hexDig d := by
  intro hx
  rcases (by omega : d = 0 ∨ d = 1 ∨ d = 2 ∨ d = 3 ∨ d = 4 ∨ d = 5 ∨ d = 6 ∨ d = 7 ∨ d = 8 ∨ d = 9 ∨ d = 10 ∨ d = 11 ∨ d = 12 ∨ d = 13 ∨ d = 14 ∨ d = 15) with rfl | rfl | rfl | rfl | rfl | rfl | rfl | rfl | rfl | rfl | rfl | rfl | rfl | rfl | rfl | rfl <;> rfl
def hexL (n k : Nat) : List UInt8 := (List.range k).map fun i => UInt8.ofNat (hexDig (n / 16 ^ (k - 1 - i) % 16))
theorem hexDig_lt (d : Nat) : hexDig (d % 16) < 256 := by unfold hexDig; split <;> omega
theorem hex_conv {n : Nat} {w : World} {b : Nat} (h : Blk w b (hexArr n 7) 126) : (convert 39 9 (.slice (some ⟨b, 58, none⟩) 7 7)).run Tryd.prog w = .ok (.string ⟨(hexL n 7).toArray⟩) w := by
  have := run_convert_bytes_back (P := Tryd.prog) w 39 9 5 ⟨b, 58, none⟩ 7 (hexL n 7) Tryd.underlying39 Tryd.underlying5 Tryd.underlying9 (fun i hi => by
    have hi' : i < 7 := by simpa [hexL] using hi
    rw [Addr.add_lit, h.cell]
    simp only [hexArr, List.getElem?_toArray, List.getElem?_map]
    rw [List.getElem?_range (by omega)]
    simp only [Option.map_some, hexL, List.getElem_map, List.getElem_range]
    rw [if_pos (by omega), show 64 - (58 + i) = 7 - 1 - i by omega]
    have := hexDig_lt (n / 16 ^ (7 - 1 - i))
    rw [UInt8.toNat_ofNat', Nat.mod_eq_of_lt (by omega : _ < 2 ^ 8)])
  rwa [show (hexL n 7).length = 7 by simp [hexL]] at this
set_option maxHeartbeats 400000 in
theorem formatBits_16 (n : Nat) (h0 : 16777216 ≤ n) (h1 : n < 33554432) (w : World) (hT : TabAt 2 Lib.deBruijn64tab w) :
  Calls Tryd.prog 74 #[.slice none 0 0, .int .u64 n, .int .i64 16, .bool false, .bool false] w fun e w' => e = .returned (.tuple #[.slice none 0 0, .string ⟨(hexL n 7).toArray⟩]) ∧ Below w.heap.size w w' := by
 have hz := zero65 n
 go_enter Tryd.func74, Tryd.ntmps74
 go_wp2_with fail
 refine (pow2_16 _).mono ?_
 rintro e w1 ⟨rfl, rfl⟩
 go_wp2_with fail
 refine (tz_16 _ (TabAt_below hT ((Below.refl _ _).alloc (Nat.le_refl _) _))).mono ?_
 rintro e w1 ⟨rfl, rfl⟩
 go_wp2_with fail
 go_loopw [1, 13] (fun u i wr => ∃ (j : Nat), j ≤ 6 ∧ u = .int .u64 ((n / 16 ^ j : Nat) : Int) ∧ i = .int .i64 (65 - (j : Int)) ∧ Blk wr w.heap.size (hexArr n j) 126 ∧ Below w.heap.size w wr) (fun _ i _ => (RowKit.intOf i).toNat)
 case atStart => exact ⟨0, by omega, by simp, rfl, Blk.new _ _ _, (Below.refl _ _).alloc (Nat.le_refl _) _⟩
 case round =>
  obtain ⟨j, hj, rfl, rfl, hblk, hbel⟩ := hrel
  have Hblk := veil hblk
  have Hbel := veil hbel
  have hcell : wr.cell? ⟨w.heap.size, 65 - j - 1, none⟩ = some (.int .u8 0) := by
   rw [hblk.cell]; simp only [hexArr, List.getElem?_toArray, List.getElem?_map]
   rw [List.getElem?_range (by omega)]
   simp only [Option.map_some]
   rw [if_neg (by omega)]
  have hfree : wr.frozen? ⟨w.heap.size, 65 - j - 1, none⟩ = false := hblk.free _
  clear hblk hbel
  by_cases hlt : j < 6
  ·
   obtain ⟨q, hq, hq1, hq2⟩ : ∃ q, n / 16 ^ j = q ∧ 16 ≤ q ∧ q < 33554432 := ⟨_, rfl, by
    rcases (by omega : j = 0 ∨ j = 1 ∨ j = 2 ∨ j = 3 ∨ j = 4 ∨ j = 5) with rfl | rfl | rfl | rfl | rfl | rfl <;> omega, by
    rcases (by omega : j = 0 ∨ j = 1 ∨ j = 2 ∨ j = 3 ∨ j = 4 ∨ j = 5) with rfl | rfl | rfl | rfl | rfl | rfl <;> omega⟩
   have Hq := veil hq
   rw [hq]
   clear hq
   have hand : bits .and .u64 (q : Int) 15 = ((q % 16 : Nat) : Int) := and15 q (by omega)
   have hm : q % 16 < 36 := by omega
   go_wp2
   have hset : (wr.setCell ⟨w.heap.size, 65 - j - 1, none⟩ (.int .u8 (hexDig (q % 16) : Int))) = (wr.setCell ⟨w.heap.size, 64 - j, none⟩ (.int .u8 (hexDig (n / 16 ^ j % 16) : Int))) := by rw [Hq.out, show 65 - j - 1 = 64 - j by omega]
   have hB := (Hbel.out.setCell (p := ⟨w.heap.size, 64 - j, none⟩) (Nat.le_refl _) (.int .u8 (hexDig (n / 16 ^ j % 16) : Int)))
   have hK := (Hblk.out.set (64 - j) (.int .u8 (hexDig (n / 16 ^ j % 16) : Int)))
   rw [hexArr_set n j (by omega)] at hK
   refine ⟨⟨j + 1, by omega, val_int ?_, val_int (by omega), ?_, ?_⟩, by simp [RowKit.intOf]; omega⟩
   ·
    rw [Nat.pow_succ, ← Nat.div_div_eq_div_mul, Hq.out]; rfl
   ·
    rw [dig16 _ (by omega), hset]; exact hK
   ·
    rw [dig16 _ (by omega), hset]; exact hB
  ·
   obtain rfl : j = 6 := by omega
   have hq : n / 16 ^ 6 = 1 := by omega
   have hset : (wr.setCell ⟨w.heap.size, 58, none⟩ (.int .u8 ((((⟨#[48, 49, 50, 51, 52, 53, 54, 55, 56, 57, 97, 98, 99, 100, 101, 102, 103, 104, 105, 106, 107, 108, 109, 110, 111, 112, 113, 114, 115, 116, 117, 118, 119, 120, 121, 122]⟩ : ByteArray)[1]'(by decide)).toNat : Nat) : Int))) = (wr.setCell ⟨w.heap.size, 58, none⟩ (.int .u8 (hexDig (n / 16 ^ 6 % 16) : Int))) := by rw [hq]; rfl
   have hB := (Hbel.out.setCell (p := ⟨w.heap.size, 58, none⟩) (Nat.le_refl _) (.int .u8 (hexDig (n / 16 ^ 6 % 16) : Int)))
   have hK := (Hblk.out.set 58 (.int .u8 (hexDig (n / 16 ^ 6 % 16) : Int)))
   rw [hexArr_set n 6 (by omega), ← hset] at hK
   rw [← hset] at hB
   have hcv := hex_conv hK
   rw [hq]
   have HK := veil hK
   have HB := veil hB
   clear hK hB hset hq hlt
   go_wp2
   go_ret2
   exact ⟨rfl, HB.out⟩
theorem formatInt_16 (n : Nat) (h0 : 16777216 ≤ n) (h1 : n < 33554432) (w : World) (hT : TabAt 2 Lib.deBruijn64tab w) :
    Calls Tryd.prog 64 #[.int .i64 n, .int .i64 16] w fun e w' => e = .returned (.string ⟨(hexL n 7).toArray⟩) ∧ Below w.heap.size w w' := by
  go_enter Tryd.func64, Tryd.ntmps64
  go_wp2_with fail
  refine (formatBits_16 n h0 h1 _ hT).mono ?_
  rintro e w1 ⟨rfl, hb⟩
  go_wp2
  go_ret
  exact ⟨rfl, hb⟩
theorem sFormatInt_16 (n : Nat) (h0 : 16777216 ≤ n) (h1 : n < 33554432) (w : World) (hT : TabAt 2 Lib.deBruijn64tab w) :
    Calls Tryd.prog 55 #[.int .i64 n, .int .i64 16] w fun e w' => e = .returned (.string ⟨(hexL n 7).toArray⟩) ∧ Below w.heap.size w w' := by
  go_enter Tryd.func55, Tryd.ntmps55
  go_wp2_with fail
  refine (formatInt_16 n h0 h1 _ hT).mono ?_
  rintro e w1 ⟨rfl, hb⟩
  go_wp2
  go_ret
  exact ⟨rfl, hb⟩
def hexF (n : Int) : ByteArray × Int := if 0 ≤ n ∧ n < 16777216 then (⟨(hexL n.toNat 6).toArray⟩, 0) else (⟨#[]⟩, 1)
theorem hexL_drop (n : Nat) (_h : n < 16777216) : ((⟨(hexL (n + 16777216) 7).toArray⟩ : ByteArray).extract 1 7) = ⟨(hexL n 6).toArray⟩ := by
  have e : (hexL (n + 16777216) 7).drop 1 = hexL n 6 := by
    apply List.ext_getElem?
    intro i
    rw [List.getElem?_drop]
    by_cases hi : i < 6
    · simp only [hexL, List.getElem?_map]
      rw [List.getElem?_range (by omega), List.getElem?_range (by omega)]
      simp only [Option.map_some]
      congr 3
      rcases (by omega : i = 0 ∨ i = 1 ∨ i = 2 ∨ i = 3 ∨ i = 4 ∨ i = 5) with rfl | rfl | rfl | rfl | rfl | rfl <;> omega
    · rw [List.getElem?_eq_none (by simp [hexL]; omega), List.getElem?_eq_none (by simp [hexL]; omega)]
  have hl : (hexL (n + 16777216) 7).length = 7 := by simp [hexL]
  generalize hexL (n + 16777216) 7 = l at *
  rw [← e]
  match l, hl with
  | [a, b, c, d, e, f, g], _ => rfl
set_option maxRecDepth 100000 in
theorem hex_calls (n : Int) (w : World) (hn0 : -9223372036854775808 ≤ n) (hn1 : n ≤ 9223372036854775807) (hT : TabAt 2 Lib.deBruijn64tab w) :
  Calls Tryd.prog 38 #[.int .i64 n] w fun e w' => e = .returned (.tuple #[.string (hexF n).1, .int .i64 (hexF n).2]) ∧ Below w.heap.size w w' := by
 by_cases c : 0 ≤ n ∧ n < 16777216
 ·
  obtain ⟨m, rfl⟩ : ∃ m : Nat, n = m := ⟨n.toNat, by omega⟩
  obtain ⟨c0, c1⟩ := c
  have hf : hexF m = (⟨(hexL m 6).toArray⟩, 0) := by unfold hexF; rw [if_pos ⟨c0, c1⟩]; rfl
  rw [hf]
  clear hf
  have hd := hexL_drop m (by omega)
  have hl : (⟨(hexL (m + 16777216) 7).toArray⟩ : ByteArray).size = 7 := by simp [hexL, ByteArray.size]
  have hF : ∀ (z : Int) W, z = (m : Int) + 16777216 → TabAt 2 Lib.deBruijn64tab W → Calls Tryd.prog 55 #[.int .i64 z, .int .i64 16] W fun e w' => e = .returned (.string ⟨(hexL (m + 16777216) 7).toArray⟩) ∧ Below W.heap.size W w' := by
   intro z W hz hW
   obtain rfl : z = ((m + 16777216 : Nat) : Int) := by omega
   exact sFormatInt_16 (m + 16777216) (by omega) (by omega) W hW
  generalize (⟨(hexL (m + 16777216) 7).toArray⟩ : ByteArray) = s at *
  have HF := veil hF
  have HD := veil hd
  have HS := veil hl
  have hm : (m : Int) ≤ 16777215 := by omega
  clear hF hd hl c1
  go_enter Tryd.func38, Tryd.ntmps38
  go_wp2_with fail
  refine (HF.out _ _ (by omega) hT).mono ?_
  rintro e w1 ⟨rfl, hb⟩
  have hl := HS.out
  go_wp2
  go_ret2
  refine ⟨?_, hb⟩
  rw [← HD.out]
  rfl
 ·
  have hf : hexF n = (⟨#[]⟩, 1) := by unfold hexF; rw [if_neg c]
  rw [hf]
  clear hf
  rcases (by omega : n < 0 ∨ (0 ≤ n ∧ 16777215 < n)) with h | ⟨h, h'⟩
  ·
   clear c
   go_enter Tryd.func38, Tryd.ntmps38
   go_wp2
   go_ret2
   exact ⟨rfl, Below.refl _ _⟩
  ·
   clear c
   go_enter Tryd.func38, Tryd.ntmps38
   go_wp2
   go_ret2
   exact ⟨rfl, Below.refl _ _⟩
def hexFold : Nat → List UInt8 → Option Nat
  | a, [] => some a
  | a, c :: r => if 48 ≤ c.toNat ∧ c.toNat ≤ 57 then hexFold (a * 16 + (c.toNat - 48)) r else if 97 ≤ c.toNat ∧ c.toNat ≤ 102 then hexFold (a * 16 + (c.toNat - 87)) r else none
theorem hexFold_le : ∀ (l : List UInt8) (a N : Nat), hexFold a l = some N → a ≤ N
  | [], a, N, h => by simp [hexFold] at h; omega
  | c :: r, a, N, h => by
    simp only [hexFold] at h
    split at h
    · have := hexFold_le r _ _ h; omega
    · split at h
      · have := hexFold_le r _ _ h; omega
      · cases h
def Reads (s : List UInt8) (v : Int) (e : Value) : Prop :=
  (e = .nilIface ∨ e = .iface 130 (.int .i64 1) ∨ e = .iface 130 (.int .i64 2)) ∧ (s = [] → e ≠ .nilIface) ∧ ∀ N, s ≠ [] → hexFold 0 s = some N → N < 16777216 → v = N ∧ e = .nilIface
theorem lower_calls (c : Int) (w : World) : Calls Tryd.prog 90 #[.int .u8 c] w fun e w' => e = .returned (.int .u8 (bits .or .u8 c 32)) ∧ w' = w := by
  have hv0 := bits_lo_u8 .or c 32
  have hv1 := bits_hi_u8 .or c 32
  go_enter Tryd.func90, Tryd.ntmps90
  go_wp2
  go_ret
  exact ⟨rfl, rfl⟩
theorem lower_same (c : UInt8) : 97 ≤ c.toNat ∧ c.toNat ≤ 102 → bits .or .u8 (c.toNat : Int) 32 = (c.toNat : Int) := by
  have h : ∀ n : Fin 256, 97 ≤ n.val ∧ n.val ≤ 102 → bits .or .u8 (n.val : Int) 32 = (n.val : Int) := by decide +kernel
  exact h ⟨c.toNat, c.toNat_lt⟩
theorem below_bytes (w : World) (T : TypeId) (s : ByteArray) : Below w.heap.size w (Lib.bytesWorld w T s) := by
  unfold Lib.bytesWorld World.freeze
  rw [if_neg (by decide)]
  have h1 : Below w.heap.size w (w.drew.alloc (.cells (bytesCells w T s) T)) := ((Below.refl _ _).drew).alloc (Nat.le_refl _) _
  refine ⟨h1.os, h1.tape, h1.output, ?_, fun b hb => ?_⟩
  · show w.heap.size ≤ (Array.modify _ _ _).size
    rw [Array.size_modify]; exact h1.size
  · show (Array.modify _ _ _)[b]? = _
    rw [Array.getElem?_modify, if_neg (Nat.ne_of_gt hb)]
    exact h1.block b hb
set_option maxHeartbeats 32000000 in
set_option maxRecDepth 100000 in
theorem parseUint_16 (t : ByteArray) (hmax : t.size ≤ 140737488351232) (w : World) :
  Calls Tryd.prog 85 #[.string t, .int .i64 16, .int .i64 32] w fun e w' => ∃ (v : Int) (x : Value), e = .returned (.tuple #[.int .u64 v, x]) ∧ 0 ≤ v ∧ v ≤ 4294967295 ∧ Reads t.data.toList v x ∧ Below w.heap.size w w' := by
 by_cases hne : t.size = 0
 ·
  have ht : t = ⟨#[]⟩ := by
   cases t; rename_i d; simp [ByteArray.size] at hne; rw [hne]
  subst ht
  go_enter Tryd.func85, Tryd.ntmps85
  go_wp2
  go_ret2
  refine ⟨0, .iface 130 (.int .i64 2), rfl, by omega, by omega, ⟨.inr (.inr rfl), fun _ => by simp, fun N c => absurd rfl c⟩, Below.refl _ _⟩
 ·
  have hemp : t.toList.isEmpty = false := by
   rw [← decide_eq_emptyBytes]
   exact decide_eq_false (fun h => hne (by rw [h]; rfl))
  have hcv := Lib.run_convert_string_bytes (P := Tryd.prog) w 9 39 5 t (u := .string) Tryd.underlying9 Tryd.underlying39 Tryd.underlying5
  have hB : ∀ j, j < t.size → (Lib.bytesWorld w 5 t).cell? ⟨w.heap.size, j, none⟩ = some (.int .u8 (t.data.toList.getD j 0).toNat) := fun j hj => Lib.bytesWorld_cell w 5 t j hj
  have hW := veil (below_bytes w 5 t)
  obtain ⟨W1, hW1⟩ : ∃ W1, W1 = Lib.bytesWorld w 5 t := ⟨_, rfl⟩
  rw [← hW1] at hcv hB hW
  clear hW1
  obtain ⟨bs, hL⟩ : ∃ bs, bs = t.data.toList := ⟨_, rfl⟩
  have hLn : bs.length = t.size := by rw [hL, Lib.size_eq]
  rw [← hL] at hB ⊢
  clear hL
  have HNE := veil (show bs ≠ [] by intro c; rw [c] at hLn; simp at hLn; omega)
  have hmv : IntKind.u64.wrap (IntKind.u64.wrap 4294967296 - 1) = 4294967295 := by
   rw [IntKind.wrap_u64, IntKind.wrap_u64]
   decide
  go_enter Tryd.func85, Tryd.ntmps85
  go_wp2
  go_loop [12, 13, 101] (fun vu vn vi => ∃ (k acc : Nat) (a : Int), vu = .bool false ∧ vn = .int .u64 a ∧ vi = .int .i64 k ∧ k ≤ t.size ∧ Hid (a = (acc : Int) ∧ acc ≤ 4294967295 ∧ ∀ N, hexFold 0 bs = some N → N < 16777216 → hexFold acc (bs.drop k) = some N))
   (fun _ _ vi => t.size - (Lib.intOf vi).toNat)
  case atStart => exact ⟨0, 0, 0, rfl, rfl, rfl, by omega, rfl, by omega, fun N h _ => h⟩
  case round =>
   obtain ⟨k, acc, a, rfl, rfl, rfl, hk, hh⟩ := hrel
   obtain ⟨ha, hacc, hdec⟩ := hh.out
   clear hh
   have a0 : 0 ≤ a := by omega
   have a1 : a ≤ 4294967295 := by omega
   by_cases hkn : k < t.size
   ·
    have hc := hB k hkn
    have hdrop : bs.drop k = bs[k]'(by omega) :: bs.drop (k + 1) := List.drop_eq_getElem_cons (by omega)
    have hget : bs.getD k 0 = bs[k]'(by omega) := by simp [List.getD, List.getElem?_eq_getElem (show k < bs.length by omega)]
    rw [hdrop] at hdec
    rw [hget] at hc
    generalize bs[k]'(by omega) = c at hc hdec
    have hc256 : c.toNat < 256 := c.toNat_lt
    have hls := lower_same c
    clear hB hdrop hget
    by_cases hdig : 48 ≤ c.toNat ∧ c.toNat ≤ 57
    ·
     obtain ⟨hd0, hd1⟩ := hdig
     have hcut : ¬ 1152921504606846976 ≤ acc := by omega
     have hF : hexFold acc (c :: bs.drop (k + 1)) = hexFold (acc * 16 + (c.toNat - 48)) (bs.drop (k + 1)) := by simp [hexFold, hd0, hd1]
     rw [hF] at hdec
     by_cases hov : 4294967295 < acc * 16 + (c.toNat - 48)
     ·
      have HR := Lib.hid (show Reads bs 4294967295 (.iface 130 (.int .i64 1)) from ⟨.inr (.inl rfl), fun _ => by simp, fun N _ h1 h2 => by have := hexFold_le _ _ _ (hdec N h1 h2); omega⟩)
      have iov : 4294967295 < a * 16 + ((c.toNat : Int) - 48) := by omega
      clear hcut hacc hF hov ha hdec hls
      go_wp2
      go_ret2
      exact ⟨_, _, rfl, by omega, by omega, HR.out, hW.out⟩
     ·
      have HN : Hid (a * 16 + ((c.toNat : Int) - 48) = ((acc * 16 + (c.toNat - 48) : Nat) : Int) ∧ acc * 16 + (c.toNat - 48) ≤ 4294967295 ∧ ∀ N, hexFold 0 bs = some N → N < 16777216 → hexFold (acc * 16 + (c.toNat - 48)) (bs.drop (k + 1)) = some N) := Lib.hid ⟨by omega, by omega, hdec⟩
      have iov : a * 16 + ((c.toNat : Int) - 48) ≤ 4294967295 := by omega
      clear hcut hacc hF hov hdec ha hls
      go_wp2
      refine ⟨⟨k + 1, acc * 16 + (c.toNat - 48), a * 16 + ((c.toNat : Int) - 48), rfl, (by first | rfl | (congr 1; omega)), (by first | rfl | (congr 1; omega)), by omega, HN⟩, by simp [Lib.intOf]; omega⟩
    ·
     have HB2 := Lib.hid (show (97 ≤ c.toNat ∧ c.toNat ≤ 102) ∨ ∀ N, hexFold 0 bs = some N → N < 16777216 → False from by
      by_cases h : 97 ≤ c.toNat ∧ c.toNat ≤ 102
      ·
       exact .inl h
      ·
       refine .inr fun N h1 h2 => ?_
       have := hdec N h1 h2
       simp only [hexFold] at this
       rw [if_neg hdig, if_neg h] at this
       cases this)
     have HS := Lib.hid hls
     clear hls
     have h95 : bits .or .u8 95 32 = 127 := by decide +kernel
     by_cases hus : c.toNat = 95
     ·
      have HR := Lib.hid (show Reads bs 0 (.iface 130 (.int .i64 2)) from ⟨.inr (.inr rfl), fun _ => by simp, fun N _ h1 h2 => by
       rcases HB2.out with h | h
       ·
        omega
       ·
        exact absurd (h N h1 h2) id⟩)
      rw [hus] at hc
      clear hacc ha hdec HB2 HS hdig hus
      go_wp2_with (first | (refine (lower_calls _ _).mono ?_; rintro e w' ⟨rfl, rfl⟩))
      go_ret2
      exact ⟨_, _, rfl, by omega, by omega, HR.out, hW.out⟩
     ·
      have hus' : ((c.toNat : Int) == 95) = false := by rw [beq_eq_false_iff_ne]; omega
      have hdg : ¬ (48 ≤ (c.toNat : Int) ∧ (c.toNat : Int) ≤ 57) := by omega
      have hc0 : (0 : Int) ≤ (c.toNat : Int) := by omega
      have hc1 : (c.toNat : Int) ≤ 255 := by omega
      have hv0 := bits_lo_u8 .or (c.toNat : Int) 32
      have hv1 := bits_hi_u8 .or (c.toNat : Int) 32
      have hlow := fun W => lower_calls (c.toNat : Int) W
      have hsame : (∃ N, hexFold 0 bs = some N ∧ N < 16777216) → bits .or .u8 (c.toNat : Int) 32 = (c.toNat : Int) ∧ 97 ≤ c.toNat ∧ c.toNat ≤ 102 := by
       rintro ⟨N, h1, h2⟩
       rcases HB2.out with h | h
       ·
        exact ⟨HS.out h, h⟩
       ·
        exact absurd (h N h1 h2) id
      have hstep : (∃ N, hexFold 0 bs = some N ∧ N < 16777216) → hexFold acc (c :: bs.drop (k + 1)) = hexFold (acc * 16 + (c.toNat - 87)) (bs.drop (k + 1)) := fun h => by
       simp only [hexFold]; rw [if_neg hdig, if_pos (hsame h).2]
      clear hdig hus HB2 HS
      generalize hv : bits .or .u8 (c.toNat : Int) 32 = v at *
      clear hv h95
      generalize hci : (c.toNat : Int) = ci at *
      by_cases hlet : 97 ≤ v ∧ v ≤ 102
      ·
       obtain ⟨d, hd⟩ : ∃ d : Nat, v = (d : Int) + 87 := ⟨(v - 87).toNat, by omega⟩
       have hF : ∀ N, hexFold 0 bs = some N → N < 16777216 → hexFold (acc * 16 + d) (bs.drop (k + 1)) = some N := fun N h1 h2 => by
        have h3 := hdec N h1 h2
        have h4 := hsame ⟨N, h1, h2⟩
        rw [hstep ⟨N, h1, h2⟩, show c.toNat - 87 = d by omega] at h3
        exact h3
       obtain ⟨v0, v1⟩ := hlet
       by_cases hov : 4294967295 < acc * 16 + d
       ·
        have HR := Lib.hid (show Reads bs 4294967295 (.iface 130 (.int .i64 1)) from ⟨.inr (.inl rfl), fun _ => by simp, fun N _ h1 h2 => by have := hexFold_le _ _ _ (hF N h1 h2); omega⟩)
        have iov : 4294967295 < a * 16 + (v - 97 + 10) := by omega
        clear hacc ha hdec hF hov hsame hstep hci hd
        go_wp2_with (first | (refine (hlow _).mono ?_; rintro e w' ⟨rfl, rfl⟩))
        all_goals go_ret2
        all_goals exact ⟨_, _, rfl, by omega, by omega, HR.out, hW.out⟩
       ·
        have HN : Hid (a * 16 + (v - 97 + 10) = ((acc * 16 + d : Nat) : Int) ∧ acc * 16 + d ≤ 4294967295 ∧ ∀ N, hexFold 0 bs = some N → N < 16777216 → hexFold (acc * 16 + d) (bs.drop (k + 1)) = some N) := Lib.hid ⟨by omega, by omega, hF⟩
        have iov : a * 16 + (v - 97 + 10) ≤ 4294967295 := by omega
        clear hacc ha hdec hF hov hsame hstep hci hd
        go_wp2_with (first | (refine (hlow _).mono ?_; rintro e w' ⟨rfl, rfl⟩))
        all_goals exact ⟨⟨k + 1, acc * 16 + d, a * 16 + (v - 97 + 10), rfl, (by first | rfl | (congr 1; omega)), (by first | rfl | (congr 1; omega)), by omega, HN⟩, by simp [Lib.intOf]; omega⟩
      ·
       have HR := Lib.hid (show Reads bs 0 (.iface 130 (.int .i64 2)) from ⟨.inr (.inr rfl), fun _ => by simp, fun N _ h1 h2 => by
        have := hsame ⟨N, h1, h2⟩; omega⟩)
       clear hacc ha hdec hsame hstep hci
       rcases (by omega : v < 97 ∨ (102 < v ∧ v ≤ 122) ∨ 122 < v) with h | ⟨h, h'⟩ | h
       ·
        clear hlet
        go_wp2_with (first | (refine (hlow _).mono ?_; rintro e w' ⟨rfl, rfl⟩))
        all_goals go_ret2
        all_goals exact ⟨_, _, rfl, by omega, by omega, HR.out, hW.out⟩
       ·
        clear hlet
        go_wp2_with (first | (refine (hlow _).mono ?_; rintro e w' ⟨rfl, rfl⟩))
        all_goals go_ret2
        all_goals exact ⟨_, _, rfl, by omega, by omega, HR.out, hW.out⟩
       ·
        clear hlet
        go_wp2_with (first | (refine (hlow _).mono ?_; rintro e w' ⟨rfl, rfl⟩))
        all_goals go_ret2
        all_goals exact ⟨_, _, rfl, by omega, by omega, HR.out, hW.out⟩
   ·
    have hkk : k = t.size := by omega
    subst hkk
    have HR := Lib.hid (show Reads bs a .nilIface from ⟨.inl rfl, fun h => absurd h HNE.out, fun N _ h1 h2 => by
     have h3 := hdec N h1 h2
     rw [List.drop_eq_nil_of_le (by omega)] at h3
     simp only [hexFold, Option.some.injEq] at h3
     exact ⟨by omega, rfl⟩⟩)
    clear hacc ha hdec
    go_wp2
    go_ret2
    exact ⟨_, _, rfl, a0, a1, HR.out, hW.out⟩
def Bad (s : List UInt8) : Prop := ∀ N, s ≠ [] → hexFold 0 s = some N → N < 16777216 → False
theorem Bad.reads {s : List UInt8} (h : Bad s) (hs : s ≠ []) (v : Int) {e : Value} (he : e = .nilIface ∨ e = .iface 130 (.int .i64 1) ∨ e = .iface 130 (.int .i64 2)) : Reads s v e :=
  ⟨he, fun c => absurd c hs, fun N a b c => absurd (h N a b c) id⟩
theorem Reads.bad1 {s : List UInt8} {v : Int} (h : Reads s v (.iface 130 (.int .i64 1))) : Bad s := fun N a b c => by have := (h.2.2 N a b c).2; cases this
theorem Reads.bad2 {s : List UInt8} {v : Int} (h : Reads s v (.iface 130 (.int .i64 2))) : Bad s := fun N a b c => by have := (h.2.2 N a b c).2; cases this
theorem bad_sign {s : List UInt8} {c : UInt8} {r : List UInt8} (h : s = c :: r) (hc : c.toNat = 43 ∨ c.toNat = 45) : Bad s := fun N _ b _ => by
  rw [h] at b
  simp only [hexFold] at b
  rw [if_neg (by omega), if_neg (by omega)] at b
  cases b
set_option maxHeartbeats 32000000 in
set_option maxRecDepth 100000 in
theorem parseInt_16 (t : ByteArray) (hmax : t.size ≤ 140737488351232) (w : World) :
  Calls Tryd.prog 81 #[.string t, .int .i64 16, .int .i64 32] w fun e w' => ∃ (v : Int) (x : Value), e = .returned (.tuple #[.int .i64 v, x]) ∧ -4294967296 ≤ v ∧ v ≤ 4294967296 ∧ Reads t.data.toList v x ∧ Below w.heap.size w w' := by
 by_cases hne : t.size = 0
 ·
  have ht : t = ⟨#[]⟩ := by
   cases t; rename_i d; simp [ByteArray.size] at hne; rw [hne]
  subst ht
  go_enter Tryd.func81, Tryd.ntmps81
  go_wp2
  go_ret2
  refine ⟨0, .iface 130 (.int .i64 2), rfl, by omega, by omega, ⟨.inr (.inr rfl), fun _ => by simp, fun N c => absurd rfl c⟩, Below.refl _ _⟩
 ·
  have hemp : t.toList.isEmpty = false := by
   rw [← decide_eq_emptyBytes]
   exact decide_eq_false (fun h => hne (by rw [h]; rfl))
  have hpos : 0 < t.size := by omega
  obtain ⟨c0, r, hL⟩ : ∃ c0 r, t.data.toList = c0 :: r := by
   cases h : t.data.toList with
   | nil => exact absurd (by rw [Lib.size_eq, h]; rfl) hne
   | cons c0 r => exact ⟨c0, r, rfl⟩
  have hs0 : t[0]'hpos = c0 := by have := Lib.getD_at t 0 hpos; rw [hL] at this; exact this
  have hq2 : ∀ W, (binOp .neq 89 (.iface 130 (.int .i64 2)) (.iface 130 (.int .i64 1))).run Tryd.prog W = .ok (.bool true) W := fun W => Lib.run_neq_iface_int W 2 1 Tryd.underlying89 (by kernel_rfl) Tryd.underlying130
  have hq1 : ∀ W, (binOp .neq 89 (.iface 130 (.int .i64 1)) (.iface 130 (.int .i64 1))).run Tryd.prog W = .ok (.bool false) W := fun W => Lib.run_neq_iface_int W 1 1 Tryd.underlying89 (by kernel_rfl) Tryd.underlying130
  have HN := veil (show t.data.toList ≠ [] by rw [hL]; simp)
  have HB := veil (fun h : c0.toNat = 43 ∨ c0.toNat = 45 => bad_sign hL h)
  have HU := veil (fun W => parseUint_16 t hmax W)
  have HE := veil (fun W => parseUint_16 (t.extract 1 t.size) (by rw [ByteArray.size_extract]; omega) W)
  have h255 := c0.toNat_lt
  clear hL hmax
  generalize t.data.toList = L at *
  by_cases h43 : c0.toNat = 43
  ·
   have hc : t[0].toNat = 43 := by rw [hs0, h43]
   replace HB := veil (HB.out (.inl h43))
   clear hs0 h43 h255
   go_enter Tryd.func81, Tryd.ntmps81
   go_wp2_with fail
   refine (HE.out _).mono ?_
   rintro e w1 ⟨v, x, rfl, hv0, hv1, ⟨hx | hx | hx, _⟩, hb⟩
   all_goals subst hx
   all_goals clear hemp
   ·
    clear hq1 hq2
    have HB' := HB
    clear HB
    go_wp2
    all_goals go_ret2
    all_goals exact ⟨_, _, rfl, by omega, by omega, HB'.out.reads HN.out _ (by first | exact .inl rfl | exact .inr (.inl rfl) | exact .inr (.inr rfl)), hb⟩
   ·
    clear hq2
    have HB' := HB
    clear HB
    go_wp2
    all_goals go_ret2
    all_goals exact ⟨_, _, rfl, by omega, by omega, HB'.out.reads HN.out _ (by first | exact .inl rfl | exact .inr (.inl rfl) | exact .inr (.inr rfl)), hb⟩
   ·
    clear hq1
    have HB' := HB
    clear HB
    go_wp2
    all_goals go_ret2
    all_goals exact ⟨_, _, rfl, by omega, by omega, HB'.out.reads HN.out _ (by first | exact .inl rfl | exact .inr (.inl rfl) | exact .inr (.inr rfl)), hb⟩
  by_cases h45 : c0.toNat = 45
  ·
   have hc : t[0].toNat = 45 := by rw [hs0, h45]
   replace HB := veil (HB.out (.inr h45))
   clear hs0 h45 h43 h255
   go_enter Tryd.func81, Tryd.ntmps81
   go_wp2_with fail
   refine (HE.out _).mono ?_
   rintro e w1 ⟨v, x, rfl, hv0, hv1, ⟨hx | hx | hx, _⟩, hb⟩
   all_goals subst hx
   all_goals clear hemp
   ·
    clear hq1 hq2
    have HB' := HB
    clear HB
    go_wp2
    all_goals go_ret2
    all_goals exact ⟨_, _, rfl, by omega, by omega, HB'.out.reads HN.out _ (by first | exact .inl rfl | exact .inr (.inl rfl) | exact .inr (.inr rfl)), hb⟩
   ·
    clear hq2
    have HB' := HB
    clear HB
    go_wp2
    all_goals go_ret2
    all_goals exact ⟨_, _, rfl, by omega, by omega, HB'.out.reads HN.out _ (by first | exact .inl rfl | exact .inr (.inl rfl) | exact .inr (.inr rfl)), hb⟩
   ·
    clear hq1
    have HB' := HB
    clear HB
    go_wp2
    all_goals go_ret2
    all_goals exact ⟨_, _, rfl, by omega, by omega, HB'.out.reads HN.out _ (by first | exact .inl rfl | exact .inr (.inl rfl) | exact .inr (.inr rfl)), hb⟩
  ·
   have hc : ((t[0].toNat : Int) == 43) = false := by rw [hs0, beq_eq_false_iff_ne]; omega
   have hc' : ((t[0].toNat : Int) == 45) = false := by rw [hs0, beq_eq_false_iff_ne]; omega
   clear hs0 h45 h43 h255 HB
   go_enter Tryd.func81, Tryd.ntmps81
   go_wp2_with fail
   refine (HU.out _).mono ?_
   rintro e w1 ⟨v, x, rfl, hv0, hv1, ⟨hx | hx | hx, hR⟩, hb⟩
   all_goals subst hx
   all_goals clear hemp
   ·
    clear hq1 hq2
    have HR := veil hR
    clear hR
    go_wp2
    all_goals go_ret2
    ·
     exact ⟨_, _, rfl, by omega, by omega, Bad.reads (fun N a b c => by have := (HR.out.2 N a b c).1; omega) HN.out _ (.inr (.inl rfl)), hb⟩
    ·
     exact ⟨_, _, rfl, by omega, by omega, ⟨.inl rfl, fun h => absurd h HN.out, fun N a b c => ⟨(HR.out.2 N a b c).1, rfl⟩⟩, hb⟩
   ·
    clear hq2
    have HB' := veil (Reads.bad1 (v := v) ⟨.inr (.inl rfl), hR⟩)
    clear hR
    go_wp2
    all_goals go_ret2
    all_goals exact ⟨_, _, rfl, by omega, by omega, HB'.out.reads HN.out _ (by first | exact .inl rfl | exact .inr (.inl rfl) | exact .inr (.inr rfl)), hb⟩
   ·
    clear hq1
    have HB' := veil (Reads.bad2 (v := v) ⟨.inr (.inr rfl), hR⟩)
    clear hR
    go_wp2
    all_goals go_ret2
    all_goals exact ⟨_, _, rfl, by omega, by omega, HB'.out.reads HN.out _ (by first | exact .inl rfl | exact .inr (.inl rfl) | exact .inr (.inr rfl)), hb⟩
def ErrAt (g : Nat) (w : World) : Prop := ∃ ev, w.cell? ⟨g, 0, none⟩ = some ev ∧ (ev = .nilIface ∨ ∃ te pe, ev = .iface te pe)
theorem ErrAt.below {g : Nat} {w w' : World} (h : ErrAt g w) (hb : Below w.heap.size w w') : ErrAt g w' := by
  obtain ⟨ev, h1, h2⟩ := h
  exact ⟨ev, (hb.cell (World.block_lt_of_cell? w _ h1)).trans h1, h2⟩
def ReadsE (s : List UInt8) (v : Int) (e : Value) : Prop :=
  (e = .nilIface ∨ ∃ t p, e = .iface t p) ∧ (s = [] → e ≠ .nilIface) ∧ ∀ N, s ≠ [] → hexFold 0 s = some N → N < 16777216 → v = N ∧ e = .nilIface
theorem toError_calls (fn s : ByteArray) (z : Int) (hz : z = 1 ∨ z = 2) (w : World) (hlim : s.size ≤ 281474976710656) (h1 : ErrAt 3 w) (h2 : ErrAt 4 w) :
    Calls Tryd.prog 82 #[.string fn, .string s, .int .i64 16, .int .i64 32, .iface 130 (.int .i64 z)] w fun e w' => (∃ t p, e = .returned (.iface t p)) ∧ Below w.heap.size w w' := by
  rcases hz with rfl | rfl
  · obtain ⟨ev, hv, hev⟩ := h2
    have c : Calls Tryd.prog 82 #[.string fn, .string s, .int .i64 16, .int .i64 32, .iface 130 (.int .i64 1)] w _ := Any.strconv_toError_range Tryd.LaysC_n245 fn s 16 32 ev w hlim hv hev
    refine c.mono ?_
    rintro e w' ⟨N, rfl, _, _, hb⟩
    exact ⟨⟨_, _, rfl⟩, hb⟩
  · obtain ⟨ev, hv, hev⟩ := h1
    have c : Calls Tryd.prog 82 #[.string fn, .string s, .int .i64 16, .int .i64 32, .iface 130 (.int .i64 2)] w _ := Any.strconv_toError_syntax Tryd.LaysC_n245 fn s 16 32 ev w hlim hv hev
    refine c.mono ?_
    rintro e w' ⟨N, rfl, _, _, hb⟩
    exact ⟨⟨_, _, rfl⟩, hb⟩
set_option maxHeartbeats 2000000 in
set_option maxRecDepth 100000 in
theorem sParseInt_16 (t : ByteArray) (hmax : t.size ≤ 140737488351232) (w : World) (h1 : ErrAt 3 w) (h2 : ErrAt 4 w) :
  Calls Tryd.prog 75 #[.string t, .int .i64 16, .int .i64 32] w fun e w' => ∃ (v : Int) (x : Value), e = .returned (.tuple #[.int .i64 v, x]) ∧ -4294967296 ≤ v ∧ v ≤ 4294967296 ∧ ReadsE t.data.toList v x ∧ Below w.heap.size w w' := by
 have HP := veil (parseInt_16 t hmax w)
 have HT := veil (fun fn z hz W a b => toError_calls fn t z hz W (by omega) a b)
 have H1 := veil h1
 have H2 := veil h2
 clear h1 h2 hmax
 generalize t.data.toList = L at *
 go_enter Tryd.func75, Tryd.ntmps75
 go_wp2_with fail
 refine HP.out.mono ?_
 rintro e w1 ⟨v, x, rfl, hv0, hv1, ⟨hx | hx | hx, hR⟩, hb⟩
 all_goals subst hx
 ·
  have HR := veil hR
  clear hR
  go_wp2
  go_ret2
  exact ⟨_, _, rfl, hv0, hv1, ⟨.inl rfl, fun h => absurd rfl (HR.out.1 h), fun N a b c => ⟨(HR.out.2 N a b c).1, rfl⟩⟩, hb⟩
 ·
  have HR := veil hR
  clear hR
  go_wp2_with fail
  refine (HT.out _ 1 (.inl rfl) _ (H1.out.below hb) (H2.out.below hb)).mono ?_
  rintro e w2 ⟨⟨t', p', rfl⟩, hb2⟩
  go_wp2
  go_ret2
  refine ⟨_, .iface t' p', rfl, hv0, hv1, ⟨.inr ⟨_, _, rfl⟩, fun h => by simp, fun N a b c => by have := (HR.out.2 N a b c).2; cases this⟩, hb.trans (hb2.mono hb.size)⟩
 ·
  have HR := veil hR
  clear hR
  go_wp2_with fail
  refine (HT.out _ 2 (.inr rfl) _ (H1.out.below hb) (H2.out.below hb)).mono ?_
  rintro e w2 ⟨⟨t', p', rfl⟩, hb2⟩
  go_wp2
  go_ret2
  refine ⟨_, .iface t' p', rfl, hv0, hv1, ⟨.inr ⟨_, _, rfl⟩, fun h => by simp, fun N a b c => by have := (HR.out.2 N a b c).2; cases this⟩, hb.trans (hb2.mono hb.size)⟩
def unhexF (s : ByteArray) : Int × Int := if s.size = 6 then (match hexFold 0 s.data.toList with | some N => ((N : Int), 0) | none => (0, 1)) else (0, 1)
def chr (d : Nat) : UInt8 := UInt8.ofNat (hexDig (d % 16))
theorem chr_nat (d : Nat) : (chr d).toNat = hexDig (d % 16) := by
  have := hexDig_lt d
  unfold chr
  rw [UInt8.toNat_ofNat', Nat.mod_eq_of_lt (by omega : _ < 2 ^ 8)]
theorem hexL_six (n : Nat) : hexL n 6 = [chr (n / 1048576), chr (n / 65536), chr (n / 4096), chr (n / 256), chr (n / 16), chr n] := by
  simp only [hexL, chr]
  rw [show List.range 6 = [0, 1, 2, 3, 4, 5] from rfl]
  simp only [List.map_cons, List.map_nil]
  rw [show 16 ^ (6 - 1 - 0) = 1048576 from rfl, show 16 ^ (6 - 1 - 1) = 65536 from rfl, show 16 ^ (6 - 1 - 2) = 4096 from rfl, show 16 ^ (6 - 1 - 3) = 256 from rfl, show 16 ^ (6 - 1 - 4) = 16 from rfl, show 16 ^ (6 - 1 - 5) = 1 from rfl, Nat.div_one]
theorem fold_chr (a d : Nat) (r : List UInt8) : hexFold a (chr d :: r) = hexFold (a * 16 + d % 16) r := by
  simp only [hexFold]
  have hm : d % 16 < 16 := Nat.mod_lt _ (by decide)
  rw [chr_nat]
  generalize d % 16 = m at *
  unfold hexDig
  by_cases c : m < 10
  · rw [if_pos c, if_pos (by omega), show 48 + m - 48 = m by omega]
  · rw [if_neg c, if_neg (by omega), if_pos (by omega), show 87 + m - 87 = m by omega]
theorem hexL_fold (n : Nat) (h : n < 16777216) : hexFold 0 (hexL n 6) = some n := by
  rw [hexL_six, fold_chr, fold_chr, fold_chr, fold_chr, fold_chr, fold_chr]
  simp only [hexFold]
  congr 1
  omega
theorem fold_one (a : Nat) (c : UInt8) (r : List UInt8) (N : Nat) (h : hexFold a (c :: r) = some N) : ∃ d, d < 16 ∧ c = chr d ∧ hexFold (a * 16 + d) r = some N := by
  simp only [hexFold] at h
  split at h
  · rename_i hc
    refine ⟨c.toNat - 48, by omega, ?_, h⟩
    apply UInt8.toNat_inj.1
    rw [chr_nat, Nat.mod_eq_of_lt (by omega)]
    unfold hexDig
    rw [if_pos (by omega)]; omega
  · split at h
    · rename_i hc
      refine ⟨c.toNat - 87, by omega, ?_, h⟩
      apply UInt8.toNat_inj.1
      rw [chr_nat, Nat.mod_eq_of_lt (by omega)]
      unfold hexDig
      rw [if_neg (by omega)]; omega
    · cases h
theorem chr_mod (d e : Nat) (h : d % 16 = e % 16) : chr d = chr e := by unfold chr; rw [h]
theorem fold_hexL (s : List UInt8) (h : s.length = 6) (N : Nat) (hN : hexFold 0 s = some N) : N < 16777216 ∧ s = hexL N 6 := by
  match s, h with
  | [a, b, c, d, e, f], _ =>
    obtain ⟨d1, l1, e1, hN⟩ := fold_one _ _ _ _ hN
    obtain ⟨d2, l2, e2, hN⟩ := fold_one _ _ _ _ hN
    obtain ⟨d3, l3, e3, hN⟩ := fold_one _ _ _ _ hN
    obtain ⟨d4, l4, e4, hN⟩ := fold_one _ _ _ _ hN
    obtain ⟨d5, l5, e5, hN⟩ := fold_one _ _ _ _ hN
    obtain ⟨d6, l6, e6, hN⟩ := fold_one _ _ _ _ hN
    simp only [hexFold, Option.some.injEq] at hN
    refine ⟨by omega, ?_⟩
    rw [e1, e2, e3, e4, e5, e6, hexL_six, chr_mod d1 (N / 1048576) (by omega), chr_mod d2 (N / 65536) (by omega), chr_mod d3 (N / 4096) (by omega), chr_mod d4 (N / 256) (by omega), chr_mod d5 (N / 16) (by omega), chr_mod d6 N (by omega)]
theorem hexF_at {N : Nat} (h : N < 16777216) : (hexF (N : Int)).1 = ⟨(hexL N 6).toArray⟩ := by
  unfold hexF; rw [if_pos (by omega)]; rfl
theorem list_size (s : ByteArray) : s.data.toList.length = s.size := by rw [Array.length_toList]; rfl
theorem unhex_bad {t : ByteArray} {v : Int} {x : Value} (hR : ReadsE t.data.toList v x) (hno : ∀ N : Nat, v = N → N < 16777216 ∧ t = ⟨(hexL N 6).toArray⟩ → False) : unhexF t = (0, 1) := by
  unfold unhexF
  by_cases h6 : t.size = 6
  · rw [if_pos h6]
    split
    · rename_i N hN
      obtain ⟨h1, h2⟩ := fold_hexL _ (by rw [list_size]; exact h6) N hN
      have h3 := (hR.2.2 N (by intro c; have := congrArg List.length c; rw [list_size, h6] at this; cases this) hN h1).1
      exact absurd (hno N h3 ⟨h1, by cases t; simp at h2; rw [← h2]⟩) id
    · rfl
  · rw [if_neg h6]
theorem unhex_err {t : ByteArray} {v : Int} {x : Value} (hx : ∃ a b, x = .iface a b) (hR : (t.data.toList = [] → x ≠ .nilIface) ∧ ∀ N, t.data.toList ≠ [] → hexFold 0 t.data.toList = some N → N < 16777216 → v = N ∧ x = .nilIface) : unhexF t = (0, 1) := by
  obtain ⟨a, b, rfl⟩ := hx
  unfold unhexF
  by_cases h6 : t.size = 6
  · rw [if_pos h6]
    split
    · rename_i N hN
      obtain ⟨h1, h2⟩ := fold_hexL _ (by rw [list_size]; exact h6) N hN
      have h3 := (hR.2 N (by intro c; have := congrArg List.length c; rw [list_size, h6] at this; cases this) hN h1).2
      cases h3
    · rfl
  · rw [if_neg h6]
theorem unhex_good {t : ByteArray} {v : Int} (hR : ReadsE t.data.toList v .nilIface) (h : (hexF v).1 = t) : unhexF t = (v, 0) := by
  unfold hexF at h
  split at h
  · rename_i hv
    obtain ⟨N, rfl⟩ : ∃ N : Nat, v = N := ⟨v.toNat, by omega⟩
    subst h
    unfold unhexF
    rw [if_pos (by simp [hexL, ByteArray.size])]
    have e : (⟨(hexL (N : Int).toNat 6).toArray⟩ : ByteArray).data.toList = hexL N 6 := rfl
    rw [show hexFold 0 (⟨(hexL (N : Int).toNat 6).toArray⟩ : ByteArray).data.toList = some N from hexL_fold N (by omega)]
  · exact absurd rfl (hR.2.1 (by rw [← h]))
set_option maxHeartbeats 2000000 in
set_option maxRecDepth 100000 in
theorem unhex_calls (t : ByteArray) (hmax : t.size ≤ 140737488351232) (w : World) (hT : TabAt 2 Lib.deBruijn64tab w) (h1 : ErrAt 3 w) (h2 : ErrAt 4 w) :
  Calls Tryd.prog 65 #[.string t] w fun e w' => e = .returned (.tuple #[.int .i64 (unhexF t).1, .int .i64 (unhexF t).2]) ∧ Below w.heap.size w w' := by
 have HP := veil (sParseInt_16 t hmax w h1 h2)
 clear h1 h2 hmax
 go_enter Tryd.func65, Tryd.ntmps65
 go_wp2_with fail
 refine HP.out.mono ?_
 rintro e w1 ⟨v, x, rfl, hv0, hv1, ⟨hx | ⟨t', p', hx⟩, hR⟩, hb⟩
 ·
  subst hx
  have HR := veil (show ReadsE t.data.toList v .nilIface from ⟨.inl rfl, hR⟩)
  clear hR
  by_cases hneg : v < 0
  ·
   have hbad := veil (unhex_bad HR.out (fun N h => by omega))
   go_wp2
   go_ret2
   exact ⟨by rw [hbad.out]; rfl, hb⟩
  ·
   have HX := veil (hex_calls v w1 (by omega) (by omega) (TabAt_below hT hb))
   go_wp2_with fail
   refine HX.out.mono ?_
   rintro e w2 ⟨rfl, hb2⟩
   by_cases heq : (hexF v).1 = t
   ·
    have hgood := veil (unhex_good HR.out heq)
    rw [heq]
    generalize (hexF v).2 = z
    clear HX HR hT heq
    go_wp2
    go_ret2
    exact ⟨by rw [hgood.out]; rfl, hb.trans (hb2.mono hb.size)⟩
   ·
    have hbad := veil (unhex_bad HR.out (fun N h1 h2 => heq (by rw [h1, hexF_at h2.1]; exact h2.2.symm)))
    generalize (hexF v).2 = z
    generalize (hexF v).1 = y at *
    have hne : (y.toList == t.toList) = false := by
     rw [beq_eq_false_iff_ne]
     intro c
     refine heq ?_
     rw [toList_data, toList_data] at c
     cases y; cases t
     simp at c
     rw [c]
    have hne2 : (t.toList == y.toList) = false := by
     rw [beq_eq_false_iff_ne]
     intro c
     rw [c] at hne
     simp at hne
    clear HX HR hT heq
    go_wp2
    all_goals go_ret2
    all_goals exact ⟨by rw [hbad.out]; rfl, hb.trans (hb2.mono hb.size)⟩
 ·
  subst hx
  have hbad := veil (unhex_err (t := t) ⟨_, _, rfl⟩ hR)
  clear hT hR
  go_wp2
  go_ret2
  exact ⟨by rw [hbad.out]; rfl, hb⟩
end Go.Proofs.YtlggihnkhimfkaaDoor.Hx
namespace Go.Proofs
open Go.Shelf Go.RowKit Go.Lib
def Tryd.LaysM_n171_ren : Go.Shelf.Ren := ⟨fun | 0 => 0 | 1 => 1 | 2 => 2 | 129 => 77 | 166 => 53 | 169 => 37 | 170 => 36 | 171 => 54 | 173 => 55 | 174 => 75 | 205 => 93 | 240 => 62 | 243 => 63 | 245 => 82 | 246 => 64 | 247 => 81 | 276 => 70 | 279 => 86 | 280 => 87 | 281 => 88 | 282 => 89 | 283 => 71 | 284 => 72 | 285 => 73 | 286 => 74 | 287 => 85 | 316 => 92 | 317 => 76 | 318 => 78 | 319 => 79 | 320 => 80 | 321 => 90 | 322 => 91 | 337 => 83 | 338 => 84 | 347 => 94 | 348 => 95 | 349 => 96 | 350 => 97 | 351 => 98 | 352 => 99 | 353 => 100 | 354 => 101 | 355 => 102 | 356 => 103 | 357 => 104 | 358 => 105 | 359 => 106 | 360 => 107 | 361 => 108 | 362 => 109 | 363 => 112 | 364 => 110 | 365 => 111 | 366 => 113 | 367 => 121 | n => n, fun | 0 => 0 | 1 => 1 | 2 => 2 | 3 => 3 | 4 => 4 | 5 => 5 | 6 => 6 | 7 => 7 | 8 => 8 | 9 => 9 | 10 => 10 | 11 => 11 | 12 => 12 | 13 => 13 | 14 => 14 | 15 => 15 | 16 => 16 | 17 => 17 | 18 => 18 | 19 => 19 | 20 => 20 | 21 => 21 | 28 => 22 | 31 => 61 | 34 => 87 | 37 => 39 | 45 => 77 | 46 => 97 | 47 => 127 | 51 => 125 | 52 => 129 | 53 => 115 | 54 => 116 | 69 => 140 | 70 => 69 | 71 => 70 | 72 => 71 | 74 => 88 | 75 => 89 | 76 => 90 | 77 => 91 | 80 => 74 | 81 => 73 | 83 => 92 | 84 => 94 | 85 => 120 | 86 => 121 | 103 => 76 | 104 => 139 | 108 => 143 | 111 => 42 | 114 => 122 | 127 => 93 | 128 => 128 | 143 => 144 | 144 => 145 | 145 => 146 | 164 => 112 | 165 => 113 | 167 => 130 | 168 => 133 | 169 => 134 | 170 => 135 | 171 => 114 | 172 => 117 | 173 => 118 | 174 => 119 | 175 => 131 | 176 => 132 | 209 => 141 | 210 => 142 | 211 => 123 | 212 => 124 | 213 => 126 | 214 => 138 | 222 => 47 | 232 => 136 | 233 => 137 | 238 => 147 | 239 => 148 | 240 => 149 | 241 => 150 | 242 => 151 | 243 => 152 | 244 => 153 | 245 => 154 | 246 => 155 | 247 => 156 | 248 => 157 | 249 => 158 | n => n, fun | 15 => 3 | 16 => 4 | 17 => 0 | 18 => 1 | 19 => 2 | n => n⟩
theorem Tryd.LaysM_n171 : LaysM.n171 Tryd.prog Tryd.LaysM_n171_ren := {
 mixed := by kernel_rfl,
 f129 := Tryd.func77.trans (congrArg some (by kernel_rfl)),
 f171 := Tryd.func54.trans (congrArg some (by kernel_rfl)),
 f243 := Tryd.func63.trans (congrArg some (by kernel_rfl)),
 f246 := Tryd.func64.trans (congrArg some (by kernel_rfl)),
 f283 := Tryd.func71.trans (congrArg some (by kernel_rfl)),
 f284 := Tryd.func72.trans (congrArg some (by kernel_rfl)),
 f285 := Tryd.func73.trans (congrArg some (by kernel_rfl)),
 f286 := Tryd.func74.trans (congrArg some (by kernel_rfl)),
 f317 := Tryd.func76.trans (congrArg some (by kernel_rfl)),
 f318 := Tryd.func78.trans (congrArg some (by kernel_rfl)),
 f319 := Tryd.func79.trans (congrArg some (by kernel_rfl)),
 f320 := Tryd.func80.trans (congrArg some (by kernel_rfl)),
 f337 := Tryd.func83.trans (congrArg some (by kernel_rfl)),
 f338 := Tryd.func84.trans (congrArg some (by kernel_rfl)),
 t0 := Tryd.underlying0,
 a0 := Tryd.isAgg0,
 z0 := Tryd.sizeOf0,
 v0 := Tryd.zeroValue0,
 t2 := Tryd.underlying2,
 a2 := Tryd.isAgg2,
 z2 := Tryd.sizeOf2,
 v2 := Tryd.zeroValue2,
 t3 := Tryd.underlying3,
 a3 := Tryd.isAgg3,
 z3 := Tryd.sizeOf3,
 v3 := Tryd.zeroValue3,
 t4 := Tryd.underlying4,
 a4 := Tryd.isAgg4,
 z4 := Tryd.sizeOf4,
 v4 := Tryd.zeroValue4,
 t5 := Tryd.underlying5,
 a5 := Tryd.isAgg5,
 z5 := Tryd.sizeOf5,
 v5 := Tryd.zeroValue5,
 t9 := Tryd.underlying9,
 a9 := Tryd.isAgg9,
 z9 := Tryd.sizeOf9,
 v9 := Tryd.zeroValue9,
 t20 := Tryd.underlying20,
 a20 := Tryd.isAgg20,
 z20 := Tryd.sizeOf20,
 v20 := Tryd.zeroValue20,
 t37 := Tryd.underlying39,
 a37 := Tryd.isAgg39,
 z37 := Tryd.sizeOf39,
 v37 := Tryd.zeroValue39,
 t46 := Tryd.underlying97,
 a46 := Tryd.isAgg97,
 z46 := Tryd.sizeOf97,
 v46 := Tryd.zeroValue97,
 t51 := Tryd.underlying125,
 a51 := Tryd.isAgg125,
 z51 := Tryd.sizeOf125,
 v51 := Tryd.zeroValue125,
 t53 := Tryd.underlying115,
 a53 := Tryd.isAgg115,
 z53 := Tryd.sizeOf115,
 v53 := Tryd.zeroValue115,
 t171 := Tryd.underlying114,
 a171 := Tryd.isAgg114,
 z171 := Tryd.sizeOf114,
 v171 := Tryd.zeroValue114,
 t173 := Tryd.underlying118,
 a173 := Tryd.isAgg118,
 z173 := Tryd.sizeOf118,
 v173 := Tryd.zeroValue118,
 t212 := Tryd.underlying124,
 a212 := Tryd.isAgg124,
 z212 := Tryd.sizeOf124,
 v212 := Tryd.zeroValue124,
 t213 := Tryd.underlying126,
 a213 := Tryd.isAgg126,
 z213 := Tryd.sizeOf126,
 t232 := Tryd.underlying136,
 a232 := Tryd.isAgg136,
 z232 := Tryd.sizeOf136,
 v232 := Tryd.zeroValue136,
 t233 := Tryd.underlying137,
 a233 := Tryd.isAgg137,
 z233 := Tryd.sizeOf137,
 v233 := Tryd.zeroValue137,
 g17 := by kernel_rfl,
 g18 := by kernel_rfl,
 g19 := by kernel_rfl,
 i0 := by kernel_rfl,
 i2 := by kernel_rfl,
 i3 := by kernel_rfl,
 i4 := by kernel_rfl,
 i5 := by kernel_rfl,
 i9 := by kernel_rfl,
 i20 := by kernel_rfl,
 i37 := by kernel_rfl,
 i46 := by kernel_rfl,
 i51 := by kernel_rfl,
 i53 := by kernel_rfl,
 i171 := by kernel_rfl,
 i173 := by kernel_rfl,
 i212 := by kernel_rfl,
 i232 := by kernel_rfl,
 i233 := by kernel_rfl,
 m17 := by kernel_rfl,
 m18 := by kernel_rfl,
 m19 := by kernel_rfl }
def Tryd.lays166_ren : Go.Shelf.Ren := ⟨fun | 0 => 0 | 1 => 1 | 2 => 2 | 129 => 77 | 166 => 53 | 169 => 37 | 170 => 36 | 171 => 54 | 173 => 55 | 174 => 75 | 205 => 93 | 240 => 62 | 243 => 63 | 245 => 82 | 246 => 64 | 247 => 81 | 276 => 70 | 279 => 86 | 280 => 87 | 281 => 88 | 282 => 89 | 283 => 71 | 284 => 72 | 285 => 73 | 286 => 74 | 287 => 85 | 316 => 92 | 317 => 76 | 318 => 78 | 319 => 79 | 320 => 80 | 321 => 90 | 322 => 91 | 337 => 83 | 338 => 84 | 347 => 94 | 348 => 95 | 349 => 96 | 350 => 97 | 351 => 98 | 352 => 99 | 353 => 100 | 354 => 101 | 355 => 102 | 356 => 103 | 357 => 104 | 358 => 105 | 359 => 106 | 360 => 107 | 361 => 108 | 362 => 109 | 363 => 112 | 364 => 110 | 365 => 111 | 366 => 113 | 367 => 121 | n => n, fun | 0 => 0 | 1 => 1 | 2 => 2 | 3 => 3 | 4 => 4 | 5 => 5 | 6 => 6 | 7 => 7 | 8 => 8 | 9 => 9 | 10 => 10 | 11 => 11 | 12 => 12 | 13 => 13 | 14 => 14 | 15 => 15 | 16 => 16 | 17 => 17 | 18 => 18 | 19 => 19 | 20 => 20 | 21 => 21 | 28 => 22 | 31 => 61 | 34 => 87 | 37 => 39 | 45 => 77 | 46 => 97 | 47 => 127 | 51 => 125 | 52 => 129 | 53 => 115 | 54 => 116 | 69 => 140 | 70 => 69 | 71 => 70 | 72 => 71 | 74 => 88 | 75 => 89 | 76 => 90 | 77 => 91 | 80 => 74 | 81 => 73 | 83 => 92 | 84 => 94 | 85 => 120 | 86 => 121 | 103 => 76 | 104 => 139 | 108 => 143 | 111 => 42 | 114 => 122 | 127 => 93 | 128 => 128 | 143 => 144 | 144 => 145 | 145 => 146 | 164 => 112 | 165 => 113 | 167 => 130 | 168 => 133 | 169 => 134 | 170 => 135 | 171 => 114 | 172 => 117 | 173 => 118 | 174 => 119 | 175 => 131 | 176 => 132 | 209 => 141 | 210 => 142 | 211 => 123 | 212 => 124 | 213 => 126 | 214 => 138 | 222 => 47 | 232 => 136 | 233 => 137 | 238 => 147 | 239 => 148 | 240 => 149 | 241 => 150 | 242 => 151 | 243 => 152 | 244 => 153 | 245 => 154 | 246 => 155 | 247 => 156 | 248 => 157 | 249 => 158 | n => n, fun | 15 => 3 | 16 => 4 | 17 => 0 | 18 => 1 | 19 => 2 | n => n⟩
theorem Tryd.lays166 : Lays.n166 Tryd.prog Tryd.lays166_ren := {
 mixed := by kernel_rfl,
 f166 := Tryd.func53.trans (congrArg some (by kernel_rfl)),
 f240 := Tryd.func62.trans (congrArg some (by kernel_rfl)),
 f276 := Tryd.func70.trans (congrArg some (by kernel_rfl)),
 t0 := Tryd.underlying0,
 a0 := Tryd.isAgg0,
 z0 := Tryd.sizeOf0,
 v0 := Tryd.zeroValue0,
 t3 := Tryd.underlying3,
 a3 := Tryd.isAgg3,
 z3 := Tryd.sizeOf3,
 v3 := Tryd.zeroValue3,
 t4 := Tryd.underlying4,
 a4 := Tryd.isAgg4,
 z4 := Tryd.sizeOf4,
 v4 := Tryd.zeroValue4,
 t9 := Tryd.underlying9,
 a9 := Tryd.isAgg9,
 z9 := Tryd.sizeOf9,
 v9 := Tryd.zeroValue9,
 t20 := Tryd.underlying20,
 a20 := Tryd.isAgg20,
 z20 := Tryd.sizeOf20,
 v20 := Tryd.zeroValue20,
 t37 := Tryd.underlying39,
 a37 := Tryd.isAgg39,
 z37 := Tryd.sizeOf39,
 v37 := Tryd.zeroValue39,
 t70 := Tryd.underlying69,
 a70 := Tryd.isAgg69,
 z70 := Tryd.sizeOf69,
 v70 := Tryd.zeroValue69,
 t72 := Tryd.underlying71,
 a72 := Tryd.isAgg71,
 z72 := Tryd.sizeOf71,
 v72 := Tryd.zeroValue71,
 t75 := Tryd.underlying89,
 a75 := Tryd.isAgg89,
 z75 := Tryd.sizeOf89,
 v75 := Tryd.zeroValue89,
 t164 := Tryd.underlying112,
 a164 := Tryd.isAgg112,
 z164 := Tryd.sizeOf112,
 v164 := Tryd.zeroValue112 }
def Tryd.lays169_ren : Go.Shelf.Ren := ⟨fun | 0 => 0 | 1 => 1 | 2 => 2 | 129 => 77 | 166 => 53 | 169 => 37 | 170 => 36 | 171 => 54 | 173 => 55 | 174 => 75 | 205 => 93 | 240 => 62 | 243 => 63 | 245 => 82 | 246 => 64 | 247 => 81 | 276 => 70 | 279 => 86 | 280 => 87 | 281 => 88 | 282 => 89 | 283 => 71 | 284 => 72 | 285 => 73 | 286 => 74 | 287 => 85 | 316 => 92 | 317 => 76 | 318 => 78 | 319 => 79 | 320 => 80 | 321 => 90 | 322 => 91 | 337 => 83 | 338 => 84 | 347 => 94 | 348 => 95 | 349 => 96 | 350 => 97 | 351 => 98 | 352 => 99 | 353 => 100 | 354 => 101 | 355 => 102 | 356 => 103 | 357 => 104 | 358 => 105 | 359 => 106 | 360 => 107 | 361 => 108 | 362 => 109 | 363 => 112 | 364 => 110 | 365 => 111 | 366 => 113 | 367 => 121 | n => n, fun | 0 => 0 | 1 => 1 | 2 => 2 | 3 => 3 | 4 => 4 | 5 => 5 | 6 => 6 | 7 => 7 | 8 => 8 | 9 => 9 | 10 => 10 | 11 => 11 | 12 => 12 | 13 => 13 | 14 => 14 | 15 => 15 | 16 => 16 | 17 => 17 | 18 => 18 | 19 => 19 | 20 => 20 | 21 => 21 | 28 => 22 | 31 => 61 | 34 => 87 | 37 => 39 | 45 => 77 | 46 => 97 | 47 => 127 | 51 => 125 | 52 => 129 | 53 => 115 | 54 => 116 | 69 => 140 | 70 => 69 | 71 => 70 | 72 => 71 | 74 => 88 | 75 => 89 | 76 => 90 | 77 => 91 | 80 => 74 | 81 => 73 | 83 => 92 | 84 => 94 | 85 => 120 | 86 => 121 | 103 => 76 | 104 => 139 | 108 => 143 | 111 => 42 | 114 => 122 | 127 => 93 | 128 => 128 | 143 => 144 | 144 => 145 | 145 => 146 | 164 => 112 | 165 => 113 | 167 => 130 | 168 => 133 | 169 => 134 | 170 => 135 | 171 => 114 | 172 => 117 | 173 => 118 | 174 => 119 | 175 => 131 | 176 => 132 | 209 => 141 | 210 => 142 | 211 => 123 | 212 => 124 | 213 => 126 | 214 => 138 | 222 => 47 | 232 => 136 | 233 => 137 | 238 => 147 | 239 => 148 | 240 => 149 | 241 => 150 | 242 => 151 | 243 => 152 | 244 => 153 | 245 => 154 | 246 => 155 | 247 => 156 | 248 => 157 | 249 => 158 | n => n, fun | 15 => 3 | 16 => 4 | 17 => 0 | 18 => 1 | 19 => 2 | n => n⟩
theorem Tryd.lays169 : Lays.n169 Tryd.prog Tryd.lays169_ren := {
 mixed := by kernel_rfl,
 f169 := Tryd.func37.trans (congrArg some (by kernel_rfl)),
 t0 := Tryd.underlying0,
 a0 := Tryd.isAgg0,
 z0 := Tryd.sizeOf0,
 v0 := Tryd.zeroValue0,
 t3 := Tryd.underlying3,
 a3 := Tryd.isAgg3,
 z3 := Tryd.sizeOf3,
 v3 := Tryd.zeroValue3,
 t9 := Tryd.underlying9,
 a9 := Tryd.isAgg9,
 z9 := Tryd.sizeOf9,
 v9 := Tryd.zeroValue9,
 t37 := Tryd.underlying39,
 a37 := Tryd.isAgg39,
 z37 := Tryd.sizeOf39,
 v37 := Tryd.zeroValue39,
 t70 := Tryd.underlying69,
 a70 := Tryd.isAgg69,
 z70 := Tryd.sizeOf69,
 v70 := Tryd.zeroValue69,
 t72 := Tryd.underlying71,
 a72 := Tryd.isAgg71,
 z72 := Tryd.sizeOf71,
 v72 := Tryd.zeroValue71,
 t127 := Tryd.underlying93,
 a127 := Tryd.isAgg93,
 z127 := Tryd.sizeOf93,
 v127 := Tryd.zeroValue93 }
def Tryd.lays170_ren : Go.Shelf.Ren := ⟨fun | 0 => 0 | 1 => 1 | 2 => 2 | 129 => 77 | 166 => 53 | 169 => 37 | 170 => 36 | 171 => 54 | 173 => 55 | 174 => 75 | 205 => 93 | 240 => 62 | 243 => 63 | 245 => 82 | 246 => 64 | 247 => 81 | 276 => 70 | 279 => 86 | 280 => 87 | 281 => 88 | 282 => 89 | 283 => 71 | 284 => 72 | 285 => 73 | 286 => 74 | 287 => 85 | 316 => 92 | 317 => 76 | 318 => 78 | 319 => 79 | 320 => 80 | 321 => 90 | 322 => 91 | 337 => 83 | 338 => 84 | 347 => 94 | 348 => 95 | 349 => 96 | 350 => 97 | 351 => 98 | 352 => 99 | 353 => 100 | 354 => 101 | 355 => 102 | 356 => 103 | 357 => 104 | 358 => 105 | 359 => 106 | 360 => 107 | 361 => 108 | 362 => 109 | 363 => 112 | 364 => 110 | 365 => 111 | 366 => 113 | 367 => 121 | n => n, fun | 0 => 0 | 1 => 1 | 2 => 2 | 3 => 3 | 4 => 4 | 5 => 5 | 6 => 6 | 7 => 7 | 8 => 8 | 9 => 9 | 10 => 10 | 11 => 11 | 12 => 12 | 13 => 13 | 14 => 14 | 15 => 15 | 16 => 16 | 17 => 17 | 18 => 18 | 19 => 19 | 20 => 20 | 21 => 21 | 28 => 22 | 31 => 61 | 34 => 87 | 37 => 39 | 45 => 77 | 46 => 97 | 47 => 127 | 51 => 125 | 52 => 129 | 53 => 115 | 54 => 116 | 69 => 140 | 70 => 69 | 71 => 70 | 72 => 71 | 74 => 88 | 75 => 89 | 76 => 90 | 77 => 91 | 80 => 74 | 81 => 73 | 83 => 92 | 84 => 94 | 85 => 120 | 86 => 121 | 103 => 76 | 104 => 139 | 108 => 143 | 111 => 42 | 114 => 122 | 127 => 93 | 128 => 128 | 143 => 144 | 144 => 145 | 145 => 146 | 164 => 112 | 165 => 113 | 167 => 130 | 168 => 133 | 169 => 134 | 170 => 135 | 171 => 114 | 172 => 117 | 173 => 118 | 174 => 119 | 175 => 131 | 176 => 132 | 209 => 141 | 210 => 142 | 211 => 123 | 212 => 124 | 213 => 126 | 214 => 138 | 222 => 47 | 232 => 136 | 233 => 137 | 238 => 147 | 239 => 148 | 240 => 149 | 241 => 150 | 242 => 151 | 243 => 152 | 244 => 153 | 245 => 154 | 246 => 155 | 247 => 156 | 248 => 157 | 249 => 158 | n => n, fun | 15 => 3 | 16 => 4 | 17 => 0 | 18 => 1 | 19 => 2 | n => n⟩
theorem Tryd.lays170 : Lays.n170 Tryd.prog Tryd.lays170_ren := {
  mixed := by kernel_rfl,
  f170 := Tryd.func36.trans (congrArg some (by kernel_rfl)),
  t0 := Tryd.underlying0,
  a0 := Tryd.isAgg0,
  z0 := Tryd.sizeOf0,
  v0 := Tryd.zeroValue0,
  t3 := Tryd.underlying3,
  a3 := Tryd.isAgg3,
  z3 := Tryd.sizeOf3,
  v3 := Tryd.zeroValue3,
  t37 := Tryd.underlying39,
  a37 := Tryd.isAgg39,
  z37 := Tryd.sizeOf39,
  v37 := Tryd.zeroValue39,
  t70 := Tryd.underlying69,
  a70 := Tryd.isAgg69,
  z70 := Tryd.sizeOf69,
  v70 := Tryd.zeroValue69,
  t72 := Tryd.underlying71,
  a72 := Tryd.isAgg71,
  z72 := Tryd.sizeOf71,
  v72 := Tryd.zeroValue71 }
theorem Tryd.Builder_Extra_166 : Builder.Extra Tryd.prog Tryd.lays166_ren := { sizeBuilder := by kernel_rfl, liesBuilder := by kernel_rfl, t5 := Tryd.underlying5, a5 := Tryd.isAgg5, z5 := Tryd.sizeOf5, v5 := Tryd.zeroValue5, infoByte := by kernel_rfl, cellsByte := by kernel_rfl, sizeByte := by kernel_rfl, neB5 := by decide }
theorem Tryd.Builder_Extra_169 : Builder.Extra Tryd.prog Tryd.lays169_ren := { sizeBuilder := by kernel_rfl, liesBuilder := by kernel_rfl, t5 := Tryd.underlying5, a5 := Tryd.isAgg5, z5 := Tryd.sizeOf5, v5 := Tryd.zeroValue5, infoByte := by kernel_rfl, cellsByte := by kernel_rfl, sizeByte := by kernel_rfl, neB5 := by decide }
end Go.Proofs
namespace Go.Proofs.YtlggihnkhimfkaaDoor.Giv
open Go.RowKit Go.Lib Go.Proofs.YtlggihnkhimfkaaDoor.Hx
def LaidW (w : World) : Prop := Lib.TabIs Tryd.prog w "internal/strconv.uint64pow10" .u64 Lib.pow10Tab ∧ TabAt 2 Lib.deBruijn64tab w ∧ ErrAt 3 w ∧ ErrAt 4 w
theorem tabIs_below {n : String} {g : Nat} {k : IntKind} {zs : List Int} {w w' : World} (hg : Tryd.prog.globalNamed n = some g) (h : Lib.TabIs Tryd.prog w n k zs) (hb : Below w.heap.size w w') : Lib.TabIs Tryd.prog w' n k zs := by
  unfold Lib.TabIs World.var? at h ⊢
  rw [hg] at h ⊢
  simp only [Option.bind_some] at h ⊢
  have hlt : g < w.heap.size := by
    rcases Nat.lt_or_ge g w.heap.size with h' | h'
    · exact h'
    · rw [Array.getElem?_eq_none h'] at h; cases h
  rw [hb.block g hlt]
  exact h
theorem pow10_named : Tryd.prog.globalNamed "internal/strconv.uint64pow10" = some 0 := by kernel_rfl
theorem LaidW.below {w w' : World} (h : LaidW w) (hb : Below w.heap.size w w') : LaidW w' := ⟨tabIs_below pow10_named h.1 hb, TabAt_below h.2.1 hb, h.2.2.1.below hb, h.2.2.2.below hb⟩
open Go.RowKit Go.Lib Go.Sort Go.Proofs.YtlggihnkhimfkaaDoorW.PrintWords Go.Proofs.YtlggihnkhimfkaaDoorW.PrintLast Go.Proofs.YtlggihnkhimfkaaDoorW.PrintMore
set_option linter.unusedVariables false
set_option linter.unusedSimpArgs false
theorem below_grow (w : World) (n : Nat) (os : Array Obj) : Below w.heap.size w (grow (w.drewN n) os) :=
  ⟨rfl, rfl, rfl, by simp [grow], fun b hb => by
    show (w.heap ++ os)[b]? = _
    rw [Array.getElem?_append_left hb]⟩
theorem itoa_calls (n : Int) (w : World) (h0 : -9223372036854775808 ≤ n) (h1 : n ≤ 9223372036854775807) (hL : LaidW w) :
    Calls Tryd.prog 54 #[.int .i64 n] w fun e w' => e = .returned (.string ⟨(Lib.itoa n).toArray⟩) ∧ Below w.heap.size w w' := by
  have c : Calls Tryd.prog 54 #[.int .i64 n] w _ := Any.strconv_Itoa Tryd.LaysM_n171 n h0 h1 w hL.1
  refine c.mono ?_
  rintro e w' ⟨he, k, os, rfl⟩
  exact ⟨he, below_grow w k os⟩
def Bd (B b : Nat) (l : List UInt8) (w : World) : Prop := B ≤ w.heap.size ∧ Lib.IsBuilderF 71 5 B b (Lib.byteCells l) w
theorem Bd.lt {B b : Nat} {l : List UInt8} {w : World} (h : Bd B b l w) : b < w.heap.size := h.2.elim (fun x => x.lt) (fun x => x.lt)
theorem builderAtF_below {T e B b : Nat} {p : Value} {bs : List Value} {w w' : World} (h : Lib.BuilderAtF T e B b p bs w) (hb : Below w.heap.size w w') : Lib.BuilderAtF T e B b p bs w' := by
  have hlt := h.lt
  obtain ⟨hB, v, hc, hown, hne⟩ := h
  exact ⟨hB, v, (hb.block b hlt).trans hc, hown.kept (row := none) (grown_of_below hb none) (by cases v.ownBlock <;> simp), hne⟩
theorem Bd.below {B b : Nat} {l : List UInt8} {w w' : World} (h : Bd B b l w) (hb : Below w.heap.size w w') : Bd B b l w' :=
  ⟨Nat.le_trans h.1 hb.size, h.2.elim (fun x => .inl (builderAtF_below x hb)) (fun x => .inr (builderAtF_below x hb))⟩
theorem byteCells_length (l : List UInt8) : (Lib.byteCells l).length = l.length := by simp [Lib.byteCells]
theorem byteCells_app (l : List UInt8) (s : ByteArray) : Lib.byteCells l ++ Lib.strCells s = Lib.byteCells (l ++ s.data.toList) := by simp [Lib.byteCells, Lib.strCells]
theorem len_calls {B b : Nat} {l : List UInt8} {w : World} (h : Bd B b l w) :
    Calls Tryd.prog 36 #[.pointer (some ⟨b, 0, none⟩)] w fun e w' => e = .returned (.int .i64 (l.length : Int)) ∧ w = w' := by
  have c : Calls Tryd.prog 36 #[.pointer (some ⟨b, 0, none⟩)] w _ := Any.Builder_Len_f Tryd.lays170 B b _ w h.2
  refine c.mono ?_
  rintro e w' ⟨rfl, rfl⟩
  exact ⟨by rw [byteCells_length], rfl⟩
theorem ws_calls {B b : Nat} {l : List UInt8} {w : World} (s : ByteArray) (h : Bd B b l w) (hl : l.length + s.size ≤ 140737488355328) :
    Calls Tryd.prog 53 #[.pointer (some ⟨b, 0, none⟩), .string s] w fun e w' => e = .returned (.tuple #[.int .i64 s.size, .nilIface]) ∧ Bd B b (l ++ s.data.toList) w' ∧ Below B w w' ∧ Lib.OthersKept 5 (some b) w w' := by
  have c : Calls Tryd.prog 53 #[.pointer (some ⟨b, 0, none⟩), .string s] w _ := Any.Builder_WriteString_k Tryd.lays166 Tryd.Builder_Extra_166 B b _ s w h.2 (by rw [byteCells_length]; exact hl) h.1
  refine c.mono ?_
  rintro e w' ⟨rfl, h1, h2, h3⟩
  rw [byteCells_app] at h1
  exact ⟨rfl, ⟨Nat.le_trans h.1 h2.size, .inr h1⟩, h2, h3⟩
theorem kept_cell {w w1 w2 : World} {cs : Array Value} {b k j : Nat} {u : Value} (hb : Below w.heap.size w w1) (ho : Lib.OthersKept 5 (some b) w1 w2) (hbk : w.heap[k]? = some (.cells cs 49 (0, 0))) (hne : k ≠ b) (hc : w.cell? ⟨k, j, none⟩ = some u) : w2.cell? ⟨k, j, none⟩ = some u := by
  have hlt : k < w.heap.size := (Array.getElem?_eq_some_iff.1 hbk).1
  have h2 := ho k _ ((hb.block k hlt).trans hbk) (fun e => hne (Option.some.inj e)) (fun c fz e => by injection e with _ e2 _; exact absurd e2 (by decide))
  unfold World.cell? at hc ⊢
  simp only [hbk, h2] at hc ⊢
  exact hc
theorem okVs_take {L : List V} (h : okVs L = true) : ∀ i, okVs (L.take i) = true := by
  induction L with
  | nil => intro i; rw [List.take_nil]; exact okVs_nil
  | cons x xs ih =>
    intro i
    rw [okVs_cons] at h
    cases i with
    | zero => rw [List.take_zero]; exact okVs_nil
    | succ i => rw [List.take_succ_cons, okVs_cons]; exact ⟨h.1, ih h.2 i⟩
theorem wts_take : ∀ (L : List V) (i : Nat) (h : i < L.length), wts (L.take i) + wt L[i] ≤ wts L
  | x :: xs, 0, h => by rw [List.take_zero, wts_nil, wts_cons]; simp
  | x :: xs, i + 1, h => by
    rw [List.take_succ_cons, wts_cons, wts_cons]
    have := wts_take xs i (by simpa using h)
    simp
    omega
theorem data_app (a b : ByteArray) : (a ++ b).data.toList = a.data.toList ++ b.data.toList := by
  rw [ByteArray.data_append, Array.toList_append]
theorem str_calls {B b : Nat} {l : List UInt8} {w : World} (h : Bd B b l w) :
    Calls Tryd.prog 37 #[.pointer (some ⟨b, 0, none⟩)] w fun e w' => e = .returned (.string ⟨l.toArray⟩) ∧ Below B w w' := by
  have c : Calls Tryd.prog 37 #[.pointer (some ⟨b, 0, none⟩)] w _ := Any.Builder_String_any_k Tryd.lays169 Tryd.Builder_Extra_169 B b l w h.2 h.1
  refine c.mono ?_
  rintro e w' ⟨rfl, -, h2, -⟩
  exact ⟨rfl, h2⟩
set_option maxHeartbeats 4000000 in
set_option maxRecDepth 100000 in
theorem put_calls (n : Nat) : ∀ (v : V) (A : Option Addr) (c : Nat) (l : List UInt8) (w0 w : World) (B b : Nat), wt v ≤ n → okV v = true → l.length + wt v ≤ 140737488355328 → LaidW w0 → Kd.C P.k49 w0 A v.f3.length v.f3 → v.f3.length ≤ c → w0.heap.size ≤ B → Below w0.heap.size w0 w → Bd B b l w →
  Calls Tryd.prog 35 #[.pointer (some ⟨b, 0, none⟩), .agg #[.int .i64 v.f0, .int .i64 v.f1, .string v.f2, .slice A v.f3.length c]] w fun e w' => e = .returned (.tuple #[]) ∧ Bd B b (putc l v) w' ∧ Below B w w' := by
 induction n with
 | zero => intro v A c l w0 w B b h; have := wt_eq v; omega
 | succ n ih =>
  intro v A c l w0 w B b hwt hok hlen hL hC hc hB0 hbel hBd
  have hbx : Bd B b l (w.alloc (.cells #[.int .i64 v.f0, .int .i64 v.f1, .string v.f2, .slice A v.f3.length c] 49)) := hBd.below ((Below.refl _ _).alloc (Nat.le_refl _) _)
  by_cases c0 : 65536 < l.length
  ·
   have hc0 : decide ((65536 : Int) < (l.length : Int)) = true := decide_eq_true (by omega)
   have HX := Aside0.mk hbx
   have HR := Aside0.mk (show putc l v = l by rw [putc_eq, if_pos c0])
   clear hbx hC hL
   go_enter Tryd.func35, Tryd.ntmps35
   go_wp2_with fail
   refine (len_calls HX.out).mono ?_
   rintro e w1 ⟨rfl, rfl⟩
   go_wp2
   go_returns
   exact ⟨rfl, by rw [HR.out]; exact HX.out, (Below.refl _ _).alloc hBd.1 _⟩
  ·
   have hc0 : decide ((65536 : Int) < (l.length : Int)) = false := decide_eq_false (by omega)
   have hokv := (okV_iff v).1 hok
   have HX := Aside0.mk hbx
   have HL := Aside0.mk (LaidW.below hL (below_alloc hbel (.cells #[.int .i64 v.f0, .int .i64 v.f1, .string v.f2, .slice A v.f3.length c] 49)))
   clear hbx
   by_cases c1 : v.f0 = 1
   ·
    have hc1 : (v.f0 == 1) = true := beq_iff_eq.2 c1
    have HR := Aside0.mk (show putc l v = l ++ (105 :: (itoa v.f1 ++ [101])) by rw [putc_eq, if_neg c0, if_pos c1])
    obtain ⟨h1, h2, -⟩ := hokv
    have hil := itoa_len h1 h2
    have HI := fun w' h => itoa_calls v.f1 w' h1 h2 h
    have hsz := wt_eq v
    generalize hit : itoa v.f1 = il at *
    have hts : (ByteArray.mk il.toArray).size = il.length := by simp [ByteArray.size]
    generalize htt : ByteArray.mk il.toArray = t at *
    have hti : t.size ≤ 20 := by omega
    have htt' := Aside0.mk htt
    have HI' := Aside0.mk HI
    clear htt hit c1 HI hts
    go_enter Tryd.func35, Tryd.ntmps35
    go_wp2_with fail
    refine (len_calls HX.out).mono ?_
    rintro e w1 ⟨rfl, rfl⟩
    go_wp2_with fail
    refine (HI'.out _ HL.out).mono ?_
    rintro e w1 ⟨rfl, hb1⟩
    have HX1 := Aside0.mk (HX.out.below hb1)
    have HB1 := Aside0.mk hb1
    clear hb1
    go_wp2_with fail
    refine (ws_calls _ HX1.out (by rw [ByteArray.size_append, ByteArray.size_append]; show l.length + (1 + t.size + 1) ≤ _; omega)).mono ?_
    rintro e w2 ⟨rfl, hX2, hb2, -⟩
    have HX2 := Aside0.mk hX2
    have HB2 := Aside0.mk hb2
    clear hb2 hX2
    go_wp2
    go_returns
    refine ⟨rfl, ?_, (((Below.refl _ _).alloc hBd.1 _).trans (HB1.out.mono (by simp; have := hBd.1; omega))).trans HB2.out⟩
    rw [HR.out]
    have := HX2.out
    rw [data_app, data_app, ← htt'.out] at this
    simpa using this
   ·
    have hc1 : (v.f0 == 1) = false := beq_eq_false_iff_ne.2 c1
    by_cases c2 : v.f0 = 2
    ·
     have hc2 : (v.f0 == 2) = true := beq_iff_eq.2 c2
     have HR := Aside0.mk (show putc l v = l ++ (itoa (v.f2.size : Int) ++ (58 :: v.f2.data.toList)) by rw [putc_eq, if_neg c0, if_neg c1, if_pos c2])
     have hsz := wt_eq v
     have hdd := dd_any v.f2.size
     have hfz : (v.f2.size : Int) ≤ 140737488355328 := by omega
     have hie : itoa (v.f2.size : Int) = decDigits v.f2.size := by unfold itoa; rw [if_neg (by omega), Int.toNat_natCast]
     have HI := fun w' h => itoa_calls (v.f2.size : Int) w' (by omega) (by omega) h
     rw [hie] at HI HR
     generalize decDigits v.f2.size = il at *
     have hts : (ByteArray.mk il.toArray).size = il.length := by simp [ByteArray.size]
     generalize htt : ByteArray.mk il.toArray = t at *
     have hti : 2 * t.size ≤ v.f2.size + 29 := by omega
     have htt' := Aside0.mk htt
     have HI' := Aside0.mk HI
     have hcell : (w.alloc (.cells #[.int .i64 v.f0, .int .i64 v.f1, .string v.f2, .slice A v.f3.length c] 49)).cell? ⟨w.heap.size, 2, none⟩ = some (.string v.f2) := by
      have h9 : (w.alloc (.cells #[.int .i64 v.f0, .int .i64 v.f1, .string v.f2, .slice A v.f3.length c] 49)).heap[w.heap.size]? = some _ := heap_alloc_new w _
      simp only [World.cell?, h9]
      rfl
     have s1 : t.size + 1 ≤ 9223372036854775807 := by omega
     have s2 : (t ++ (⟨#[58]⟩ : ByteArray)).size + v.f2.size ≤ 9223372036854775807 := by rw [ByteArray.size_append]; show t.size + 1 + v.f2.size ≤ _; omega
     have s3 : t.size + 1 + v.f2.size ≤ 9223372036854775807 := by omega
     have s4 := eq_false (Nat.not_lt.2 s1)
     have s5 := eq_false (Nat.not_lt.2 s2)
     have s6 := eq_false (Nat.not_lt.2 s3)
     have hneb := Nat.ne_of_gt hBd.lt
     clear htt hie c1 c2 HI hts hokv
     go_enter Tryd.func35, Tryd.ntmps35
     go_wp2_with fail
     refine (len_calls HX.out).mono ?_
     rintro e w1 ⟨rfl, rfl⟩
     go_wp2_with fail
     go_region_held3 (fun w' => w'.cell? ⟨w.heap.size, 2, none⟩ = some (.string v.f2)) (first | exact hcell | exact kept_cell hb1 ho2 (heap_alloc_new w _) hneb hcell | exact pw_cell_below hb1 hcell) (first | (go_at_call 54; refine (HI'.out _ (LaidW.below HL.out (below_drew (Below.refl _ _)))).mono ?_; rintro e w1 ⟨rfl, hb1⟩) | (go_at_call 53; refine (ws_calls _ (HX.out.below ((below_drew (Below.refl _ _)).trans hb1)) (by rw [ByteArray.size_append, ByteArray.size_append]; show l.length + (t.size + 1 + v.f2.size) ≤ _; omega)).mono ?_; rintro e w2 ⟨rfl, hX2, hb2, ho2⟩))
     have HX2 := Aside0.mk hX2
     have HB2 := Aside0.mk ((((Below.refl _ _).alloc hBd.1 _).trans (((below_drew (Below.refl _ _)).trans hb1).mono (by simp; have := hBd.1; omega))).trans hb2)
     clear hX2 hb2 hb1 ho2
     go_wp2
     go_returns
     refine ⟨rfl, ?_, HB2.out⟩
     rw [HR.out]
     have := HX2.out
     rw [data_app, data_app, ← htt'.out] at this
     simpa using this
    ·
     have hc2 : (v.f0 == 2) = false := beq_eq_false_iff_ne.2 c2
     have HR := Aside0.mk (show putc l v = putcs (l ++ [108]) v.f3 ++ [101] by rw [putc_eq, if_neg c0, if_neg c1, if_neg c2])
     have hok3 := Aside0.mk hokv.2.2
     have hsz := wt_eq v
     have hcell : (w.alloc (.cells #[.int .i64 v.f0, .int .i64 v.f1, .string v.f2, .slice A v.f3.length c] 49)).cell? ⟨w.heap.size, 3, none⟩ = some (.slice A v.f3.length c) := by
      have h9 : (w.alloc (.cells #[.int .i64 v.f0, .int .i64 v.f1, .string v.f2, .slice A v.f3.length c] 49)).heap[w.heap.size]? = some _ := heap_alloc_new w _
      simp only [World.cell?, h9]
      rfl
     have hneb := Nat.ne_of_gt hBd.lt
     have HC := Aside0.mk hC
     have HBel := Aside0.mk hbel
     have HBd := Aside0.mk hBd
     have hBw := hBd.1
     have HL0 := Aside0.mk hL
     have hL30 := wts_len v.f3
     clear hC hbel hBd hL c1 c2 hokv
     go_enter Tryd.func35, Tryd.ntmps35
     go_wp2_with fail
     refine (len_calls HX.out).mono ?_
     rintro e w1 ⟨rfl, rfl⟩
     go_wp2_with fail
     refine (ws_calls _ HX.out (by show l.length + 1 ≤ _; omega)).mono ?_
     rintro e w1 ⟨rfl, hX1, hb1, ho1⟩
     have hcell1 := kept_cell (Below.refl _ _) ho1 (heap_alloc_new w _) hneb hcell
     have HX1 := Aside0.mk (show Bd B b (l ++ [108]) w1 from hX1)
     have HB1 := Aside0.mk (((Below.refl B w).alloc hBw _).trans hb1)
     clear hX1 hb1 ho1 hcell HX HL
     go_wp2_with fail
     go_loopw [16] (fun v16 wr => ∃ i : Nat, i ≤ v.f3.length ∧ v16 = .int .i64 i ∧ Aside0 (Bd B b (putcs (l ++ [108]) (v.f3.take i)) wr) ∧ Aside0 (Below B w wr)) (fun v16 _ => v.f3.length - (RowKit.intOf v16).toNat)
     case atStart => exact ⟨0, Nat.zero_le _, rfl, ⟨by rw [List.take_zero, putcs_nil]; exact HX1.out⟩, HB1⟩
     case round =>
      obtain ⟨i, hi, rfl, HXr, HBr⟩ := hrel
      clear HX1 HB1
      by_cases hlt : i < v.f3.length
      ·
       have HW := Aside0.mk (HBel.out.trans (HBr.out.mono hB0))
       obtain ⟨ad, A3, c3, e3, hx0, hx1, hx2, hx3, hl3, hi3⟩ := P.at_T49 HC.out (i : Int) (by omega) (by omega)
       have hge : P.rd_T49 v.f3 (i : Int) = v.f3[i] := by unfold P.rd_T49; rw [Int.toNat_natCast, List.getD_eq_getElem?_getD, List.getElem?_eq_getElem hlt, Option.getD_some]
       have hmem : v.f3[i] ∈ v.f3 := List.getElem_mem hlt
       have hwm := wt_mem hmem
       have HOM := Aside0.mk (okV_mem hmem hok3.out)
       have hnext := Aside0.mk (show putcs (l ++ [108]) (v.f3.take (i + 1)) = putc (putcs (l ++ [108]) (v.f3.take i)) v.f3[i] by rw [List.take_succ_eq_append_getElem hlt, putcs_snoc])
       have hok9 : okVs (v.f3.take i) = true := okVs_take hok3.out i
       have hwt9 := wts_take v.f3 i hlt
       have hle9 := putcs_le (v.f3.take i) (l ++ [108]) hok9
       rw [List.length_append] at hle9
       rw [hge] at hx0 hx1 hx2 hx3 hl3 hi3
       rw [Int.toNat_natCast] at hx0 hx1 hx2 hx3
       replace hx0 := pw_cell_below HW.out hx0
       replace hx1 := pw_cell_below HW.out hx1
       replace hx2 := pw_cell_below HW.out hx2
       replace hx3 := pw_cell_below HW.out hx3
       generalize v.f3[i] = x at *
       generalize putcs (l ++ [108]) (v.f3.take i) = lr at *
       have HI3 := Aside0.mk hi3
       have HL3 := Aside0.mk hl3
       have hi1 : (i : Int) < (v.f3.length : Int) := by omega
       cases e3
       clear hi3 hl3 hmem hge hok9
       have hBs := HBr.out.size
       go_wp2_with (first | ((with_reducible refine gate_dst (N := 5) rfl ?_); refine box_event ?hg (N := 5) ?hd (cs := #[.int .i64 0, .int .i64 0, .string (⟨#[]⟩ : ByteArray), .slice none 0 0]) (t := 49) ?hr ?_; (case hd => rfl); (case hg => rfl); (case hr => first | (go_simp; done) | (go_simp; rfl)); intro gb hg w17 hbox hb; have BK := Aside0.mk hbox; have HB17 := Aside0.mk hb; have hgb : wr.heap.size ≤ gb := (by rw [hg]; exact Nat.le_refl _); clear hb hbox hg; have hcz0 : w17.cell? ⟨gb, 0, none⟩ = some (.int .i64 0) := (blk_cell BK.out 0).trans rfl; have hcz1 : w17.cell? ⟨gb, 1, none⟩ = some (.int .i64 0) := (blk_cell BK.out 1).trans rfl; have hcz2 : w17.cell? ⟨gb, 2, none⟩ = some (.string (⟨#[]⟩ : ByteArray)) := (blk_cell BK.out 2).trans rfl; have hcz3 : w17.cell? ⟨gb, 3, none⟩ = some (.slice none 0 0) := (blk_cell BK.out 3).trans rfl; have hfz0 := blk_frozen BK.out 0; have hfz1 := blk_frozen BK.out 1; have hfz2 := blk_frozen BK.out 2; have hfz3 := blk_frozen BK.out 3))
       have HBS := Aside0.mk ((((HB17.out.setCell (p := ⟨gb, 0, none⟩) hgb (.int .i64 x.f0)).setCell (p := ⟨gb, 1, none⟩) hgb (.int .i64 x.f1)).setCell (p := ⟨gb, 2, none⟩) hgb (.string x.f2)).setCell (p := ⟨gb, 3, none⟩) hgb (.slice A3 x.f3.length c3))
       refine (ih x A3 c3 lr w0 _ B b (by omega) HOM.out (by simp only [List.length_cons, List.length_nil] at hle9; omega) HL0.out HI3.out HL3.out hB0 ((HBel.out.trans (HBr.out.mono hB0)).trans (HBS.out.mono (HW.out.size))) (HXr.out.below HBS.out)).mono ?_
       rintro e w2 ⟨rfl, hX2, hb2⟩
       have HX2 := Aside0.mk hX2
       have HB2 := Aside0.mk ((HBr.out.trans (HBS.out.mono (by omega))).trans hb2)
       clear hX2 hb2
       go_wp2
       go_roundw
       case rel => exact ⟨i + 1, by omega, by go_num, by rw [hnext.out]; exact HX2, HB2⟩
       case measure => simp [RowKit.intOf]; omega
      ·
       obtain rfl : i = v.f3.length := by omega
       have hle9 := putcs_le v.f3 (l ++ [108]) hok3.out
       rw [List.length_append] at hle9
       rw [List.take_length] at HXr
       generalize putcs (l ++ [108]) v.f3 = lr at *
       have hle8 : lr.length ≤ l.length + 1 + wts v.f3 := hle9
       clear hle9
       go_wp2_with fail
       refine (ws_calls _ HXr.out (by show lr.length + 1 ≤ _; omega)).mono ?_
       rintro e w2 ⟨rfl, hX2, hb2, -⟩
       have HX2 := Aside0.mk hX2
       have HB2 := Aside0.mk (HBr.out.trans hb2)
       clear hX2 hb2
       go_wp2
       go_returns
       refine ⟨rfl, ?_, HB2.out⟩
       rw [HR.out]
       exact HX2.out
end Go.Proofs.YtlggihnkhimfkaaDoor.Giv
