/- Several slices of ints that the call itself makes and appends to. -/
import Derived.Test.YtpbkclopmiplpaaProg
import Derived.Test.YtpbkclopmiplpaaInts
import Derived.Maps.AppendAt
import Derived.Deep.AppendLies
namespace Go.Proofs.Ytpbkclopmiplpaa
open Go.RowKit

/-- v is the call's own slice of the ints xs -/
def Owned (w : World) (B : Nat) (v : Value) (xs : List Int) : Prop := w.ownsRow B 3 1 v xs.length (xs.map (Value.int .i64))
def Apart (u v : Value) : Prop := ∀ g, u.ownBlock = some g → v.ownBlock ≠ some g
/-- several of them, each in a block of its own -/
def Rows (w : World) (B : Nat) (L : List (Value × List Int)) : Prop := (∀ p ∈ L, Owned w B p.1 p.2) ∧ ∀ (i j : Nat) (p q : Value × List Int), i ≠ j → L[i]? = some p → L[j]? = some q → Apart p.1 q.1

theorem Owned.nil (w : World) (B : Nat) : Owned w B (.slice none 0 0) [] := ⟨rfl, .inl ⟨rfl, rfl⟩⟩
theorem Rows.nils (w : World) (B n : Nat) : Rows w B (List.replicate n (.slice none 0 0, [])) := by
  refine ⟨fun p hp => ?_, fun i j p q _ hi _ g hg => ?_⟩
  · obtain ⟨_, rfl⟩ := List.mem_replicate.1 hp
    exact Owned.nil _ _
  · have := List.mem_of_getElem? hi
    obtain ⟨_, rfl⟩ := List.mem_replicate.1 this
    cases hg
theorem Owned.lt {w : World} {B : Nat} {v : Value} {xs : List Int} (h : Owned w B v xs) : ∀ g, v.ownBlock = some g → B ≤ g ∧ g < w.heap.size := World.ownsRow.lt h
theorem Owned.below {w w' : World} {B : Nat} {v : Value} {xs : List Int} (h : Owned w B v xs) (hb : Below w.heap.size w w') : Owned w' B v xs := by
  refine World.ownsRow.kept (row := none) h ⟨hb.os, hb.tape, hb.output, hb.size, fun k hk _ => hb.block k hk⟩ ?_
  cases hv : v.ownBlock with
  | none => exact .inl rfl
  | some g => exact .inr (by simp)
theorem Rows.below {w w' : World} {B : Nat} {L : List (Value × List Int)} (h : Rows w B L) (hb : Below w.heap.size w w') : Rows w' B L :=
  ⟨fun p hp => (h.1 p hp).below hb, h.2⟩
/-- one append, of one int laid in a block of its own ahead of it -/
theorem Rows.app {w w' : World} {B : Nat} {L : List (Value × List Int)} (h : Rows w B L) (i : Nat) {v v' : Value} {xs : List Int} {x : Int} {o : Obj} (hi : L[i]? = some (v, xs))
    (hown : w'.ownsRow B 3 1 v' (xs.length + 1) (xs.map (Value.int .i64) ++ [.int .i64 x])) (hg : (w.alloc o).grownBy w' v.ownBlock) (hat : v'.ownBlock = v.ownBlock ∨ v'.ownBlock = some (w.alloc o).heap.size) :
    Rows w' B (L.set i (v', xs ++ [x])) := by
  have hil : i < L.length := (List.getElem?_eq_some_iff.1 hi).1
  have hnew : Owned w' B v' (xs ++ [x]) := by unfold Owned; simpa using hown
  have hold : ∀ j p, j ≠ i → L[j]? = some p → Owned w' B p.1 p.2 ∧ (∀ g, p.1.ownBlock = some g → v'.ownBlock ≠ some g) := by
    intro j p hj hp
    have hp1 := h.1 p (List.mem_of_getElem? hp)
    have hap := h.2 j i p (v, xs) hj hp hi
    refine ⟨?_, fun g hgb => ?_⟩
    · refine World.ownsRow.kept (World.ownsRow.alloc hp1 o) hg ?_
      cases hv : p.1.ownBlock with
      | none => exact .inl rfl
      | some g => exact .inr (fun e => hap g hv e.symm)
    · rcases hat with e | e
      · rw [e]; exact hap g hgb
      · rw [e]
        have := (hp1.lt g hgb).2
        simp
        omega
  refine ⟨fun p hp => ?_, fun j k p q hjk hj hk => ?_⟩
  · obtain ⟨j, hj, rfl⟩ := List.mem_iff_getElem.1 hp
    rw [List.length_set] at hj
    by_cases e : j = i
    · subst e; simp; exact hnew
    · have := hold j L[j] e (List.getElem?_eq_getElem hj)
      rw [List.getElem_set_ne (by omega)]
      exact this.1
  · rw [List.getElem?_set] at hj hk
    by_cases ej : i = j
    · subst ej
      rw [if_neg hjk] at hk
      simp [hil] at hj
      subst hj
      intro g hg1 hg2
      exact (hold k q (Ne.symm hjk) hk).2 g hg2 hg1
    · rw [if_neg ej] at hj
      by_cases ek : i = k
      · subst ek
        simp [hil] at hk
        subst hk
        exact (hold j p hjk hj).2
      · rw [if_neg ek] at hk
        exact h.2 j k p q hjk hj hk
theorem Rows.at {w : World} {B : Nat} {L : List (Value × List Int)} (h : Rows w B L) (i : Nat) {v : Value} {xs : List Int} (hi : L[i]? = some (v, xs)) : Owned w B v xs := h.1 _ (List.mem_of_getElem? hi)
/-- as an argument -/
theorem Owned.row {w : World} {B : Nat} {v : Value} {xs : List Int} (h : Owned w B v xs) (h1 : xs.length * 8 ≤ 140737488351232) (h2 : ∀ x ∈ xs, -9223372036854775808 ≤ x ∧ x ≤ 9223372036854775807) :
    ∃ ao cap, v = .slice ao xs.length cap ∧ IntRow w ao xs := by
  obtain ⟨hl, hv⟩ := h
  rcases hv with ⟨rfl, h0⟩ | ⟨g, cap, cur, rfl, hg, hc, hcap, hm, hsz, ht⟩
  · exact ⟨none, 0, by rw [h0], h1, h2, .inl (List.length_eq_zero_iff.1 h0)⟩
  · refine ⟨some ⟨g, 0, none⟩, cap, rfl, h1, h2, .inr ⟨g, 0, rfl, (Array.getElem?_eq_some_iff.1 hc).1, fun i hi => ?_⟩⟩
    have hc' : w.cell? ⟨g, 0 + i, none⟩ = cur[i]? := by simp [World.cell?, hc]
    rw [hc']
    have hgi : (cur.toList.take (xs.length * 1))[i]? = (xs.map (Value.int .i64))[i]? := by rw [ht]
    rw [List.getElem?_take_of_lt (by omega)] at hgi
    simp only [List.getElem?_map, List.getElem?_eq_getElem hi, Option.map_some] at hgi
    rw [List.getD_eq_getElem?_getD, List.getElem?_eq_getElem hi]
    simpa using hgi

theorem info_ints : (Try.prog.info? 3).map (fun i => (i.zero, i.size, i.bytes)) = some (some (.int .i64 0), 1, 8) := by kernel_rfl
/-- AT 'xs = append(xs, y)', xs the i-th of several: the law for the walk. -/
theorem wpList_app_int {ops : Array Oper} {rest : List Oper} {o : Oper} {a : Act} {Q : Exit → Act → World → Prop} (hgd : o.guard = none) (s x : Operand)
    (ho : o.op = .call { callee := .builtin .append, args := #[s, x], argTypes := #[28, 28] })
    {w0 w : World} {B : Nat} {L : List (Value × List Int)} (hR : Rows w0 B L) (i : Nat) {v : Value} {xs : List Int} {y : Int} (hi : L[i]? = some (v, xs)) (hs : a.eval s = v)
    (hx : a.eval x = .slice (some ⟨w0.heap.size, 0, none⟩) 1 1) (hw : w = w0.alloc (.cells #[.int .i64 y] 3)) (hlen : xs.length ≤ 1000000) (hB : B ≤ w0.heap.size)
    (h : ∀ v' w', Veil (Rows w' B (L.set i (v', xs ++ [y]))) → Veil (Below B w0 w') → wpList Try.prog ops Q rest (a.put o.dst v') w') : wpList Try.prog ops Q (o :: rest) a w := by
  obtain ⟨i0, hi0, hz0, hz1, hz2⟩ := info_parts info_ints
  subst hw
  have hsz : (w0.alloc (.cells #[.int .i64 y] 3)).heap.size = w0.heap.size + 1 := by simp
  refine wpList_append_own_at _ hgd s x 28 ho B 3 i0 (.int .i64 0) 1 8 Try.underlying28 hi0 hz0 hz1 hz2 rfl (by decide) v xs.length (xs.map (Value.int .i64)) hs (World.ownsRow.alloc (hR.at i hi) _)
    ⟨w0.heap.size, 0, none⟩ 1 1 [.int .i64 y] hx rfl (fun j u hj => ?_) (fun u hu => ?_) (by unfold maxLen; omega) (by omega) (by omega) ?_
  · match j, hj with
    | 0, hj =>
      have hj' : Value.int .i64 y = u := by simpa using hj
      subst hj'
      have := (Blk.new w0 #[.int .i64 y] 3).cell 0
      rw [Addr.add_lit, this]
      rfl
    | j + 1, hj => simp at hj
  · have : u = .int .i64 y := by simpa using hu
    subst this; rfl
  · intro v' w' hown hg _ hat
    refine h v' w' (veil (hR.app i hi hown hg hat)) (veil ?_)
    refine ((Below.refl B w0).alloc hB _).grown hg (by omega) (fun g hgb => ((hR.at i hi).lt g hgb).1)

theorem Owned.form {w : World} {B : Nat} {v : Value} {xs : List Int} (h : Owned w B v xs) (h0 : 0 < xs.length) : ∃ g cap, v = .slice (some ⟨g, 0, none⟩) xs.length cap := by
  obtain ⟨g, cap, hv, _⟩ := World.ownsRow.form h h0
  exact ⟨g, cap, hv⟩
theorem Owned.cellAt {w : World} {B : Nat} {g n cap : Nat} {xs : List Int} (h : Owned w B (.slice (some ⟨g, 0, none⟩) n cap) xs) (hn : n = xs.length) (i : Nat) (hi : i < xs.length) : w.cell? ⟨g, i, none⟩ = some (.int .i64 (xs.getD i 0)) := by
  subst hn
  have := World.ownsRow.cellAt h i (by omega)
  rw [this, List.getElem?_map, List.getElem?_eq_getElem hi, List.getD_eq_getElem?_getD, List.getElem?_eq_getElem hi]
  rfl
end Go.Proofs.Ytpbkclopmiplpaa
