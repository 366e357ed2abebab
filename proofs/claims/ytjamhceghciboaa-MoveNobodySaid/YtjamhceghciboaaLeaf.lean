/- Arguments opened down to their cells, whatever structs and arrays they are made of. -/
import Derived.Test.YtjamhceghciboaaInts
import Derived.ProofKit
import Derived.OpenShut
import Derived.ShutString
import Derived.ChangeOld
import Derived.Deep.Slices
import Derived.KernelRfl
namespace Go.Proofs.Ytjamhceghciboaa
open Go.ChangeShapes Go.WideShapes Go.ChangeAt Go.RowKit

/-- the type of the cell at a place of a type, down through structs and arrays -/
def leafOf (P : Program) : Nat → TypeId → Nat → Option TypeId
  | 0, _, _ => none
  | n + 1, t, pos =>
    match P.underlying t with
    | some (.struct fs) => (fs.toList.find? fun f => decide (f.offset ≤ pos) && decide (pos < f.offset + P.cellsOf f.type)).bind fun f => leafOf P n f.type (pos - f.offset)
    | some (.array k e) => if pos / P.cellsOf e < k then leafOf P n e (pos % P.cellsOf e) else none
    | _ => if pos = 0 then some t else none

section
variable {H : Type} {enc : TypeId × Value → H} {P : Program} {w : World} {base : Nat} {spare : Nat → Bool} {held : Bool}

theorem take_at {cs : List Value} {o n pos : Nat} (hp : pos < n) : ((cs.drop o).take n)[pos]? = cs[o + pos]? := by
  rw [List.getElem?_take_of_lt hp, List.getElem?_drop]

/-- A CELL OF WHAT WAS READ reads as its own type. -/
theorem trod_leaf : ∀ (n : Nat) (fuel : Nat) (t lt : TypeId) (cs : List Value) (x : DataW H × List MemPlace) (pos : Nat), DataW.trod enc P w base spare held fuel t cs = some x → leafOf P n t pos = some lt →
    ∃ v m y, cs[pos]? = some v ∧ DataW.trod enc P w base spare held m lt [v] = some y
  | 0, _, _, _, _, _, _, _, hl => by simp [leafOf] at hl
  | n + 1, fuel, t, lt, cs, x, pos, h, hl => by
    unfold leafOf at hl
    split at hl
    · rename_i fs ht
      obtain ⟨xs, m, _, _, _, hlen, hf⟩ := DataW.trod_struct ht h
      obtain ⟨f, hfind, hl⟩ := Option.bind_eq_some_iff.1 hl
      have hmem := List.mem_of_find?_eq_some hfind
      have hp := List.find?_some hfind
      simp only [Bool.and_eq_true, decide_eq_true_eq] at hp
      obtain ⟨i, hi, hfi⟩ := List.mem_iff_getElem.1 hmem
      have hfs : fs[i]? = some f := by
        have := List.getElem?_eq_getElem hi
        rw [hfi] at this
        simpa using this
      have hsz : i < fs.size := by simpa using hi
      have h1 := hf i f hfs
      rw [List.getElem?_eq_getElem (by omega)] at h1
      obtain ⟨v, m', y, hv, hy⟩ := trod_leaf n m f.type lt _ _ (pos - f.offset) h1 hl
      rw [take_at (by omega)] at hv
      rw [show f.offset + (pos - f.offset) = pos by omega] at hv
      exact ⟨v, m', y, hv, hy⟩
    · rename_i k e ht
      obtain ⟨xs, m, _, _, _, hlen, hf⟩ := DataW.trod_array ht h
      split at hl
      · rename_i hk
        have h1 := hf (pos / P.cellsOf e) hk
        rw [List.getElem?_eq_getElem (by omega)] at h1
        obtain ⟨v, m', y, hv, hy⟩ := trod_leaf n m e lt _ _ (pos % P.cellsOf e) h1 hl
        by_cases h0 : P.cellsOf e = 0
        · rw [h0] at hv
          simp at hv
        · rw [take_at (Nat.mod_lt _ (by omega)), Nat.mul_comm, Nat.div_add_mod] at hv
          exact ⟨v, m', y, hv, hy⟩
      · cases hl
    · split at hl
      · rename_i hne1 hne2 h0
        obtain rfl : t = lt := Option.some.inj hl
        have h1 : ∃ v, cs = [v] := by
          cases fuel with
          | zero => simp [DataW.trod] at h
          | succ m =>
            unfold DataW.trod at h
            split at h <;> first | exact ⟨_, rfl⟩ | (rename_i hh; exact absurd hh (hne1 _)) | (rename_i hh; exact absurd hh (hne2 _ _)) | cases h
        obtain ⟨v, rfl⟩ := h1
        exact ⟨v, fuel, x, by rw [h0]; rfl, h⟩
      · cases hl
end

/-- what a cell of a plain type holds -/
def LeafOk (P : Program) (t : TypeId) (v : Value) : Prop :=
  match P.underlying t with
  | some (.int .i64) => ∃ n : Int, v = .int .i64 n ∧ -9223372036854775808 ≤ n ∧ n ≤ 9223372036854775807
  | some .bool => ∃ b, v = .bool b
  | some .string => ∃ s : ByteArray, v = .string s ∧ s.size ≤ maxLen
  | _ => True
theorem leafOk_of {H : Type} {enc : TypeId × Value → H} {P : Program} {w : World} {base : Nat} {spare : Nat → Bool} {held : Bool} {fuel : Nat} {t : TypeId} {v : Value} {x : DataW H × List MemPlace}
    (h : DataW.trod enc P w base spare held fuel t [v] = some x) : LeafOk P t v := by
  unfold LeafOk
  split
  · rename_i ht
    obtain ⟨n, e, _, hw⟩ := DataW.trod_int ht h
    refine ⟨n, by simpa using e, ?_⟩
    simpa [Lit.wf, IntKind.min, IntKind.max, IntKind.signed, IntKind.bits] using hw
  · rename_i ht
    obtain ⟨b, e, _⟩ := DataW.trod_bool ht h
    exact ⟨b, by simpa using e⟩
  · rename_i ht
    obtain ⟨s, e, _, hs⟩ := DataW.trod_string ht h
    exact ⟨s, by simpa using e, hs⟩
  · trivial

/-- what the row hands on of a slice whose elements are structs or arrays: every cell of every element reads as its own type -/
def IsRows (P : Program) (e : TypeId) (size : Nat) (w : World) (a : Option Addr) (len cap : Nat) : Prop :=
  len ≤ cap ∧ cap ≤ maxLen ∧ (len = 0 ∨ ∃ b off, a = some ⟨b, off, none⟩ ∧ b < w.heap.size ∧ ∀ i j lt, i < len → j < size → leafOf P 8 e j = some lt → ∃ v, w.cell? ⟨b, off + (i * size + j), none⟩ = some v ∧ LeafOk P lt v)

theorem isRows_of {H : Type} {enc : TypeId × Value → H} {P : Program} {w : World} {fuel : Nat} {t e l0 : TypeId} {size : Nat} {a : Option Addr} {len cap : Nat} {x : DataW H × List MemPlace} (ht : P.underlying t = some (.slice e)) (hs : P.cellsOf e = size) (h0 : 0 < size) (hl0 : leafOf P 8 e 0 = some l0)
    (h : DataW.trod enc P w 0 (fun _ => true) true fuel t [.slice a len cap] = some x) : IsRows P e size w a len cap := by
  subst hs
  rcases Go.Deep.open_slice ht h with ⟨hcs, _⟩ | ⟨ad, l, c, m, n, D, Pl, hcs, hb, hl, hm, hmm, _, hi⟩
  · simp at hcs
    obtain ⟨rfl, rfl, rfl⟩ := hcs
    exact ⟨Nat.le_refl _, by unfold maxLen; omega, .inl rfl⟩
  · simp at hcs
    obtain ⟨rfl, rfl, rfl⟩ := hcs
    refine ⟨hl, hm, ?_⟩
    by_cases hz : len = 0
    · exact .inl hz
    · right
      have hmc : m = cap := by simpa using hmm
      have each : ∀ i j lt, i < len → j < P.cellsOf e → leafOf P 8 e j = some lt → ∃ v, w.cell? ((ad.add (i * P.cellsOf e)).add j) = some v ∧ LeafOk P lt v := by
        intro i j lt hil hj hlt
        obtain ⟨cs', hc, ht'⟩ := hi i (by omega)
        obtain ⟨_, _, hat⟩ := World.cells?_some hc
        obtain ⟨v, m', y, hv, hy⟩ := trod_leaf 8 _ _ _ _ _ j ht' hlt
        exact ⟨v, (hat j hj).trans hv, leafOk_of hy⟩
      obtain ⟨b, off, sp⟩ := ad
      obtain ⟨v0, hv0, _⟩ := each 0 0 l0 (by omega) h0 hl0
      cases sp with
      | some s =>
        exfalso
        have e1 : (Addr.add ⟨b, off, .some s⟩ (0 * P.cellsOf e)).spot.isSome = true := by unfold Addr.add; split <;> simp_all
        have e2 : ((Addr.add ⟨b, off, .some s⟩ (0 * P.cellsOf e)).add 0).spot.isSome = true := by
          generalize Addr.add ⟨b, off, .some s⟩ (0 * P.cellsOf e) = q at *
          obtain ⟨qb, qo, qs⟩ := q
          unfold Addr.add; split <;> simp_all
        unfold World.cell? at hv0
        rw [e2] at hv0
        split at hv0 <;> simp at hv0
      | none =>
        have hadd : ∀ i j, ((⟨b, off, none⟩ : Addr).add i).add j = ⟨b, off + (i + j), none⟩ := fun i j => by rw [Addr.add_lit, Addr.add_lit, Nat.add_assoc]
        refine ⟨b, off, rfl, ?_, fun i j lt hil hj hlt => ?_⟩
        · rw [hadd] at hv0
          unfold World.cell? at hv0
          split at hv0
          · rename_i c e f hh
            exact (Array.getElem?_eq_some_iff.1 hh).1
          · cases hv0
        · have := each i j lt hil hj hlt
          rwa [hadd] at this

theorem LeafOk.int {P : Program} {t : TypeId} {v : Value} (h : LeafOk P t v) (ht : P.underlying t = some (.int .i64)) : ∃ n : Int, v = .int .i64 n ∧ -9223372036854775808 ≤ n ∧ n ≤ 9223372036854775807 := by
  unfold LeafOk at h; rw [ht] at h; exact h
theorem LeafOk.bool {P : Program} {t : TypeId} {v : Value} (h : LeafOk P t v) (ht : P.underlying t = some .bool) : ∃ b, v = .bool b := by
  unfold LeafOk at h; rw [ht] at h; exact h
theorem LeafOk.string {P : Program} {t : TypeId} {v : Value} (h : LeafOk P t v) (ht : P.underlying t = some .string) : ∃ s : ByteArray, v = .string s ∧ s.size ≤ maxLen := by
  unfold LeafOk at h; rw [ht] at h; exact h

/-- what the row hands on of a struct or an array by value -/
def IsAgg (P : Program) (t : TypeId) (cs : Array Value) : Prop := ∀ (j : Nat) (lt : TypeId), leafOf P 8 t j = some lt → ∃ v, cs[j]? = some v ∧ LeafOk P lt v
theorem isAgg_of {H : Type} {enc : TypeId × Value → H} {P : Program} {w : World} {base fuel : Nat} {sp : Nat → Bool} {held : Bool} {t : TypeId} {cs : Array Value} {x : DataW H × List MemPlace}
    (h : DataW.trod enc P w base sp held fuel t (Value.agg cs).cells.toList = some x) : IsAgg P t cs := by
  intro j lt hl
  obtain ⟨v, m, y, hv, hy⟩ := trod_leaf 8 _ _ _ _ _ j h hl
  exact ⟨v, by simpa [Value.cells] using hv, leafOk_of hy⟩
theorem okWide_array {P : Program} {w : World} {r : Reach} {base : Nat} {t e : TypeId} {n : Nat} {v : Value} (ht : P.underlying t = some (.array n e)) (h : Value.okWide P w r base t v) : ∃ cs, v = .agg cs ∧ cs.size = P.cellsOf t := by
  simp only [Value.okWide, ht] at h
  obtain ⟨cs, h1, h2, _⟩ := h
  exact ⟨cs, h1, h2⟩
end Go.Proofs.Ytjamhceghciboaa
