/- Slices of ints as lists; a vector's law. -/
import Derived.Test.YtjamhceghciboaaAid
namespace Go.Proofs.Ytjamhceghciboaa
open Go.RowKit

/-- a slice of ints at ao reads as xs -/
def IntRow (w : World) (ao : Option Addr) (xs : List Int) : Prop :=
  xs.length * 8 ≤ 140737488351232 ∧ (∀ x ∈ xs, -9223372036854775808 ≤ x ∧ x ≤ 9223372036854775807) ∧
  (xs = [] ∨ ∃ b off, ao = some ⟨b, off, none⟩ ∧ b < w.heap.size ∧ ∀ i, i < xs.length → w.cell? ⟨b, off + i, none⟩ = some (.int .i64 (xs.getD i 0)))
theorem IntRow.below {w w' : World} {ao : Option Addr} {xs : List Int} (h : IntRow w ao xs) (hb : Below w.heap.size w w') : IntRow w' ao xs := by
  obtain ⟨h1, h2, h3⟩ := h
  refine ⟨h1, h2, ?_⟩
  rcases h3 with h3 | ⟨b, off, e, hlt, hc⟩
  · exact .inl h3
  · exact .inr ⟨b, off, e, Nat.lt_of_lt_of_le hlt hb.size, fun i hi => by rw [hb.cell (by exact hlt)]; exact hc i hi⟩
theorem IntRow.open {w : World} {ao : Option Addr} {xs : List Int} (h : IntRow w ao xs) (h0 : 0 < xs.length) :
    ∃ b off, ao = some ⟨b, off, none⟩ ∧ b < w.heap.size ∧ ∀ i, i < xs.length → w.cell? ⟨b, off + i, none⟩ = some (.int .i64 (xs.getD i 0)) := by
  rcases h.2.2 with h3 | h3
  · subst h3; simp at h0
  · exact h3
theorem IntRow.fits {w : World} {ao : Option Addr} {xs : List Int} (h : IntRow w ao xs) (i : Nat) (hi : i < xs.length) : -9223372036854775808 ≤ xs.getD i 0 ∧ xs.getD i 0 ≤ 9223372036854775807 := by
  rw [List.getD_eq_getElem?_getD, List.getElem?_eq_getElem hi]
  exact h.2.1 _ (List.getElem_mem hi)
theorem IntRow.blk {w : World} {b : Nat} {t : TypeId} {xs : List Int} {c : Array Value} (h : Blk w b c t) (hc : ∀ i, i < xs.length → c[i]? = some (.int .i64 (xs.getD i 0))) (h1 : xs.length * 8 ≤ 140737488351232)
    (h2 : ∀ x ∈ xs, -9223372036854775808 ≤ x ∧ x ≤ 9223372036854775807) : IntRow w (some ⟨b, 0, none⟩) xs :=
  ⟨h1, h2, .inr ⟨b, 0, rfl, h.lt, fun i hi => by rw [Nat.zero_add, h.cell]; exact hc i hi⟩⟩

def oddN (x : Int) : Bool := decide (x < -2147483648) || decide (2147483647 < x)
/-- where the first one stands that is too great -/
def oddAt : List Int → Int
  | [] => -1
  | x :: l => if oddN x then 0 else if oddAt l < 0 then -1 else oddAt l + 1
theorem oddAt_hit : ∀ (xs : List Int) (k : Nat), (∀ i, i < k → oddN (xs.getD i 0) = false) → k < xs.length → oddN (xs.getD k 0) = true → oddAt xs = k
  | x :: l, 0, _, _, h => by simp [oddAt] at h ⊢; simp [h]
  | x :: l, k + 1, h0, h1, h => by
    have hx : oddN x = false := h0 0 (by omega)
    have ih := oddAt_hit l k (fun i hi => h0 (i + 1) (by omega)) (by simpa using h1) h
    simp [oddAt, hx, ih]
    omega
  | [], _, _, h, _ => by simp at h
theorem oddAt_none : ∀ (xs : List Int), (∀ i, i < xs.length → oddN (xs.getD i 0) = false) → oddAt xs = -1
  | [], _ => rfl
  | x :: l, h => by
    have hx : oddN x = false := h 0 (by simp)
    have ih := oddAt_none l (fun i hi => h (i + 1) (by simpa using hi))
    simp [oddAt, hx, ih]
theorem oddAt_any (xs : List Int) : decide (0 ≤ oddAt xs) = xs.any oddN := by
  induction xs with
  | nil => rfl
  | cons x l ih =>
    rw [List.any_cons, ← ih]
    by_cases h : oddN x = true
    · simp [oddAt, h]
    · by_cases h2 : oddAt l < 0
      · simp [oddAt, h, h2]
      · simp [oddAt, h, h2]; omega
theorem oddAt_le (xs : List Int) : -1 ≤ oddAt xs ∧ oddAt xs ≤ xs.length := by
  induction xs with
  | nil => simp [oddAt]
  | cons x l ih =>
    simp only [oddAt, List.length_cons]
    split
    · omega
    · split <;> omega
def isV (xs : List Int) : Bool := decide (0 < xs.length) && (decide (xs.length ≤ 16) && !xs.any oddN)
theorem isV_spec {xs : List Int} (h : isV xs = true) : 0 < xs.length ∧ xs.length ≤ 16 ∧ ∀ x ∈ xs, -2147483648 ≤ x ∧ x ≤ 2147483647 := by
  simp [isV, oddN] at h
  obtain ⟨h1, h2, h3⟩ := h
  refine ⟨h1, h2, fun x hx => ?_⟩
  have := h3 x hx
  omega
theorem isV_at {xs : List Int} (h : isV xs = true) (i : Nat) (hi : i < xs.length) : -2147483648 ≤ xs.getD i 0 ∧ xs.getD i 0 ≤ 2147483647 := by
  rw [List.getD_eq_getElem?_getD, List.getElem?_eq_getElem hi]
  exact (isV_spec h).2.2 _ (List.getElem_mem hi)
theorem any_take_snoc (xs : List Int) (p : Int → Bool) (k : Nat) (h : k < xs.length) : (xs.take (k + 1)).any p = ((xs.take k).any p || p (xs.getD k 0)) := by
  rw [List.take_succ_eq_append_getElem h, List.any_append]
  simp [List.getD_eq_getElem?_getD, List.getElem?_eq_getElem h]
theorem any_of_at (xs : List Int) (p : Int → Bool) (k : Nat) (h : k < xs.length) (hp : p (xs.getD k 0) = true) : xs.any p = true := by
  rw [List.getD_eq_getElem?_getD, List.getElem?_eq_getElem h] at hp
  exact List.any_eq_true.2 ⟨_, List.getElem_mem h, hp⟩

/-- how far: what the code adds up, behind k rounds -/
def distL : List Int → List Int → Int
  | x :: a, y :: b => (if y < x then x - y else y - x) + distL a b
  | _, _ => 0
theorem distL_nonneg : ∀ (a b : List Int), 0 ≤ distL a b
  | x :: a, y :: b => by
    have := distL_nonneg a b
    simp only [distL]
    split <;> omega
  | [], _ => by simp [distL]
  | _ :: _, [] => by simp [distL]
theorem distL_snoc : ∀ (a b : List Int) (k : Nat), k < a.length → k < b.length →
    distL (a.take (k + 1)) (b.take (k + 1)) = distL (a.take k) (b.take k) + (if b.getD k 0 < a.getD k 0 then a.getD k 0 - b.getD k 0 else b.getD k 0 - a.getD k 0)
  | x :: a, y :: b, 0, _, _ => by simp [distL]
  | x :: a, y :: b, k + 1, h1, h2 => by
    have ih := distL_snoc a b k (by simpa using h1) (by simpa using h2)
    simp only [List.take_succ_cons, distL, List.getD_cons_succ] at *
    rw [ih]; omega
  | [], _, _, h, _ => by simp at h
  | _ :: _, [], _, _, h => by simp at h
theorem distL_le (a b : List Int) (ha : isV a = true) (hb : isV b = true) (hl : a.length = b.length) (k : Nat) (hk : k ≤ a.length) : distL (a.take k) (b.take k) ≤ 4294967295 * k := by
  induction k with
  | zero => simp [distL]
  | succ k ih =>
    have h1 := isV_at ha k (by omega)
    have h2 := isV_at hb k (by omega)
    have ih := ih (by omega)
    rw [distL_snoc a b k (by omega) (by omega)]
    split <;> omega

/-- what the row hands on of a slice of ints -/
def IsRow (k : IntKind) (w : World) (a : Option Addr) (len cap : Nat) (zs : List Int) : Prop :=
  len ≤ cap ∧ cap * 8 ≤ 140737488351232 ∧ zs.length = cap ∧ (∀ n ∈ zs, (Lit.int k n).wf = true) ∧
  (zs = [] ∨ ∃ b off, a = some ⟨b, off, none⟩ ∧ b < w.heap.size ∧ ∀ i, i < zs.length → w.cell? ⟨b, off + i, none⟩ = some (.int k (zs.getD i 0)))
theorem IsRow.nil (k : IntKind) (w : World) : IsRow k w none 0 0 [] := ⟨by omega, by omega, rfl, fun n hn => (by cases hn), .inl rfl⟩
theorem IsRow.some {k : IntKind} {w : World} {x : Addr} {len cap : Nat} {zs : List Int} (hl : len ≤ cap) (hz : zs.length = cap) (hr : cap * 8 ≤ 140737488351232)
    (hcell : ∀ i, i < zs.length → w.cell? (x.add i) = .some (.int k (zs.getD i 0))) (hwz : ∀ n ∈ zs, (Lit.int k n).wf = true) : IsRow k w (.some x) len cap zs := by
  refine ⟨hl, hr, hz, hwz, ?_⟩
  cases zs with
  | nil => exact .inl rfl
  | cons z l =>
    right
    obtain ⟨b, off, sp⟩ := x
    have h0 := hcell 0 (by simp)
    cases sp with
    | some s =>
      exfalso
      have : (Addr.add ⟨b, off, .some s⟩ 0).spot.isSome = true := by unfold Addr.add; split <;> simp_all
      unfold World.cell? at h0
      rw [this] at h0
      split at h0 <;> simp at h0
    | none =>
      refine ⟨b, off, rfl, ?_, fun i hi => by have := hcell i hi; rwa [Addr.add_lit] at this⟩
      rw [Addr.add_lit] at h0
      unfold World.cell? at h0
      split at h0
      · rename_i c e f hh
        exact (Array.getElem?_eq_some_iff.1 hh).1
      · cases h0
theorem IsRow.row {w : World} {a : Option Addr} {len cap : Nat} {zs : List Int} (h : IsRow .i64 w a len cap zs) : ∃ xs : List Int, xs.length = len ∧ IntRow w a xs := by
  obtain ⟨h2, h3, h4, h7, h⟩ := h
  have hf : ∀ x ∈ zs, -9223372036854775808 ≤ x ∧ x ≤ 9223372036854775807 := fun x hx => by
    have := h7 x hx
    simpa [Lit.wf, IntKind.min, IntKind.max, IntKind.signed, IntKind.bits] using this
  refine ⟨zs.take len, by rw [List.length_take]; omega, by rw [List.length_take]; omega, fun x hx => hf x (List.mem_of_mem_take hx), ?_⟩
  rcases h with rfl | ⟨b, off, h1, h5, h6⟩
  · exact .inl (by simp)
  · refine .inr ⟨b, off, h1, h5, fun i hi => ?_⟩
    rw [List.length_take] at hi
    rw [h6 i (by omega)]
    simp [List.getD_eq_getElem?_getD, List.getElem?_take_of_lt (show i < len by omega)]
end Go.Proofs.Ytjamhceghciboaa
