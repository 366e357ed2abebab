/- Small plain lemmas and words that the walks of this seat use. -/
import Derived.WalkKit
import Derived.Deep.Quiet
import Derived.BigQuiet
namespace Go.Proofs.YtifbpchakoljaaaDoor
open Go.RowKit

/-- A fact kept from the walk, and from 'contradiction' too. -/
def Veil (p : Prop) : Prop := Unit → p
theorem Veil.out {p : Prop} (h : Veil p) : p := h ()
theorem veil {p : Prop} (h : p) : Veil p := fun _ => h

theorem ret_int {k : IntKind} {a b : Int} (h : a = b) : Ending.returned (.int k a) = .returned (.int k b) := by rw [h]
theorem val_int {k : IntKind} {a b : Int} (h : a = b) : Value.int k a = .int k b := by rw [h]
theorem ret_bool {a b : Bool} (h : a = b) : Ending.returned (.bool a) = .returned (.bool b) := by rw [h]

theorem i64_in {n : Int} (h0 : -9223372036854775808 ≤ n) (h1 : n ≤ 9223372036854775807) : IntKind.i64.wrap n = n := by rw [IntKind.wrap_i64]; omega
theorem wrap64_ok {n : Int} (h0 : -9223372036854775808 ≤ n) (h1 : n ≤ 9223372036854775807) : wrap64 n = n := by unfold wrap64; omega
theorem xor_i64 (a b : Nat) (ha : a < 2 ^ 40) (hb : b < 2 ^ 40) : bits .xor .i64 (a : Int) (b : Int) = ((a ^^^ b : Nat) : Int) := by
  have hx : a ^^^ b < 2 ^ 40 := Nat.xor_lt_two_pow ha hb
  show IntKind.i64.wrap ((BitVec.ofInt 64 (a : Int) ^^^ BitVec.ofInt 64 (b : Int)).toNat : Int) = _
  rw [BitVec.toNat_xor, BitVec.ofInt_natCast, BitVec.ofInt_natCast, BitVec.toNat_ofNat, BitVec.toNat_ofNat, Nat.mod_eq_of_lt (by omega), Nat.mod_eq_of_lt (by omega)]
  exact i64_in (by omega) (by omega)
theorem and_i64 (a b : Nat) (ha : a < 2 ^ 40) (hb : b < 2 ^ 40) : bits .and .i64 (a : Int) (b : Int) = ((a &&& b : Nat) : Int) := by
  have hx : a &&& b < 2 ^ 40 := Nat.and_lt_two_pow _ hb
  show IntKind.i64.wrap ((BitVec.ofInt 64 (a : Int) &&& BitVec.ofInt 64 (b : Int)).toNat : Int) = _
  rw [BitVec.toNat_and, BitVec.ofInt_natCast, BitVec.ofInt_natCast, BitVec.toNat_ofNat, BitVec.toNat_ofNat, Nat.mod_eq_of_lt (by omega), Nat.mod_eq_of_lt (by omega)]
  exact i64_in (by omega) (by omega)
/-- '& (2^i - 1)' of whatever int -/
theorem and_mask_i64 (x : Int) (i : Nat) (hi : i ≤ 62) : bits .and .i64 x ((2 ^ i - 1 : Nat) : Int) = x % ((2 ^ i : Nat) : Int) := by
  have hp : 0 < 2 ^ i := Nat.two_pow_pos i
  have hle : 2 ^ i ≤ 2 ^ 62 := Nat.pow_le_pow_right (by decide) hi
  show IntKind.i64.wrap ((BitVec.ofInt 64 x &&& BitVec.ofInt 64 ((2 ^ i - 1 : Nat) : Int)).toNat : Int) = _
  rw [BitVec.toNat_and, BitVec.ofInt_natCast, BitVec.toNat_ofNat, Nat.mod_eq_of_lt (by omega), BitVec.toNat_ofInt, Nat.and_two_pow_sub_one_eq_mod]
  have hm := Int.emod_nonneg x (show (18446744073709551616 : Int) ≠ 0 by decide)
  have hd : ((2 ^ i : Nat) : Int) ∣ 18446744073709551616 := by
    have : (2 ^ i : Nat) ∣ 2 ^ 64 := Nat.pow_dvd_pow 2 (by omega)
    exact Int.natCast_dvd_natCast.2 this
  have e : (((x % 18446744073709551616).toNat % 2 ^ i : Nat) : Int) = x % ((2 ^ i : Nat) : Int) := by
    rw [Int.natCast_emod, Int.toNat_of_nonneg hm]
    exact Int.emod_emod_of_dvd x hd
  have e' : (((x % ((2 ^ 64 : Nat) : Int)).toNat % 2 ^ i : Nat) : Int) = x % ((2 ^ i : Nat) : Int) := e
  rw [e']
  have h0 := Int.emod_nonneg x (show ((2 ^ i : Nat) : Int) ≠ 0 by omega)
  have h1 := Int.emod_lt_of_pos x (show (0 : Int) < ((2 ^ i : Nat) : Int) by omega)
  exact i64_in (by omega) (by omega)

theorem take_snoc (s : ByteArray) (k : Nat) (h : k < s.size) : s.data.toList.take (k + 1) = s.data.toList.take k ++ [s[k]] := by
  rw [List.take_succ_eq_append_getElem (by simpa using h)]; rfl

/-! A BLOCK KNOWN WHOLE -/
/-- block b of w is a row of the cells c, none of them frozen -/
def Blk (w : World) (b : Nat) (c : Array Value) (t : TypeId) : Prop := w.heap[b]? = some (.cells c t (0, 0))
theorem Blk.lt {w : World} {b : Nat} {c : Array Value} {t : TypeId} (h : Blk w b c t) : b < w.heap.size := (Array.getElem?_eq_some_iff.1 h).1
theorem Blk.cell {w : World} {b : Nat} {c : Array Value} {t : TypeId} (h : Blk w b c t) (i : Nat) : w.cell? ⟨b, i, none⟩ = c[i]? := by
  unfold Blk at h
  simp [World.cell?, h]
theorem Blk.free {w : World} {b : Nat} {c : Array Value} {t : TypeId} (h : Blk w b c t) (i : Nat) : w.frozen? ⟨b, i, none⟩ = false := by
  unfold Blk at h
  simp [World.frozen?, h]
theorem Blk.new (w : World) (c : Array Value) (t : TypeId) : Blk (w.alloc (.cells c t)) w.heap.size c t := by
  show (w.heap.push _)[w.heap.size]? = _
  rw [Array.getElem?_push, if_pos rfl]
theorem Blk.alloc {w : World} {b : Nat} {c : Array Value} {t : TypeId} (h : Blk w b c t) (o : Obj) : Blk (w.alloc o) b c t := by
  have := h.lt
  unfold Blk at *
  rw [Below.heap_alloc _ _ _ this]; exact h
theorem Blk.drew {w : World} {b : Nat} {c : Array Value} {t : TypeId} (h : Blk w b c t) : Blk w.drew b c t := h
theorem Blk.set {w : World} {b : Nat} {c : Array Value} {t : TypeId} (h : Blk w b c t) (i : Nat) (v : Value) : Blk (w.setCell ⟨b, i, none⟩ v) b (c.setIfInBounds i v) t := by
  unfold Blk at *
  simp [World.setCell, Array.getElem?_modify, h]
theorem Blk.far {w : World} {b : Nat} {c : Array Value} {t : TypeId} (h : Blk w b c t) {p : Addr} (hp : p.block ≠ b) (v : Value) : Blk (w.setCell p v) b c t := by
  unfold Blk at *
  rw [Below.heap_setCell _ _ _ _ (Ne.symm hp)]; exact h
theorem Blk.below {w w' : World} {B b : Nat} {c : Array Value} {t : TypeId} (h : Blk w b c t) (hb : Below B w w') (hB : b < B) : Blk w' b c t := by
  unfold Blk at *
  rw [hb.block b hB]; exact h

/-- the same with a frozen range (a row that a conversion made) -/
def BlkM (w : World) (b : Nat) (c : Array Value) (t : TypeId) (f : Nat × Nat) : Prop := w.heap[b]? = some (.cells c t f)
theorem BlkM.lt {w : World} {b : Nat} {c : Array Value} {t : TypeId} {f : Nat × Nat} (h : BlkM w b c t f) : b < w.heap.size := (Array.getElem?_eq_some_iff.1 h).1
theorem BlkM.cell {w : World} {b : Nat} {c : Array Value} {t : TypeId} {f : Nat × Nat} (h : BlkM w b c t f) (i : Nat) : w.cell? ⟨b, i, none⟩ = c[i]? := by
  unfold BlkM at h
  simp [World.cell?, h]
theorem BlkM.free {w : World} {b : Nat} {c : Array Value} {t : TypeId} {f : Nat × Nat} (h : BlkM w b c t f) {i : Nat} (hi : i < f.1) : w.frozen? ⟨b, i, none⟩ = false := by
  unfold BlkM at h
  simp [World.frozen?, h]
  omega
theorem BlkM.new (w : World) (c : Array Value) (t : TypeId) (f : Nat × Nat) : BlkM (w.alloc (.cells c t f)) w.heap.size c t f := by
  show (w.heap.push _)[w.heap.size]? = _
  rw [Array.getElem?_push, if_pos rfl]
theorem BlkM.alloc {w : World} {b : Nat} {c : Array Value} {t : TypeId} {f : Nat × Nat} (h : BlkM w b c t f) (o : Obj) : BlkM (w.alloc o) b c t f := by
  have := h.lt
  unfold BlkM at *
  rw [Below.heap_alloc _ _ _ this]; exact h
theorem BlkM.drew {w : World} {b : Nat} {c : Array Value} {t : TypeId} {f : Nat × Nat} (h : BlkM w b c t f) : BlkM w.drew b c t f := h
theorem BlkM.set {w : World} {b : Nat} {c : Array Value} {t : TypeId} {f : Nat × Nat} (h : BlkM w b c t f) (i : Nat) (v : Value) : BlkM (w.setCell ⟨b, i, none⟩ v) b (c.setIfInBounds i v) t f := by
  unfold BlkM at *
  simp [World.setCell, Array.getElem?_modify, h]
theorem BlkM.below {w w' : World} {B b : Nat} {c : Array Value} {t : TypeId} {f : Nat × Nat} (h : BlkM w b c t f) (hb : Below B w w') (hB : b < B) : BlkM w' b c t f := by
  unfold BlkM at *
  rw [hb.block b hB]; exact h

/-! A REGION THAT DRAWS ITS ORDER, WHOSE CALLS MAKE MEMORY: every world that has the old one below it -/
def Later (w : World) : Type := { v : World // Below w.heap.size w v }
instance (w : World) : Nonempty (Later w) := ⟨⟨w, Below.refl _ _⟩⟩
theorem Later.call {P : Program} {f : FuncId} {args : Array Value} {w : World} {v : Value} {x : Later w}
    (h : Calls P f args x.1 fun e w' => e = .returned v ∧ Below x.1.heap.size x.1 w') : Calls P f args x.1 fun e w' => e = .returned v ∧ ∃ y : Later w, w' = y.1 :=
  h.mono fun _ w' ⟨he, hb⟩ => ⟨he, ⟨w', x.2.trans (hb.mono x.2.size)⟩, rfl⟩
theorem Later.call_same {P : Program} {f : FuncId} {args : Array Value} {w : World} {v : Value} {x : Later w}
    (h : Calls P f args x.1 fun e w' => e = .returned v ∧ x.1 = w') : Calls P f args x.1 fun e w' => e = .returned v ∧ ∃ y : Later w, w' = y.1 :=
  h.mono fun _ _ ⟨he, hb⟩ => ⟨he, x, hb.symm⟩
theorem Later.cell {w : World} (x : Later w) {p : Addr} (hp : p.block < w.heap.size) : x.1.cell? p = w.cell? p := x.2.cell hp
theorem wp_region_later {P : Program} {id : Nat} {Q : Exit → Act → World → Prop} {a : Act} {w : World} {l : List Oper} (hm : P.follows .mixedOrders = true) (hB : Region.lexB .any l.toArray = true)
    (h : wpQuiet P l.toArray (fun w' => ∃ x : Later w, w' = x.1) (fun a' => ∀ w', (∃ x : Later w, w' = x.1) → Q .normal a' w') l a) : (Code.region id l.toArray true).wp P Q a w :=
  wp_region_quiet (C := fun w' => ∃ x : Later w, w' = x.1) hm hB ⟨⟨_, (Below.refl _ _).drew⟩, rfl⟩ (by simpa using h)
end Go.Proofs.YtifbpchakoljaaaDoor
