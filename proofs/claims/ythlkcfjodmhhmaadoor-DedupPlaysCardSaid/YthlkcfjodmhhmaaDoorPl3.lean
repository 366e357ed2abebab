/- Texts put together by prune.py: Px0, DdA, DdL, BncM, ShelfB, BncW, BncN. -/
import Derived.Test.YthlkcfjodmhhmaaDoorProg
import Derived.Below
import Derived.Deep.Draws
import Derived.Deep.AppendLies
import Derived.Maps.AppendAt
import Derived.OwnWalk
import Derived.Laws.BytesArg
import Derived.Laws.MakeOwn
import Derived.Laws.OwnMore
import Derived.Deep.OwnRows
import Derived.Tactics
import Derived.Lib.ConvBytes
import Derived.Laws.Slices
import Derived.WalkKit
import Derived.KernelRfl
import Derived.RowKit3
import Derived.Deep.LoopGhost
import Derived.Deep.QuietTactic
import Derived.BigQuiet
import Derived.WideLaws
import Derived.Deep.DeepCutAuto
import Derived.Deep.CutBlock
import Derived.Deep.RegionHeld3
import Derived.Laws.Rows
import Derived.Lib.AppendStr
import Derived.ArgAppend
import Derived.Laws.IdiomCopy
import Derived.OrdersHeld
import Derived.Laws.BitsLemmas
import Derived.RowKit
import Derived.Handy
import Derived.Lib.ReflectliteSwap
import Derived.Lib.ItoaNum
import Derived.Shelf.Strconv.Itoa3
import Derived.Shelf.Strings.BuilderK
import Derived.Shelf.Strings.BuilderF
import Derived.Lib.OthersKept
import Derived.BigCall
import Derived.Outline
import Derived.Deep.DrawnRows
import Derived.Test.YthlkcfjodmhhmaaDoorPl2
namespace Go.Proofs.YthlkcfjodmhhmaaDoor.P
open Go.RowKit Go.Proofs.YthlkcfjodmhhmaaDoorW.PrintWords Go.Proofs.YthlkcfjodmhhmaaDoorW.PrintLast Go.Proofs.YthlkcfjodmhhmaaDoorW.PrintMore
attribute [local go_sem] max2_int min2_int max_two min_two max_three min_three max_four min_four   -- for this text's walks alone
set_option linter.unusedVariables false
set_option linter.unusedSimpArgs false
def errW : Option Int → Value
  | none => .nilIface
  | some c => .iface 0 (.int .i64 c)
theorem errW_none : errW none = .nilIface := rfl
theorem errW_some (c : Int) : errW (some c) = .iface 0 (.int .i64 c) := rfl
theorem info5 : (Tryd.prog.info? 5).map (fun i => (i.zero, i.size, i.bytes)) = some (some (.int .u8 0), 1, 1) := by kernel_rfl
theorem info66 : (Tryd.prog.info? 66).map (fun i => (i.zero, i.size, i.bytes)) = some (some (.agg #[(.int .i64 0), (.int .i64 0), (.string ⟨#[]⟩), (.slice none 0 0)]), 4, 56) := by kernel_rfl
structure S66 where
  f0 : Int
  f1 : Int
  f2 : ByteArray
  f3 : (List S66)
def z66 : S66 := ⟨(0 : Int), (0 : Int), (⟨#[]⟩ : ByteArray), ([] : List S66)⟩
def F66 (d : Kd S66) : Kd S66 := Kd.iso (Kd.pair (Kd.int .i64) (Kd.pair (Kd.int .i64) (Kd.pair Kd.string (Kd.slice 66 d)))) (fun x : S66 => (x.f0, x.f1, x.f2, x.f3))
theorem mono66 : Kd.Mono F66 := Kd.mono_iso _ (Kd.mono_pair (Kd.mono_const _) (Kd.mono_pair (Kd.mono_const _) (Kd.mono_pair (Kd.mono_const _) (Kd.mono_slice 66 Kd.mono_id))))
theorem sub66 : Kd.Sub F66 [66] := Kd.sub_iso _ (Kd.sub_pair (Kd.sub_const _ (by decide)) (Kd.sub_pair (Kd.sub_const _ (by decide)) (Kd.sub_pair (Kd.sub_const _ (by decide)) (Kd.sub_slice 66 (by decide) Kd.sub_id))))
theorem sz66 : ∀ n, (Kd.upto F66 4 [66] n).sz = 4 := Kd.upto_sz (fun _ => rfl)
def k66 : Kd S66 := Kd.fix F66 4 [66] sz66 (Kd.upto_E sub66)
theorem k66_open {w : World} {x : S66} {cs : List Value} (h : k66.K w x cs) : ∃ A3 c3, cs = [.int .i64 x.f0, .int .i64 x.f1, .string x.f2, .slice A3 x.f3.length c3] ∧ x.f3.length ≤ c3 ∧ k66.C w A3 x.f3.length x.f3 := by
  obtain ⟨n, h⟩ := h
  cases n with
  | zero => exact h.elim
  | succ n =>
    obtain ⟨_, _, rfl, rfl, ⟨_, _, rfl, rfl, ⟨_, _, rfl, rfl, ⟨A3, c3, rfl, l3, g3⟩⟩⟩⟩ := h
    exact ⟨A3, c3, rfl, l3, Kd.fix_C g3⟩
theorem k66_openM {w : World} {base : Nat} {ok : Nat → Prop} {x : S66} {cs : List Value} (h : k66.M w base ok x cs) : ∃ v3, cs = [.int .i64 x.f0, .int .i64 x.f1, .string x.f2, v3] ∧ k66.R 66 w base ok v3 x.f3 := by
  obtain ⟨n, h⟩ := h
  cases n with
  | zero => exact h.elim
  | succ n =>
    obtain ⟨_, _, rfl, rfl, ⟨_, _, rfl, rfl, ⟨_, _, rfl, rfl, ⟨v3, rfl, g3⟩⟩⟩⟩ := h
    exact ⟨v3, rfl, Kd.fix_R g3⟩
theorem k66_mkM (w : World) (base : Nat) (ok : Nat → Prop) (x : S66) {v3 : Value} (g3 : k66.R 66 w base ok v3 x.f3) : k66.M w base ok x [.int .i64 x.f0, .int .i64 x.f1, .string x.f2, v3] := by
  obtain ⟨n3, q3⟩ := Kd.fix_R_back mono66 g3
  have r3 := Kd.upto_R_le mono66 sz66 (show n3 ≤ n3 by omega) q3
  exact ⟨n3 + 1, ⟨[.int .i64 x.f0], [.int .i64 x.f1, .string x.f2, v3], rfl, rfl, ⟨[.int .i64 x.f1], [.string x.f2, v3], rfl, rfl, ⟨[.string x.f2], [v3], rfl, rfl, ⟨v3, rfl, r3⟩⟩⟩⟩⟩
def rd_T66 (xs : List S66) (i : Int) : S66 := xs.getD i.toNat z66
theorem at_T66 {w : World} {A : Option Addr} {n : Nat} {xs : List S66} (h : Kd.C k66 w A n xs) (i : Int) (h0 : 0 ≤ i) (h1 : i < n) : ∃ ad A3 c3, A = some ad ∧ w.cell? (ad.add (i.toNat * 4)) = some (.int .i64 (rd_T66 xs i).f0) ∧ w.cell? ⟨(ad.add (i.toNat * 4)).block, (ad.add (i.toNat * 4)).off + 1, none⟩ = some (.int .i64 (rd_T66 xs i).f1) ∧ w.cell? ⟨(ad.add (i.toNat * 4)).block, (ad.add (i.toNat * 4)).off + 2, none⟩ = some (.string (rd_T66 xs i).f2) ∧ w.cell? ⟨(ad.add (i.toNat * 4)).block, (ad.add (i.toNat * 4)).off + 3, none⟩ = some (.slice A3 (rd_T66 xs i).f3.length c3) ∧ (rd_T66 xs i).f3.length ≤ c3 ∧ k66.C w A3 (rd_T66 xs i).f3.length (rd_T66 xs i).f3 := by
  obtain ⟨ad, c, e, _, hK, hc0⟩ := Kd.C_get h z66 i h0 h1
  have hc : ∀ j u, c[j]? = some u → w.cell? (ad.add (i.toNat * 4 + j)) = some u := hc0
  obtain ⟨A3, c3, rfl, l3, g3⟩ := k66_open hK
  exact ⟨ad, A3, c3, e, hc 0 _ rfl, by rw [← add_field _ _ 1 (by omega)]; exact hc 1 _ rfl, by rw [← add_field _ _ 2 (by omega)]; exact hc 2 _ rfl, by rw [← add_field _ _ 3 (by omega)]; exact hc 3 _ rfl, l3, g3⟩
end Go.Proofs.YthlkcfjodmhhmaaDoor.P
namespace Go.Proofs.YthlkcfjodmhhmaaDoor.Dd
open Go.RowKit Go.Lib Go.Proofs.YthlkcfjodmhhmaaDoorW.PrintWords Go.Proofs.YthlkcfjodmhhmaaDoorW.PrintLast Go.Proofs.YthlkcfjodmhhmaaDoorW.PrintMore
set_option linter.unusedVariables false
set_option linter.unusedSimpArgs false
structure Ent where
  s : Int
  e : Int
  w : Bool
def Ent.cells (x : Ent) : List Value := [.int .i64 x.s, .int .i64 x.e, .bool x.w]
def zE : Ent := ⟨0, 0, false⟩
def tabA (T : List Ent) : Array Value := (Value.bool true :: T.flatMap Ent.cells).toArray
def Tab (w : World) (g : Nat) (T : List Ent) : Prop := T.length = 8 ∧ w.heap[g]? = some (.cells (tabA T) 43 (0, 0))
def T0 : List Ent := [zE, zE, zE, zE, zE, zE, zE, zE]
theorem flat_get : ∀ (T : List Ent) (k : Nat) (j : Nat), k < T.length → j < 3 → (T.flatMap Ent.cells)[3 * k + j]? = (T.getD k zE).cells[j]?
  | [], k, j, h, _ => absurd h (Nat.not_lt_zero _)
  | x :: T, 0, j, h, hj => by
    rw [List.flatMap_cons, List.getElem?_append_left (by simp [Ent.cells]; omega)]
    simp
  | x :: T, k + 1, j, h, hj => by
    rw [List.flatMap_cons, List.getElem?_append_right (by simp [Ent.cells]; omega)]
    rw [show 3 * (k + 1) + j - (Ent.cells x).length = 3 * k + j by simp [Ent.cells]; omega]
    rw [flat_get T k j (by simpa using h) hj]
    simp
theorem flat_set : ∀ (T : List Ent) (k : Nat) (x : Ent), k < T.length → (((T.flatMap Ent.cells).set (3 * k) (.int .i64 x.s)).set (3 * k + 1) (.int .i64 x.e)).set (3 * k + 2) (.bool x.w) = (T.set k x).flatMap Ent.cells
  | [], k, x, h => absurd h (Nat.not_lt_zero _)
  | y :: T, 0, x, h => by simp [Ent.cells]
  | y :: T, k + 1, x, h => by
    have := flat_set T k x (by simpa using h)
    rw [List.set_cons_succ, List.flatMap_cons, List.flatMap_cons, ← this]
    have e1 : 3 * (k + 1) = 3 * k + 3 := by omega
    rw [e1]
    simp [Ent.cells]
theorem Tab.made {w : World} {g : Nat} {T : List Ent} (h : Tab w g T) : w.cell? ⟨g, 0, none⟩ = some (.bool true) := blk_cell h.2 0
theorem Tab.cell {w : World} {g : Nat} {T : List Ent} (h : Tab w g T) (k : Nat) (hk : k < 8) : w.cell? ⟨g, 1 + k * 3, none⟩ = some (.int .i64 (T.getD k zE).s) ∧ w.cell? ⟨g, 1 + k * 3 + 1, none⟩ = some (.int .i64 (T.getD k zE).e) ∧ w.cell? ⟨g, 1 + k * 3 + 2, none⟩ = some (.bool (T.getD k zE).w) := by
  have c := blk_cell h.2
  have f : ∀ j, (tabA T)[j + 1]? = (T.flatMap Ent.cells)[j]? := fun j => by simp [tabA]
  have e : ∀ j, j < 3 → w.cell? ⟨g, 1 + k * 3 + j, none⟩ = (T.getD k zE).cells[j]? := fun j hj => by
    rw [show 1 + k * 3 + j = (3 * k + j) + 1 by omega, c, f, flat_get T k j (by rw [h.1]; exact hk) hj]
  exact ⟨e 0 (by omega), e 1 (by omega), e 2 (by omega)⟩
theorem Tab.frozen {w : World} {g : Nat} {T : List Ent} (h : Tab w g T) (i : Nat) : w.frozen? ⟨g, i, none⟩ = false := blk_frozen h.2 i
theorem cells3 {w : World} {g t : Nat} {a b c : Value} (h : w.heap[g]? = some (.cells #[a, b, c] t (0, 0))) : w.cell? ⟨g, 0, none⟩ = some a ∧ w.cell? ⟨g, 1, none⟩ = some b ∧ w.cell? ⟨g, 2, none⟩ = some c :=
  ⟨blk_cell h 0, blk_cell h 1, blk_cell h 2⟩
theorem blk_store3 {w : World} {g t : Nat} {a b c : Value} (h : w.heap[g]? = some (.cells #[a, b, c] t (0, 0))) (a' b' c' : Value) :
    (((w.setCell ⟨g, 0, none⟩ a').setCell ⟨g, 1, none⟩ b').setCell ⟨g, 2, none⟩ c').heap[g]? = some (.cells #[a', b', c'] t (0, 0)) :=
  blk_put (blk_put (blk_put h 0 a' rfl) 1 b' rfl) 2 c' rfl
theorem below_store3 {B : Nat} {w0 w : World} {g : Nat} (h : Below B w0 w) (hg : B ≤ g) (a' b' c' : Value) :
    Below B w0 (((w.setCell ⟨g, 0, none⟩ a').setCell ⟨g, 1, none⟩ b').setCell ⟨g, 2, none⟩ c') :=
  ((h.setCell (p := ⟨g, 0, none⟩) hg _).setCell (p := ⟨g, 1, none⟩) hg _).setCell (p := ⟨g, 2, none⟩) hg _
theorem New_calls (w : World) :
    Calls Tryd.prog 9 #[] w fun e w' => e = .returned (.pointer (some ⟨w.heap.size, 0, none⟩)) ∧ Below w.heap.size w w' ∧ Tab w' w.heap.size T0 := by
  go_enter Tryd.func9, Tryd.ntmps9
  go_wp2_with fail
  go_returns
  exact ⟨rfl, (Below.refl _ _).alloc (Nat.le_refl _) _, rfl, blk_new w _⟩
def mayM (c s : Int) : Bool := decide (0 ≤ c) && (decide (c < 8) && (decide (0 < s) && decide (s ≤ 1099511627776)))
set_option maxHeartbeats 4000000 in
set_option maxRecDepth 100000 in
theorem may_calls {w : World} {g : Nat} {T : List Ent} (h : Tab w g T) (c s : Int) :
    Calls Tryd.prog 20 #[.pointer (some ⟨g, 0, none⟩), .int .i64 c, .int .i64 s] w fun e w' => e = .returned (.bool (mayM c s)) ∧ Below w.heap.size w w' := by
  have hm := h.made
  have HM := Aside0.mk (show mayM c s = _ from rfl)
  by_cases c1 : 0 ≤ c
  · have d1 : decide (0 ≤ c) = true := decide_eq_true c1
    by_cases c2 : c < 8
    · have d2 : decide (c < 8) = true := decide_eq_true c2
      by_cases c3 : 0 < s
      · have d3 : decide (0 < s) = true := decide_eq_true c3
        by_cases c4 : s ≤ 1099511627776
        · have d4 : decide (s ≤ 1099511627776) = true := decide_eq_true c4
          have hr : mayM c s = true := by unfold mayM; rw [d1, d2, d3, d4]; rfl
          rw [hr]
          clear HM hr c1 c2 c3 c4
          go_enter Tryd.func20, Tryd.ntmps20
          go_wp2_with fail
          go_returns
          exact ⟨rfl, Below.refl _ _⟩
        · have d4 : decide (s ≤ 1099511627776) = false := decide_eq_false c4
          have hr : mayM c s = false := by unfold mayM; rw [d1, d2, d3, d4]; simp
          rw [hr]
          clear HM hr c1 c2 c3 c4
          go_enter Tryd.func20, Tryd.ntmps20
          go_wp2_with fail
          go_returns
          exact ⟨rfl, Below.refl _ _⟩
      · have d3 : decide (0 < s) = false := decide_eq_false c3
        have hr : mayM c s = false := by unfold mayM; rw [d1, d2, d3]; simp
        rw [hr]
        clear HM hr c1 c2 c3
        go_enter Tryd.func20, Tryd.ntmps20
        go_wp2_with fail
        go_returns
        exact ⟨rfl, Below.refl _ _⟩
    · have d2 : decide (c < 8) = false := decide_eq_false c2
      have hr : mayM c s = false := by unfold mayM; rw [d1, d2]; simp
      rw [hr]
      clear HM hr c1 c2
      go_enter Tryd.func20, Tryd.ntmps20
      go_wp2_with fail
      go_returns
      exact ⟨rfl, Below.refl _ _⟩
  · have d1 : decide (0 ≤ c) = false := decide_eq_false c1
    have hr : mayM c s = false := by unfold mayM; rw [d1]; simp
    rw [hr]
    clear HM hr c1
    go_enter Tryd.func20, Tryd.ntmps20
    go_wp2_with fail
    go_returns
    exact ⟨rfl, Below.refl _ _⟩
def findM (T : List Ent) (c s : Int) : Int × Bool × Int :=
  if mayM c s = true then (if s < (T.getD c.toNat zE).s then (0, false, 90) else if (T.getD c.toNat zE).s < s then (0, false, 3) else ((T.getD c.toNat zE).e, (T.getD c.toNat zE).w, 0)) else (0, false, 1)
theorem mayM_iff {c s : Int} : mayM c s = true ↔ 0 ≤ c ∧ c < 8 ∧ 0 < s ∧ s ≤ 1099511627776 := by
  unfold mayM
  simp
theorem Tab.kept {w w' : World} {g : Nat} {T : List Ent} (h : Tab w g T) (hb : Below w.heap.size w w') : Tab w' g T := ⟨h.1, blk_below h.2 hb⟩
theorem Tab.alloc {w : World} {g : Nat} {T : List Ent} (h : Tab w g T) (o : Obj) : Tab (w.alloc o) g T := ⟨h.1, blk_alloc h.2 o⟩
set_option maxHeartbeats 4000000 in
set_option maxRecDepth 100000 in
theorem find_calls {w : World} {g : Nat} {T : List Ent} (h : Tab w g T) (c s : Int) (F : Int × Bool × Int) (hF : findM T c s = F) :
    Calls Tryd.prog 12 #[.pointer (some ⟨g, 0, none⟩), .int .i64 c, .int .i64 s] w fun e w' => e = .returned (.tuple #[.agg #[.int .i64 F.1, .bool F.2.1, .slice none 0 0], .int .i64 F.2.2]) ∧ Below w.heap.size w w' := by
  have hu := Tryd.underlying31
  have h1 := h.alloc (.cells #[.int .i64 0, .bool false, .slice none 0 0] 31)
  have hb0 := (Below.refl w.heap.size w).alloc (Nat.le_refl _) (.cells #[.int .i64 0, .bool false, .slice none 0 0] 31)
  have BR := blk_new w (.cells #[.int .i64 0, .bool false, .slice none 0 0] 31)
  cases hm : mayM c s with
  | false =>
    have hc := may_calls h1 c s
    rw [hm] at hc
    unfold findM at hF
    rw [hm, if_neg (by decide)] at hF
    subst hF
    go_enter Tryd.func12, Tryd.ntmps12
    go_wp2_with fail
    refine hc.mono ?_
    rintro e w1 ⟨rfl, hb⟩
    have BR1 := blk_below BR hb
    obtain ⟨z0, z1, z2⟩ := cells3 BR1
    have f0 := blk_frozen BR1 0
    have f1 := blk_frozen BR1 1
    have f2 := blk_frozen BR1 2
    go_wp2_with fail
    refine bodyPost_ret (results_ct rfl _ _ w.heap.size 31 #[.int .i64 0, .bool false, .slice none 0 0] (0, 0) _ rfl (blk_store3 BR1 _ _ _) hu rfl (by kernel_rfl)) rfl ?_
    exact ⟨rfl, below_store3 (hb0.trans (hb.mono hb0.size)) (Nat.le_refl _) _ _ _⟩
  | true =>
    have hc := may_calls h1 c s
    rw [hm] at hc
    obtain ⟨m0, m1, m2, m3⟩ := mayM_iff.1 hm
    obtain ⟨k, rfl⟩ : ∃ k : Nat, c = (k : Int) := ⟨c.toNat, by omega⟩
    unfold findM at hF
    rw [hm, if_pos rfl, Int.toNat_natCast] at hF
    go_enter Tryd.func12, Tryd.ntmps12
    go_wp2_with fail
    refine hc.mono ?_
    rintro e w1 ⟨rfl, hb⟩
    have h2 := h1.kept hb
    obtain ⟨x0, x1, x2⟩ := h2.cell k (by omega)
    have BR1 := blk_alloc (blk_below BR hb) (.cells #[.int .i64 (T.getD k zE).s, .int .i64 (T.getD k zE).e, .bool (T.getD k zE).w] 40)
    have BX1 := blk_new w1 (.cells #[.int .i64 (T.getD k zE).s, .int .i64 (T.getD k zE).e, .bool (T.getD k zE).w] 40)
    have hb1 := (hb0.trans (hb.mono hb0.size)).alloc (hb0.trans (hb.mono hb0.size)).size (.cells #[.int .i64 (T.getD k zE).s, .int .i64 (T.getD k zE).e, .bool (T.getD k zE).w] 40)
    rw [List.getD_eq_getElem?_getD] at *
    generalize (T[k]?).getD zE = X at *
    obtain ⟨z0, z1, z2⟩ := cells3 BR1
    obtain ⟨y0, y1, y2⟩ := cells3 BX1
    have f0 := blk_frozen BR1 0
    have f1 := blk_frozen BR1 1
    have f2 := blk_frozen BR1 2
    by_cases c1 : s < X.s
    · have d1 : decide (s < X.s) = true := decide_eq_true c1
      rw [if_pos c1] at hF
      subst hF
      go_wp2_with fail
      refine bodyPost_ret (results_ct rfl _ _ w.heap.size 31 #[.int .i64 0, .bool false, .slice none 0 0] (0, 0) _ rfl (blk_store3 BR1 _ _ _) hu rfl (by kernel_rfl)) rfl ?_
      exact ⟨rfl, below_store3 hb1 (Nat.le_refl _) _ _ _⟩
    · have d1 : decide (s < X.s) = false := decide_eq_false c1
      rw [if_neg c1] at hF
      by_cases c2 : X.s < s
      · have d2 : decide (X.s < s) = true := decide_eq_true c2
        rw [if_pos c2] at hF
        subst hF
        go_wp2_with fail
        refine bodyPost_ret (results_ct rfl _ _ w.heap.size 31 #[.int .i64 0, .bool false, .slice none 0 0] (0, 0) _ rfl (blk_store3 BR1 _ _ _) hu rfl (by kernel_rfl)) rfl ?_
        exact ⟨rfl, below_store3 hb1 (Nat.le_refl _) _ _ _⟩
      · have d2 : decide (X.s < s) = false := decide_eq_false c2
        rw [if_neg c2] at hF
        subst hF
        go_wp2_with fail
        refine bodyPost_ret (results_ct rfl _ _ w.heap.size 31 #[.int .i64 X.e, .bool X.w, .slice none 0 0] (0, 0) _ rfl (blk_store3 BR1 _ _ _) hu rfl (by kernel_rfl)) rfl ?_
        exact ⟨rfl, below_store3 hb1 (Nat.le_refl _) _ _ _⟩
def But (g : Nat) (w w' : World) : Prop := (∀ (B : Nat) (w0 : World), Below B w0 w → B ≤ g → Below B w0 w') ∧ ∀ (k : Nat) (o : Obj), k ≠ g → w.heap[k]? = some o → w'.heap[k]? = some o
theorem But.of_below {g : Nat} {w w' : World} (hg : g < w.heap.size) (h : Below w.heap.size w w') : But g w w' := ⟨fun B w0 hb hB => hb.trans (h.mono (by omega)), fun k o _ hk => blk_below hk h⟩
theorem But.trans {g : Nat} {w w1 w2 : World} (h : But g w w1) (k : But g w1 w2) : But g w w2 := ⟨fun B w0 hb hB => k.1 B w0 (h.1 B w0 hb hB) hB, fun i o hi ho => k.2 i o hi (h.2 i o hi ho)⟩
theorem But.set1 (g i : Nat) (w : World) (a : Value) : But g w (w.setCell ⟨g, i, none⟩ a) := ⟨fun B w0 hb hB => hb.setCell (p := ⟨g, i, none⟩) hB _, fun k o hk ho => (Below.heap_setCell w ⟨g, i, none⟩ a k hk).trans ho⟩
theorem But.drew (g : Nat) (w : World) : But g w w.drew := ⟨fun B w0 hb hB => below_drew hb, fun k o hk ho => ho⟩
def putT (T : List Ent) (c s e : Int) (b : Bool) : List Ent × Int :=
  if mayM c s = true ∧ 0 ≤ e ∧ e ≤ 255 then (if s ≤ (T.getD c.toNat zE).s then (T, 90) else (T.set c.toNat ⟨s, e, b⟩, 0)) else (T, 1)
theorem Tab.set {w : World} {g : Nat} {T : List Ent} (h : Tab w g T) (k : Nat) (hk : k < 8) (x : Ent) : Tab (((w.setCell ⟨g, 1 + k * 3, none⟩ (.int .i64 x.s)).setCell ⟨g, 1 + k * 3 + 1, none⟩ (.int .i64 x.e)).setCell ⟨g, 1 + k * 3 + 2, none⟩ (.bool x.w)) g (T.set k x) := by
  refine ⟨by rw [List.length_set]; exact h.1, ?_⟩
  have e : (((tabA T).setIfInBounds (1 + k * 3) (.int .i64 x.s)).setIfInBounds (1 + k * 3 + 1) (.int .i64 x.e)).setIfInBounds (1 + k * 3 + 2) (.bool x.w) = tabA (T.set k x) := by
    unfold tabA
    rw [← flat_set T k x (by rw [h.1]; exact hk)]
    have e1 : 1 + k * 3 = 3 * k + 1 := by omega
    rw [e1]
    simp [List.setIfInBounds_toArray]
  exact blk_put (blk_put (blk_put h.2 _ _ rfl) _ _ rfl) _ _ e
set_option maxHeartbeats 4000000 in
set_option maxRecDepth 100000 in
theorem put_calls {w : World} {g : Nat} {T : List Ent} (h : Tab w g T) (c s er : Int) (b : Bool) (v : Value) (F : List Ent × Int) (hF : putT T c s er b = F) :
    Calls Tryd.prog 10 #[.pointer (some ⟨g, 0, none⟩), .int .i64 c, .int .i64 s, .agg #[.int .i64 er, .bool b, v]] w fun e w' => e = .returned (.int .i64 F.2) ∧ Tab w' g F.1 ∧ But g w w' := by
  have hg := blk_lt h.2
  have h1 := h.alloc (.cells #[.int .i64 er, .bool b, v] 31)
  have hb0 := (Below.refl w.heap.size w).alloc (Nat.le_refl _) (.cells #[.int .i64 er, .bool b, v] 31)
  have BR := blk_new w (.cells #[.int .i64 er, .bool b, v] 31)
  have hc := may_calls h1 c s
  cases hm : mayM c s with
  | false =>
    rw [hm] at hc
    unfold putT at hF
    rw [hm, if_neg (by simp)] at hF
    subst hF
    go_enter Tryd.func10, Tryd.ntmps10
    go_wp2_with fail
    refine hc.mono ?_
    rintro e w1 ⟨rfl, hb⟩
    go_wp2_with fail
    go_returns
    exact ⟨rfl, h1.kept hb, But.of_below hg (hb0.trans (hb.mono hb0.size))⟩
  | true =>
    rw [hm] at hc
    obtain ⟨m0, m1, m2, m3⟩ := mayM_iff.1 hm
    obtain ⟨k, rfl⟩ : ∃ k : Nat, c = (k : Int) := ⟨c.toNat, by omega⟩
    unfold putT at hF
    rw [hm, Int.toNat_natCast] at hF
    by_cases a1 : 0 ≤ er
    · have d1 : decide (er < 0) = false := decide_eq_false (by omega)
      by_cases a2 : er ≤ 255
      · have d2 : decide (255 < er) = false := decide_eq_false (by omega)
        rw [if_pos ⟨rfl, a1, a2⟩] at hF
        rw [List.getD_eq_getElem?_getD] at hF
        have hw1 : Tab w g T := h
        by_cases a3 : s ≤ ((T[k]?).getD zE).s
        · have d3 : decide (s ≤ ((T[k]?).getD zE).s) = true := decide_eq_true a3
          rw [if_pos a3] at hF
          subst hF
          clear a1 a2 a3
          go_enter Tryd.func10, Tryd.ntmps10
          go_wp2_with fail
          refine hc.mono ?_
          rintro e w1 ⟨rfl, hb⟩
          have h2 := h1.kept hb
          obtain ⟨x0, x1, x2⟩ := h2.cell k (by omega)
          obtain ⟨z0, z1, z2⟩ := cells3 (blk_below BR hb)
          go_wp2_with fail
          go_returns
          exact ⟨rfl, h2, But.of_below hg (hb0.trans (hb.mono hb0.size))⟩
        · have d3 : decide (s ≤ ((T[k]?).getD zE).s) = false := decide_eq_false a3
          rw [if_neg a3] at hF
          subst hF
          clear a1 a2 a3
          go_enter Tryd.func10, Tryd.ntmps10
          go_wp2_with fail
          refine hc.mono ?_
          rintro e w1 ⟨rfl, hb⟩
          have h2 := h1.kept hb
          obtain ⟨x0, x1, x2⟩ := h2.cell k (by omega)
          obtain ⟨z0, z1, z2⟩ := cells3 (blk_below BR hb)
          have f0 := h2.frozen (1 + k * 3)
          have f1 := h2.frozen (1 + k * 3 + 1)
          have f2 := h2.frozen (1 + k * 3 + 2)
          go_wp2_with fail
          have hne : ¬ w.heap.size = g := by omega
          have hne2 : ¬ g = w.heap.size := by omega
          go_region_held3 (fun w' => w'.cell? ⟨w.heap.size, 0, none⟩ = some (.int .i64 er) ∧ w'.cell? ⟨w.heap.size, 1, none⟩ = some (.bool b)) (first | exact ⟨z0, z1⟩ | go_keep) (fail)
          go_wp2_with fail
          go_returns
          exact ⟨rfl, h2.set k (by omega) ⟨s, er, b⟩, (But.of_below hg (hb0.trans (hb.mono hb0.size))).trans (((But.set1 g _ w1 _).trans (But.set1 g _ _ _)).trans ((But.set1 g _ _ _).trans (But.drew g _)))⟩
      · have d2 : decide (255 < er) = true := decide_eq_true (by omega)
        rw [if_neg (fun hh => a2 hh.2.2)] at hF
        subst hF
        clear a1 a2
        go_enter Tryd.func10, Tryd.ntmps10
        go_wp2_with fail
        refine hc.mono ?_
        rintro e w1 ⟨rfl, hb⟩
        obtain ⟨z0, z1, z2⟩ := cells3 (blk_below BR hb)
        go_wp2_with fail
        go_returns
        exact ⟨rfl, h1.kept hb, But.of_below hg (hb0.trans (hb.mono hb0.size))⟩
    · have d1 : decide (er < 0) = true := decide_eq_true (by omega)
      rw [if_neg (fun hh => a1 hh.2.1)] at hF
      subst hF
      clear a1
      go_enter Tryd.func10, Tryd.ntmps10
      go_wp2_with fail
      refine hc.mono ?_
      rintro e w1 ⟨rfl, hb⟩
      obtain ⟨z0, z1, z2⟩ := cells3 (blk_below BR hb)
      go_wp2_with fail
      go_returns
      exact ⟨rfl, h1.kept hb, But.of_below hg (hb0.trans (hb.mono hb0.size))⟩
def lastM (T : List Ent) (c : Int) : Int := if 0 ≤ c ∧ c < 8 then (T.getD c.toNat zE).s else 0
theorem mayM_one (c : Int) : mayM c 1 = true ↔ 0 ≤ c ∧ c < 8 := by
  rw [mayM_iff]
  constructor
  · rintro ⟨h1, h2, _, _⟩; exact ⟨h1, h2⟩
  · rintro ⟨h1, h2⟩; exact ⟨h1, h2, by decide, by decide⟩
set_option maxHeartbeats 4000000 in
set_option maxRecDepth 100000 in
theorem last_calls {w : World} {g : Nat} {T : List Ent} (h : Tab w g T) (c : Int) (F : Int) (hF : lastM T c = F) :
    Calls Tryd.prog 11 #[.pointer (some ⟨g, 0, none⟩), .int .i64 c] w fun e w' => e = .returned (.int .i64 F) ∧ Below w.heap.size w w' := by
  have hc := may_calls h c 1
  unfold lastM at hF
  cases hm : mayM c 1 with
  | false =>
    rw [hm] at hc
    rw [if_neg (fun hh => by rw [(mayM_one c).2 hh] at hm; cases hm)] at hF
    subst hF
    go_enter Tryd.func11, Tryd.ntmps11
    go_wp2_with fail
    refine hc.mono ?_
    rintro e w1 ⟨rfl, hb⟩
    go_wp2_with fail
    go_returns
    exact ⟨rfl, hb⟩
  | true =>
    rw [hm] at hc
    have hh := (mayM_one c).1 hm
    rw [if_pos hh] at hF
    obtain ⟨m0, m1⟩ := hh
    obtain ⟨k, rfl⟩ : ∃ k : Nat, c = (k : Int) := ⟨c.toNat, by omega⟩
    rw [Int.toNat_natCast] at hF
    go_enter Tryd.func11, Tryd.ntmps11
    go_wp2_with fail
    refine hc.mono ?_
    rintro e w1 ⟨rfl, hb⟩
    obtain ⟨x0, x1, x2⟩ := (h.kept hb).cell k (by omega)
    rw [hF] at x0
    go_wp2_with fail
    go_returns
    exact ⟨rfl, hb⟩
end Go.Proofs.YthlkcfjodmhhmaaDoor.Dd
namespace Go.Proofs.YthlkcfjodmhhmaaDoor.Dd
open Go.RowKit Go.Lib Go.Proofs.YthlkcfjodmhhmaaDoorW.PrintWords Go.Proofs.YthlkcfjodmhhmaaDoorW.PrintLast Go.Proofs.YthlkcfjodmhhmaaDoorW.PrintMore
set_option linter.unusedVariables false
set_option linter.unusedSimpArgs false
section
variable {P : Program} {ops : Array Oper} {rest : List Oper} {o : Oper} {a : Act} {w : World} {Q : Exit → Act → World → Prop}
theorem ev_load (hgd : o.guard = none) (ty : TypeId) (x : Operand) (ho : o.op = .load ty x) (ie : TypeInfo) (hie : P.info? ty = some ie) (hagg : ∀ w, (isAgg ty).run P w = .ok true w)
    (g off : Nat) (hx : a.eval x = .pointer (some ⟨g, off, none⟩)) (vs : List Value) (hs : vs.length = ie.size) (hc : ∀ k v, vs[k]? = some v → w.cell? ⟨g, off + k, none⟩ = some v)
    (h : wpList P ops Q rest (a.put o.dst (.agg vs.toArray)) w) : wpList P ops Q (o :: rest) a w := by
  refine Kd.event_run hgd ?_ h
  have := rl_loadVar_cells ty ie hie hagg g off vs hs w hc
  unfold execOp
  simp only [ho, hx, Instr.loadAt, Instr.sureAddr, Sem.run_bind, Sem.run_pure, Result.andThen_ok, this]
theorem ev_index (hgd : o.guard = none) (ty : TypeId) (x y : Operand) (ho : o.op = .index ty x y) (n : Nat) (e : TypeId) (hu : P.underlying ty = some (.array n e)) (m : Nat) (hsz : ∀ w, (sizeOf e).run P w = .ok m w) (hagg : ∀ w, (isAgg e).run P w = .ok true w)
    (cs : Array Value) (hx : a.eval x = .agg cs) (i : Nat) (hi : i < n) (hy : a.eval y = .int .i64 (i : Int)) (out : Array Value) (hout : cs.extract (i * m) (i * m + m) = out)
    (h : wpList P ops Q rest (a.put o.dst (.agg out)) w) : wpList P ops Q (o :: rest) a w := by
  refine Kd.event_run hgd ?_ h
  unfold execOp
  have hin : (0 : Int) ≤ (i : Int) ∧ (i : Int) < (n : Int) := ⟨by omega, by omega⟩
  simp only [ho, hx, hy, Instr.index, asIntOf, Sem.run_bind, Sem.run_pure, Result.andThen_ok, run_underlying hu, hin, hsz, if_true, Int.toNat_natCast, and_self, part, hagg]
  rw [hout]
end
theorem flat_extract : ∀ (T : List Ent) (i : Nat), i < T.length → ((T.flatMap Ent.cells).drop (i * 3)).take 3 = (T.getD i zE).cells
  | [], i, h => absurd h (Nat.not_lt_zero _)
  | x :: T, 0, h => by simp [Ent.cells]
  | x :: T, i + 1, h => by
    rw [List.flatMap_cons, show (i + 1) * 3 = (Ent.cells x).length + i * 3 by simp [Ent.cells]; omega, ← List.drop_drop, List.drop_left', flat_extract T i (by simpa using h)]
    · simp
    · rfl
theorem flat_len (T : List Ent) : (T.flatMap Ent.cells).length = 3 * T.length := by
  induction T with
  | nil => rfl
  | cons x T ih => rw [List.flatMap_cons, List.length_append, ih]; simp [Ent.cells]; omega
theorem arr_extract (T : List Ent) (i : Nat) (h : i < T.length) : (T.flatMap Ent.cells).toArray.extract (i * 3) (i * 3 + 3) = #[.int .i64 (T.getD i zE).s, .int .i64 (T.getD i zE).e, .bool (T.getD i zE).w] := by
  have := flat_extract T i h
  apply Array.toList_inj.1
  simp [List.extract_eq_take_drop, this, Ent.cells]
theorem Tab.all {w : World} {g : Nat} {T : List Ent} (h : Tab w g T) : ∀ k v, (T.flatMap Ent.cells)[k]? = some v → w.cell? ⟨g, 1 + k, none⟩ = some v := by
  intro k v hv
  rw [blk_cell h.2, Nat.add_comm]
  simpa [tabA] using hv
end Go.Proofs.YthlkcfjodmhhmaaDoor.Dd
namespace Go.Proofs.YthlkcfjodmhhmaaDoor.Giv
open Go.RowKit Go.Lib
set_option linter.unusedVariables false
set_option linter.unusedSimpArgs false
abbrev V := P.S66
def zV : V := ⟨0, 0, ⟨#[]⟩, []⟩
def intV (n : Int) : V := ⟨1, n, ⟨#[]⟩, []⟩
def strV (s : ByteArray) : V := ⟨2, 0, s, []⟩
def lisV (l : List V) : V := ⟨3, 0, ⟨#[]⟩, l⟩
mutual
def wt : V → Nat
  | ⟨_, _, s, L⟩ => 30 + 2 * s.size + wts L
def wts : List V → Nat
  | [] => 0
  | x :: xs => wt x + wts xs
end
mutual
def okV : V → Bool
  | ⟨_, n, _, L⟩ => decide (-9223372036854775808 ≤ n) && (decide (n ≤ 9223372036854775807) && okVs L)
def okVs : List V → Bool
  | [] => true
  | x :: xs => okV x && okVs xs
end
theorem okV_iff (v : V) : okV v = true ↔ -9223372036854775808 ≤ v.f1 ∧ v.f1 ≤ 9223372036854775807 ∧ okVs v.f3 = true := by
  obtain ⟨k, n, s, L⟩ := v
  rw [okV]
  simp
theorem okVs_cons (x : V) (xs : List V) : okVs (x :: xs) = true ↔ okV x = true ∧ okVs xs = true := by rw [okVs]; simp
theorem wt_eq (v : V) : wt v = 30 + 2 * v.f2.size + wts v.f3 := by obtain ⟨k, n, s, L⟩ := v; rw [wt]
theorem wts_cons (x : V) (xs : List V) : wts (x :: xs) = wt x + wts xs := by rw [wts]
theorem wts_nil : wts [] = 0 := by rw [wts]
theorem okVs_nil : okVs [] = true := by rw [okVs]
theorem wt_mem {x : V} : ∀ {L : List V}, x ∈ L → wt x ≤ wts L
  | y :: ys, h => by
    rw [wts_cons]
    rcases List.mem_cons.1 h with rfl | h
    · omega
    · have := wt_mem h; omega
theorem okV_mem {x : V} : ∀ {L : List V}, x ∈ L → okVs L = true → okV x = true
  | y :: ys, h, ho => by
    rw [okVs_cons] at ho
    rcases List.mem_cons.1 h with rfl | h
    · exact ho.1
    · exact okV_mem h ho.2
theorem wts_len : ∀ (L : List V), 30 * L.length ≤ wts L
  | [] => by simp
  | x :: xs => by rw [wts_cons]; have := wts_len xs; have := wt_eq x; simp; omega
mutual
def enc : V → List UInt8
  | ⟨k, n, s, L⟩ => if k = 1 then 105 :: (itoa n ++ [101]) else if k = 2 then itoa (s.size : Int) ++ (58 :: s.data.toList) else 108 :: (encs L ++ [101])
def encs : List V → List UInt8
  | [] => []
  | x :: xs => enc x ++ encs xs
end
theorem enc_eq (v : V) : enc v = if v.f0 = 1 then 105 :: (itoa v.f1 ++ [101]) else if v.f0 = 2 then itoa (v.f2.size : Int) ++ (58 :: v.f2.data.toList) else 108 :: (encs v.f3 ++ [101]) := by
  obtain ⟨k, n, s, L⟩ := v; rw [enc]
theorem encs_cons (x : V) (xs : List V) : encs (x :: xs) = enc x ++ encs xs := by rw [encs]
theorem encs_nil : encs [] = [] := by rw [encs]
mutual
def putc : List UInt8 → V → List UInt8
  | l, ⟨k, n, s, L⟩ => if 65536 < l.length then l else if k = 1 then l ++ (105 :: (itoa n ++ [101])) else if k = 2 then l ++ (itoa (s.size : Int) ++ (58 :: s.data.toList)) else putcs (l ++ [108]) L ++ [101]
def putcs : List UInt8 → List V → List UInt8
  | l, [] => l
  | l, x :: xs => putcs (putc l x) xs
end
theorem putc_eq (l : List UInt8) (v : V) : putc l v = if 65536 < l.length then l else if v.f0 = 1 then l ++ (105 :: (itoa v.f1 ++ [101])) else if v.f0 = 2 then l ++ (itoa (v.f2.size : Int) ++ (58 :: v.f2.data.toList)) else putcs (l ++ [108]) v.f3 ++ [101] := by
  obtain ⟨k, n, s, L⟩ := v; rw [putc]
theorem putcs_cons (l : List UInt8) (x : V) (xs : List V) : putcs l (x :: xs) = putcs (putc l x) xs := by rw [putcs]
theorem putcs_nil (l : List UInt8) : putcs l [] = l := by rw [putcs]
theorem putcs_snoc (l : List UInt8) (L : List V) (x : V) : putcs l (L ++ [x]) = putc (putcs l L) x := by
  induction L generalizing l with
  | nil => rw [List.nil_append, putcs_cons, putcs_nil, putcs_nil]
  | cons y ys ih => rw [List.cons_append, putcs_cons, putcs_cons, ih]
theorem dd_small {u : Nat} (h : u < 10) : decDigits u = [UInt8.ofNat (48 + u)] := by rw [decDigits, dif_pos h]
theorem dd_big {u : Nat} (h : ¬ u < 10) : decDigits u = decDigits (u / 10) ++ [UInt8.ofNat (48 + u % 10)] := by rw [decDigits, dif_neg h]
theorem dd_len (k u : Nat) (h : u < 10 ^ (k + 1)) : (decDigits u).length ≤ k + 1 := by
  induction k generalizing u with
  | zero => rw [dd_small (by simpa using h)]; simp
  | succ k ih =>
    by_cases c : u < 10
    · rw [dd_small c]; simp
    · rw [dd_big c]
      have := ih (u / 10) (by rw [Nat.pow_succ] at h; omega)
      simp
      omega
theorem dd_any (u : Nat) : 2 * (decDigits u).length ≤ u + 29 := by
  induction u using Nat.strongRecOn with
  | _ u ih =>
    by_cases c : u < 10
    · rw [dd_small c]; simp
    · rw [dd_big c]
      have := ih (u / 10) (by omega)
      simp
      omega
theorem dd_pos (u : Nat) : 1 ≤ (decDigits u).length := by
  by_cases c : u < 10
  · rw [dd_small c]; simp
  · rw [dd_big c]; simp
theorem itoa_len {n : Int} (h0 : -9223372036854775808 ≤ n) (h1 : n ≤ 9223372036854775807) : 1 ≤ (itoa n).length ∧ (itoa n).length ≤ 20 := by
  unfold itoa
  split
  · have := dd_len 18 n.natAbs (by have : n.natAbs ≤ 9223372036854775808 := by omega
                                   exact Nat.lt_of_le_of_lt this (by decide))
    simp; omega
  · have := dd_len 18 n.toNat (by have : n.toNat ≤ 9223372036854775807 := by omega
                                  exact Nat.lt_of_le_of_lt this (by decide))
    have := dd_pos n.toNat
    omega
theorem data_size (s : ByteArray) : s.data.toList.length = s.size := by rw [Array.length_toList]; rfl
mutual
theorem putc_grows : ∀ (v : V) (l : List UInt8), l.length ≤ (putc l v).length
  | ⟨k, n, s, L⟩, l => by
    rw [putc]
    split
    · omega
    · split
      · simp
      · split
        · simp
        · have := putcs_grows L (l ++ [108])
          simp at this ⊢
          omega
theorem putcs_grows : ∀ (L : List V) (l : List UInt8), l.length ≤ (putcs l L).length
  | [], l => by rw [putcs]; omega
  | x :: xs, l => by
    rw [putcs]
    have := putc_grows x l
    have := putcs_grows xs (putc l x)
    omega
end
mutual
theorem putc_spec : ∀ (v : V) (l : List UInt8), ((l ++ enc v).length ≤ 65536 → putc l v = l ++ enc v) ∧ (65536 < (l ++ enc v).length → 65536 < (putc l v).length)
  | ⟨k, n, s, L⟩, l => by
    rw [putc, enc]
    by_cases c : 65536 < l.length
    · rw [if_pos c]
      exact ⟨fun h => by rw [List.length_append] at h; omega, fun _ => c⟩
    · rw [if_neg c]
      by_cases c1 : k = 1
      · rw [if_pos c1, if_pos c1]; exact ⟨fun _ => rfl, fun h => h⟩
      · rw [if_neg c1, if_neg c1]
        by_cases c2 : k = 2
        · rw [if_pos c2, if_pos c2]; exact ⟨fun _ => rfl, fun h => h⟩
        · rw [if_neg c2, if_neg c2]
          have := putcs_spec L (l ++ [108])
          simp only [List.length_append, List.length_cons, List.length_nil] at this ⊢
          constructor
          · intro h
            rw [this.1 (by omega)]
            simp
          · intro h
            by_cases e : l.length + 1 + (encs L).length ≤ 65536
            · rw [this.1 (by omega)]
              simp
              omega
            · have := this.2 (by omega)
              omega
theorem putcs_spec : ∀ (L : List V) (l : List UInt8), ((l ++ encs L).length ≤ 65536 → putcs l L = l ++ encs L) ∧ (65536 < (l ++ encs L).length → 65536 < (putcs l L).length)
  | [], l => by rw [putcs, encs, List.append_nil]; exact ⟨fun _ => rfl, fun h => h⟩
  | x :: xs, l => by
    rw [putcs, encs]
    have h1 := putc_spec x l
    have h2 := putcs_spec xs (putc l x)
    simp only [List.length_append] at h1 h2 ⊢
    constructor
    · intro h
      have e := h1.1 (by omega)
      rw [e] at h2 ⊢
      rw [h2.1 (by simp; omega), List.append_assoc]
    · intro h
      by_cases c : l.length + (enc x).length ≤ 65536
      · have e := h1.1 c
        rw [e] at h2 ⊢
        exact h2.2 (by simp; omega)
      · have := h1.2 (by omega)
        have := putcs_grows xs (putc l x)
        omega
end
mutual
theorem putc_le : ∀ (v : V) (l : List UInt8), okV v = true → (putc l v).length ≤ l.length + wt v
  | ⟨k, n, s, L⟩, l, ho => by
    obtain ⟨h0, h1, h2⟩ := (okV_iff _).1 ho
    replace h0 : -9223372036854775808 ≤ n := h0
    replace h1 : n ≤ 9223372036854775807 := h1
    rw [putc, wt]
    split
    · omega
    · split
      · have := itoa_len h0 h1; simp; omega
      · split
        · have hz := data_size s
          have e : ((s.size : Int)).toNat = s.size := by omega
          have hd := dd_any s.size
          simp only [List.length_append, List.length_cons, hz, itoa]
          rw [if_neg (by omega), e]
          omega
        · have := putcs_le L (l ++ [108]) h2
          simp at this ⊢
          omega
theorem putcs_le : ∀ (L : List V) (l : List UInt8), okVs L = true → (putcs l L).length ≤ l.length + wts L
  | [], l, _ => by rw [putcs]; omega
  | x :: xs, l, ho => by
    rw [okVs_cons] at ho
    rw [putcs, wts]
    have := putc_le x l ho.1
    have := putcs_le xs (putc l x) ho.2
    omega
end
end Go.Proofs.YthlkcfjodmhhmaaDoor.Giv
namespace Go.Proofs
open Go.Shelf Go.RowKit Go.Lib
def Tryd.LaysM_n171_ren : Go.Shelf.Ren := ⟨fun | 0 => 0 | 1 => 1 | 2 => 2 | 129 => 59 | 166 => 38 | 169 => 32 | 170 => 31 | 171 => 39 | 240 => 44 | 243 => 45 | 246 => 53 | 276 => 52 | 283 => 54 | 284 => 55 | 285 => 56 | 286 => 57 | 317 => 58 | 318 => 60 | 319 => 61 | 320 => 62 | 337 => 63 | 338 => 64 | 347 => 65 | 348 => 66 | 349 => 67 | 350 => 68 | 351 => 69 | 352 => 70 | 353 => 71 | 354 => 72 | 355 => 73 | 356 => 74 | 357 => 75 | 358 => 76 | 359 => 77 | 360 => 78 | 361 => 79 | 362 => 80 | 366 => 81 | 367 => 87 | n => n, fun | 0 => 0 | 1 => 1 | 2 => 2 | 3 => 3 | 4 => 4 | 5 => 5 | 6 => 6 | 7 => 7 | 8 => 8 | 9 => 9 | 10 => 10 | 11 => 11 | 12 => 12 | 13 => 13 | 14 => 14 | 15 => 15 | 16 => 16 | 17 => 17 | 18 => 18 | 19 => 19 | 20 => 20 | 21 => 21 | 28 => 25 | 37 => 75 | 46 => 118 | 47 => 119 | 51 => 115 | 52 => 120 | 53 => 108 | 54 => 109 | 70 => 74 | 71 => 76 | 72 => 77 | 74 => 85 | 75 => 86 | 76 => 87 | 77 => 88 | 80 => 37 | 81 => 79 | 83 => 89 | 84 => 106 | 104 => 61 | 111 => 117 | 112 => 63 | 114 => 32 | 127 => 90 | 164 => 104 | 165 => 105 | 171 => 107 | 172 => 110 | 173 => 111 | 174 => 112 | 211 => 113 | 212 => 114 | 213 => 116 | 232 => 121 | 233 => 122 | 238 => 123 | 239 => 124 | 240 => 125 | 241 => 126 | 242 => 127 | 243 => 128 | 244 => 129 | 245 => 130 | 246 => 131 | 247 => 132 | 248 => 133 | 249 => 134 | n => n, fun | 17 => 0 | 18 => 1 | 19 => 2 | n => n⟩
theorem Tryd.LaysM_n171 : LaysM.n171 Tryd.prog Tryd.LaysM_n171_ren := {
  mixed := by kernel_rfl,
  f129 := Tryd.func59.trans (congrArg some (by kernel_rfl)),
  f171 := Tryd.func39.trans (congrArg some (by kernel_rfl)),
  f243 := Tryd.func45.trans (congrArg some (by kernel_rfl)),
  f246 := Tryd.func53.trans (congrArg some (by kernel_rfl)),
  f283 := Tryd.func54.trans (congrArg some (by kernel_rfl)),
  f284 := Tryd.func55.trans (congrArg some (by kernel_rfl)),
  f285 := Tryd.func56.trans (congrArg some (by kernel_rfl)),
  f286 := Tryd.func57.trans (congrArg some (by kernel_rfl)),
  f317 := Tryd.func58.trans (congrArg some (by kernel_rfl)),
  f318 := Tryd.func60.trans (congrArg some (by kernel_rfl)),
  f319 := Tryd.func61.trans (congrArg some (by kernel_rfl)),
  f320 := Tryd.func62.trans (congrArg some (by kernel_rfl)),
  f337 := Tryd.func63.trans (congrArg some (by kernel_rfl)),
  f338 := Tryd.func64.trans (congrArg some (by kernel_rfl)),
  t0 := Tryd.underlying0,
  a0 := Tryd.isAgg0,
  z0 := Tryd.sizeOf0,
  v0 := Tryd.zeroValue0,
  t2 := Tryd.underlying2,
  a2 := Tryd.isAgg2,
  z2 := Tryd.sizeOf2,
  v2 := Tryd.zeroValue2,
  t3 := Tryd.underlying3,
  a3 := Tryd.isAgg3,
  z3 := Tryd.sizeOf3,
  v3 := Tryd.zeroValue3,
  t4 := Tryd.underlying4,
  a4 := Tryd.isAgg4,
  z4 := Tryd.sizeOf4,
  v4 := Tryd.zeroValue4,
  t5 := Tryd.underlying5,
  a5 := Tryd.isAgg5,
  z5 := Tryd.sizeOf5,
  v5 := Tryd.zeroValue5,
  t9 := Tryd.underlying9,
  a9 := Tryd.isAgg9,
  z9 := Tryd.sizeOf9,
  v9 := Tryd.zeroValue9,
  t20 := Tryd.underlying20,
  a20 := Tryd.isAgg20,
  z20 := Tryd.sizeOf20,
  v20 := Tryd.zeroValue20,
  t37 := Tryd.underlying75,
  a37 := Tryd.isAgg75,
  z37 := Tryd.sizeOf75,
  v37 := Tryd.zeroValue75,
  t46 := Tryd.underlying118,
  a46 := Tryd.isAgg118,
  z46 := Tryd.sizeOf118,
  v46 := Tryd.zeroValue118,
  t51 := Tryd.underlying115,
  a51 := Tryd.isAgg115,
  z51 := Tryd.sizeOf115,
  v51 := Tryd.zeroValue115,
  t53 := Tryd.underlying108,
  a53 := Tryd.isAgg108,
  z53 := Tryd.sizeOf108,
  v53 := Tryd.zeroValue108,
  t171 := Tryd.underlying107,
  a171 := Tryd.isAgg107,
  z171 := Tryd.sizeOf107,
  v171 := Tryd.zeroValue107,
  t173 := Tryd.underlying111,
  a173 := Tryd.isAgg111,
  z173 := Tryd.sizeOf111,
  v173 := Tryd.zeroValue111,
  t212 := Tryd.underlying114,
  a212 := Tryd.isAgg114,
  z212 := Tryd.sizeOf114,
  v212 := Tryd.zeroValue114,
  t213 := Tryd.underlying116,
  a213 := Tryd.isAgg116,
  z213 := Tryd.sizeOf116,
  t232 := Tryd.underlying121,
  a232 := Tryd.isAgg121,
  z232 := Tryd.sizeOf121,
  v232 := Tryd.zeroValue121,
  t233 := Tryd.underlying122,
  a233 := Tryd.isAgg122,
  z233 := Tryd.sizeOf122,
  v233 := Tryd.zeroValue122,
  g17 := by kernel_rfl,
  g18 := by kernel_rfl,
  g19 := by kernel_rfl,
  i0 := by kernel_rfl,
  i2 := by kernel_rfl,
  i3 := by kernel_rfl,
  i4 := by kernel_rfl,
  i5 := by kernel_rfl,
  i9 := by kernel_rfl,
  i20 := by kernel_rfl,
  i37 := by kernel_rfl,
  i46 := by kernel_rfl,
  i51 := by kernel_rfl,
  i53 := by kernel_rfl,
  i171 := by kernel_rfl,
  i173 := by kernel_rfl,
  i212 := by kernel_rfl,
  i232 := by kernel_rfl,
  i233 := by kernel_rfl,
  m17 := by kernel_rfl,
  m18 := by kernel_rfl,
  m19 := by kernel_rfl }
def Tryd.lays166_ren : Go.Shelf.Ren := ⟨fun | 0 => 0 | 1 => 1 | 2 => 2 | 129 => 59 | 166 => 38 | 169 => 32 | 170 => 31 | 171 => 39 | 240 => 44 | 243 => 45 | 246 => 53 | 276 => 52 | 283 => 54 | 284 => 55 | 285 => 56 | 286 => 57 | 317 => 58 | 318 => 60 | 319 => 61 | 320 => 62 | 337 => 63 | 338 => 64 | 347 => 65 | 348 => 66 | 349 => 67 | 350 => 68 | 351 => 69 | 352 => 70 | 353 => 71 | 354 => 72 | 355 => 73 | 356 => 74 | 357 => 75 | 358 => 76 | 359 => 77 | 360 => 78 | 361 => 79 | 362 => 80 | 366 => 81 | 367 => 87 | n => n, fun | 0 => 0 | 1 => 1 | 2 => 2 | 3 => 3 | 4 => 4 | 5 => 5 | 6 => 6 | 7 => 7 | 8 => 8 | 9 => 9 | 10 => 10 | 11 => 11 | 12 => 12 | 13 => 13 | 14 => 14 | 15 => 15 | 16 => 16 | 17 => 17 | 18 => 18 | 19 => 19 | 20 => 20 | 21 => 21 | 28 => 25 | 37 => 75 | 46 => 118 | 47 => 119 | 51 => 115 | 52 => 120 | 53 => 108 | 54 => 109 | 70 => 74 | 71 => 76 | 72 => 77 | 74 => 85 | 75 => 86 | 76 => 87 | 77 => 88 | 80 => 37 | 81 => 79 | 83 => 89 | 84 => 106 | 104 => 61 | 111 => 117 | 112 => 63 | 114 => 32 | 127 => 90 | 164 => 104 | 165 => 105 | 171 => 107 | 172 => 110 | 173 => 111 | 174 => 112 | 211 => 113 | 212 => 114 | 213 => 116 | 232 => 121 | 233 => 122 | 238 => 123 | 239 => 124 | 240 => 125 | 241 => 126 | 242 => 127 | 243 => 128 | 244 => 129 | 245 => 130 | 246 => 131 | 247 => 132 | 248 => 133 | 249 => 134 | n => n, fun | 17 => 0 | 18 => 1 | 19 => 2 | n => n⟩
theorem Tryd.lays166 : Lays.n166 Tryd.prog Tryd.lays166_ren := {
  mixed := by kernel_rfl,
  f166 := Tryd.func38.trans (congrArg some (by kernel_rfl)),
  f240 := Tryd.func44.trans (congrArg some (by kernel_rfl)),
  f276 := Tryd.func52.trans (congrArg some (by kernel_rfl)),
  t0 := Tryd.underlying0,
  a0 := Tryd.isAgg0,
  z0 := Tryd.sizeOf0,
  v0 := Tryd.zeroValue0,
  t3 := Tryd.underlying3,
  a3 := Tryd.isAgg3,
  z3 := Tryd.sizeOf3,
  v3 := Tryd.zeroValue3,
  t4 := Tryd.underlying4,
  a4 := Tryd.isAgg4,
  z4 := Tryd.sizeOf4,
  v4 := Tryd.zeroValue4,
  t9 := Tryd.underlying9,
  a9 := Tryd.isAgg9,
  z9 := Tryd.sizeOf9,
  v9 := Tryd.zeroValue9,
  t20 := Tryd.underlying20,
  a20 := Tryd.isAgg20,
  z20 := Tryd.sizeOf20,
  v20 := Tryd.zeroValue20,
  t37 := Tryd.underlying75,
  a37 := Tryd.isAgg75,
  z37 := Tryd.sizeOf75,
  v37 := Tryd.zeroValue75,
  t70 := Tryd.underlying74,
  a70 := Tryd.isAgg74,
  z70 := Tryd.sizeOf74,
  v70 := Tryd.zeroValue74,
  t72 := Tryd.underlying77,
  a72 := Tryd.isAgg77,
  z72 := Tryd.sizeOf77,
  v72 := Tryd.zeroValue77,
  t75 := Tryd.underlying86,
  a75 := Tryd.isAgg86,
  z75 := Tryd.sizeOf86,
  v75 := Tryd.zeroValue86,
  t164 := Tryd.underlying104,
  a164 := Tryd.isAgg104,
  z164 := Tryd.sizeOf104,
  v164 := Tryd.zeroValue104 }
def Tryd.lays169_ren : Go.Shelf.Ren := ⟨fun | 0 => 0 | 1 => 1 | 2 => 2 | 129 => 59 | 166 => 38 | 169 => 32 | 170 => 31 | 171 => 39 | 240 => 44 | 243 => 45 | 246 => 53 | 276 => 52 | 283 => 54 | 284 => 55 | 285 => 56 | 286 => 57 | 317 => 58 | 318 => 60 | 319 => 61 | 320 => 62 | 337 => 63 | 338 => 64 | 347 => 65 | 348 => 66 | 349 => 67 | 350 => 68 | 351 => 69 | 352 => 70 | 353 => 71 | 354 => 72 | 355 => 73 | 356 => 74 | 357 => 75 | 358 => 76 | 359 => 77 | 360 => 78 | 361 => 79 | 362 => 80 | 366 => 81 | 367 => 87 | n => n, fun | 0 => 0 | 1 => 1 | 2 => 2 | 3 => 3 | 4 => 4 | 5 => 5 | 6 => 6 | 7 => 7 | 8 => 8 | 9 => 9 | 10 => 10 | 11 => 11 | 12 => 12 | 13 => 13 | 14 => 14 | 15 => 15 | 16 => 16 | 17 => 17 | 18 => 18 | 19 => 19 | 20 => 20 | 21 => 21 | 28 => 25 | 37 => 75 | 46 => 118 | 47 => 119 | 51 => 115 | 52 => 120 | 53 => 108 | 54 => 109 | 70 => 74 | 71 => 76 | 72 => 77 | 74 => 85 | 75 => 86 | 76 => 87 | 77 => 88 | 80 => 37 | 81 => 79 | 83 => 89 | 84 => 106 | 104 => 61 | 111 => 117 | 112 => 63 | 114 => 32 | 127 => 90 | 164 => 104 | 165 => 105 | 171 => 107 | 172 => 110 | 173 => 111 | 174 => 112 | 211 => 113 | 212 => 114 | 213 => 116 | 232 => 121 | 233 => 122 | 238 => 123 | 239 => 124 | 240 => 125 | 241 => 126 | 242 => 127 | 243 => 128 | 244 => 129 | 245 => 130 | 246 => 131 | 247 => 132 | 248 => 133 | 249 => 134 | n => n, fun | 17 => 0 | 18 => 1 | 19 => 2 | n => n⟩
theorem Tryd.lays169 : Lays.n169 Tryd.prog Tryd.lays169_ren := {
  mixed := by kernel_rfl,
  f169 := Tryd.func32.trans (congrArg some (by kernel_rfl)),
  t0 := Tryd.underlying0,
  a0 := Tryd.isAgg0,
  z0 := Tryd.sizeOf0,
  v0 := Tryd.zeroValue0,
  t3 := Tryd.underlying3,
  a3 := Tryd.isAgg3,
  z3 := Tryd.sizeOf3,
  v3 := Tryd.zeroValue3,
  t9 := Tryd.underlying9,
  a9 := Tryd.isAgg9,
  z9 := Tryd.sizeOf9,
  v9 := Tryd.zeroValue9,
  t37 := Tryd.underlying75,
  a37 := Tryd.isAgg75,
  z37 := Tryd.sizeOf75,
  v37 := Tryd.zeroValue75,
  t70 := Tryd.underlying74,
  a70 := Tryd.isAgg74,
  z70 := Tryd.sizeOf74,
  v70 := Tryd.zeroValue74,
  t72 := Tryd.underlying77,
  a72 := Tryd.isAgg77,
  z72 := Tryd.sizeOf77,
  v72 := Tryd.zeroValue77,
  t127 := Tryd.underlying90,
  a127 := Tryd.isAgg90,
  z127 := Tryd.sizeOf90,
  v127 := Tryd.zeroValue90 }
def Tryd.lays170_ren : Go.Shelf.Ren := ⟨fun | 0 => 0 | 1 => 1 | 2 => 2 | 129 => 59 | 166 => 38 | 169 => 32 | 170 => 31 | 171 => 39 | 240 => 44 | 243 => 45 | 246 => 53 | 276 => 52 | 283 => 54 | 284 => 55 | 285 => 56 | 286 => 57 | 317 => 58 | 318 => 60 | 319 => 61 | 320 => 62 | 337 => 63 | 338 => 64 | 347 => 65 | 348 => 66 | 349 => 67 | 350 => 68 | 351 => 69 | 352 => 70 | 353 => 71 | 354 => 72 | 355 => 73 | 356 => 74 | 357 => 75 | 358 => 76 | 359 => 77 | 360 => 78 | 361 => 79 | 362 => 80 | 366 => 81 | 367 => 87 | n => n, fun | 0 => 0 | 1 => 1 | 2 => 2 | 3 => 3 | 4 => 4 | 5 => 5 | 6 => 6 | 7 => 7 | 8 => 8 | 9 => 9 | 10 => 10 | 11 => 11 | 12 => 12 | 13 => 13 | 14 => 14 | 15 => 15 | 16 => 16 | 17 => 17 | 18 => 18 | 19 => 19 | 20 => 20 | 21 => 21 | 28 => 25 | 37 => 75 | 46 => 118 | 47 => 119 | 51 => 115 | 52 => 120 | 53 => 108 | 54 => 109 | 70 => 74 | 71 => 76 | 72 => 77 | 74 => 85 | 75 => 86 | 76 => 87 | 77 => 88 | 80 => 37 | 81 => 79 | 83 => 89 | 84 => 106 | 104 => 61 | 111 => 117 | 112 => 63 | 114 => 32 | 127 => 90 | 164 => 104 | 165 => 105 | 171 => 107 | 172 => 110 | 173 => 111 | 174 => 112 | 211 => 113 | 212 => 114 | 213 => 116 | 232 => 121 | 233 => 122 | 238 => 123 | 239 => 124 | 240 => 125 | 241 => 126 | 242 => 127 | 243 => 128 | 244 => 129 | 245 => 130 | 246 => 131 | 247 => 132 | 248 => 133 | 249 => 134 | n => n, fun | 17 => 0 | 18 => 1 | 19 => 2 | n => n⟩
theorem Tryd.lays170 : Lays.n170 Tryd.prog Tryd.lays170_ren := {
  mixed := by kernel_rfl,
  f170 := Tryd.func31.trans (congrArg some (by kernel_rfl)),
  t0 := Tryd.underlying0,
  a0 := Tryd.isAgg0,
  z0 := Tryd.sizeOf0,
  v0 := Tryd.zeroValue0,
  t3 := Tryd.underlying3,
  a3 := Tryd.isAgg3,
  z3 := Tryd.sizeOf3,
  v3 := Tryd.zeroValue3,
  t37 := Tryd.underlying75,
  a37 := Tryd.isAgg75,
  z37 := Tryd.sizeOf75,
  v37 := Tryd.zeroValue75,
  t70 := Tryd.underlying74,
  a70 := Tryd.isAgg74,
  z70 := Tryd.sizeOf74,
  v70 := Tryd.zeroValue74,
  t72 := Tryd.underlying77,
  a72 := Tryd.isAgg77,
  z72 := Tryd.sizeOf77,
  v72 := Tryd.zeroValue77 }
theorem Tryd.Builder_Extra_166 : Builder.Extra Tryd.prog Tryd.lays166_ren := { sizeBuilder := by kernel_rfl, liesBuilder := by kernel_rfl, t5 := Tryd.underlying5, a5 := Tryd.isAgg5, z5 := Tryd.sizeOf5, v5 := Tryd.zeroValue5, infoByte := by kernel_rfl, cellsByte := by kernel_rfl, sizeByte := by kernel_rfl, neB5 := by decide }
theorem Tryd.Builder_Extra_169 : Builder.Extra Tryd.prog Tryd.lays169_ren := { sizeBuilder := by kernel_rfl, liesBuilder := by kernel_rfl, t5 := Tryd.underlying5, a5 := Tryd.isAgg5, z5 := Tryd.sizeOf5, v5 := Tryd.zeroValue5, infoByte := by kernel_rfl, cellsByte := by kernel_rfl, sizeByte := by kernel_rfl, neB5 := by decide }
end Go.Proofs
namespace Go.Proofs.YthlkcfjodmhhmaaDoor.Giv
open Go.RowKit Go.Lib Go.Sort Go.Proofs.YthlkcfjodmhhmaaDoorW.PrintWords Go.Proofs.YthlkcfjodmhhmaaDoorW.PrintLast Go.Proofs.YthlkcfjodmhhmaaDoorW.PrintMore
set_option linter.unusedVariables false
set_option linter.unusedSimpArgs false
def LaidW (w : World) : Prop := Lib.TabIs Tryd.prog w "internal/strconv.uint64pow10" .u64 Lib.pow10Tab
theorem tabIs_below {n : String} {g : Nat} {k : IntKind} {zs : List Int} {w w' : World} (hg : Tryd.prog.globalNamed n = some g) (h : Lib.TabIs Tryd.prog w n k zs) (hb : Below w.heap.size w w') : Lib.TabIs Tryd.prog w' n k zs := by
  unfold Lib.TabIs World.var? at h ⊢
  rw [hg] at h ⊢
  simp only [Option.bind_some] at h ⊢
  have hlt : g < w.heap.size := by
    rcases Nat.lt_or_ge g w.heap.size with h' | h'
    · exact h'
    · rw [Array.getElem?_eq_none h'] at h; cases h
  rw [hb.block g hlt]
  exact h
theorem pow10_named : Tryd.prog.globalNamed "internal/strconv.uint64pow10" = some 0 := by kernel_rfl
theorem LaidW.below {w w' : World} (h : LaidW w) (hb : Below w.heap.size w w') : LaidW w' := tabIs_below pow10_named h hb
theorem below_grow (w : World) (n : Nat) (os : Array Obj) : Below w.heap.size w (grow (w.drewN n) os) :=
  ⟨rfl, rfl, rfl, by simp [grow], fun b hb => by
    show (w.heap ++ os)[b]? = _
    rw [Array.getElem?_append_left hb]⟩
theorem itoa_calls (n : Int) (w : World) (h0 : -9223372036854775808 ≤ n) (h1 : n ≤ 9223372036854775807) (hL : LaidW w) :
    Calls Tryd.prog 39 #[.int .i64 n] w fun e w' => e = .returned (.string ⟨(Lib.itoa n).toArray⟩) ∧ Below w.heap.size w w' := by
  have c : Calls Tryd.prog 39 #[.int .i64 n] w _ := Any.strconv_Itoa Tryd.LaysM_n171 n h0 h1 w hL
  refine c.mono ?_
  rintro e w' ⟨he, k, os, rfl⟩
  exact ⟨he, below_grow w k os⟩
def Bd (B b : Nat) (l : List UInt8) (w : World) : Prop := B ≤ w.heap.size ∧ Lib.IsBuilderF 77 5 B b (Lib.byteCells l) w
theorem Bd.lt {B b : Nat} {l : List UInt8} {w : World} (h : Bd B b l w) : b < w.heap.size := h.2.elim (fun x => x.lt) (fun x => x.lt)
theorem builderAtF_below {T e B b : Nat} {p : Value} {bs : List Value} {w w' : World} (h : Lib.BuilderAtF T e B b p bs w) (hb : Below w.heap.size w w') : Lib.BuilderAtF T e B b p bs w' := by
  have hlt := h.lt
  obtain ⟨hB, v, hc, hown, hne⟩ := h
  exact ⟨hB, v, (hb.block b hlt).trans hc, hown.kept (row := none) (grown_of_below hb none) (by cases v.ownBlock <;> simp), hne⟩
theorem Bd.below {B b : Nat} {l : List UInt8} {w w' : World} (h : Bd B b l w) (hb : Below w.heap.size w w') : Bd B b l w' :=
  ⟨Nat.le_trans h.1 hb.size, h.2.elim (fun x => .inl (builderAtF_below x hb)) (fun x => .inr (builderAtF_below x hb))⟩
theorem byteCells_length (l : List UInt8) : (Lib.byteCells l).length = l.length := by simp [Lib.byteCells]
theorem byteCells_app (l : List UInt8) (s : ByteArray) : Lib.byteCells l ++ Lib.strCells s = Lib.byteCells (l ++ s.data.toList) := by simp [Lib.byteCells, Lib.strCells]
theorem len_calls {B b : Nat} {l : List UInt8} {w : World} (h : Bd B b l w) :
    Calls Tryd.prog 31 #[.pointer (some ⟨b, 0, none⟩)] w fun e w' => e = .returned (.int .i64 (l.length : Int)) ∧ w = w' := by
  have c : Calls Tryd.prog 31 #[.pointer (some ⟨b, 0, none⟩)] w _ := Any.Builder_Len_f Tryd.lays170 B b _ w h.2
  refine c.mono ?_
  rintro e w' ⟨rfl, rfl⟩
  exact ⟨by rw [byteCells_length], rfl⟩
theorem ws_calls {B b : Nat} {l : List UInt8} {w : World} (s : ByteArray) (h : Bd B b l w) (hl : l.length + s.size ≤ 140737488355328) :
    Calls Tryd.prog 38 #[.pointer (some ⟨b, 0, none⟩), .string s] w fun e w' => e = .returned (.tuple #[.int .i64 s.size, .nilIface]) ∧ Bd B b (l ++ s.data.toList) w' ∧ Below B w w' ∧ Lib.OthersKept 5 (some b) w w' := by
  have c : Calls Tryd.prog 38 #[.pointer (some ⟨b, 0, none⟩), .string s] w _ := Any.Builder_WriteString_k Tryd.lays166 Tryd.Builder_Extra_166 B b _ s w h.2 (by rw [byteCells_length]; exact hl) h.1
  refine c.mono ?_
  rintro e w' ⟨rfl, h1, h2, h3⟩
  rw [byteCells_app] at h1
  exact ⟨rfl, ⟨Nat.le_trans h.1 h2.size, .inr h1⟩, h2, h3⟩
theorem kept_cell {w w1 w2 : World} {cs : Array Value} {b k j : Nat} {u : Value} (hb : Below w.heap.size w w1) (ho : Lib.OthersKept 5 (some b) w1 w2) (hbk : w.heap[k]? = some (.cells cs 66 (0, 0))) (hne : k ≠ b) (hc : w.cell? ⟨k, j, none⟩ = some u) : w2.cell? ⟨k, j, none⟩ = some u := by
  have hlt : k < w.heap.size := (Array.getElem?_eq_some_iff.1 hbk).1
  have h2 := ho k _ ((hb.block k hlt).trans hbk) (fun e => hne (Option.some.inj e)) (fun c fz e => by injection e with _ e2 _; exact absurd e2 (by decide))
  unfold World.cell? at hc ⊢
  simp only [hbk, h2] at hc ⊢
  exact hc
theorem okVs_take {L : List V} (h : okVs L = true) : ∀ i, okVs (L.take i) = true := by
  induction L with
  | nil => intro i; rw [List.take_nil]; exact okVs_nil
  | cons x xs ih =>
    intro i
    rw [okVs_cons] at h
    cases i with
    | zero => rw [List.take_zero]; exact okVs_nil
    | succ i => rw [List.take_succ_cons, okVs_cons]; exact ⟨h.1, ih h.2 i⟩
theorem wts_take : ∀ (L : List V) (i : Nat) (h : i < L.length), wts (L.take i) + wt L[i] ≤ wts L
  | x :: xs, 0, h => by rw [List.take_zero, wts_nil, wts_cons]; simp
  | x :: xs, i + 1, h => by
    rw [List.take_succ_cons, wts_cons, wts_cons]
    have := wts_take xs i (by simpa using h)
    simp
    omega
theorem data_app (a b : ByteArray) : (a ++ b).data.toList = a.data.toList ++ b.data.toList := by
  rw [ByteArray.data_append, Array.toList_append]
theorem str_calls {B b : Nat} {l : List UInt8} {w : World} (h : Bd B b l w) :
    Calls Tryd.prog 32 #[.pointer (some ⟨b, 0, none⟩)] w fun e w' => e = .returned (.string ⟨l.toArray⟩) ∧ Below B w w' := by
  have c : Calls Tryd.prog 32 #[.pointer (some ⟨b, 0, none⟩)] w _ := Any.Builder_String_any_k Tryd.lays169 Tryd.Builder_Extra_169 B b l w h.2 h.1
  refine c.mono ?_
  rintro e w' ⟨rfl, -, h2, -⟩
  exact ⟨rfl, h2⟩
set_option maxHeartbeats 4000000 in
set_option maxRecDepth 100000 in
theorem put_calls (n : Nat) : ∀ (v : V) (A : Option Addr) (c : Nat) (l : List UInt8) (w0 w : World) (B b : Nat), wt v ≤ n → okV v = true → l.length + wt v ≤ 140737488355328 → LaidW w0 → Kd.C P.k66 w0 A v.f3.length v.f3 → v.f3.length ≤ c → w0.heap.size ≤ B → Below w0.heap.size w0 w → Bd B b l w →
    Calls Tryd.prog 30 #[.pointer (some ⟨b, 0, none⟩), .agg #[.int .i64 v.f0, .int .i64 v.f1, .string v.f2, .slice A v.f3.length c]] w fun e w' => e = .returned (.tuple #[]) ∧ Bd B b (putc l v) w' ∧ Below B w w' := by
  induction n with
  | zero => intro v A c l w0 w B b h; have := wt_eq v; omega
  | succ n ih =>
    intro v A c l w0 w B b hwt hok hlen hL hC hc hB0 hbel hBd
    have hbx : Bd B b l (w.alloc (.cells #[.int .i64 v.f0, .int .i64 v.f1, .string v.f2, .slice A v.f3.length c] 66)) := hBd.below ((Below.refl _ _).alloc (Nat.le_refl _) _)
    by_cases c0 : 65536 < l.length
    · have hc0 : decide ((65536 : Int) < (l.length : Int)) = true := decide_eq_true (by omega)
      have HX := Aside0.mk hbx
      have HR := Aside0.mk (show putc l v = l by rw [putc_eq, if_pos c0])
      clear hbx hC hL
      go_enter Tryd.func30, Tryd.ntmps30
      go_wp2_with fail
      refine (len_calls HX.out).mono ?_
      rintro e w1 ⟨rfl, rfl⟩
      go_wp2
      go_returns
      exact ⟨rfl, by rw [HR.out]; exact HX.out, (Below.refl _ _).alloc hBd.1 _⟩
    · have hc0 : decide ((65536 : Int) < (l.length : Int)) = false := decide_eq_false (by omega)
      have hokv := (okV_iff v).1 hok
      have HX := Aside0.mk hbx
      have HL := Aside0.mk (LaidW.below hL (below_alloc hbel (.cells #[.int .i64 v.f0, .int .i64 v.f1, .string v.f2, .slice A v.f3.length c] 66)))
      clear hbx
      by_cases c1 : v.f0 = 1
      · have hc1 : (v.f0 == 1) = true := beq_iff_eq.2 c1
        have HR := Aside0.mk (show putc l v = l ++ (105 :: (itoa v.f1 ++ [101])) by rw [putc_eq, if_neg c0, if_pos c1])
        obtain ⟨h1, h2, -⟩ := hokv
        have hil := itoa_len h1 h2
        have HI := fun w' h => itoa_calls v.f1 w' h1 h2 h
        have hsz := wt_eq v
        generalize hit : itoa v.f1 = il at *
        have hts : (ByteArray.mk il.toArray).size = il.length := by simp [ByteArray.size]
        generalize htt : ByteArray.mk il.toArray = t at *
        have hti : t.size ≤ 20 := by omega
        have htt' := Aside0.mk htt
        have HI' := Aside0.mk HI
        clear htt hit c1 HI hts
        go_enter Tryd.func30, Tryd.ntmps30
        go_wp2_with fail
        refine (len_calls HX.out).mono ?_
        rintro e w1 ⟨rfl, rfl⟩
        go_wp2_with fail
        refine (HI'.out _ HL.out).mono ?_
        rintro e w1 ⟨rfl, hb1⟩
        have HX1 := Aside0.mk (HX.out.below hb1)
        have HB1 := Aside0.mk hb1
        clear hb1
        go_wp2_with fail
        refine (ws_calls _ HX1.out (by rw [ByteArray.size_append, ByteArray.size_append]; show l.length + (1 + t.size + 1) ≤ _; omega)).mono ?_
        rintro e w2 ⟨rfl, hX2, hb2, -⟩
        have HX2 := Aside0.mk hX2
        have HB2 := Aside0.mk hb2
        clear hb2 hX2
        go_wp2
        go_returns
        refine ⟨rfl, ?_, (((Below.refl _ _).alloc hBd.1 _).trans (HB1.out.mono (by simp; have := hBd.1; omega))).trans HB2.out⟩
        rw [HR.out]
        have := HX2.out
        rw [data_app, data_app, ← htt'.out] at this
        simpa using this
      · have hc1 : (v.f0 == 1) = false := beq_eq_false_iff_ne.2 c1
        by_cases c2 : v.f0 = 2
        · have hc2 : (v.f0 == 2) = true := beq_iff_eq.2 c2
          have HR := Aside0.mk (show putc l v = l ++ (itoa (v.f2.size : Int) ++ (58 :: v.f2.data.toList)) by rw [putc_eq, if_neg c0, if_neg c1, if_pos c2])
          have hsz := wt_eq v
          have hdd := dd_any v.f2.size
          have hfz : (v.f2.size : Int) ≤ 140737488355328 := by omega
          have hie : itoa (v.f2.size : Int) = decDigits v.f2.size := by unfold itoa; rw [if_neg (by omega), Int.toNat_natCast]
          have HI := fun w' h => itoa_calls (v.f2.size : Int) w' (by omega) (by omega) h
          rw [hie] at HI HR
          generalize decDigits v.f2.size = il at *
          have hts : (ByteArray.mk il.toArray).size = il.length := by simp [ByteArray.size]
          generalize htt : ByteArray.mk il.toArray = t at *
          have hti : 2 * t.size ≤ v.f2.size + 29 := by omega
          have htt' := Aside0.mk htt
          have HI' := Aside0.mk HI
          have hcell : (w.alloc (.cells #[.int .i64 v.f0, .int .i64 v.f1, .string v.f2, .slice A v.f3.length c] 66)).cell? ⟨w.heap.size, 2, none⟩ = some (.string v.f2) := by
            have h9 : (w.alloc (.cells #[.int .i64 v.f0, .int .i64 v.f1, .string v.f2, .slice A v.f3.length c] 66)).heap[w.heap.size]? = some _ := heap_alloc_new w _
            simp only [World.cell?, h9]
            rfl
          have s1 : t.size + 1 ≤ 9223372036854775807 := by omega
          have s2 : (t ++ (⟨#[58]⟩ : ByteArray)).size + v.f2.size ≤ 9223372036854775807 := by rw [ByteArray.size_append]; show t.size + 1 + v.f2.size ≤ _; omega
          have s3 : t.size + 1 + v.f2.size ≤ 9223372036854775807 := by omega
          have s4 := eq_false (Nat.not_lt.2 s1)
          have s5 := eq_false (Nat.not_lt.2 s2)
          have s6 := eq_false (Nat.not_lt.2 s3)
          have hneb := Nat.ne_of_gt hBd.lt
          clear htt hie c1 c2 HI hts hokv
          go_enter Tryd.func30, Tryd.ntmps30
          go_wp2_with fail
          refine (len_calls HX.out).mono ?_
          rintro e w1 ⟨rfl, rfl⟩
          go_wp2_with fail
          go_region_held3 (fun w' => w'.cell? ⟨w.heap.size, 2, none⟩ = some (.string v.f2)) (first | exact hcell | exact kept_cell hb1 ho2 (heap_alloc_new w _) hneb hcell | exact pw_cell_below hb1 hcell) (first | (go_at_call 39; refine (HI'.out _ (LaidW.below HL.out (below_drew (Below.refl _ _)))).mono ?_; rintro e w1 ⟨rfl, hb1⟩) | (go_at_call 38; refine (ws_calls _ (HX.out.below ((below_drew (Below.refl _ _)).trans hb1)) (by rw [ByteArray.size_append, ByteArray.size_append]; show l.length + (t.size + 1 + v.f2.size) ≤ _; omega)).mono ?_; rintro e w2 ⟨rfl, hX2, hb2, ho2⟩))
          have HX2 := Aside0.mk hX2
          have HB2 := Aside0.mk ((((Below.refl _ _).alloc hBd.1 _).trans (((below_drew (Below.refl _ _)).trans hb1).mono (by simp; have := hBd.1; omega))).trans hb2)
          clear hX2 hb2 hb1 ho2
          go_wp2
          go_returns
          refine ⟨rfl, ?_, HB2.out⟩
          rw [HR.out]
          have := HX2.out
          rw [data_app, data_app, ← htt'.out] at this
          simpa using this
        · have hc2 : (v.f0 == 2) = false := beq_eq_false_iff_ne.2 c2
          have HR := Aside0.mk (show putc l v = putcs (l ++ [108]) v.f3 ++ [101] by rw [putc_eq, if_neg c0, if_neg c1, if_neg c2])
          have hok3 := Aside0.mk hokv.2.2
          have hsz := wt_eq v
          have hcell : (w.alloc (.cells #[.int .i64 v.f0, .int .i64 v.f1, .string v.f2, .slice A v.f3.length c] 66)).cell? ⟨w.heap.size, 3, none⟩ = some (.slice A v.f3.length c) := by
            have h9 : (w.alloc (.cells #[.int .i64 v.f0, .int .i64 v.f1, .string v.f2, .slice A v.f3.length c] 66)).heap[w.heap.size]? = some _ := heap_alloc_new w _
            simp only [World.cell?, h9]
            rfl
          have hneb := Nat.ne_of_gt hBd.lt
          have HC := Aside0.mk hC
          have HBel := Aside0.mk hbel
          have HBd := Aside0.mk hBd
          have hBw := hBd.1
          have HL0 := Aside0.mk hL
          have hL30 := wts_len v.f3
          clear hC hbel hBd hL c1 c2 hokv
          go_enter Tryd.func30, Tryd.ntmps30
          go_wp2_with fail
          refine (len_calls HX.out).mono ?_
          rintro e w1 ⟨rfl, rfl⟩
          go_wp2_with fail
          refine (ws_calls _ HX.out (by show l.length + 1 ≤ _; omega)).mono ?_
          rintro e w1 ⟨rfl, hX1, hb1, ho1⟩
          have hcell1 := kept_cell (Below.refl _ _) ho1 (heap_alloc_new w _) hneb hcell
          have HX1 := Aside0.mk (show Bd B b (l ++ [108]) w1 from hX1)
          have HB1 := Aside0.mk (((Below.refl B w).alloc hBw _).trans hb1)
          clear hX1 hb1 ho1 hcell HX HL
          go_wp2_with fail
          go_loopw [16] (fun v16 wr => ∃ i : Nat, i ≤ v.f3.length ∧ v16 = .int .i64 i ∧ Aside0 (Bd B b (putcs (l ++ [108]) (v.f3.take i)) wr) ∧ Aside0 (Below B w wr)) (fun v16 _ => v.f3.length - (RowKit.intOf v16).toNat)
          case atStart => exact ⟨0, Nat.zero_le _, rfl, ⟨by rw [List.take_zero, putcs_nil]; exact HX1.out⟩, HB1⟩
          case round =>
            obtain ⟨i, hi, rfl, HXr, HBr⟩ := hrel
            clear HX1 HB1
            by_cases hlt : i < v.f3.length
            · have HW := Aside0.mk (HBel.out.trans (HBr.out.mono hB0))
              obtain ⟨ad, A3, c3, e3, hx0, hx1, hx2, hx3, hl3, hi3⟩ := P.at_T66 HC.out (i : Int) (by omega) (by omega)
              have hge : P.rd_T66 v.f3 (i : Int) = v.f3[i] := by unfold P.rd_T66; rw [Int.toNat_natCast, List.getD_eq_getElem?_getD, List.getElem?_eq_getElem hlt, Option.getD_some]
              have hmem : v.f3[i] ∈ v.f3 := List.getElem_mem hlt
              have hwm := wt_mem hmem
              have HOM := Aside0.mk (okV_mem hmem hok3.out)
              have hnext := Aside0.mk (show putcs (l ++ [108]) (v.f3.take (i + 1)) = putc (putcs (l ++ [108]) (v.f3.take i)) v.f3[i] by rw [List.take_succ_eq_append_getElem hlt, putcs_snoc])
              have hok9 : okVs (v.f3.take i) = true := okVs_take hok3.out i
              have hwt9 := wts_take v.f3 i hlt
              have hle9 := putcs_le (v.f3.take i) (l ++ [108]) hok9
              rw [List.length_append] at hle9
              rw [hge] at hx0 hx1 hx2 hx3 hl3 hi3
              rw [Int.toNat_natCast] at hx0 hx1 hx2 hx3
              replace hx0 := pw_cell_below HW.out hx0
              replace hx1 := pw_cell_below HW.out hx1
              replace hx2 := pw_cell_below HW.out hx2
              replace hx3 := pw_cell_below HW.out hx3
              generalize v.f3[i] = x at *
              generalize putcs (l ++ [108]) (v.f3.take i) = lr at *
              have HI3 := Aside0.mk hi3
              have HL3 := Aside0.mk hl3
              have hi1 : (i : Int) < (v.f3.length : Int) := by omega
              cases e3
              clear hi3 hl3 hmem hge hok9
              have hBs := HBr.out.size
              go_wp2_with (first | ((with_reducible refine gate_dst (N := 5) rfl ?_); refine box_event ?hg (N := 5) ?hd (cs := #[.int .i64 0, .int .i64 0, .string (⟨#[]⟩ : ByteArray), .slice none 0 0]) (t := 66) ?hr ?_; (case hd => rfl); (case hg => rfl); (case hr => first | (go_simp; done) | (go_simp; rfl)); intro gb hg w17 hbox hb; have BK := Aside0.mk hbox; have HB17 := Aside0.mk hb; have hgb : wr.heap.size ≤ gb := (by rw [hg]; exact Nat.le_refl _); clear hb hbox hg; have hcz0 : w17.cell? ⟨gb, 0, none⟩ = some (.int .i64 0) := (blk_cell BK.out 0).trans rfl; have hcz1 : w17.cell? ⟨gb, 1, none⟩ = some (.int .i64 0) := (blk_cell BK.out 1).trans rfl; have hcz2 : w17.cell? ⟨gb, 2, none⟩ = some (.string (⟨#[]⟩ : ByteArray)) := (blk_cell BK.out 2).trans rfl; have hcz3 : w17.cell? ⟨gb, 3, none⟩ = some (.slice none 0 0) := (blk_cell BK.out 3).trans rfl; have hfz0 := blk_frozen BK.out 0; have hfz1 := blk_frozen BK.out 1; have hfz2 := blk_frozen BK.out 2; have hfz3 := blk_frozen BK.out 3))
              have HBS := Aside0.mk ((((HB17.out.setCell (p := ⟨gb, 0, none⟩) hgb (.int .i64 x.f0)).setCell (p := ⟨gb, 1, none⟩) hgb (.int .i64 x.f1)).setCell (p := ⟨gb, 2, none⟩) hgb (.string x.f2)).setCell (p := ⟨gb, 3, none⟩) hgb (.slice A3 x.f3.length c3))
              refine (ih x A3 c3 lr w0 _ B b (by omega) HOM.out (by simp only [List.length_cons, List.length_nil] at hle9; omega) HL0.out HI3.out HL3.out hB0 ((HBel.out.trans (HBr.out.mono hB0)).trans (HBS.out.mono (HW.out.size))) (HXr.out.below HBS.out)).mono ?_
              rintro e w2 ⟨rfl, hX2, hb2⟩
              have HX2 := Aside0.mk hX2
              have HB2 := Aside0.mk ((HBr.out.trans (HBS.out.mono (by omega))).trans hb2)
              clear hX2 hb2
              go_wp2
              go_roundw
              case rel => exact ⟨i + 1, by omega, by go_num, by rw [hnext.out]; exact HX2, HB2⟩
              case measure => simp [RowKit.intOf]; omega
            · obtain rfl : i = v.f3.length := by omega
              have hle9 := putcs_le v.f3 (l ++ [108]) hok3.out
              rw [List.length_append] at hle9
              rw [List.take_length] at HXr
              generalize putcs (l ++ [108]) v.f3 = lr at *
              have hle8 : lr.length ≤ l.length + 1 + wts v.f3 := hle9
              clear hle9
              go_wp2_with fail
              refine (ws_calls _ HXr.out (by show lr.length + 1 ≤ _; omega)).mono ?_
              rintro e w2 ⟨rfl, hX2, hb2, -⟩
              have HX2 := Aside0.mk hX2
              have HB2 := Aside0.mk (HBr.out.trans hb2)
              clear hX2 hb2
              go_wp2
              go_returns
              refine ⟨rfl, ?_, HB2.out⟩
              rw [HR.out]
              exact HX2.out
end Go.Proofs.YthlkcfjodmhhmaaDoor.Giv
namespace Go.Proofs.YthlkcfjodmhhmaaDoor.Giv
open Go.RowKit Go.Lib
set_option linter.unusedVariables false
set_option linter.unusedSimpArgs false
mutual
def chk : V → Nat → Int
  | ⟨k, _, _, L⟩, w => if k = 1 then 0 else if k = 2 then 0 else if k = 3 then chks (if 8 ≤ w then 22 else 0) w L else 1
def chks : Int → Nat → List V → Int
  | o, _, [] => o
  | o, w, x :: xs => if chk x (w + 1) = 1 then 1 else if chk x (w + 1) = 22 then chks 22 w xs else chks o w xs
end
mutual
def kin : V → Bool
  | ⟨k, _, _, L⟩ => if k = 1 then true else if k = 2 then true else if k = 3 then kins L else false
def kins : List V → Bool
  | [] => true
  | x :: xs => kin x && kins xs
end
mutual
def dep : V → Nat
  | ⟨k, _, _, L⟩ => if k = 3 then deps L + 1 else 0
def deps : List V → Nat
  | [] => 0
  | x :: xs => max (dep x) (deps xs)
end
theorem chk_eq (v : V) (w : Nat) : chk v w = if v.f0 = 1 then 0 else if v.f0 = 2 then 0 else if v.f0 = 3 then chks (if 8 ≤ w then 22 else 0) w v.f3 else 1 := by obtain ⟨k, n, s, L⟩ := v; rw [chk]
theorem chks_nil (o : Int) (w : Nat) : chks o w [] = o := by rw [chks]
theorem chks_cons (o : Int) (w : Nat) (x : V) (xs : List V) : chks o w (x :: xs) = if chk x (w + 1) = 1 then 1 else if chk x (w + 1) = 22 then chks 22 w xs else chks o w xs := by rw [chks]
theorem kin_eq (v : V) : kin v = if v.f0 = 1 then true else if v.f0 = 2 then true else if v.f0 = 3 then kins v.f3 else false := by obtain ⟨k, n, s, L⟩ := v; rw [kin]
theorem kins_nil : kins [] = true := by rw [kins]
theorem kins_cons (x : V) (xs : List V) : kins (x :: xs) = (kin x && kins xs) := by rw [kins]
theorem dep_eq (v : V) : dep v = if v.f0 = 3 then deps v.f3 + 1 else 0 := by obtain ⟨k, n, s, L⟩ := v; rw [dep]
theorem deps_nil : deps [] = 0 := by rw [deps]
theorem deps_cons (x : V) (xs : List V) : deps (x :: xs) = max (dep x) (deps xs) := by rw [deps]
mutual
theorem dep_wt : ∀ v : V, dep v ≤ wt v
  | ⟨k, n, s, L⟩ => by
    rw [dep, wt]
    have := deps_wts L
    split <;> omega
theorem deps_wts : ∀ L : List V, deps L ≤ wts L
  | [] => by rw [deps]; omega
  | x :: xs => by
    rw [deps, wts]
    have := dep_wt x
    have := deps_wts xs
    omega
end
mutual
theorem chk_spec : ∀ (v : V) (w : Nat), chk v w = if kin v = true then (if 8 < dep v + w ∧ dep v ≠ 0 then 22 else 0) else 1
  | ⟨k, n, s, L⟩, w => by
    rw [chk, kin, dep]
    by_cases c1 : k = 1
    · subst c1; simp
    · by_cases c2 : k = 2
      · subst c2; simp
      · by_cases c3 : k = 3
        · rw [if_neg c1, if_neg c2, if_pos c3, if_neg c1, if_neg c2, if_pos c3, if_pos c3, chks_spec L]
          by_cases hk : kins L = true
          · rw [if_pos hk, if_pos hk]
            by_cases h8 : 8 ≤ w
            · rw [if_pos h8, if_pos (show 8 < deps L + 1 + w ∧ deps L + 1 ≠ 0 by omega)]
              split <;> rfl
            · rw [if_neg h8]
              by_cases hd : 8 < deps L + 1 + w ∧ deps L ≠ 0
              · rw [if_pos (show 8 < deps L + (w + 1) ∧ deps L ≠ 0 by omega), if_pos (show 8 < deps L + 1 + w ∧ deps L + 1 ≠ 0 by omega)]
              · rw [if_neg (show ¬(8 < deps L + (w + 1) ∧ deps L ≠ 0) by omega), if_neg (show ¬(8 < deps L + 1 + w ∧ deps L + 1 ≠ 0) by omega)]
          · rw [if_neg hk, if_neg hk]
        · rw [if_neg c1, if_neg c2, if_neg c3, if_neg c1, if_neg c2, if_neg c3]; simp
theorem chks_spec : ∀ (L : List V) (o : Int) (w : Nat), chks o w L = if kins L = true then (if 8 < deps L + (w + 1) ∧ deps L ≠ 0 then 22 else o) else 1
  | [], o, w => by rw [chks, kins, deps]; simp
  | x :: xs, o, w => by
    rw [chks, kins, deps, chk_spec x, chks_spec xs, chks_spec xs]
    by_cases h1 : kin x = true
    · rw [if_pos h1, h1, Bool.true_and]
      by_cases h2 : 8 < dep x + (w + 1) ∧ dep x ≠ 0
      · rw [if_pos h2, if_neg (by decide), if_pos rfl]
        by_cases h3 : kins xs = true
        · rw [if_pos h3, if_pos h3, if_pos (show 8 < max (dep x) (deps xs) + (w + 1) ∧ max (dep x) (deps xs) ≠ 0 by omega)]
          split <;> rfl
        · rw [if_neg h3, if_neg h3]
      · rw [if_neg h2, if_neg (by decide), if_neg (by decide)]
        by_cases h3 : kins xs = true
        · rw [if_pos h3, if_pos h3]
          by_cases h4 : 8 < deps xs + (w + 1) ∧ deps xs ≠ 0
          · rw [if_pos h4, if_pos (show 8 < max (dep x) (deps xs) + (w + 1) ∧ max (dep x) (deps xs) ≠ 0 by omega)]
          · rw [if_neg h4, if_neg (show ¬(8 < max (dep x) (deps xs) + (w + 1) ∧ max (dep x) (deps xs) ≠ 0) by omega)]
        · rw [if_neg h3, if_neg h3]
    · rw [if_neg h1, if_pos rfl, if_neg (by simp [h1])]
end
theorem chk_top (v : V) : chk v 0 = if kin v = true then (if 8 < dep v then 22 else 0) else 1 := by
  rw [chk_spec]
  by_cases h : 8 < dep v
  · rw [if_pos (show 8 < dep v + 0 ∧ dep v ≠ 0 by omega), if_pos h]
  · rw [if_neg (show ¬(8 < dep v + 0 ∧ dep v ≠ 0) by omega), if_neg h]
def putM (v : V) : ByteArray × Int := if chk v 0 = 0 then (if (enc v).length ≤ 65536 then (⟨(enc v).toArray⟩, 0) else (⟨#[]⟩, 23)) else (⟨#[]⟩, chk v 0)
def numL (neg : Bool) : Bool → Bool → Int → List UInt8 → Int × Int × Nat
  | _, _, _, [] => (21, 0, 0)
  | z, st, n, c :: t =>
    if c = 101 ∧ st = true then (0, n, 1)
    else if c < 48 ∨ 57 < c ∨ (st = true ∧ z = true) ∨ (st = false ∧ c = 48 ∧ neg = true) then (20, 0, 0)
    else if neg = true then (if 10 * n - ((c.toNat : Int) - 48) < -9223372036854775808 then (20, 0, 0) else let r := numL neg (if st then z else c == 48) true (10 * n - ((c.toNat : Int) - 48)) t; (r.1, r.2.1, r.2.2 + 1))
    else (if 9223372036854775807 < 10 * n + ((c.toNat : Int) - 48) then (20, 0, 0) else let r := numL neg (if st then z else c == 48) true (10 * n + ((c.toNat : Int) - 48)) t; (r.1, r.2.1, r.2.2 + 1))
def lenL : Bool → Bool → Nat → List UInt8 → Int × Nat × Nat
  | _, _, _, [] => (21, 0, 0)
  | z, st, n, c :: t =>
    if c = 58 ∧ st = true then (0, n, 1)
    else if c < 48 ∨ 57 < c ∨ (st = true ∧ z = true) then (20, 0, 0)
    else if 65536 < 10 * n + (c.toNat - 48) then (23, 0, 0)
    else let r := lenL (if st then z else c == 48) true (10 * n + (c.toNat - 48)) t; (r.1, r.2.1, r.2.2 + 1)
def listL (f : List UInt8 → Int × V × Nat) : Nat → List UInt8 → Int × List V × Nat
  | _, [] => (21, [], 0)
  | 0, _ => (21, [], 0)
  | k + 1, c :: t => if c = 101 then (0, [], 1) else if (f (c :: t)).1 = 0 then (if (listL f k ((c :: t).drop (f (c :: t)).2.2)).1 = 0 then (0, (f (c :: t)).2.1 :: (listL f k ((c :: t).drop (f (c :: t)).2.2)).2.1, (f (c :: t)).2.2 + (listL f k ((c :: t).drop (f (c :: t)).2.2)).2.2) else ((listL f k ((c :: t).drop (f (c :: t)).2.2)).1, [], 0)) else ((f (c :: t)).1, [], 0)
def intL (t : List UInt8) : Int × Int × Nat := if t.head? = some 45 then ((numL true false false 0 t.tail).1, (numL true false false 0 t.tail).2.1, (numL true false false 0 t.tail).2.2 + 1) else numL false false false 0 t
def valL : Nat → List UInt8 → Int × V × Nat
  | _, [] => (21, zV, 0)
  | d, c :: t =>
    if c = 105 then (if (intL t).1 = 0 then (0, intV (intL t).2.1, (intL t).2.2 + 1) else ((intL t).1, zV, 0))
    else if 48 ≤ c ∧ c ≤ 57 then
      (if (lenL false false 0 (c :: t)).1 = 0 then
        (if (c :: t).length < (lenL false false 0 (c :: t)).2.2 + (lenL false false 0 (c :: t)).2.1 then (21, zV, 0)
         else (0, strV ⟨(((c :: t).drop (lenL false false 0 (c :: t)).2.2).take (lenL false false 0 (c :: t)).2.1).toArray⟩, (lenL false false 0 (c :: t)).2.2 + (lenL false false 0 (c :: t)).2.1))
       else ((lenL false false 0 (c :: t)).1, zV, 0))
    else if c ≠ 108 then (20, zV, 0)
    else match d with
      | 0 => (22, zV, 0)
      | d + 1 => if (listL (valL d) t.length t).1 = 0 then (0, lisV (listL (valL d) t.length t).2.1, (listL (valL d) t.length t).2.2 + 1) else ((listL (valL d) t.length t).1, zV, 0)
def takeM (s : ByteArray) : V × Int × Int := if (valL 8 s.data.toList).1 = 0 then (if (valL 8 s.data.toList).2.2 ≤ 65536 then ((valL 8 s.data.toList).2.1, ((valL 8 s.data.toList).2.2 : Int), 0) else (zV, 0, 23)) else (zV, 0, (valL 8 s.data.toList).1)
theorem numL_used (neg : Bool) : ∀ (l : List UInt8) (z st : Bool) (n : Int), (numL neg z st n l).1 = 0 → 1 ≤ (numL neg z st n l).2.2 ∧ (numL neg z st n l).2.2 ≤ l.length ∧ (st = false → 2 ≤ (numL neg z st n l).2.2)
  | [], z, st, n, h => by rw [numL] at h; cases h
  | c :: t, z, st, n, h => by
    rw [numL] at h ⊢
    split at h
    · rename_i h1
      rw [if_pos h1]
      exact ⟨Nat.le_refl _, by simp, fun e => by rw [e] at h1; simp at h1⟩
    · rename_i h1
      rw [if_neg h1]
      split at h
      · cases h
      · rename_i h2
        rw [if_neg h2]
        split at h
        · rename_i h3
          rw [if_pos h3]
          split at h
          · cases h
          · rename_i h4
            rw [if_neg h4]
            have := numL_used neg t _ true _ h
            simp only [List.length_cons]
            omega
        · rename_i h3
          rw [if_neg h3]
          split at h
          · cases h
          · rename_i h4
            rw [if_neg h4]
            have := numL_used neg t _ true _ h
            simp only [List.length_cons]
            omega
theorem lenL_used : ∀ (l : List UInt8) (z st : Bool) (n : Nat), (lenL z st n l).1 = 0 → 1 ≤ (lenL z st n l).2.2 ∧ (lenL z st n l).2.2 ≤ l.length ∧ (st = false → 2 ≤ (lenL z st n l).2.2) ∧ (n ≤ 65536 → (lenL z st n l).2.1 ≤ 65536)
  | [], z, st, n, h => by rw [lenL] at h; cases h
  | c :: t, z, st, n, h => by
    rw [lenL] at h ⊢
    split at h
    · rename_i h1
      rw [if_pos h1]
      exact ⟨Nat.le_refl _, by simp, fun e => by rw [e] at h1; simp at h1, fun h => h⟩
    · rename_i h1
      rw [if_neg h1]
      split at h
      · cases h
      · rename_i h2
        rw [if_neg h2]
        split at h
        · cases h
        · rename_i h3
          rw [if_neg h3]
          obtain ⟨a1, a2, a3, a4⟩ := lenL_used t _ true _ h
          simp only [List.length_cons]
          exact ⟨by omega, by omega, by omega, fun _ => a4 (by omega)⟩
theorem intL_used (t : List UInt8) (h : (intL t).1 = 0) : 2 ≤ (intL t).2.2 ∧ (intL t).2.2 ≤ t.length := by
  unfold intL at h ⊢
  split at h
  · rename_i h1
    rw [if_pos h1]
    have := numL_used true t.tail false false 0 h
    have := this.2.2 rfl
    have ht : t.tail.length + 1 = t.length := by
      cases t with
      | nil => cases h1
      | cons a b => simp
    simp only
    omega
  · rename_i h1
    rw [if_neg h1]
    have := numL_used false t false false 0 h
    have := this.2.2 rfl
    omega
theorem listL_used (f : List UInt8 → Int × V × Nat) (hf : ∀ l, (f l).1 = 0 → 1 ≤ (f l).2.2 ∧ (f l).2.2 ≤ l.length) : ∀ (k : Nat) (l : List UInt8), (listL f k l).1 = 0 → 1 ≤ (listL f k l).2.2 ∧ (listL f k l).2.2 ≤ l.length
  | _, [], h => by rw [listL] at h; cases h
  | 0, c :: t, h => by rw [listL] at h; cases h; simp
  | k + 1, c :: t, h => by
    rw [listL] at h ⊢
    split at h
    · rename_i h1; rw [if_pos h1]; simp
    · rename_i h1
      rw [if_neg h1]
      split at h
      · rename_i h2
        rw [if_pos h2]
        split at h
        · rename_i h3
          rw [if_pos h3]
          have a := hf _ h2
          have b := listL_used f hf k _ h3
          rw [List.length_drop] at b
          simp only
          omega
        · rename_i h3; exact absurd h h3
      · rename_i h2; exact absurd h h2
theorem valL_used : ∀ (d : Nat) (l : List UInt8), (valL d l).1 = 0 → 2 ≤ (valL d l).2.2 ∧ (valL d l).2.2 ≤ l.length := by
  intro d
  induction d with
  | zero =>
    intro l h
    cases l with
    | nil => rw [valL] at h; cases h
    | cons c t =>
      rw [valL] at h ⊢
      split at h
      · rename_i h1
        rw [if_pos h1]
        split at h
        · rename_i h2
          rw [if_pos h2]
          have := intL_used t h2
          simp only [List.length_cons]
          omega
        · rename_i h2; exact absurd h h2
      · rename_i h1
        rw [if_neg h1]
        split at h
        · rename_i h2
          rw [if_pos h2]
          split at h
          · rename_i h3
            rw [if_pos h3]
            split at h
            · cases h
            · rename_i h4
              rw [if_neg h4]
              have := lenL_used _ false false 0 h3
              have := this.2.2.1 rfl
              simp only
              omega
          · rename_i h3; exact absurd h h3
        · split at h
          · cases h
          · cases h
  | succ d ih =>
    intro l h
    cases l with
    | nil => rw [valL] at h; cases h
    | cons c t =>
      rw [valL] at h ⊢
      split at h
      · rename_i h1
        rw [if_pos h1]
        split at h
        · rename_i h2
          rw [if_pos h2]
          have := intL_used t h2
          simp only [List.length_cons]
          omega
        · rename_i h2; exact absurd h h2
      · rename_i h1
        rw [if_neg h1]
        split at h
        · rename_i h2
          rw [if_pos h2]
          split at h
          · rename_i h3
            rw [if_pos h3]
            split at h
            · cases h
            · rename_i h4
              rw [if_neg h4]
              have := lenL_used _ false false 0 h3
              have := this.2.2.1 rfl
              simp only
              omega
          · rename_i h3; exact absurd h h3
        · rename_i h2
          rw [if_neg h2]
          split at h
          · cases h
          · rename_i h3
            rw [if_neg h3]
            split at h
            · rename_i h4
              simp only [h4, if_true]
              have := listL_used (valL d) (fun l h => by have := ih l h; omega) _ _ h4
              simp only [List.length_cons]
              omega
            · rename_i h4; exact absurd h h4
end Go.Proofs.YthlkcfjodmhhmaaDoor.Giv
