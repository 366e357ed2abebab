/- Texts put together by prune.py: Aid, BncXr, DdE, DdC, DdD, DdF, DdH, DdI, LayB. -/
import Derived.WalkKit
import Derived.Deep.Quiet
import Derived.BigQuiet
import Derived.Test.YthlkcfjodmhhmaaDoorRows
import Derived.Lib.LaidIn
import Derived.Lib.LaidU8T
import Derived.Deep.DeepHandedRow
import Derived.Deep.DeepWitnessRowRef
import Derived.ProofKit
import Derived.SizedLaws
import Derived.Test.YthlkcfjodmhhmaaDoorNo3
namespace Go.Proofs.YthlkcfjodmhhmaaDoor
open Go.RowKit
def Veil (p : Prop) : Prop := Unit → p
theorem Veil.out {p : Prop} (h : Veil p) : p := h ()
def Blk (w : World) (b : Nat) (c : Array Value) (t : TypeId) : Prop := w.heap[b]? = some (.cells c t (0, 0))
theorem Blk.lt {w : World} {b : Nat} {c : Array Value} {t : TypeId} (h : Blk w b c t) : b < w.heap.size := (Array.getElem?_eq_some_iff.1 h).1
theorem Blk.cell {w : World} {b : Nat} {c : Array Value} {t : TypeId} (h : Blk w b c t) (i : Nat) : w.cell? ⟨b, i, none⟩ = c[i]? := by
  unfold Blk at h
  simp [World.cell?, h]
theorem Blk.alloc {w : World} {b : Nat} {c : Array Value} {t : TypeId} (h : Blk w b c t) (o : Obj) : Blk (w.alloc o) b c t := by
  have := h.lt
  unfold Blk at *
  rw [Below.heap_alloc _ _ _ this]; exact h
theorem Blk.drew {w : World} {b : Nat} {c : Array Value} {t : TypeId} (h : Blk w b c t) : Blk w.drew b c t := h
theorem Blk.set {w : World} {b : Nat} {c : Array Value} {t : TypeId} (h : Blk w b c t) (i : Nat) (v : Value) : Blk (w.setCell ⟨b, i, none⟩ v) b (c.setIfInBounds i v) t := by
  unfold Blk at *
  simp [World.setCell, Array.getElem?_modify, h]
theorem Blk.below {w w' : World} {B b : Nat} {c : Array Value} {t : TypeId} (h : Blk w b c t) (hb : Below B w w') (hB : b < B) : Blk w' b c t := by
  unfold Blk at *
  rw [hb.block b hB]; exact h
def BlkM (w : World) (b : Nat) (c : Array Value) (t : TypeId) (f : Nat × Nat) : Prop := w.heap[b]? = some (.cells c t f)
theorem BlkM.lt {w : World} {b : Nat} {c : Array Value} {t : TypeId} {f : Nat × Nat} (h : BlkM w b c t f) : b < w.heap.size := (Array.getElem?_eq_some_iff.1 h).1
theorem BlkM.cell {w : World} {b : Nat} {c : Array Value} {t : TypeId} {f : Nat × Nat} (h : BlkM w b c t f) (i : Nat) : w.cell? ⟨b, i, none⟩ = c[i]? := by
  unfold BlkM at h
  simp [World.cell?, h]
theorem BlkM.alloc {w : World} {b : Nat} {c : Array Value} {t : TypeId} {f : Nat × Nat} (h : BlkM w b c t f) (o : Obj) : BlkM (w.alloc o) b c t f := by
  have := h.lt
  unfold BlkM at *
  rw [Below.heap_alloc _ _ _ this]; exact h
theorem BlkM.drew {w : World} {b : Nat} {c : Array Value} {t : TypeId} {f : Nat × Nat} (h : BlkM w b c t f) : BlkM w.drew b c t f := h
theorem BlkM.set {w : World} {b : Nat} {c : Array Value} {t : TypeId} {f : Nat × Nat} (h : BlkM w b c t f) (i : Nat) (v : Value) : BlkM (w.setCell ⟨b, i, none⟩ v) b (c.setIfInBounds i v) t f := by
  unfold BlkM at *
  simp [World.setCell, Array.getElem?_modify, h]
theorem BlkM.below {w w' : World} {B b : Nat} {c : Array Value} {t : TypeId} {f : Nat × Nat} (h : BlkM w b c t f) (hb : Below B w w') (hB : b < B) : BlkM w' b c t f := by
  unfold BlkM at *
  rw [hb.block b hB]; exact h
def Later (w : World) : Type := { v : World // Below w.heap.size w v }
instance (w : World) : Nonempty (Later w) := ⟨⟨w, Below.refl _ _⟩⟩
theorem Later.call {P : Program} {f : FuncId} {args : Array Value} {w : World} {v : Value} {x : Later w}
    (h : Calls P f args x.1 fun e w' => e = .returned v ∧ Below x.1.heap.size x.1 w') : Calls P f args x.1 fun e w' => e = .returned v ∧ ∃ y : Later w, w' = y.1 :=
  h.mono fun _ w' ⟨he, hb⟩ => ⟨he, ⟨w', x.2.trans (hb.mono x.2.size)⟩, rfl⟩
theorem Later.cell {w : World} (x : Later w) {p : Addr} (hp : p.block < w.heap.size) : x.1.cell? p = w.cell? p := x.2.cell hp
end Go.Proofs.YthlkcfjodmhhmaaDoor
namespace Go.Proofs.YthlkcfjodmhhmaaDoor.Pure
open Go.RowKit Go.Lib Go.Proofs.YthlkcfjodmhhmaaDoor.Giv Go.Proofs.YthlkcfjodmhhmaaDoor.P Go.Proofs.YthlkcfjodmhhmaaDoorW.PrintWords Go.Proofs.YthlkcfjodmhhmaaDoorW.PrintLast Go.Proofs.YthlkcfjodmhhmaaDoorW.PrintMore
set_option linter.unusedVariables false
set_option linter.unusedSimpArgs false
theorem fit_of {v : V} (ho : okV v = true) (hw : wt v ≤ 70368744177664) : fitV v = true := by unfold fitV; rw [ho, decide_eq_true hw]; rfl
theorem putM_of {v : V} (hk : kin v = true) (hd : dep v ≤ 8) (hl : (enc v).length ≤ 65536) : putM v = (⟨(enc v).toArray⟩, 0) := by
  have e : chk v 0 = 0 := by rw [chk_top, if_pos hk, if_neg (show ¬ 8 < dep v by omega)]
  unfold putM
  rw [if_pos e, if_pos hl]
def v0 : V := lisV [intV 12, strV ⟨#[97, 98]⟩]
end Go.Proofs.YthlkcfjodmhhmaaDoor.Pure
namespace Go.Proofs.YthlkcfjodmhhmaaDoor.Dd
open Go.RowKit Go.Lib Go.Proofs.YthlkcfjodmhhmaaDoor.Giv Go.Proofs.YthlkcfjodmhhmaaDoor.Pure Go.Proofs.YthlkcfjodmhhmaaDoorW.PrintWords Go.Proofs.YthlkcfjodmhhmaaDoorW.PrintLast Go.Proofs.YthlkcfjodmhhmaaDoorW.PrintMore
set_option linter.unusedVariables false
set_option linter.unusedSimpArgs false
def okE (x : Ent) : Prop := 0 ≤ x.s ∧ x.s ≤ 1099511627776 ∧ 0 ≤ x.e ∧ x.e ≤ 255 ∧ (x.s = 0 → x = zE)
def okT (T : List Ent) : Prop := T.length = 8 ∧ ∀ x ∈ T, okE x
theorem okE_zE : okE zE := ⟨by decide, by decide, by decide, by decide, fun _ => rfl⟩
theorem okT_T0 : okT T0 := ⟨rfl, fun x hx => by
  simp only [T0, List.mem_cons, List.not_mem_nil, or_false, or_self] at hx
  exact hx ▸ okE_zE⟩
theorem okT_put {T : List Ent} (h : okT T) (c s e : Int) (b : Bool) : okT (putT T c s e b).1 := by
  unfold putT
  split
  · rename_i hc
    split
    · exact h
    · refine ⟨by rw [List.length_set]; exact h.1, fun x hx => ?_⟩
      obtain ⟨m0, m1, m2, m3⟩ := mayM_iff.1 hc.1
      rcases List.mem_or_eq_of_mem_set hx with hx | rfl
      · exact h.2 x hx
      · exact ⟨by show (0 : Int) ≤ s; omega, m3, hc.2.1, hc.2.2, fun hz => by have : s = 0 := hz; omega⟩
  · exact h
theorem wi (b : Bool) : (if b = true then (1 : Int) else 0) = 0 ∨ (if b = true then (1 : Int) else 0) = 1 := by cases b <;> simp
theorem row_facts (k : Int) (x : Ent) (hk0 : 0 ≤ k) (hk : k ≤ 100) (h : okE x) : wt (rowV k x) = 150 ∧ okV (rowV k x) = true ∧ kin (rowV k x) = true ∧ dep (rowV k x) = 1 ∧ (enc (rowV k x)).length ≤ 90 ∧ nrm (rowV k x) = rowV k x := by
  obtain ⟨h0, h1, h2, h3, _⟩ := h
  have hw := wi x.w
  have hL : (fun n => wt (intV n)) = fun _ => 30 := by funext n; rw [wt_eq]; simp [intV, wts_nil]; rfl
  have hI : ∀ n, wt (intV n) = 30 := fun n => congrFun hL n
  have i1 := itoa_len (n := k) (by omega) (by omega)
  have i2 := itoa_len (n := x.s) (by omega) (by omega)
  have i3 := itoa_len (n := x.e) (by omega) (by omega)
  have i4 := itoa_len (n := if x.w = true then (1 : Int) else 0) (by omega) (by omega)
  unfold rowV
  refine ⟨?_, ?_, ?_, ?_, ?_, ?_⟩
  · rw [wt_eq]
    simp [lisV, wts_cons, wts_nil, hI]
    rfl
  · refine ok_lis ?_
    rw [okVs_cons, okVs_cons, okVs_cons, okVs_cons]
    exact ⟨ok_int (by omega) (by omega), ok_int (by omega) (by omega), ok_int (by omega) (by omega), ok_int (by omega) (by omega), okVs_nil⟩
  · rw [kin_lis]
    simp [kins_cons, kins_nil, kin_int]
  · rw [dep_lis]
    simp [deps_cons, deps_nil, dep_int]
  · rw [enc_lis]
    simp only [encs_cons, encs_nil, enc_int, List.length_cons, List.length_append, List.length_nil]
    omega
  · rw [nrm_eq]
    simp [lisV, nrms_cons, nrms_nil, nrm_eq, intV]
theorem rows_facts : ∀ (T : List Ent) (k : Nat), k + T.length ≤ 100 → (∀ x ∈ T, okE x) → wts (rowsM k T) ≤ 150 * T.length ∧ okVs (rowsM k T) = true ∧ kins (rowsM k T) = true ∧ deps (rowsM k T) ≤ 1 ∧ (encs (rowsM k T)).length ≤ 90 * T.length ∧ nrms (rowsM k T) = rowsM k T
  | [], k, hk, h => by simp [rowsM, wts_nil, okVs_nil, kins_nil, deps_nil, encs_nil, nrms_nil]
  | x :: T, k, hk, h => by
    rw [List.length_cons] at hk
    obtain ⟨a1, a2, a3, a4, a5, a6⟩ := rows_facts T (k + 1) (by omega) (fun y hy => h y (.tail _ hy))
    obtain ⟨b1, b2, b3, b4, b5, b6⟩ := row_facts (k : Int) x (by omega) (by omega) (h x (.head _))
    rw [rowsM]
    split
    · refine ⟨by rw [List.length_cons]; omega, a2, a3, a4, by rw [List.length_cons]; omega, a6⟩
    · rw [wts_cons, okVs_cons, kins_cons, deps_cons, encs_cons, nrms_cons, List.length_cons, List.length_append, b1, b3, b4, a3, a6, b6]
      exact ⟨by omega, ⟨b2, a2⟩, rfl, by omega, by omega, rfl⟩
theorem tab_facts {T : List Ent} (h : okT T) : wt (tabV T) ≤ 2000 ∧ okV (tabV T) = true ∧ kin (tabV T) = true ∧ dep (tabV T) ≤ 2 ∧ (enc (tabV T)).length ≤ 800 ∧ nrm (tabV T) = tabV T := by
  obtain ⟨a1, a2, a3, a4, a5, a6⟩ := rows_facts T 0 (by rw [h.1]; decide) h.2
  rw [h.1] at a1 a5
  unfold tabV
  refine ⟨?_, ok_lis a2, by rw [kin_lis]; exact a3, by rw [dep_lis]; omega, ?_, ?_⟩
  · rw [wt_eq]
    show 30 + 2 * 0 + wts (rowsM 0 T) ≤ 2000
    omega
  · rw [enc_lis]
    simp only [List.length_cons, List.length_append, List.length_nil]
    omega
  · rw [nrm_eq]
    show lisV (nrms (rowsM 0 T)) = _
    rw [a6]
theorem tab_put {T : List Ent} (h : okT T) : benc_Put.f 3 0 ⟨#[]⟩ (rowsM 0 T) = some (textM T, 0) := by
  obtain ⟨a1, a2, a3, a4, a5, a6⟩ := tab_facts h
  rw [show benc_Put.f 3 0 ⟨#[]⟩ (rowsM 0 T) = some (putM (tabV T)) from put_yes (v := tabV T) (fit_of a2 (by omega)), putM_of a3 (by omega) (by omega)]
  rfl
theorem textM_list (T : List Ent) : (textM T).toList = enc (tabV T) := by rw [toList_data]; unfold textM; simp
end Go.Proofs.YthlkcfjodmhhmaaDoor.Dd
namespace Go.Proofs.YthlkcfjodmhhmaaDoor.Dd
open Go.RowKit Go.Lib Go.Proofs.YthlkcfjodmhhmaaDoor.Giv Go.Proofs.YthlkcfjodmhhmaaDoor.Pure Go.Proofs.YthlkcfjodmhhmaaDoorW.PrintWords Go.Proofs.YthlkcfjodmhhmaaDoorW.PrintLast Go.Proofs.YthlkcfjodmhhmaaDoorW.PrintMore
set_option linter.unusedVariables false
set_option linter.unusedSimpArgs false
theorem Tab.drew {w : World} {g : Nat} {T : List Ent} (h : Tab w g T) : Tab w.drew g T := ⟨h.1, h.2⟩
theorem But.cell {g : Nat} {w w' : World} (h : But g w w') {k i : Nat} {v : Value} (hk : k ≠ g) (hc : w.cell? ⟨k, i, none⟩ = some v) : w'.cell? ⟨k, i, none⟩ = some v := by
  cases ho : w.heap[k]? with
  | none => unfold World.cell? at hc; simp only [ho] at hc; cases hc
  | some o =>
    have := h.2 k o hk ho
    unfold World.cell? at hc ⊢
    simp only [ho] at hc
    simp only [this]
    exact hc
end Go.Proofs.YthlkcfjodmhhmaaDoor.Dd
namespace Go.Proofs.YthlkcfjodmhhmaaDoor.Dd
open Go.RowKit Go.Lib Go.Proofs.YthlkcfjodmhhmaaDoor.Giv Go.Proofs.YthlkcfjodmhhmaaDoorW.PrintWords Go.Proofs.YthlkcfjodmhhmaaDoorW.PrintLast Go.Proofs.YthlkcfjodmhhmaaDoorW.PrintMore
set_option linter.unusedVariables false
set_option linter.unusedSimpArgs false
def T1 : List Ent := [zE, ⟨5, 0, true⟩, zE, zE, zE, zE, zE, zE]
theorem put_T0 : putT T0 1 5 0 true = (T1, 0) := by kernel_rfl
theorem find_T1a : findM T1 1 5 = (0, true, 0) := by kernel_rfl
theorem find_T1b : findM T1 1 4 = (0, false, 90) := by kernel_rfl
theorem find_T1c : findM T1 1 6 = (0, false, 3) := by kernel_rfl
theorem last_T1 : lastM T1 1 = 5 := by kernel_rfl
set_option maxHeartbeats 8000000 in
set_option maxRecDepth 100000 in
theorem awake_calls {w : World} (hL : LaidW w) (t : ByteArray) (er : Int) (ht : benc_Put.f 3 0 ⟨#[]⟩ (rowsM 0 T1) = some (t, er)) (he : (t.toList == [108, 108, 105, 49, 101, 105, 53, 101, 105, 48, 101, 105, 49, 101, 101, 101]) = true) :
    Calls Tryd.prog 13 #[] w fun e w' => e = .returned (.bool true) ∧ Below w.heap.size w w' := by
  have HP := Aside0.mk ht
  have HE := Aside0.mk he
  clear ht he
  go_enter Tryd.func13, Tryd.ntmps13
  go_wp2_with fail
  refine (New_calls w).mono ?_
  rintro e w1 ⟨rfl, hb1, hT1⟩
  have HB := Aside0.mk hb1
  have HT := Aside0.mk hT1
  clear hb1 hT1
  go_wp2_with fail
  refine (put_calls HT.out 1 5 0 true _ _ put_T0).mono ?_
  rintro e w2 ⟨rfl, hT2, hB2⟩
  have HT := Aside0.mk hT2
  have HB := Aside0.mk (hB2.1 _ _ HB.out (Nat.le_refl _))
  clear hT2 hB2
  dsimp only
  go_wp2_with fail
  refine (find_calls HT.out 1 5 _ find_T1a).mono ?_
  rintro e w3 ⟨rfl, hb3⟩
  have HT := Aside0.mk ((HT.out.kept hb3).alloc (.cells #[.int .i64 0, .bool true, .slice none 0 0] 31))
  have HB := Aside0.mk (below_alloc (below_step HB.out hb3) (.cells #[.int .i64 0, .bool true, .slice none 0 0] 31))
  have BA := Aside0.mk (blk_new w3 (.cells #[.int .i64 0, .bool true, .slice none 0 0] 31))
  clear hb3
  go_wp2_with fail
  refine (find_calls HT.out 1 4 _ find_T1b).mono ?_
  rintro e w4 ⟨rfl, hb4⟩
  have HT := Aside0.mk ((HT.out.kept hb4).alloc (.cells #[.int .i64 0, .bool false, .slice none 0 0] 31))
  have HB := Aside0.mk (below_alloc (below_step HB.out hb4) (.cells #[.int .i64 0, .bool false, .slice none 0 0] 31))
  have BA := Aside0.mk (blk_alloc (blk_below BA.out hb4) (.cells #[.int .i64 0, .bool false, .slice none 0 0] 31))
  clear hb4
  go_wp2_with fail
  refine (find_calls HT.out 1 6 _ find_T1c).mono ?_
  rintro e w5 ⟨rfl, hb5⟩
  have HT := Aside0.mk ((HT.out.kept hb5).alloc (.cells #[.int .i64 0, .bool false, .slice none 0 0] 31))
  have HB := Aside0.mk (below_alloc (below_step HB.out hb5) (.cells #[.int .i64 0, .bool false, .slice none 0 0] 31))
  have BA := Aside0.mk (blk_alloc (blk_below BA.out hb5) (.cells #[.int .i64 0, .bool false, .slice none 0 0] 31))
  clear hb5
  obtain ⟨z0, z1, z2⟩ := cells3 BA.out
  go_wp2_with fail
  refine (last_calls HT.out 1 _ last_T1).mono ?_
  rintro e w6 ⟨rfl, hb6⟩
  have HT := Aside0.mk (HT.out.kept hb6)
  have HB := Aside0.mk (below_step HB.out hb6)
  clear hb6
  go_wp2_with fail
  refine (text_calls HT.out (LaidW.below hL HB.out) t er HP.out).mono ?_
  rintro e w7 ⟨rfl, hb7⟩
  have HB := Aside0.mk (below_step HB.out hb7)
  clear hb7
  have D := HE.out
  go_wp2_with fail
  go_returns
  exact ⟨rfl, HB.out⟩
end Go.Proofs.YthlkcfjodmhhmaaDoor.Dd
namespace Go.Proofs.YthlkcfjodmhhmaaDoor.Dd
open Go.RowKit Go.Lib Go.Proofs.YthlkcfjodmhhmaaDoor.Giv Go.Proofs.YthlkcfjodmhhmaaDoor.Pure Go.Proofs.YthlkcfjodmhhmaaDoorW.PrintWords Go.Proofs.YthlkcfjodmhhmaaDoorW.PrintLast Go.Proofs.YthlkcfjodmhhmaaDoorW.PrintMore
set_option linter.unusedVariables false
set_option linter.unusedSimpArgs false
theorem okT_T1 : okT T1 := by have := okT_put okT_T0 1 5 0 true; rw [put_T0] at this; exact this
theorem text_T1 : ((textM T1).toList == [108, 108, 105, 49, 101, 105, 53, 101, 105, 48, 101, 105, 49, 101, 101, 101]) = true := by
  have i0 : itoa 0 = [48] := by rw [itoa_pos (by decide)]; show decDigits 0 = _; rw [dd_small (by decide)]; rfl
  have i1 : itoa 1 = [49] := by rw [itoa_pos (by decide)]; show decDigits 1 = _; rw [dd_small (by decide)]; rfl
  have i5 : itoa 5 = [53] := by rw [itoa_pos (by decide)]; show decDigits 5 = _; rw [dd_small (by decide)]; rfl
  rw [textM_list]
  show (enc (lisV [lisV [intV 1, intV 5, intV 0, intV 1]]) == _) = true
  simp only [enc_lis, encs_cons, encs_nil, enc_int, i0, i1, i5]
  rfl
theorem awake_ok {w : World} (hL : LaidW w) : Calls Tryd.prog 13 #[] w fun e w' => e = .returned (.bool true) ∧ Below w.heap.size w w' :=
  awake_calls hL (textM T1) 0 (tab_put okT_T1) text_T1
end Go.Proofs.YthlkcfjodmhhmaaDoor.Dd
namespace Go.Proofs.YthlkcfjodmhhmaaDoor.Dd
open Go.RowKit Go.Lib Go.Proofs.YthlkcfjodmhhmaaDoor.Giv Go.Proofs.YthlkcfjodmhhmaaDoor.Pure Go.Proofs.YthlkcfjodmhhmaaDoorW.PrintWords Go.Proofs.YthlkcfjodmhhmaaDoorW.PrintLast Go.Proofs.YthlkcfjodmhhmaaDoorW.PrintMore
set_option linter.unusedVariables false
set_option linter.unusedSimpArgs false
def Bad (w : World) (p : Value) : Prop := p = .pointer none ∨ ∃ g, p = .pointer (some ⟨g, 0, none⟩) ∧ w.cell? ⟨g, 0, none⟩ = some (.bool false)
set_option maxHeartbeats 4000000 in
set_option maxRecDepth 100000 in
theorem may_bad {w : World} {p : Value} (h : Bad w p) (c s : Int) :
    Calls Tryd.prog 20 #[p, .int .i64 c, .int .i64 s] w fun e w' => e = .returned (.bool false) ∧ Below w.heap.size w w' := by
  rcases h with rfl | ⟨g, rfl, h⟩
  · exact may_nil c s
  · exact may_raw h c s
theorem cell_kept {w w' : World} {p : Addr} {v : Value} (hb : Below w.heap.size w w') (hc : w.cell? p = some v) : w'.cell? p = some v := by
  refine (Below.cell hb ?_).trans hc
  unfold World.cell? at hc
  cases h : w.heap[p.block]? with
  | none => rw [h] at hc; cases hc
  | some o => exact (Array.getElem?_eq_some_iff.1 h).1
theorem cell_drew {w : World} {p : Addr} {v : Value} (h : w.cell? p = some v) : w.drew.cell? p = some v := h
theorem asz (w : World) (o : Obj) : (w.alloc o).heap.size = w.heap.size + 1 := by simp
theorem Bad.kept {w w' : World} {p : Value} (h : Bad w p) (hb : Below w.heap.size w w') : Bad w' p := by
  rcases h with rfl | ⟨g, rfl, h⟩
  · exact .inl rfl
  · refine .inr ⟨g, rfl, (Below.cell hb ?_).trans h⟩
    unfold World.cell? at h
    cases ho : w.heap[g]? with
    | none => simp only [ho] at h; cases h
    | some o => exact (Array.getElem?_eq_some_iff.1 ho).1
theorem Bad.alloc {w : World} {p : Value} (h : Bad w p) (o : Obj) : Bad (w.alloc o) p := h.kept (below_alloc (Below.refl _ _) o)
set_option maxHeartbeats 4000000 in
set_option maxRecDepth 100000 in
theorem find_bad {w : World} {p : Value} (h : Bad w p) (c s : Int) :
    Calls Tryd.prog 12 #[p, .int .i64 c, .int .i64 s] w fun e w' => e = .returned (.tuple #[.agg #[.int .i64 0, .bool false, .slice none 0 0], .int .i64 1]) ∧ Below w.heap.size w w' := by
  have hu := Tryd.underlying31
  have hb0 := (Below.refl w.heap.size w).alloc (Nat.le_refl _) (.cells #[.int .i64 0, .bool false, .slice none 0 0] 31)
  have BR := blk_new w (.cells #[.int .i64 0, .bool false, .slice none 0 0] 31)
  have hc := may_bad (h.alloc (.cells #[.int .i64 0, .bool false, .slice none 0 0] 31)) c s
  clear h
  go_enter Tryd.func12, Tryd.ntmps12
  go_wp2_with fail
  refine hc.mono ?_
  rintro e w1 ⟨rfl, hb⟩
  have BR1 := blk_below BR hb
  obtain ⟨z0, z1, z2⟩ := cells3 BR1
  have f0 := blk_frozen BR1 0
  have f1 := blk_frozen BR1 1
  have f2 := blk_frozen BR1 2
  go_wp2_with fail
  refine bodyPost_ret (results_ct rfl _ _ w.heap.size 31 #[.int .i64 0, .bool false, .slice none 0 0] (0, 0) _ rfl (blk_store3 BR1 _ _ _) hu rfl (by kernel_rfl)) rfl ?_
  exact ⟨rfl, below_store3 (hb0.trans (hb.mono hb0.size)) (Nat.le_refl _) _ _ _⟩
set_option maxHeartbeats 4000000 in
set_option maxRecDepth 100000 in
theorem put_bad {w : World} {p : Value} (h : Bad w p) (c s er : Int) (b : Bool) (v : Value) :
    Calls Tryd.prog 10 #[p, .int .i64 c, .int .i64 s, .agg #[.int .i64 er, .bool b, v]] w fun e w' => e = .returned (.int .i64 1) ∧ Below w.heap.size w w' := by
  have hb0 := (Below.refl w.heap.size w).alloc (Nat.le_refl _) (.cells #[.int .i64 er, .bool b, v] 31)
  have hc := may_bad (h.alloc (.cells #[.int .i64 er, .bool b, v] 31)) c s
  clear h
  go_enter Tryd.func10, Tryd.ntmps10
  go_wp2_with fail
  refine hc.mono ?_
  rintro e w1 ⟨rfl, hb⟩
  go_wp2_with fail
  go_returns
  exact ⟨rfl, hb0.trans (hb.mono hb0.size)⟩
set_option maxHeartbeats 4000000 in
set_option maxRecDepth 100000 in
theorem last_bad {w : World} {p : Value} (h : Bad w p) (c : Int) :
    Calls Tryd.prog 11 #[p, .int .i64 c] w fun e w' => e = .returned (.int .i64 0) ∧ Below w.heap.size w w' := by
  have hc := may_bad h c 1
  clear h
  go_enter Tryd.func11, Tryd.ntmps11
  go_wp2_with fail
  refine hc.mono ?_
  rintro e w1 ⟨rfl, hb⟩
  go_wp2_with fail
  go_returns
  exact ⟨rfl, hb⟩
set_option maxHeartbeats 4000000 in
set_option maxRecDepth 100000 in
theorem text_bad {w : World} {p : Value} (h : Bad w p) :
    Calls Tryd.prog 14 #[p] w fun e w' => e = .returned (.string ⟨#[]⟩) ∧ Below w.heap.size w w' := by
  rcases h with rfl | ⟨g, rfl, h⟩
  · go_enter Tryd.func14, Tryd.ntmps14
    go_wp2_with fail
    go_returns
    exact ⟨rfl, Below.refl _ _⟩
  · go_enter Tryd.func14, Tryd.ntmps14
    go_wp2_with fail
    go_returns
    exact ⟨rfl, Below.refl _ _⟩
def rawA : Array Value := #[.bool false, .int .i64 0, .int .i64 0, .bool false, .int .i64 0, .int .i64 0, .bool false, .int .i64 0, .int .i64 0, .bool false, .int .i64 0, .int .i64 0, .bool false, .int .i64 0, .int .i64 0, .bool false, .int .i64 0, .int .i64 0, .bool false, .int .i64 0, .int .i64 0, .bool false, .int .i64 0, .int .i64 0, .bool false]
def NB (w0 w : World) (er : Int) (b : Bool) (v : Value) : Prop :=
  Below w0.heap.size w0 w ∧ w.heap[w0.heap.size]? = some (.cells #[.int .i64 er, .bool b, v] 31 (0, 0)) ∧ w.heap[w0.heap.size + 1]? = some (.cells rawA 43 (0, 0)) ∧ w.heap[w0.heap.size + 1 + 1]? = some (.cells #[.pointer none, .pointer (some ⟨w0.heap.size + 1, 0, none⟩)] 23 (0, 0))
theorem NB.kept {w0 w w' : World} {er : Int} {b : Bool} {v : Value} (h : NB w0 w er b v) (hb : Below w.heap.size w w') : NB w0 w' er b v := ⟨below_step h.1 hb, blk_below h.2.1 hb, blk_below h.2.2.1 hb, blk_below h.2.2.2 hb⟩
theorem NB.alloc {w0 w : World} {er : Int} {b : Bool} {v : Value} (h : NB w0 w er b v) (o : Obj) : NB w0 (w.alloc o) er b v := h.kept (below_alloc (Below.refl _ _) o)
theorem NB.drew {w0 w : World} {er : Int} {b : Bool} {v : Value} (h : NB w0 w er b v) : NB w0 w.drew er b v := h.kept (below_drew (Below.refl _ _))
theorem NB.bad {w0 w : World} {er : Int} {b : Bool} {v : Value} (h : NB w0 w er b v) (i : Nat) (hi : i < 2) : ∃ p, w.cell? ⟨w0.heap.size + 1 + 1, i, none⟩ = some p ∧ (p = .pointer none ∨ p = .pointer (some ⟨w0.heap.size + 1, 0, none⟩)) := by
  match i, hi with
  | 0, _ => exact ⟨_, blk_cell h.2.2.2 0, .inl rfl⟩
  | 1, _ => exact ⟨_, blk_cell h.2.2.2 1, .inr rfl⟩
theorem NB.is {w0 w : World} {er : Int} {b : Bool} {v : Value} (h : NB w0 w er b v) {p : Value} (hp : p = .pointer none ∨ p = .pointer (some ⟨w0.heap.size + 1, 0, none⟩)) : Bad w p := by
  rcases hp with rfl | rfl
  · exact .inl rfl
  · exact .inr ⟨_, rfl, blk_cell h.2.2.1 0⟩
theorem NB.row {w0 w : World} {er : Int} {b : Bool} {v : Value} (h : NB w0 w er b v) : w.cell? ⟨w0.heap.size, 0, none⟩ = some (.int .i64 er) ∧ w.cell? ⟨w0.heap.size, 1, none⟩ = some (.bool b) ∧ w.cell? ⟨w0.heap.size, 2, none⟩ = some v := cells3 h.2.1
theorem NB.start (w : World) (er : Int) (b : Bool) (v : Value) : NB w (((w.alloc (.cells #[.int .i64 er, .bool b, v] 31)).alloc (.cells rawA 43)).alloc (.cells #[.pointer none, .pointer (some ⟨w.heap.size + 1, 0, none⟩)] 23)) er b v := by
  refine ⟨below_alloc (below_alloc (below_alloc (Below.refl _ _) _) _) _, blk_alloc (blk_alloc (blk_new _ _) _) _, ?_, ?_⟩
  · have := blk_alloc (blk_new (w.alloc (.cells #[.int .i64 er, .bool b, v] 31)) (.cells rawA 43)) (.cells #[.pointer none, .pointer (some ⟨w.heap.size + 1, 0, none⟩)] 23)
    rw [asz] at this
    exact this
  · have := blk_new ((w.alloc (.cells #[.int .i64 er, .bool b, v] 31)).alloc (.cells rawA 43)) (.cells #[.pointer none, .pointer (some ⟨w.heap.size + 1, 0, none⟩)] 23)
    rw [asz, asz] at this
    exact this
set_option maxHeartbeats 8000000 in
set_option maxRecDepth 100000 in
theorem nobody_calls {w : World} (hL : LaidW w) (n er : Int) (b : Bool) (v : Value) :
    Calls Tryd.prog 5 #[.int .i64 n, .agg #[.int .i64 er, .bool b, v]] w fun e w' => e = .returned (.bool true) ∧ Below w.heap.size w w' := by
  go_enter Tryd.func5, Tryd.ntmps5
  go_wp2_with fail
  have HN := Aside0.mk (NB.start w er b v)
  go_loopw [6] (fun v6 wr => ∃ i : Nat, i ≤ 2 ∧ v6 = .int .i64 (i : Int) ∧ Aside0 (NB w wr er b v)) (fun v6 _ => 2 - (RowKit.intOf v6).toNat)
  case atStart => exact ⟨0, by decide, rfl, HN⟩
  case round =>
    obtain ⟨i, hi, rfl, HN⟩ := hrel
    by_cases hlt : i < 2
    · have c0 : decide ((i : Int) < 2) = true := decide_eq_true (by omega)
      obtain ⟨p, hc, hp⟩ := HN.out.bad i hlt
      have HP := Aside0.mk hp
      clear hp
      have i0 : (0 : Int) ≤ (i : Int) := by omega
      have i2 : (i : Int) < 2 := by omega
      have i3 : (i : Int) < ((2 : Nat) : Int) := by omega
      go_wp2_with fail
      refine (find_bad (HN.out.is HP.out) n n).mono ?_
      rintro e w1 ⟨rfl, hb1⟩
      have HN := Aside0.mk ((HN.out.kept hb1).alloc (.cells #[.int .i64 0, .bool false, .slice none 0 0] 31))
      have hc := cell_kept (below_alloc hb1 (.cells #[.int .i64 0, .bool false, .slice none 0 0] 31)) hc
      have BA := Aside0.mk (blk_new w1 (.cells #[.int .i64 0, .bool false, .slice none 0 0] 31))
      obtain ⟨z0, z1, z2⟩ := cells3 BA.out
      obtain ⟨y0, y1, y2⟩ := NB.row HN.out
      clear hb1
      go_wp2_with fail
      go_region_held3 (fun w' => w'.cell? ⟨w1.heap.size, 0, none⟩ = some (.int .i64 0) ∧ w'.cell? ⟨w1.heap.size, 1, none⟩ = some (.bool false) ∧ w'.cell? ⟨w.heap.size + 1 + 1, i, none⟩ = some p ∧ w'.cell? ⟨w.heap.size, 0, none⟩ = some (.int .i64 er) ∧ w'.cell? ⟨w.heap.size, 1, none⟩ = some (.bool b) ∧ w'.cell? ⟨w.heap.size, 2, none⟩ = some v) (first | exact ⟨z0, z1, hc, y0, y1, y2⟩ | go_keep) (first | (go_at_call 10; with_reducible refine (put_bad (by first | with_reducible exact NB.is HN.out HP.out | with_reducible exact NB.is (NB.drew HN.out) HP.out) n n er b v).mono ?_; rintro e w5 ⟨rfl, hb5⟩; have BA := Aside0.mk (blk_below (by first | exact BA.out | exact blk_drew BA.out) hb5); have HN := Aside0.mk (NB.kept (by first | with_reducible exact HN.out | with_reducible exact NB.drew HN.out) hb5); (first | with_reducible have hc := cell_kept hb5 hc | with_reducible have hc := cell_kept hb5 (cell_drew hc)); obtain ⟨z0, z1, z2⟩ := cells3 BA.out; obtain ⟨y0, y1, y2⟩ := NB.row HN.out; clear hb5) | (go_at_call 11; with_reducible refine (last_bad (by first | with_reducible exact NB.is HN.out HP.out | with_reducible exact NB.is (NB.drew HN.out) HP.out) n).mono ?_; rintro e w5 ⟨rfl, hb5⟩; have BA := Aside0.mk (blk_below (by first | exact BA.out | exact blk_drew BA.out) hb5); have HN := Aside0.mk (NB.kept (by first | with_reducible exact HN.out | with_reducible exact NB.drew HN.out) hb5); (first | with_reducible have hc := cell_kept hb5 hc | with_reducible have hc := cell_kept hb5 (cell_drew hc)); obtain ⟨z0, z1, z2⟩ := cells3 BA.out; obtain ⟨y0, y1, y2⟩ := NB.row HN.out; clear hb5) | (go_at_call 14; with_reducible refine (text_bad (by first | with_reducible exact NB.is HN.out HP.out | with_reducible exact NB.is (NB.drew HN.out) HP.out)).mono ?_; rintro e w5 ⟨rfl, hb5⟩; have BA := Aside0.mk (blk_below (by first | exact BA.out | exact blk_drew BA.out) hb5); have HN := Aside0.mk (NB.kept (by first | with_reducible exact HN.out | with_reducible exact NB.drew HN.out) hb5); (first | with_reducible have hc := cell_kept hb5 hc | with_reducible have hc := cell_kept hb5 (cell_drew hc)); obtain ⟨z0, z1, z2⟩ := cells3 BA.out; obtain ⟨y0, y1, y2⟩ := NB.row HN.out; clear hb5))
      clear hc z0 z1 z2 y0 y1 y2
      go_wp2_with fail
      go_roundw
      case rel => exact ⟨i + 1, by omega, by go_num, HN⟩
      case measure => simp [RowKit.intOf]; omega
    · have c0 : decide ((i : Int) < 2) = false := decide_eq_false (by omega)
      go_wp2_with fail
      refine (awake_ok (LaidW.below hL HN.out.1)).mono ?_
      rintro e w3 ⟨rfl, hb3⟩
      have HN := Aside0.mk (HN.out.kept hb3)
      clear hb3
      go_wp2_with fail
      go_returns
      exact ⟨rfl, HN.out.1⟩
end Go.Proofs.YthlkcfjodmhhmaaDoor.Dd
namespace Go.Proofs.YthlkcfjodmhhmaaDoor.Opn
open Go.RowKit Go.Proofs.YthlkcfjodmhhmaaDoorW.PrintWords
set_option linter.unusedVariables false
theorem opens_hit : ∀ n, OpensAt Tryd.prog n 136 (Kd.pair (Kd.int .i64) (Kd.int .i64)) (fun _ => True) := fun n =>
  OpensAt.map (d := Kd.pair (Kd.int .i64) (Kd.int .i64)) id (opens_struct Tryd.underlying136 (by kernel_rfl) (fun m hm => fields_cons rfl (by kernel_rfl) (opens_int (by kernel_rfl)) (fields_one rfl (by kernel_rfl) (opens_int (by kernel_rfl))))) (fun w a cs h1 h2 => ⟨h1, trivial⟩)
theorem opens_reply : ∀ n, OpensAt Tryd.prog n 31 (Kd.pair (Kd.int .i64) (Kd.pair Kd.bool (Kd.slice 136 (Kd.pair (Kd.int .i64) (Kd.int .i64))))) (fun _ => True) := fun n =>
  OpensAt.map (d := Kd.pair (Kd.int .i64) (Kd.pair Kd.bool (Kd.slice 136 (Kd.pair (Kd.int .i64) (Kd.int .i64))))) id (opens_struct Tryd.underlying31 (by kernel_rfl) (fun m hm => fields_cons rfl (by kernel_rfl) (opens_int (by kernel_rfl)) (fields_cons rfl (by kernel_rfl) (opens_bool (by kernel_rfl)) (fields_one rfl (by kernel_rfl) (opens_slice (e := 136) (by kernel_rfl) (by kernel_rfl) 16 (by kernel_rfl) (fun q hq => opens_hit q)))))) (fun w a cs h1 h2 => ⟨h1, trivial⟩)
set_option maxRecDepth 100000 in
theorem open_reply {H : Type} {enc : TypeId × Value → H} {W : World} {base : Nat} {spare : Nat → Bool} {held : Bool} {v : Value} {d : DataW H} {ps : List MemPlace} {r : Reach} {b0 : Nat}
    (hval : Value.okWide Tryd.prog W r b0 31 v) (hd : DataW.Trod enc Tryd.prog W base spare held 31 v d ps) (hw : ∀ x ∈ d.weights Tryd.prog 31, x ≤ reachBytes) :
    ∃ (er : Int) (b : Bool) (u : Value), v = .agg #[.int .i64 er, .bool b, u] := by
  obtain ⟨cs, rfl, _⟩ := Go.WideShapes.okWide_struct Tryd.underlying31 hval
  obtain ⟨n, hn⟩ := hd
  obtain ⟨⟨er, b, l⟩, ⟨_, _, he, rfl, ⟨_, _, rfl, rfl, ⟨A3, c3, rfl, _⟩⟩⟩, _⟩ := opens_reply n hn hw
  refine ⟨er, b, .slice A3 l.length c3, ?_⟩
  have : cs.toList = [.int .i64 er, .bool b, .slice A3 l.length c3] := he
  congr 1
  exact Array.toList_inj.1 this
end Go.Proofs.YthlkcfjodmhhmaaDoor.Opn
namespace Go.Proofs.YthlkcfjodmhhmaaDoor.Dd
open Go.RowKit Go.Lib Go.Proofs.YthlkcfjodmhhmaaDoor.Giv
theorem nobody_walk (n er : Int) (b : Bool) (v : Value) (W : World) (hL : LaidW W) :
    Calls Tryd.prog 5 #[.int .i64 n, .agg #[.int .i64 er, .bool b, v]] W fun e w' => e = .returned (.bool true) ∧ Below W.heap.size W w' := nobody_calls hL n er b v
end Go.Proofs.YthlkcfjodmhhmaaDoor.Dd
namespace Go.Proofs.YthlkcfjodmhhmaaDoor.Lay
open Go.RowKit Go.Lib
def LL : List (String × DataW Unit) := [("math/bits.deBruijn32tab", Rows.laid_math_bits_deBruijn32tab), ("math/bits.deBruijn64tab", Rows.laid_math_bits_deBruijn64tab), ("internal/strconv.uint64pow10", Rows.laid_internal_strconv_uint64pow10)]
def cellsOf : DataW Unit → List Value
  | .agg l => l.map fun | .lit (.int k z) => .int k z | _ => .nilIface
  | _ => []
noncomputable def laidWorld (os : Os) : World :=
  let w0 := World.holding Tryd.prog os ⟨#[], #[], []⟩
  let put (h : Array Obj) (g : Nat) (cs : Array Value) : Array Obj := h.modify g fun
    | .cells _ t frozen => .cells cs t frozen
    | o => o
  let h1 := put w0.heap 1 (cellsOf Rows.laid_math_bits_deBruijn32tab).toArray
  let h2 := put h1 2 (cellsOf Rows.laid_math_bits_deBruijn64tab).toArray
  let h3 := put h2 0 (cellsOf Rows.laid_internal_strconv_uint64pow10).toArray
  { w0 with heap := h3 }
theorem laid_met (os : Os) (args : Array Value) : laidMet Tryd.prog LL ((laidWorld os).forCall (fun _ _ => 0) ⟨#[], args, []⟩).memory :=
  (LaidIn.of_run (l := LL) [1, 2, 0] 8 (by kernel_rfl) (by kernel_rfl) (by kernel_rfl) (by kernel_rfl)).met
theorem eqP : (Rows.laid_internal_strconv_uint64pow10 : DataW Unit) = Lib.tabData .u64 Lib.pow10Tab := by kernel_rfl
set_option maxRecDepth 100000 in
theorem tabIs_of_reads {name : String} {k : IntKind} {zs : List Int} {W : World} {g : Nat} {t e : TypeId} {n : Nat} (hg : Tryd.prog.globalNamed name = some g) (hty : (Tryd.prog.globals[g]?).map (·.type) = some t) (ht : Tryd.prog.underlying t = some (.array n e)) (he : Tryd.prog.underlying e = some (.int k)) (hce : Tryd.prog.cellsOf e = 1) (hct : Tryd.prog.cellsOf t = n)
    (h : VarReads Tryd.prog W name (tabData k zs)) : Lib.TabIs Tryd.prog W name k zs := by
  obtain ⟨g', t', cs, fuel, p, h1, h2, h3, h4⟩ := h
  obtain rfl : g' = g := by rw [hg] at h1; exact (Option.some.inj h1).symm
  obtain rfl : t' = t := by rw [hty] at h2; exact (Option.some.inj h2).symm
  have := cells_of_tab ht he hce hct h4
  unfold Lib.TabIs
  rw [h3]
  congr 1
  apply Array.toList_inj.1
  rw [this]
theorem laidW_of {W : World} (hL : laidMetH Tryd.prog LL W) : Giv.LaidW W := by
  have h1 := Lib.laidMet.reads hL (.tail _ (.tail _ (.head _)))
  rw [eqP] at h1
  exact tabIs_of_reads (t := 114) (e := 108) (n := 20) Giv.pow10_named (by kernel_rfl) Tryd.underlying114 Tryd.underlying108 (by kernel_rfl) (by kernel_rfl) h1
theorem own : ownKnob Tryd.prog.godebug = none := by kernel_rfl
theorem laidOut : laidOutB Tryd.prog = true := by kernel_rfl
end Go.Proofs.YthlkcfjodmhhmaaDoor.Lay
