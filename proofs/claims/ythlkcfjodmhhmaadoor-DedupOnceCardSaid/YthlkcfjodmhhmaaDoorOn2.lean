/- Texts put together by prune.py: Aid, BncXr, DdE, DdC, DdD, DdF, DdG, DdJ, Opn, DdK, LayB. -/
import Derived.WalkKit
import Derived.Deep.Quiet
import Derived.BigQuiet
import Derived.ChangeArms
import Derived.DataReads
import Derived.SizedLaws
import Derived.OpenShut
import Derived.Test.YthlkcfjodmhhmaaDoorRows
import Derived.Lib.LaidIn
import Derived.Lib.LaidU8T
import Derived.Deep.DeepHandedRow
import Derived.Deep.DeepWitnessRowRef
import Derived.ProofKit
import Derived.Test.YthlkcfjodmhhmaaDoorOn1
namespace Go.Proofs.YthlkcfjodmhhmaaDoor
open Go.RowKit
def Veil (p : Prop) : Prop := Unit → p
theorem Veil.out {p : Prop} (h : Veil p) : p := h ()
theorem i64_in {n : Int} (h0 : -9223372036854775808 ≤ n) (h1 : n ≤ 9223372036854775807) : IntKind.i64.wrap n = n := by rw [IntKind.wrap_i64]; omega
theorem and_mask_i64 (x : Int) (i : Nat) (hi : i ≤ 62) : bits .and .i64 x ((2 ^ i - 1 : Nat) : Int) = x % ((2 ^ i : Nat) : Int) := by
  have hp : 0 < 2 ^ i := Nat.two_pow_pos i
  have hle : 2 ^ i ≤ 2 ^ 62 := Nat.pow_le_pow_right (by decide) hi
  show IntKind.i64.wrap ((BitVec.ofInt 64 x &&& BitVec.ofInt 64 ((2 ^ i - 1 : Nat) : Int)).toNat : Int) = _
  rw [BitVec.toNat_and, BitVec.ofInt_natCast, BitVec.toNat_ofNat, Nat.mod_eq_of_lt (by omega), BitVec.toNat_ofInt, Nat.and_two_pow_sub_one_eq_mod]
  have hm := Int.emod_nonneg x (show (18446744073709551616 : Int) ≠ 0 by decide)
  have hd : ((2 ^ i : Nat) : Int) ∣ 18446744073709551616 := by
    have : (2 ^ i : Nat) ∣ 2 ^ 64 := Nat.pow_dvd_pow 2 (by omega)
    exact Int.natCast_dvd_natCast.2 this
  have e : (((x % 18446744073709551616).toNat % 2 ^ i : Nat) : Int) = x % ((2 ^ i : Nat) : Int) := by
    rw [Int.natCast_emod, Int.toNat_of_nonneg hm]
    exact Int.emod_emod_of_dvd x hd
  have e' : (((x % ((2 ^ 64 : Nat) : Int)).toNat % 2 ^ i : Nat) : Int) = x % ((2 ^ i : Nat) : Int) := e
  rw [e']
  have h0 := Int.emod_nonneg x (show ((2 ^ i : Nat) : Int) ≠ 0 by omega)
  have h1 := Int.emod_lt_of_pos x (show (0 : Int) < ((2 ^ i : Nat) : Int) by omega)
  exact i64_in (by omega) (by omega)
def Blk (w : World) (b : Nat) (c : Array Value) (t : TypeId) : Prop := w.heap[b]? = some (.cells c t (0, 0))
theorem Blk.lt {w : World} {b : Nat} {c : Array Value} {t : TypeId} (h : Blk w b c t) : b < w.heap.size := (Array.getElem?_eq_some_iff.1 h).1
theorem Blk.cell {w : World} {b : Nat} {c : Array Value} {t : TypeId} (h : Blk w b c t) (i : Nat) : w.cell? ⟨b, i, none⟩ = c[i]? := by
  unfold Blk at h
  simp [World.cell?, h]
theorem Blk.alloc {w : World} {b : Nat} {c : Array Value} {t : TypeId} (h : Blk w b c t) (o : Obj) : Blk (w.alloc o) b c t := by
  have := h.lt
  unfold Blk at *
  rw [Below.heap_alloc _ _ _ this]; exact h
theorem Blk.drew {w : World} {b : Nat} {c : Array Value} {t : TypeId} (h : Blk w b c t) : Blk w.drew b c t := h
theorem Blk.set {w : World} {b : Nat} {c : Array Value} {t : TypeId} (h : Blk w b c t) (i : Nat) (v : Value) : Blk (w.setCell ⟨b, i, none⟩ v) b (c.setIfInBounds i v) t := by
  unfold Blk at *
  simp [World.setCell, Array.getElem?_modify, h]
theorem Blk.below {w w' : World} {B b : Nat} {c : Array Value} {t : TypeId} (h : Blk w b c t) (hb : Below B w w') (hB : b < B) : Blk w' b c t := by
  unfold Blk at *
  rw [hb.block b hB]; exact h
def BlkM (w : World) (b : Nat) (c : Array Value) (t : TypeId) (f : Nat × Nat) : Prop := w.heap[b]? = some (.cells c t f)
theorem BlkM.lt {w : World} {b : Nat} {c : Array Value} {t : TypeId} {f : Nat × Nat} (h : BlkM w b c t f) : b < w.heap.size := (Array.getElem?_eq_some_iff.1 h).1
theorem BlkM.cell {w : World} {b : Nat} {c : Array Value} {t : TypeId} {f : Nat × Nat} (h : BlkM w b c t f) (i : Nat) : w.cell? ⟨b, i, none⟩ = c[i]? := by
  unfold BlkM at h
  simp [World.cell?, h]
theorem BlkM.alloc {w : World} {b : Nat} {c : Array Value} {t : TypeId} {f : Nat × Nat} (h : BlkM w b c t f) (o : Obj) : BlkM (w.alloc o) b c t f := by
  have := h.lt
  unfold BlkM at *
  rw [Below.heap_alloc _ _ _ this]; exact h
theorem BlkM.drew {w : World} {b : Nat} {c : Array Value} {t : TypeId} {f : Nat × Nat} (h : BlkM w b c t f) : BlkM w.drew b c t f := h
theorem BlkM.set {w : World} {b : Nat} {c : Array Value} {t : TypeId} {f : Nat × Nat} (h : BlkM w b c t f) (i : Nat) (v : Value) : BlkM (w.setCell ⟨b, i, none⟩ v) b (c.setIfInBounds i v) t f := by
  unfold BlkM at *
  simp [World.setCell, Array.getElem?_modify, h]
theorem BlkM.below {w w' : World} {B b : Nat} {c : Array Value} {t : TypeId} {f : Nat × Nat} (h : BlkM w b c t f) (hb : Below B w w') (hB : b < B) : BlkM w' b c t f := by
  unfold BlkM at *
  rw [hb.block b hB]; exact h
def Later (w : World) : Type := { v : World // Below w.heap.size w v }
instance (w : World) : Nonempty (Later w) := ⟨⟨w, Below.refl _ _⟩⟩
theorem Later.call {P : Program} {f : FuncId} {args : Array Value} {w : World} {v : Value} {x : Later w}
    (h : Calls P f args x.1 fun e w' => e = .returned v ∧ Below x.1.heap.size x.1 w') : Calls P f args x.1 fun e w' => e = .returned v ∧ ∃ y : Later w, w' = y.1 :=
  h.mono fun _ w' ⟨he, hb⟩ => ⟨he, ⟨w', x.2.trans (hb.mono x.2.size)⟩, rfl⟩
theorem Later.cell {w : World} (x : Later w) {p : Addr} (hp : p.block < w.heap.size) : x.1.cell? p = w.cell? p := x.2.cell hp
end Go.Proofs.YthlkcfjodmhhmaaDoor
namespace Go.Proofs.YthlkcfjodmhhmaaDoor.Pure
open Go.RowKit Go.Lib Go.Proofs.YthlkcfjodmhhmaaDoor.Giv Go.Proofs.YthlkcfjodmhhmaaDoor.P Go.Proofs.YthlkcfjodmhhmaaDoorW.PrintWords Go.Proofs.YthlkcfjodmhhmaaDoorW.PrintLast Go.Proofs.YthlkcfjodmhhmaaDoorW.PrintMore
set_option linter.unusedVariables false
set_option linter.unusedSimpArgs false
theorem fit_of {v : V} (ho : okV v = true) (hw : wt v ≤ 70368744177664) : fitV v = true := by unfold fitV; rw [ho, decide_eq_true hw]; rfl
theorem putM_of {v : V} (hk : kin v = true) (hd : dep v ≤ 8) (hl : (enc v).length ≤ 65536) : putM v = (⟨(enc v).toArray⟩, 0) := by
  have e : chk v 0 = 0 := by rw [chk_top, if_pos hk, if_neg (show ¬ 8 < dep v by omega)]
  unfold putM
  rw [if_pos e, if_pos hl]
def v0 : V := lisV [intV 12, strV ⟨#[97, 98]⟩]
end Go.Proofs.YthlkcfjodmhhmaaDoor.Pure
namespace Go.Proofs.YthlkcfjodmhhmaaDoor.Dd
open Go.RowKit Go.Lib Go.Proofs.YthlkcfjodmhhmaaDoor.Giv Go.Proofs.YthlkcfjodmhhmaaDoor.Pure Go.Proofs.YthlkcfjodmhhmaaDoorW.PrintWords Go.Proofs.YthlkcfjodmhhmaaDoorW.PrintLast Go.Proofs.YthlkcfjodmhhmaaDoorW.PrintMore
set_option linter.unusedVariables false
set_option linter.unusedSimpArgs false
def okE (x : Ent) : Prop := 0 ≤ x.s ∧ x.s ≤ 1099511627776 ∧ 0 ≤ x.e ∧ x.e ≤ 255 ∧ (x.s = 0 → x = zE)
def okT (T : List Ent) : Prop := T.length = 8 ∧ ∀ x ∈ T, okE x
theorem okE_zE : okE zE := ⟨by decide, by decide, by decide, by decide, fun _ => rfl⟩
theorem okT_T0 : okT T0 := ⟨rfl, fun x hx => by
  simp only [T0, List.mem_cons, List.not_mem_nil, or_false, or_self] at hx
  exact hx ▸ okE_zE⟩
theorem okT_put {T : List Ent} (h : okT T) (c s e : Int) (b : Bool) : okT (putT T c s e b).1 := by
  unfold putT
  split
  · rename_i hc
    split
    · exact h
    · refine ⟨by rw [List.length_set]; exact h.1, fun x hx => ?_⟩
      obtain ⟨m0, m1, m2, m3⟩ := mayM_iff.1 hc.1
      rcases List.mem_or_eq_of_mem_set hx with hx | rfl
      · exact h.2 x hx
      · exact ⟨by show (0 : Int) ≤ s; omega, m3, hc.2.1, hc.2.2, fun hz => by have : s = 0 := hz; omega⟩
  · exact h
theorem wi (b : Bool) : (if b = true then (1 : Int) else 0) = 0 ∨ (if b = true then (1 : Int) else 0) = 1 := by cases b <;> simp
theorem row_facts (k : Int) (x : Ent) (hk0 : 0 ≤ k) (hk : k ≤ 100) (h : okE x) : wt (rowV k x) = 150 ∧ okV (rowV k x) = true ∧ kin (rowV k x) = true ∧ dep (rowV k x) = 1 ∧ (enc (rowV k x)).length ≤ 90 ∧ nrm (rowV k x) = rowV k x := by
  obtain ⟨h0, h1, h2, h3, _⟩ := h
  have hw := wi x.w
  have hL : (fun n => wt (intV n)) = fun _ => 30 := by funext n; rw [wt_eq]; simp [intV, wts_nil]; rfl
  have hI : ∀ n, wt (intV n) = 30 := fun n => congrFun hL n
  have i1 := itoa_len (n := k) (by omega) (by omega)
  have i2 := itoa_len (n := x.s) (by omega) (by omega)
  have i3 := itoa_len (n := x.e) (by omega) (by omega)
  have i4 := itoa_len (n := if x.w = true then (1 : Int) else 0) (by omega) (by omega)
  unfold rowV
  refine ⟨?_, ?_, ?_, ?_, ?_, ?_⟩
  · rw [wt_eq]
    simp [lisV, wts_cons, wts_nil, hI]
    rfl
  · refine ok_lis ?_
    rw [okVs_cons, okVs_cons, okVs_cons, okVs_cons]
    exact ⟨ok_int (by omega) (by omega), ok_int (by omega) (by omega), ok_int (by omega) (by omega), ok_int (by omega) (by omega), okVs_nil⟩
  · rw [kin_lis]
    simp [kins_cons, kins_nil, kin_int]
  · rw [dep_lis]
    simp [deps_cons, deps_nil, dep_int]
  · rw [enc_lis]
    simp only [encs_cons, encs_nil, enc_int, List.length_cons, List.length_append, List.length_nil]
    omega
  · rw [nrm_eq]
    simp [lisV, nrms_cons, nrms_nil, nrm_eq, intV]
theorem rows_facts : ∀ (T : List Ent) (k : Nat), k + T.length ≤ 100 → (∀ x ∈ T, okE x) → wts (rowsM k T) ≤ 150 * T.length ∧ okVs (rowsM k T) = true ∧ kins (rowsM k T) = true ∧ deps (rowsM k T) ≤ 1 ∧ (encs (rowsM k T)).length ≤ 90 * T.length ∧ nrms (rowsM k T) = rowsM k T
  | [], k, hk, h => by simp [rowsM, wts_nil, okVs_nil, kins_nil, deps_nil, encs_nil, nrms_nil]
  | x :: T, k, hk, h => by
    rw [List.length_cons] at hk
    obtain ⟨a1, a2, a3, a4, a5, a6⟩ := rows_facts T (k + 1) (by omega) (fun y hy => h y (.tail _ hy))
    obtain ⟨b1, b2, b3, b4, b5, b6⟩ := row_facts (k : Int) x (by omega) (by omega) (h x (.head _))
    rw [rowsM]
    split
    · refine ⟨by rw [List.length_cons]; omega, a2, a3, a4, by rw [List.length_cons]; omega, a6⟩
    · rw [wts_cons, okVs_cons, kins_cons, deps_cons, encs_cons, nrms_cons, List.length_cons, List.length_append, b1, b3, b4, a3, a6, b6]
      exact ⟨by omega, ⟨b2, a2⟩, rfl, by omega, by omega, rfl⟩
theorem tab_facts {T : List Ent} (h : okT T) : wt (tabV T) ≤ 2000 ∧ okV (tabV T) = true ∧ kin (tabV T) = true ∧ dep (tabV T) ≤ 2 ∧ (enc (tabV T)).length ≤ 800 ∧ nrm (tabV T) = tabV T := by
  obtain ⟨a1, a2, a3, a4, a5, a6⟩ := rows_facts T 0 (by rw [h.1]; decide) h.2
  rw [h.1] at a1 a5
  unfold tabV
  refine ⟨?_, ok_lis a2, by rw [kin_lis]; exact a3, by rw [dep_lis]; omega, ?_, ?_⟩
  · rw [wt_eq]
    show 30 + 2 * 0 + wts (rowsM 0 T) ≤ 2000
    omega
  · rw [enc_lis]
    simp only [List.length_cons, List.length_append, List.length_nil]
    omega
  · rw [nrm_eq]
    show lisV (nrms (rowsM 0 T)) = _
    rw [a6]
theorem tab_put {T : List Ent} (h : okT T) : benc_Put.f 3 0 ⟨#[]⟩ (rowsM 0 T) = some (textM T, 0) := by
  obtain ⟨a1, a2, a3, a4, a5, a6⟩ := tab_facts h
  rw [show benc_Put.f 3 0 ⟨#[]⟩ (rowsM 0 T) = some (putM (tabV T)) from put_yes (v := tabV T) (fit_of a2 (by omega)), putM_of a3 (by omega) (by omega)]
  rfl
theorem textM_list (T : List Ent) : (textM T).toList = enc (tabV T) := by rw [toList_data]; unfold textM; simp
end Go.Proofs.YthlkcfjodmhhmaaDoor.Dd
namespace Go.Proofs.YthlkcfjodmhhmaaDoor.Dd
open Go.RowKit Go.Lib Go.Proofs.YthlkcfjodmhhmaaDoor.Giv Go.Proofs.YthlkcfjodmhhmaaDoor.Pure Go.Proofs.YthlkcfjodmhhmaaDoorW.PrintWords Go.Proofs.YthlkcfjodmhhmaaDoorW.PrintLast Go.Proofs.YthlkcfjodmhhmaaDoorW.PrintMore
set_option linter.unusedVariables false
set_option linter.unusedSimpArgs false
theorem Tab.drew {w : World} {g : Nat} {T : List Ent} (h : Tab w g T) : Tab w.drew g T := ⟨h.1, h.2⟩
theorem But.cell {g : Nat} {w w' : World} (h : But g w w') {k i : Nat} {v : Value} (hk : k ≠ g) (hc : w.cell? ⟨k, i, none⟩ = some v) : w'.cell? ⟨k, i, none⟩ = some v := by
  cases ho : w.heap[k]? with
  | none => unfold World.cell? at hc; simp only [ho] at hc; cases hc
  | some o =>
    have := h.2 k o hk ho
    unfold World.cell? at hc ⊢
    simp only [ho] at hc
    simp only [this]
    exact hc
end Go.Proofs.YthlkcfjodmhhmaaDoor.Dd
namespace Go.Proofs.YthlkcfjodmhhmaaDoor.Dd
open Go.RowKit Go.Lib Go.Proofs.YthlkcfjodmhhmaaDoor.Giv Go.Proofs.YthlkcfjodmhhmaaDoorW.PrintWords Go.Proofs.YthlkcfjodmhhmaaDoorW.PrintLast Go.Proofs.YthlkcfjodmhhmaaDoorW.PrintMore
set_option linter.unusedVariables false
set_option linter.unusedSimpArgs false
def T1 : List Ent := [zE, ⟨5, 0, true⟩, zE, zE, zE, zE, zE, zE]
theorem put_T0 : putT T0 1 5 0 true = (T1, 0) := by kernel_rfl
theorem find_T1a : findM T1 1 5 = (0, true, 0) := by kernel_rfl
theorem find_T1b : findM T1 1 4 = (0, false, 90) := by kernel_rfl
theorem find_T1c : findM T1 1 6 = (0, false, 3) := by kernel_rfl
theorem last_T1 : lastM T1 1 = 5 := by kernel_rfl
theorem Tab.but {w w' : World} {g : Nat} {T : List Ent} (h : Tab w g T) (hb : Below w.heap.size w w') : Tab w' g T := h.kept hb
set_option maxHeartbeats 8000000 in
set_option maxRecDepth 100000 in
theorem awake_calls {w : World} (hL : LaidW w) (t : ByteArray) (er : Int) (ht : benc_Put.f 3 0 ⟨#[]⟩ (rowsM 0 T1) = some (t, er)) (he : (t.toList == [108, 108, 105, 49, 101, 105, 53, 101, 105, 48, 101, 105, 49, 101, 101, 101]) = true) :
    Calls Tryd.prog 13 #[] w fun e w' => e = .returned (.bool true) ∧ Below w.heap.size w w' := by
  have HP := Aside0.mk ht
  have HE := Aside0.mk he
  clear ht he
  go_enter Tryd.func13, Tryd.ntmps13
  go_wp2_with fail
  refine (New_calls w).mono ?_
  rintro e w1 ⟨rfl, hb1, hT1⟩
  have HB := Aside0.mk hb1
  have HT := Aside0.mk hT1
  clear hb1 hT1
  go_wp2_with fail
  refine (put_calls HT.out 1 5 0 true _ _ put_T0).mono ?_
  rintro e w2 ⟨rfl, hT2, hB2⟩
  have HT := Aside0.mk hT2
  have HB := Aside0.mk (hB2.1 _ _ HB.out (Nat.le_refl _))
  clear hT2 hB2
  dsimp only
  go_wp2_with fail
  refine (find_calls HT.out 1 5 _ find_T1a).mono ?_
  rintro e w3 ⟨rfl, hb3⟩
  have HT := Aside0.mk ((HT.out.kept hb3).alloc (.cells #[.int .i64 0, .bool true, .slice none 0 0] 31))
  have HB := Aside0.mk (below_alloc (below_step HB.out hb3) (.cells #[.int .i64 0, .bool true, .slice none 0 0] 31))
  have BA := Aside0.mk (blk_new w3 (.cells #[.int .i64 0, .bool true, .slice none 0 0] 31))
  clear hb3
  go_wp2_with fail
  refine (find_calls HT.out 1 4 _ find_T1b).mono ?_
  rintro e w4 ⟨rfl, hb4⟩
  have HT := Aside0.mk ((HT.out.kept hb4).alloc (.cells #[.int .i64 0, .bool false, .slice none 0 0] 31))
  have HB := Aside0.mk (below_alloc (below_step HB.out hb4) (.cells #[.int .i64 0, .bool false, .slice none 0 0] 31))
  have BA := Aside0.mk (blk_alloc (blk_below BA.out hb4) (.cells #[.int .i64 0, .bool false, .slice none 0 0] 31))
  clear hb4
  go_wp2_with fail
  refine (find_calls HT.out 1 6 _ find_T1c).mono ?_
  rintro e w5 ⟨rfl, hb5⟩
  have HT := Aside0.mk ((HT.out.kept hb5).alloc (.cells #[.int .i64 0, .bool false, .slice none 0 0] 31))
  have HB := Aside0.mk (below_alloc (below_step HB.out hb5) (.cells #[.int .i64 0, .bool false, .slice none 0 0] 31))
  have BA := Aside0.mk (blk_alloc (blk_below BA.out hb5) (.cells #[.int .i64 0, .bool false, .slice none 0 0] 31))
  clear hb5
  obtain ⟨z0, z1, z2⟩ := cells3 BA.out
  go_wp2_with fail
  refine (last_calls HT.out 1 _ last_T1).mono ?_
  rintro e w6 ⟨rfl, hb6⟩
  have HT := Aside0.mk (HT.out.kept hb6)
  have HB := Aside0.mk (below_step HB.out hb6)
  clear hb6
  go_wp2_with fail
  refine (text_calls HT.out (LaidW.below hL HB.out) t er HP.out).mono ?_
  rintro e w7 ⟨rfl, hb7⟩
  have HB := Aside0.mk (below_step HB.out hb7)
  clear hb7
  have D := HE.out
  go_wp2_with fail
  go_returns
  exact ⟨rfl, HB.out⟩
end Go.Proofs.YthlkcfjodmhhmaaDoor.Dd
namespace Go.Proofs.YthlkcfjodmhhmaaDoor.Dd
open Go.RowKit Go.Lib Go.Proofs.YthlkcfjodmhhmaaDoor.Giv Go.Proofs.YthlkcfjodmhhmaaDoor.Pure Go.Proofs.YthlkcfjodmhhmaaDoorW.PrintWords Go.Proofs.YthlkcfjodmhhmaaDoorW.PrintLast Go.Proofs.YthlkcfjodmhhmaaDoorW.PrintMore
set_option linter.unusedVariables false
set_option linter.unusedSimpArgs false
theorem okT_T1 : okT T1 := by have := okT_put okT_T0 1 5 0 true; rw [put_T0] at this; exact this
theorem text_T1 : ((textM T1).toList == [108, 108, 105, 49, 101, 105, 53, 101, 105, 48, 101, 105, 49, 101, 101, 101]) = true := by
  have i0 : itoa 0 = [48] := by rw [itoa_pos (by decide)]; show decDigits 0 = _; rw [dd_small (by decide)]; rfl
  have i1 : itoa 1 = [49] := by rw [itoa_pos (by decide)]; show decDigits 1 = _; rw [dd_small (by decide)]; rfl
  have i5 : itoa 5 = [53] := by rw [itoa_pos (by decide)]; show decDigits 5 = _; rw [dd_small (by decide)]; rfl
  rw [textM_list]
  show (enc (lisV [lisV [intV 1, intV 5, intV 0, intV 1]]) == _) = true
  simp only [enc_lis, encs_cons, encs_nil, enc_int, i0, i1, i5]
  rfl
theorem awake_ok {w : World} (hL : LaidW w) : Calls Tryd.prog 13 #[] w fun e w' => e = .returned (.bool true) ∧ Below w.heap.size w w' :=
  awake_calls hL (textM T1) 0 (tab_put okT_T1) text_T1
end Go.Proofs.YthlkcfjodmhhmaaDoor.Dd
namespace Go.Proofs.YthlkcfjodmhhmaaDoor.Dd
open Go.RowKit Go.Lib Go.Proofs.YthlkcfjodmhhmaaDoor.Giv Go.Proofs.YthlkcfjodmhhmaaDoor.Pure Go.Proofs.YthlkcfjodmhhmaaDoorW.PrintWords Go.Proofs.YthlkcfjodmhhmaaDoorW.PrintLast Go.Proofs.YthlkcfjodmhhmaaDoorW.PrintMore
set_option linter.unusedVariables false
set_option linter.unusedSimpArgs false
def lo (x : Int) : Int := Go.bits .and .i64 x 65535
theorem Tab.other {w w' : World} {g h : Nat} {T : List Ent} (ht : Tab w h T) (hb : But g w w') (hne : h ≠ g) : Tab w' h T := ⟨ht.1, hb.2 h _ hne ht.2⟩
theorem cell_kept {w w' : World} {p : Addr} {v : Value} (hb : Below w.heap.size w w') (hc : w.cell? p = some v) : w'.cell? p = some v := by
  refine (Below.cell hb ?_).trans hc
  unfold World.cell? at hc
  cases h : w.heap[p.block]? with
  | none => rw [h] at hc; cases hc
  | some o => exact (Array.getElem?_eq_some_iff.1 h).1
def IsRow (k : IntKind) (w : World) (a : Option Addr) (len cap : Nat) (zs : List Int) : Prop :=
  (a = none ∧ len = 0 ∧ cap = 0 ∧ zs = []) ∨
  ∃ x, a = some x ∧ len ≤ cap ∧ cap ≤ maxLen ∧ zs.length = cap ∧ (∀ i, i < zs.length → w.cell? (x.add i) = some (.int k (zs.getD i 0))) ∧ ∀ n ∈ zs, (Lit.int k n).wf = true
end Go.Proofs.YthlkcfjodmhhmaaDoor.Dd
namespace Go.Proofs.YthlkcfjodmhhmaaDoor.Dd
open Go.RowKit Go.Lib Go.Proofs.YthlkcfjodmhhmaaDoor.Giv Go.Proofs.YthlkcfjodmhhmaaDoor.Pure Go.Proofs.YthlkcfjodmhhmaaDoorW.PrintWords Go.Proofs.YthlkcfjodmhhmaaDoorW.PrintLast Go.Proofs.YthlkcfjodmhhmaaDoorW.PrintMore
set_option linter.unusedVariables false
set_option linter.unusedSimpArgs false
def entS (s : Int) : Ent := ⟨s, 0, s % 2 == 1⟩
def tabS (S : List Int) : List Ent := S.map entS
def LB (w : World) (h : Nat) (S : List Int) : Prop := S.length = 8 ∧ w.heap[h]? = some (.cells (S.map (Value.int .i64)).toArray 3 (0, 0))
theorem LB.cell {w : World} {h : Nat} {S : List Int} (hl : LB w h S) (k : Nat) (hk : k < 8) : w.cell? ⟨h, k, none⟩ = some (.int .i64 (S.getD k 0)) := by
  rw [blk_cell hl.2]
  simp only [List.getElem?_toArray, List.getElem?_map]
  rw [List.getD_eq_getElem?_getD, List.getElem?_eq_getElem (by rw [hl.1]; exact hk)]
  rfl
theorem LB.drew {w : World} {h : Nat} {S : List Int} (hl : LB w h S) : LB w.drew h S := hl
theorem LB.kept {w w' : World} {h : Nat} {S : List Int} (hl : LB w h S) (hb : Below w.heap.size w w') : LB w' h S := ⟨hl.1, blk_below hl.2 hb⟩
theorem LB.but {w w' : World} {g h : Nat} {S : List Int} (hl : LB w h S) (hb : But g w.drew w') (hne : h ≠ g) : LB w' h S := ⟨hl.1, hb.2 h _ hne hl.2⟩
theorem LB.set {w : World} {h : Nat} {S : List Int} (hl : LB w h S) (k : Nat) (z : Int) : LB (w.setCell ⟨h, k, none⟩ (.int .i64 z)) h (S.set k z) := by
  refine ⟨by rw [List.length_set]; exact hl.1, blk_put hl.2 k _ ?_⟩
  rw [List.setIfInBounds_toArray, List.map_set]
theorem LB.frozen {w : World} {h : Nat} {S : List Int} (hl : LB w h S) (i : Nat) : w.frozen? ⟨h, i, none⟩ = false := blk_frozen hl.2 i
theorem tabS_get (S : List Int) (k : Nat) (hk : k < S.length) : (tabS S).getD k zE = entS (S.getD k 0) := by
  unfold tabS
  rw [List.getD_eq_getElem?_getD, List.getD_eq_getElem?_getD, List.getElem?_map, List.getElem?_eq_getElem hk]
  rfl
theorem put_S {S : List Int} (hS : S.length = 8) (c : Nat) (hc : c < 8) (n : Int) (h0 : 1 ≤ n) (h1 : n ≤ 256) :
    putT (tabS S) (c : Int) n 0 (n % 2 == 1) = (tabS (S.set c (max (S.getD c 0) n)), if S.getD c 0 < n then 0 else 90) := by
  unfold putT
  rw [if_pos ⟨mayM_iff.2 ⟨by omega, by omega, by omega, by omega⟩, by decide, by decide⟩, Int.toNat_natCast, tabS_get S c (by omega)]
  show (if n ≤ S.getD c 0 then _ else _) = _
  by_cases hn : n ≤ S.getD c 0
  · rw [if_pos hn, if_neg (by omega), Int.max_eq_left hn]
    have : S.set c (S.getD c 0) = S := by
      rw [List.getD_eq_getElem?_getD, List.getElem?_eq_getElem (by omega)]
      exact List.set_getElem_self _
    rw [this]
  · rw [if_neg hn, if_pos (by omega), Int.max_eq_right (by omega)]
    unfold tabS
    rw [List.map_set]
    rfl
theorem find_S {S : List Int} (hS : S.length = 8) (c : Nat) (hc : c < 8) (h0 : 0 < S.getD c 0) (h1 : S.getD c 0 ≤ 256) : findM (tabS S) (c : Int) (S.getD c 0) = (0, S.getD c 0 % 2 == 1, 0) := by
  unfold findM
  rw [if_pos (mayM_iff.2 ⟨by omega, by omega, h0, by omega⟩), Int.toNat_natCast, tabS_get S c (by omega)]
  show (if S.getD c 0 < S.getD c 0 then _ else if S.getD c 0 < S.getD c 0 then _ else _) = _
  rw [if_neg (by omega), if_neg (by omega)]
  rfl
theorem last_S {S : List Int} (hS : S.length = 8) (c : Nat) (hc : c < 8) : lastM (tabS S) (c : Int) = S.getD c 0 := by
  unfold lastM
  rw [if_pos ⟨by omega, by omega⟩, Int.toNat_natCast, tabS_get S c (by omega)]
  rfl
theorem and7 (x : Int) : ∃ c : Nat, c < 8 ∧ Go.bits .and .i64 x 7 = (c : Int) := by
  have h := and_mask_i64 x 3 (by decide)
  have e : (((2 ^ 3 - 1 : Nat)) : Int) = 7 := by decide +kernel
  rw [e] at h
  rw [h]
  have a := Int.emod_nonneg x (show ((2 ^ 3 : Nat) : Int) ≠ 0 by decide)
  have b := Int.emod_lt_of_pos x (show (0 : Int) < ((2 ^ 3 : Nat) : Int) by decide)
  refine ⟨(x % ((2 ^ 3 : Nat) : Int)).toNat, ?_, ?_⟩
  · have : ((2 ^ 3 : Nat) : Int) = 8 := by decide
    omega
  · exact (Int.toNat_of_nonneg a).symm
theorem and255 (x : Int) : 0 ≤ Go.bits .and .i64 x 255 ∧ Go.bits .and .i64 x 255 ≤ 255 := by
  have h := and_mask_i64 x 8 (by decide)
  have e : (((2 ^ 8 - 1 : Nat)) : Int) = 255 := by decide +kernel
  rw [e] at h
  rw [h]
  have a := Int.emod_nonneg x (show ((2 ^ 8 : Nat) : Int) ≠ 0 by decide)
  have b := Int.emod_lt_of_pos x (show (0 : Int) < ((2 ^ 8 : Nat) : Int) by decide)
  have : ((2 ^ 8 : Nat) : Int) = 256 := by decide
  omega
theorem add_succ (x : Addr) (k : Nat) : x.add (k + 1) = ⟨(x.add k).block, (x.add k).off + 1, none⟩ := by
  unfold Addr.add
  by_cases h : k = 0
  · subst h; simp
  · simp [h]; omega
theorem wrap_i64 {n : Int} (h0 : -9223372036854775808 ≤ n) (h1 : n ≤ 9223372036854775807) : IntKind.i64.wrap n = n := by rw [IntKind.wrap_i64]; omega
theorem set_bounds {S : List Int} (hS : S.length = 8) (h : ∀ k, k < 8 → 0 ≤ S.getD k 0 ∧ S.getD k 0 ≤ 256) (c : Nat) (hc : c < 8) (n : Int) (h0 : 1 ≤ n) (h1 : n ≤ 256) : ∀ k, k < 8 → 0 ≤ (S.set c (max (S.getD c 0) n)).getD k 0 ∧ (S.set c (max (S.getD c 0) n)).getD k 0 ≤ 256 := by
  intro k hk
  have hb := h c hc
  by_cases e : c = k
  · subst e
    rw [List.getD_eq_getElem?_getD (l := S.set _ _), List.getElem?_set_self (by omega)]
    show 0 ≤ max (S.getD c 0) n ∧ max (S.getD c 0) n ≤ 256
    omega
  · rw [List.getD_eq_getElem?_getD (l := S.set _ _), List.getElem?_set_ne e, ← List.getD_eq_getElem?_getD]
    exact h k hk
def S0 : List Int := [0, 0, 0, 0, 0, 0, 0, 0]
set_option maxHeartbeats 8000000 in
set_option maxRecDepth 100000 in
theorem once_calls {w : World} (hL : LaidW w) (A : Option Addr) (ca : Nat) (la : List (Int × Int))
    (hA : ∀ i, i < la.length → ∃ x, A = some x ∧ w.cell? (x.add (i * 2)) = some (.int .i64 (la.getD i (0, 0)).1) ∧ w.cell? (x.add (i * 2 + 1)) = some (.int .i64 (la.getD i (0, 0)).2)) :
    Calls Tryd.prog 3 #[.slice A la.length ca] w fun e w' => e = .returned (.bool true) ∧ Below w.heap.size w w' := by
  have HA := Aside0.mk hA
  clear hA
  have hmk : ∀ W : World, (Instr.makeSlice 25 (.int .i64 8) (.int .i64 8)).run Tryd.prog W = .ok (.slice (some ⟨W.heap.size, 0, none⟩) 8 8) (W.alloc (.cells (S0.map (Value.int .i64)).toArray 3)) := by
    intro W
    have h := print_make (P := Tryd.prog) 25 3 .i64 8 Tryd.underlying25 (by kernel_rfl) (by decide) 8 (by decide) W
    rw [show madeCells #[Value.int .i64 0] 8 = (S0.map (Value.int .i64)).toArray by kernel_rfl] at h
    exact h
  go_enter Tryd.func3, Tryd.ntmps3
  go_wp2_with fail
  refine (New_calls w).mono ?_
  rintro e w1 ⟨rfl, hb1, hT1⟩
  have HW := Aside0.mk hb1
  have HT := Aside0.mk hT1
  clear hb1 hT1
  go_wp2_with fail
  have HW2 := Aside0.mk (below_alloc HW.out (.cells (S0.map (Value.int .i64)).toArray 3))
  have HT2 := Aside0.mk (show Tab _ _ (tabS S0) from HT.out.alloc (.cells (S0.map (Value.int .i64)).toArray 3))
  have HL2 := Aside0.mk (show LB _ _ S0 from ⟨rfl, blk_new w1 (.cells (S0.map (Value.int .i64)).toArray 3)⟩)
  have HG := Aside0.mk (show w.heap.size < w1.heap.size from blk_lt HT.out.2)
  clear HW HT hmk
  generalize w1.heap.size = h at *
  go_loopw [5] (fun v5 wr => ∃ (i : Nat) (S : List Int), i ≤ la.length ∧ v5 = .int .i64 (i : Int) ∧ Aside0 (∀ k, k < 8 → 0 ≤ S.getD k 0 ∧ S.getD k 0 ≤ 256) ∧ Aside0 (Tab wr w.heap.size (tabS S)) ∧ Aside0 (LB wr h S) ∧ Aside0 (Below w.heap.size w wr)) (fun v5 _ => la.length - (RowKit.intOf v5).toNat)
  case atStart => exact ⟨0, S0, Nat.zero_le _, rfl, ⟨fun k hk => by
    match k, hk with
    | 0, _ | 1, _ | 2, _ | 3, _ | 4, _ | 5, _ | 6, _ | 7, _ => exact ⟨by decide, by decide⟩⟩, HT2, HL2, HW2⟩
  case round =>
    obtain ⟨i, S, hi, rfl, HS, HT, HB, HW⟩ := hrel
    clear HT2 HL2 HW2
    by_cases hlt : i < la.length
    · have c0 : decide ((i : Int) < (la.length : Int)) = true := decide_eq_true (by omega)
      by_cases h2 : i < 200
      · have c1 : decide ((i : Int) < 200) = true := decide_eq_true (by omega)
        obtain ⟨x, rfl, hx, hy⟩ := HA.out i hlt
        have hx := cell_kept HW.out hx
        have hy := cell_kept HW.out hy
        rw [add_succ] at hy
        generalize (la.getD i (0, 0)).1 = z1 at *
        generalize (la.getD i (0, 0)).2 = z2 at *
        have i0 : (0 : Int) ≤ (i : Int) := by omega
        have i2 : (i : Int) < (la.length : Int) := by omega
        go_wp2_with fail
        go_region_held3 (fun w' => w'.cell? (x.add (i * 2)) = some (.int .i64 z1) ∧ w'.cell? ⟨(x.add (i * 2)).block, (x.add (i * 2)).off + 1, none⟩ = some (.int .i64 z2)) (first | exact ⟨hx, hy⟩ | go_keep) (fail)
        clear hx hy
        obtain ⟨c, hc, ec⟩ := and7 z1
        obtain ⟨n0, n1⟩ := and255 z2
        have en : IntKind.i64.wrap (1 + Go.bits .and .i64 z2 255) = 1 + Go.bits .and .i64 z2 255 := wrap_i64 (by omega) (by omega)
        rw [ec, en]
        generalize hn : 1 + Go.bits .and .i64 z2 255 = n
        have m0 : 1 ≤ n := by omega
        have m1 : n ≤ 256 := by omega
        clear ec en n0 n1 hn
        have HP := Aside0.mk (put_S HB.out.1 c hc n m0 m1)
        have HS2 := Aside0.mk (show ∀ k, k < 8 → 0 ≤ (S.set c (max (S.getD c 0) n)).getD k 0 ∧ (S.set c (max (S.getD c 0) n)).getD k 0 ≤ 256 from set_bounds HB.out.1 HS.out c hc n m0 m1)
        have hcell := HB.out.cell c hc
        have hb := HS.out c hc
        generalize hlc : S.getD c 0 = lc at *
        by_cases hlt2 : lc < n
        · rw [if_pos hlt2] at HP
          have d2 : decide (lc < n) = true := decide_eq_true hlt2
          go_wp2_with fail
          have HP2 := Aside0.mk hb
          have HX := Aside0.mk (And.intro m0 m1)
          refine (put_calls (Tab.drew HT.out) (c : Int) n 0 (n % 2 == 1) _ _ HP.out).mono ?_
          rintro e w3 ⟨rfl, hT3, hB3⟩
          have HT := Aside0.mk hT3
          have HB := Aside0.mk (HB.out.but hB3 (by have := HG.out; omega))
          have HW := Aside0.mk (hB3.1 _ _ (below_drew1 HW.out) (Nat.le_refl _))
          have hcell := HB.out.cell c hc
          rw [hlc] at hcell
          have fcell := HB.out.frozen c
          clear hT3 hB3
          dsimp only
          go_wp2_with fail
          have HT := Aside0.mk (HT.out.other (But.set1 h c w3 (.int .i64 (max (lc) n))) (by have := HG.out; omega))
          have HB := Aside0.mk (HB.out.set c (max (lc) n))
          have HW := Aside0.mk ((But.set1 h c w3 (.int .i64 (max (lc) n))).1 _ _ HW.out (by have := HG.out; omega))
          clear hcell fcell HP HS
          clear hlc
          generalize S.set c (max (lc) n) = S2 at *
          generalize w3.setCell ⟨h, c, none⟩ (.int .i64 (max (lc) n)) = w4 at *
          go_loopw [9] (fun v9 wr => ∃ k : Nat, k ≤ 8 ∧ v9 = .int .i64 (k : Int) ∧ Aside0 (Tab wr w.heap.size (tabS S2)) ∧ Aside0 (LB wr h S2) ∧ Aside0 (Below w.heap.size w wr)) (fun v9 _ => 8 - (RowKit.intOf v9).toNat)
          case atStart => exact ⟨0, by decide, rfl, HT, HB, HW⟩
          case round =>
            obtain ⟨k, hk, rfl, HT, HB, HW⟩ := hrel
            by_cases hk8 : k < 8
            · have c3 : decide ((k : Int) < 8) = true := decide_eq_true (by omega)
              have k0 : (0 : Int) ≤ (k : Int) := by omega
              have k1 : (k : Int) < 8 := by omega
              have HLS := Aside0.mk (last_S HB.out.1 k hk8)
              have hcell := HB.out.cell k hk8
              have hs := HS2.out k hk8
              have HFS := Aside0.mk (find_S HB.out.1 k hk8)
              generalize hlk : S2.getD k 0 = lk at *
              go_wp2_with fail
              go_region_held3 (fun w' => w'.cell? ⟨h, k, none⟩ = some (.int .i64 lk)) (first | exact hcell | go_keep) ((go_at_call 11; with_reducible refine (last_calls (by first | with_reducible exact HT.out | with_reducible exact Tab.drew HT.out) (k : Int) lk HLS.out).mono ?_; rintro e w5 ⟨rfl, hb5⟩; have HT := Aside0.mk (Tab.kept (by first | with_reducible exact HT.out | with_reducible exact Tab.drew HT.out) hb5); have HB := Aside0.mk (LB.kept (by first | with_reducible exact HB.out | with_reducible exact LB.drew HB.out) hb5); have HW := Aside0.mk (below_step (by first | with_reducible exact HW.out | with_reducible exact below_drew1 HW.out) hb5); have hcell := LB.cell HB.out k hk8; rw [hlk] at hcell; clear hb5))
              have hcell := LB.cell HB.out k hk8
              rw [hlk] at hcell
              by_cases hpos : 0 < lk
              · have d5 : decide (0 < lk) = true := decide_eq_true hpos
                have HF := Aside0.mk (HFS.out hpos hs.2)
                go_wp2_with fail
                refine (find_calls HT.out (k : Int) lk _ HF.out).mono ?_
                rintro e w6 ⟨rfl, hb6⟩
                have HT := Aside0.mk ((HT.out.kept hb6).alloc (.cells #[.int .i64 0, .bool (lk % 2 == 1), .slice none 0 0] 31))
                have HB := Aside0.mk ((HB.out.kept hb6).kept (below_alloc (Below.refl _ _) (.cells #[.int .i64 0, .bool (lk % 2 == 1), .slice none 0 0] 31)))
                have HW := Aside0.mk (below_alloc (below_step HW.out hb6) (.cells #[.int .i64 0, .bool (lk % 2 == 1), .slice none 0 0] 31))
                obtain ⟨z0, z1, z2⟩ := cells3 (blk_new w6 (.cells #[.int .i64 0, .bool (lk % 2 == 1), .slice none 0 0] 31))
                have hcell := LB.cell HB.out k hk8
                rw [hlk] at hcell
                clear hb6
                go_wp2_with fail
                generalize hpar : (lk % 2 == 1) = pb at *
                have hs0 := hs.1
                go_region_held3 (fun w' => w'.cell? ⟨w6.heap.size, 1, none⟩ = some (.bool pb) ∧ w'.cell? ⟨h, k, none⟩ = some (.int .i64 lk)) (first | exact ⟨z1, hcell⟩ | go_keep) (fail)
                have dd : (pb != pb) = false := bne_self_eq_false pb
                have dd2 : (!pb == (lk.tmod 2 == 1)) = false := by rw [Int.tmod_eq_emod_of_nonneg hs0, hpar]; exact dd
                have HT := Aside0.mk (Tab.drew HT.out)
                have HB := Aside0.mk (LB.drew HB.out)
                have HW := Aside0.mk (below_drew1 HW.out)
                go_wp2_with fail
                all_goals first | (cases dd2.symm.trans ‹(!pb == (lk.tmod 2 == 1)) = true›; done) | exact ⟨⟨k + 1, by omega, rfl, HT, HB, HW⟩, by simp [RowKit.intOf]; omega⟩
              · have d5 : decide (0 < lk) = false := decide_eq_false hpos
                go_wp2_with fail
                go_roundw
                case rel => exact ⟨k + 1, by omega, by go_num, HT, HB, HW⟩
                case measure => simp [RowKit.intOf]; omega
            · have c3 : decide ((k : Int) < 8) = false := decide_eq_false (by omega)
              go_wp2_with fail
              exact ⟨⟨i + 1, S2, by omega, rfl, HS2, HT, HB, HW⟩, by simp [RowKit.intOf]; omega⟩
        · rw [if_neg hlt2] at HP
          have d2 : decide (lc < n) = false := decide_eq_false hlt2
          go_wp2_with fail
          have HP2 := Aside0.mk hb
          have HX := Aside0.mk (And.intro m0 m1)
          refine (put_calls (Tab.drew HT.out) (c : Int) n 0 (n % 2 == 1) _ _ HP.out).mono ?_
          rintro e w3 ⟨rfl, hT3, hB3⟩
          have HT := Aside0.mk hT3
          have HB := Aside0.mk (HB.out.but hB3 (by have := HG.out; omega))
          have HW := Aside0.mk (hB3.1 _ _ (below_drew1 HW.out) (Nat.le_refl _))
          have hcell := HB.out.cell c hc
          rw [hlc] at hcell
          have fcell := HB.out.frozen c
          clear hT3 hB3
          dsimp only
          go_wp2_with fail
          have HT := Aside0.mk (HT.out.other (But.set1 h c w3 (.int .i64 (max (lc) n))) (by have := HG.out; omega))
          have HB := Aside0.mk (HB.out.set c (max (lc) n))
          have HW := Aside0.mk ((But.set1 h c w3 (.int .i64 (max (lc) n))).1 _ _ HW.out (by have := HG.out; omega))
          clear hcell fcell HP HS
          clear hlc
          generalize S.set c (max (lc) n) = S2 at *
          generalize w3.setCell ⟨h, c, none⟩ (.int .i64 (max (lc) n)) = w4 at *
          go_loopw [9] (fun v9 wr => ∃ k : Nat, k ≤ 8 ∧ v9 = .int .i64 (k : Int) ∧ Aside0 (Tab wr w.heap.size (tabS S2)) ∧ Aside0 (LB wr h S2) ∧ Aside0 (Below w.heap.size w wr)) (fun v9 _ => 8 - (RowKit.intOf v9).toNat)
          case atStart => exact ⟨0, by decide, rfl, HT, HB, HW⟩
          case round =>
            obtain ⟨k, hk, rfl, HT, HB, HW⟩ := hrel
            by_cases hk8 : k < 8
            · have c3 : decide ((k : Int) < 8) = true := decide_eq_true (by omega)
              have k0 : (0 : Int) ≤ (k : Int) := by omega
              have k1 : (k : Int) < 8 := by omega
              have HLS := Aside0.mk (last_S HB.out.1 k hk8)
              have hcell := HB.out.cell k hk8
              have hs := HS2.out k hk8
              have HFS := Aside0.mk (find_S HB.out.1 k hk8)
              generalize hlk : S2.getD k 0 = lk at *
              go_wp2_with fail
              go_region_held3 (fun w' => w'.cell? ⟨h, k, none⟩ = some (.int .i64 lk)) (first | exact hcell | go_keep) ((go_at_call 11; with_reducible refine (last_calls (by first | with_reducible exact HT.out | with_reducible exact Tab.drew HT.out) (k : Int) lk HLS.out).mono ?_; rintro e w5 ⟨rfl, hb5⟩; have HT := Aside0.mk (Tab.kept (by first | with_reducible exact HT.out | with_reducible exact Tab.drew HT.out) hb5); have HB := Aside0.mk (LB.kept (by first | with_reducible exact HB.out | with_reducible exact LB.drew HB.out) hb5); have HW := Aside0.mk (below_step (by first | with_reducible exact HW.out | with_reducible exact below_drew1 HW.out) hb5); have hcell := LB.cell HB.out k hk8; rw [hlk] at hcell; clear hb5))
              have hcell := LB.cell HB.out k hk8
              rw [hlk] at hcell
              by_cases hpos : 0 < lk
              · have d5 : decide (0 < lk) = true := decide_eq_true hpos
                have HF := Aside0.mk (HFS.out hpos hs.2)
                go_wp2_with fail
                refine (find_calls HT.out (k : Int) lk _ HF.out).mono ?_
                rintro e w6 ⟨rfl, hb6⟩
                have HT := Aside0.mk ((HT.out.kept hb6).alloc (.cells #[.int .i64 0, .bool (lk % 2 == 1), .slice none 0 0] 31))
                have HB := Aside0.mk ((HB.out.kept hb6).kept (below_alloc (Below.refl _ _) (.cells #[.int .i64 0, .bool (lk % 2 == 1), .slice none 0 0] 31)))
                have HW := Aside0.mk (below_alloc (below_step HW.out hb6) (.cells #[.int .i64 0, .bool (lk % 2 == 1), .slice none 0 0] 31))
                obtain ⟨z0, z1, z2⟩ := cells3 (blk_new w6 (.cells #[.int .i64 0, .bool (lk % 2 == 1), .slice none 0 0] 31))
                have hcell := LB.cell HB.out k hk8
                rw [hlk] at hcell
                clear hb6
                go_wp2_with fail
                generalize hpar : (lk % 2 == 1) = pb at *
                have hs0 := hs.1
                go_region_held3 (fun w' => w'.cell? ⟨w6.heap.size, 1, none⟩ = some (.bool pb) ∧ w'.cell? ⟨h, k, none⟩ = some (.int .i64 lk)) (first | exact ⟨z1, hcell⟩ | go_keep) (fail)
                have dd : (pb != pb) = false := bne_self_eq_false pb
                have dd2 : (!pb == (lk.tmod 2 == 1)) = false := by rw [Int.tmod_eq_emod_of_nonneg hs0, hpar]; exact dd
                have HT := Aside0.mk (Tab.drew HT.out)
                have HB := Aside0.mk (LB.drew HB.out)
                have HW := Aside0.mk (below_drew1 HW.out)
                go_wp2_with fail
                all_goals first | (cases dd2.symm.trans ‹(!pb == (lk.tmod 2 == 1)) = true›; done) | exact ⟨⟨k + 1, by omega, rfl, HT, HB, HW⟩, by simp [RowKit.intOf]; omega⟩
              · have d5 : decide (0 < lk) = false := decide_eq_false hpos
                go_wp2_with fail
                go_roundw
                case rel => exact ⟨k + 1, by omega, by go_num, HT, HB, HW⟩
                case measure => simp [RowKit.intOf]; omega
            · have c3 : decide ((k : Int) < 8) = false := decide_eq_false (by omega)
              go_wp2_with fail
              exact ⟨⟨i + 1, S2, by omega, rfl, HS2, HT, HB, HW⟩, by simp [RowKit.intOf]; omega⟩
      · have c1 : decide ((i : Int) < 200) = false := decide_eq_false (by omega)
        go_wp2_with fail
        refine (awake_ok (LaidW.below hL HW.out)).mono ?_
        rintro e w3 ⟨rfl, hb3⟩
        have HW := Aside0.mk (below_step HW.out hb3)
        clear hb3
        go_wp2_with fail
        go_returns
        exact ⟨rfl, HW.out⟩
    · have c0 : decide ((i : Int) < (la.length : Int)) = false := decide_eq_false (by omega)
      go_wp2_with fail
      refine (awake_ok (LaidW.below hL HW.out)).mono ?_
      rintro e w3 ⟨rfl, hb3⟩
      have HW := Aside0.mk (below_step HW.out hb3)
      clear hb3
      go_wp2_with fail
      go_returns
      exact ⟨rfl, HW.out⟩
def IsRow2 (w : World) (a : Option Addr) (len : Nat) (l : List (Int × Int)) : Prop :=
  l.length = len ∧ ∀ i, i < l.length → ∃ x, a = some x ∧ w.cell? (x.add (i * 2)) = some (.int .i64 (l.getD i (0, 0)).1) ∧ w.cell? (x.add (i * 2 + 1)) = some (.int .i64 (l.getD i (0, 0)).2)
theorem once_walk (a0 : Option Addr) (len0 cap0 : Nat) (l0 : List (Int × Int)) (W : World) (hL : LaidW W) (w0 : IsRow2 W a0 len0 l0) :
    Calls Tryd.prog 3 #[.slice a0 len0 cap0] W fun e w' => e = .returned (.bool true) ∧ Below W.heap.size W w' := by
  obtain ⟨rfl, h⟩ := w0
  exact once_calls hL a0 cap0 l0 h
end Go.Proofs.YthlkcfjodmhhmaaDoor.Dd
namespace Go.Proofs.YthlkcfjodmhhmaaDoor.Opn
open Go.RowKit Go.Proofs.YthlkcfjodmhhmaaDoorW.PrintWords
set_option linter.unusedVariables false
def OpensAt {α : Type} (P : Program) (n : Nat) (t : TypeId) (d : Kd α) (G : α → Prop) : Prop :=
  ∀ {H : Type} {enc : TypeId × Value → H} {w : World} {base : Nat} {spare : Nat → Bool} {held : Bool} {cs : List Value} {dd : DataW H} {ps : List MemPlace},
    DataW.trod enc P w base spare held n t cs = some (dd, ps) → (∀ x ∈ dd.weights P t, x ≤ reachBytes) → ∃ a, d.K w a cs ∧ G a
section
variable {α β : Type} {P : Program} {n : Nat} {t e : TypeId} {d : Kd α} {G : α → Prop}
theorem OpensAt.map {d' : Kd β} {G' : β → Prop} (g : α → β) (h : OpensAt P n t d G) (hg : ∀ w a cs, d.K w a cs → G a → d'.K w (g a) cs ∧ G' (g a)) : OpensAt P n t d' G' := by
  intro H enc w base spare held cs dd ps ht hw
  obtain ⟨a, h1, h2⟩ := h ht hw
  exact ⟨g a, (hg _ _ _ h1 h2).1, (hg _ _ _ h1 h2).2⟩
theorem mem_weightsAll {H : Type} {P : Program} {e : TypeId} : ∀ {l : List (DataW H)} {x : DataW H}, x ∈ l → ∀ y ∈ x.weights P e, y ∈ DataW.weightsAll P e l
  | [], _, h, _, _ => absurd h (List.not_mem_nil)
  | a :: l, x, h, y, hy => by
    rw [DataW.weightsAll]
    rcases List.mem_cons.1 h with rfl | h
    · exact List.mem_append_left _ hy
    · exact List.mem_append_right _ (mem_weightsAll h y hy)
theorem choose_list {γ : Type} (L : Nat) (Q : Nat → γ → Prop) (h : ∀ i, i < L → ∃ a, Q i a) : ∃ l : List γ, l.length = L ∧ ∀ i a, l[i]? = some a → Q i a := by
  induction L with
  | zero => exact ⟨[], rfl, fun i a hi => by simp at hi⟩
  | succ L ih =>
    obtain ⟨l, h1, h2⟩ := ih (fun i hi => h i (by omega))
    obtain ⟨a, ha⟩ := h L (by omega)
    refine ⟨l ++ [a], by simp [h1], fun i b hi => ?_⟩
    by_cases hl : i < l.length
    · rw [List.getElem?_append_left hl] at hi
      exact h2 i b hi
    · rw [List.getElem?_append_right (by omega)] at hi
      have : i - l.length = 0 := by
        cases hq : i - l.length with
        | zero => rfl
        | succ m => rw [hq] at hi; simp at hi
      rw [this] at hi
      simp at hi
      subst hi
      obtain rfl : i = L := by omega
      exact ha
theorem addr_add_add (a : Addr) (i j : Nat) : (a.add i).add j = a.add (i + j) := by
  unfold Addr.add
  by_cases h1 : i = 0
  · subst h1; simp
  · by_cases h2 : j = 0
    · subst h2; simp
    · have h3 : ¬ i + j = 0 := by omega
      simp [h1, h2, Nat.add_assoc]
theorem cells_all {w : World} {base : Nat} {a : Addr} {m : Nat} {cs : List Value} (h : w.cells? base a m = some cs) : cs.length = m ∧ ∀ i u, cs[i]? = some u → w.cell? (a.add i) = some u := by
  obtain ⟨_, h1, h2⟩ := World.cells?_some h
  refine ⟨h1, fun i u hu => ?_⟩
  have hi : i < m := by rw [← h1]; exact (List.getElem?_eq_some_iff.1 hu).1
  rw [h2 i hi]
  exact hu
theorem opens_slice (hu : P.underlying t = some (.slice e)) (hc : P.cellsOf e = d.sz) (B : Nat) (hB : P.bytesOf e = B) (h : ∀ m, m < n → OpensAt P m e d G) :
    OpensAt P n t (Kd.slice e d) (fun l => (∀ x ∈ l, G x) ∧ l.length * B ≤ 140737488351232) := by
  intro H enc w base spare held cs dd ps ht hw
  rcases DataW.trod_slice hu ht with ⟨rfl, hx⟩ | ⟨a, len, cap, elems, rest, m, rfl, rfl, hx, _, hl, hm, hlen, hel, _, _⟩
  · exact ⟨[], ⟨none, 0, rfl, Nat.le_refl _, rfl, by simp, fun h => absurd h (Nat.lt_irrefl 0)⟩, by simp, by simp⟩
  · obtain ⟨rfl, _⟩ := Prod.mk.inj hx
    rw [DataW.weights, hu] at hw
    dsimp only at hw
    have hB' := hw _ List.mem_cons_self
    rw [hB] at hB'
    simp only [List.length_map, hlen] at hB'
    have hb : len * B ≤ 140737488351232 := Nat.le_trans (Nat.mul_le_mul_right _ (Nat.le_add_right _ _)) hB'
    obtain ⟨l, h1, h2⟩ := choose_list (γ := α) len (fun i y => ∃ c, c.length = d.sz ∧ d.K w y c ∧ (∀ q u, c[q]? = some u → w.cell? (a.add (i * d.sz + q)) = some u) ∧ G y) (fun i hi => by
      have hi' := hel i hi
      rw [List.getElem?_eq_getElem (by omega)] at hi'
      obtain ⟨c, hc1, hc2⟩ := Option.bind_eq_some_iff.1 hi'
      obtain ⟨k1, k2⟩ := cells_all hc1
      obtain ⟨y, y1, y2⟩ := h m (Nat.lt_succ_self _) hc2 (fun x hx => hw x (List.mem_cons_of_mem _ (List.mem_append_left _ (mem_weightsAll (List.mem_map_of_mem (List.getElem_mem (by omega))) x hx))))
      refine ⟨y, c, by rw [k1, hc], y1, fun q u hq => ?_, y2⟩
      have := k2 q u hq
      rw [hc] at this
      rw [← addr_add_add]
      exact this)
    refine ⟨l, ⟨some a, cap, by rw [h1], by omega, rfl, by unfold maxLen at hm; omega, fun _ => ⟨a, rfl, fun j p hp => ?_⟩⟩, fun x hx => ?_, by rw [h1]; exact hb⟩
    · obtain ⟨c, c1, c2, c3, _⟩ := h2 j p hp
      exact ⟨c, c1, c2, c3⟩
    · obtain ⟨i, hi, rfl⟩ := List.getElem_of_mem hx
      obtain ⟨_, _, _, _, g⟩ := h2 i _ (List.getElem?_eq_getElem hi)
      exact g
end
theorem weights_of {H : Type} {P : Program} {ts : List TypeId} {ds : List (DataW H)} {j : Nat} {t : TypeId} {d : DataW H} (hsz : (DataW.weightsEach P ts ds).all (· ≤ reachBytes) = true) (ht : ts[j]? = some t) (hd : ds[j]? = some d) : ∀ x ∈ d.weights P t, x ≤ reachBytes := by
  intro x hx
  have := List.all_eq_true.1 hsz x (DataW.weights_mem_each ht hd x hx)
  simpa using this
end Go.Proofs.YthlkcfjodmhhmaaDoor.Opn
namespace Go.Proofs.YthlkcfjodmhhmaaDoor.Opn
open Go.RowKit Go.Proofs.YthlkcfjodmhhmaaDoorW.PrintWords
set_option linter.unusedVariables false
theorem opens_two {P : Program} {n : Nat} {t e : TypeId} {k : IntKind} (hu : P.underlying t = some (.array 2 e)) (he : P.underlying e = some (.int k)) (hc : P.cellsOf e = 1) (ht : P.cellsOf t = 2) : OpensAt P n t (Kd.pair (Kd.int k) (Kd.int k)) (fun _ => True) := by
  intro H enc w base spare held cs dd ps h hw
  obtain ⟨xs, m, rfl, hx, hl, hxs, hf⟩ := DataW.trod_array hu h
  rw [ht] at hl
  match cs, hl with
  | [a, b], _ =>
    have h0 := hf 0 (by decide)
    have h1 := hf 1 (by decide)
    rw [hc] at h0 h1
    match xs, hxs with
    | [x0, x1], _ =>
      obtain ⟨z0, e0, _⟩ := DataW.trod_int he (show DataW.trod enc P w base spare held m e [a] = some x0 from h0)
      obtain ⟨z1, e1, _⟩ := DataW.trod_int he (show DataW.trod enc P w base spare held m e [b] = some x1 from h1)
      refine ⟨(z0, z1), ⟨[.int k z0], [.int k z1], ?_, rfl, rfl⟩, trivial⟩
      rw [List.cons.injEq] at e0 e1
      rw [e0.1, e1.1]
      rfl
set_option maxRecDepth 100000 in
theorem open_row2 {H : Type} {enc : TypeId × Value → H} {W : World} {base : Nat} {spare : Nat → Bool} {held : Bool} {v : Value} {d : DataW H} {ps : List MemPlace} {r : Reach} {b0 : Nat}
    (hval : Value.okWide Tryd.prog W r b0 22 v) (hd : DataW.Trod enc Tryd.prog W base spare held 22 v d ps) (hw : ∀ x ∈ d.weights Tryd.prog 22, x ≤ reachBytes) :
    ∃ (l : List (Int × Int)) (A : Option Addr) (c : Nat), v = .slice A l.length c ∧ Dd.IsRow2 W A l.length l := by
  obtain ⟨a, len, cap, rfl⟩ := Go.WideShapes.okWide_slice Tryd.underlying22 hval
  obtain ⟨n, hn⟩ := hd
  obtain ⟨l, ⟨A, c, he, hl, hC⟩, _⟩ := opens_slice (d := Kd.pair (Kd.int .i64) (Kd.int .i64)) (G := fun _ => True) (e := 26) Tryd.underlying22 (by kernel_rfl) 16 (by kernel_rfl) (fun m hm => opens_two Tryd.underlying26 Tryd.underlying3 (by kernel_rfl) (by kernel_rfl)) hn hw
  have he' : Value.slice a len cap = Value.slice A l.length c := by
    have : ([Value.slice a len cap] : List Value) = [.slice A l.length c] := he
    exact (List.cons.inj this).1
  refine ⟨l, A, c, he', rfl, fun i hi => ?_⟩
  obtain ⟨x, rfl, hx⟩ := hC.2.2 (by omega)
  obtain ⟨cs, h1, ⟨c0, c1, rfl, e0, e1⟩, h3⟩ := hx i l[i] (List.getElem?_eq_getElem hi)
  subst e0
  subst e1
  rw [List.getD_eq_getElem?_getD, List.getElem?_eq_getElem hi]
  exact ⟨x, rfl, h3 0 _ rfl, h3 1 _ rfl⟩
end Go.Proofs.YthlkcfjodmhhmaaDoor.Opn
namespace Go.Proofs.YthlkcfjodmhhmaaDoor.Lay
open Go.RowKit Go.Lib
def LL : List (String × DataW Unit) := [("math/bits.deBruijn32tab", Rows.laid_math_bits_deBruijn32tab), ("math/bits.deBruijn64tab", Rows.laid_math_bits_deBruijn64tab), ("internal/strconv.uint64pow10", Rows.laid_internal_strconv_uint64pow10)]
def cellsOf : DataW Unit → List Value
  | .agg l => l.map fun | .lit (.int k z) => .int k z | _ => .nilIface
  | _ => []
noncomputable def laidWorld (os : Os) : World :=
  let w0 := World.holding Tryd.prog os ⟨#[], #[], []⟩
  let put (h : Array Obj) (g : Nat) (cs : Array Value) : Array Obj := h.modify g fun
    | .cells _ t frozen => .cells cs t frozen
    | o => o
  let h1 := put w0.heap 1 (cellsOf Rows.laid_math_bits_deBruijn32tab).toArray
  let h2 := put h1 2 (cellsOf Rows.laid_math_bits_deBruijn64tab).toArray
  let h3 := put h2 0 (cellsOf Rows.laid_internal_strconv_uint64pow10).toArray
  { w0 with heap := h3 }
theorem laid_met (os : Os) (args : Array Value) : laidMet Tryd.prog LL ((laidWorld os).forCall (fun _ _ => 0) ⟨#[], args, []⟩).memory :=
  (LaidIn.of_run (l := LL) [1, 2, 0] 8 (by kernel_rfl) (by kernel_rfl) (by kernel_rfl) (by kernel_rfl)).met
theorem eqP : (Rows.laid_internal_strconv_uint64pow10 : DataW Unit) = Lib.tabData .u64 Lib.pow10Tab := by kernel_rfl
set_option maxRecDepth 100000 in
theorem tabIs_of_reads {name : String} {k : IntKind} {zs : List Int} {W : World} {g : Nat} {t e : TypeId} {n : Nat} (hg : Tryd.prog.globalNamed name = some g) (hty : (Tryd.prog.globals[g]?).map (·.type) = some t) (ht : Tryd.prog.underlying t = some (.array n e)) (he : Tryd.prog.underlying e = some (.int k)) (hce : Tryd.prog.cellsOf e = 1) (hct : Tryd.prog.cellsOf t = n)
    (h : VarReads Tryd.prog W name (tabData k zs)) : Lib.TabIs Tryd.prog W name k zs := by
  obtain ⟨g', t', cs, fuel, p, h1, h2, h3, h4⟩ := h
  obtain rfl : g' = g := by rw [hg] at h1; exact (Option.some.inj h1).symm
  obtain rfl : t' = t := by rw [hty] at h2; exact (Option.some.inj h2).symm
  have := cells_of_tab ht he hce hct h4
  unfold Lib.TabIs
  rw [h3]
  congr 1
  apply Array.toList_inj.1
  rw [this]
theorem laidW_of {W : World} (hL : laidMetH Tryd.prog LL W) : Giv.LaidW W := by
  have h1 := Lib.laidMet.reads hL (.tail _ (.tail _ (.head _)))
  rw [eqP] at h1
  exact tabIs_of_reads (t := 114) (e := 108) (n := 20) Giv.pow10_named (by kernel_rfl) Tryd.underlying114 Tryd.underlying108 (by kernel_rfl) (by kernel_rfl) h1
theorem own : ownKnob Tryd.prog.godebug = none := by kernel_rfl
theorem laidOut : laidOutB Tryd.prog = true := by kernel_rfl
end Go.Proofs.YthlkcfjodmhhmaaDoor.Lay
