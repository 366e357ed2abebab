/- Texts put together by prune.py: Aid, BncXr, DdE, DdC, DdD, DdF, DdG, LayB. -/
import Derived.WalkKit
import Derived.Deep.Quiet
import Derived.BigQuiet
import Derived.Test.YthlkcfjodmhhmaaDoorRows
import Derived.Lib.LaidIn
import Derived.Lib.LaidU8T
import Derived.Deep.DeepHandedRow
import Derived.Deep.DeepWitnessRowRef
import Derived.ProofKit
import Derived.SizedLaws
import Derived.Test.YthlkcfjodmhhmaaDoorAp1
namespace Go.Proofs.YthlkcfjodmhhmaaDoor
open Go.RowKit
def Veil (p : Prop) : Prop := Unit → p
theorem Veil.out {p : Prop} (h : Veil p) : p := h ()
theorem i64_in {n : Int} (h0 : -9223372036854775808 ≤ n) (h1 : n ≤ 9223372036854775807) : IntKind.i64.wrap n = n := by rw [IntKind.wrap_i64]; omega
theorem and_mask_i64 (x : Int) (i : Nat) (hi : i ≤ 62) : bits .and .i64 x ((2 ^ i - 1 : Nat) : Int) = x % ((2 ^ i : Nat) : Int) := by
  have hp : 0 < 2 ^ i := Nat.two_pow_pos i
  have hle : 2 ^ i ≤ 2 ^ 62 := Nat.pow_le_pow_right (by decide) hi
  show IntKind.i64.wrap ((BitVec.ofInt 64 x &&& BitVec.ofInt 64 ((2 ^ i - 1 : Nat) : Int)).toNat : Int) = _
  rw [BitVec.toNat_and, BitVec.ofInt_natCast, BitVec.toNat_ofNat, Nat.mod_eq_of_lt (by omega), BitVec.toNat_ofInt, Nat.and_two_pow_sub_one_eq_mod]
  have hm := Int.emod_nonneg x (show (18446744073709551616 : Int) ≠ 0 by decide)
  have hd : ((2 ^ i : Nat) : Int) ∣ 18446744073709551616 := by
    have : (2 ^ i : Nat) ∣ 2 ^ 64 := Nat.pow_dvd_pow 2 (by omega)
    exact Int.natCast_dvd_natCast.2 this
  have e : (((x % 18446744073709551616).toNat % 2 ^ i : Nat) : Int) = x % ((2 ^ i : Nat) : Int) := by
    rw [Int.natCast_emod, Int.toNat_of_nonneg hm]
    exact Int.emod_emod_of_dvd x hd
  have e' : (((x % ((2 ^ 64 : Nat) : Int)).toNat % 2 ^ i : Nat) : Int) = x % ((2 ^ i : Nat) : Int) := e
  rw [e']
  have h0 := Int.emod_nonneg x (show ((2 ^ i : Nat) : Int) ≠ 0 by omega)
  have h1 := Int.emod_lt_of_pos x (show (0 : Int) < ((2 ^ i : Nat) : Int) by omega)
  exact i64_in (by omega) (by omega)
def Blk (w : World) (b : Nat) (c : Array Value) (t : TypeId) : Prop := w.heap[b]? = some (.cells c t (0, 0))
theorem Blk.lt {w : World} {b : Nat} {c : Array Value} {t : TypeId} (h : Blk w b c t) : b < w.heap.size := (Array.getElem?_eq_some_iff.1 h).1
theorem Blk.cell {w : World} {b : Nat} {c : Array Value} {t : TypeId} (h : Blk w b c t) (i : Nat) : w.cell? ⟨b, i, none⟩ = c[i]? := by
  unfold Blk at h
  simp [World.cell?, h]
theorem Blk.alloc {w : World} {b : Nat} {c : Array Value} {t : TypeId} (h : Blk w b c t) (o : Obj) : Blk (w.alloc o) b c t := by
  have := h.lt
  unfold Blk at *
  rw [Below.heap_alloc _ _ _ this]; exact h
theorem Blk.drew {w : World} {b : Nat} {c : Array Value} {t : TypeId} (h : Blk w b c t) : Blk w.drew b c t := h
theorem Blk.set {w : World} {b : Nat} {c : Array Value} {t : TypeId} (h : Blk w b c t) (i : Nat) (v : Value) : Blk (w.setCell ⟨b, i, none⟩ v) b (c.setIfInBounds i v) t := by
  unfold Blk at *
  simp [World.setCell, Array.getElem?_modify, h]
theorem Blk.below {w w' : World} {B b : Nat} {c : Array Value} {t : TypeId} (h : Blk w b c t) (hb : Below B w w') (hB : b < B) : Blk w' b c t := by
  unfold Blk at *
  rw [hb.block b hB]; exact h
def BlkM (w : World) (b : Nat) (c : Array Value) (t : TypeId) (f : Nat × Nat) : Prop := w.heap[b]? = some (.cells c t f)
theorem BlkM.lt {w : World} {b : Nat} {c : Array Value} {t : TypeId} {f : Nat × Nat} (h : BlkM w b c t f) : b < w.heap.size := (Array.getElem?_eq_some_iff.1 h).1
theorem BlkM.cell {w : World} {b : Nat} {c : Array Value} {t : TypeId} {f : Nat × Nat} (h : BlkM w b c t f) (i : Nat) : w.cell? ⟨b, i, none⟩ = c[i]? := by
  unfold BlkM at h
  simp [World.cell?, h]
theorem BlkM.alloc {w : World} {b : Nat} {c : Array Value} {t : TypeId} {f : Nat × Nat} (h : BlkM w b c t f) (o : Obj) : BlkM (w.alloc o) b c t f := by
  have := h.lt
  unfold BlkM at *
  rw [Below.heap_alloc _ _ _ this]; exact h
theorem BlkM.drew {w : World} {b : Nat} {c : Array Value} {t : TypeId} {f : Nat × Nat} (h : BlkM w b c t f) : BlkM w.drew b c t f := h
theorem BlkM.set {w : World} {b : Nat} {c : Array Value} {t : TypeId} {f : Nat × Nat} (h : BlkM w b c t f) (i : Nat) (v : Value) : BlkM (w.setCell ⟨b, i, none⟩ v) b (c.setIfInBounds i v) t f := by
  unfold BlkM at *
  simp [World.setCell, Array.getElem?_modify, h]
theorem BlkM.below {w w' : World} {B b : Nat} {c : Array Value} {t : TypeId} {f : Nat × Nat} (h : BlkM w b c t f) (hb : Below B w w') (hB : b < B) : BlkM w' b c t f := by
  unfold BlkM at *
  rw [hb.block b hB]; exact h
def Later (w : World) : Type := { v : World // Below w.heap.size w v }
instance (w : World) : Nonempty (Later w) := ⟨⟨w, Below.refl _ _⟩⟩
theorem Later.call {P : Program} {f : FuncId} {args : Array Value} {w : World} {v : Value} {x : Later w}
    (h : Calls P f args x.1 fun e w' => e = .returned v ∧ Below x.1.heap.size x.1 w') : Calls P f args x.1 fun e w' => e = .returned v ∧ ∃ y : Later w, w' = y.1 :=
  h.mono fun _ w' ⟨he, hb⟩ => ⟨he, ⟨w', x.2.trans (hb.mono x.2.size)⟩, rfl⟩
theorem Later.cell {w : World} (x : Later w) {p : Addr} (hp : p.block < w.heap.size) : x.1.cell? p = w.cell? p := x.2.cell hp
end Go.Proofs.YthlkcfjodmhhmaaDoor
namespace Go.Proofs.YthlkcfjodmhhmaaDoor.Pure
open Go.RowKit Go.Lib Go.Proofs.YthlkcfjodmhhmaaDoor.Giv Go.Proofs.YthlkcfjodmhhmaaDoor.P Go.Proofs.YthlkcfjodmhhmaaDoorW.PrintWords Go.Proofs.YthlkcfjodmhhmaaDoorW.PrintLast Go.Proofs.YthlkcfjodmhhmaaDoorW.PrintMore
set_option linter.unusedVariables false
set_option linter.unusedSimpArgs false
theorem fit_of {v : V} (ho : okV v = true) (hw : wt v ≤ 70368744177664) : fitV v = true := by unfold fitV; rw [ho, decide_eq_true hw]; rfl
theorem putM_of {v : V} (hk : kin v = true) (hd : dep v ≤ 8) (hl : (enc v).length ≤ 65536) : putM v = (⟨(enc v).toArray⟩, 0) := by
  have e : chk v 0 = 0 := by rw [chk_top, if_pos hk, if_neg (show ¬ 8 < dep v by omega)]
  unfold putM
  rw [if_pos e, if_pos hl]
def v0 : V := lisV [intV 12, strV ⟨#[97, 98]⟩]
end Go.Proofs.YthlkcfjodmhhmaaDoor.Pure
namespace Go.Proofs.YthlkcfjodmhhmaaDoor.Dd
open Go.RowKit Go.Lib Go.Proofs.YthlkcfjodmhhmaaDoor.Giv Go.Proofs.YthlkcfjodmhhmaaDoor.Pure Go.Proofs.YthlkcfjodmhhmaaDoorW.PrintWords Go.Proofs.YthlkcfjodmhhmaaDoorW.PrintLast Go.Proofs.YthlkcfjodmhhmaaDoorW.PrintMore
set_option linter.unusedVariables false
set_option linter.unusedSimpArgs false
def okE (x : Ent) : Prop := 0 ≤ x.s ∧ x.s ≤ 1099511627776 ∧ 0 ≤ x.e ∧ x.e ≤ 255 ∧ (x.s = 0 → x = zE)
def okT (T : List Ent) : Prop := T.length = 8 ∧ ∀ x ∈ T, okE x
theorem okE_zE : okE zE := ⟨by decide, by decide, by decide, by decide, fun _ => rfl⟩
theorem okT_T0 : okT T0 := ⟨rfl, fun x hx => by
  simp only [T0, List.mem_cons, List.not_mem_nil, or_false, or_self] at hx
  exact hx ▸ okE_zE⟩
theorem okT_put {T : List Ent} (h : okT T) (c s e : Int) (b : Bool) : okT (putT T c s e b).1 := by
  unfold putT
  split
  · rename_i hc
    split
    · exact h
    · refine ⟨by rw [List.length_set]; exact h.1, fun x hx => ?_⟩
      obtain ⟨m0, m1, m2, m3⟩ := mayM_iff.1 hc.1
      rcases List.mem_or_eq_of_mem_set hx with hx | rfl
      · exact h.2 x hx
      · exact ⟨by show (0 : Int) ≤ s; omega, m3, hc.2.1, hc.2.2, fun hz => by have : s = 0 := hz; omega⟩
  · exact h
theorem wi (b : Bool) : (if b = true then (1 : Int) else 0) = 0 ∨ (if b = true then (1 : Int) else 0) = 1 := by cases b <;> simp
theorem row_facts (k : Int) (x : Ent) (hk0 : 0 ≤ k) (hk : k ≤ 100) (h : okE x) : wt (rowV k x) = 150 ∧ okV (rowV k x) = true ∧ kin (rowV k x) = true ∧ dep (rowV k x) = 1 ∧ (enc (rowV k x)).length ≤ 90 ∧ nrm (rowV k x) = rowV k x := by
  obtain ⟨h0, h1, h2, h3, _⟩ := h
  have hw := wi x.w
  have hL : (fun n => wt (intV n)) = fun _ => 30 := by funext n; rw [wt_eq]; simp [intV, wts_nil]; rfl
  have hI : ∀ n, wt (intV n) = 30 := fun n => congrFun hL n
  have i1 := itoa_len (n := k) (by omega) (by omega)
  have i2 := itoa_len (n := x.s) (by omega) (by omega)
  have i3 := itoa_len (n := x.e) (by omega) (by omega)
  have i4 := itoa_len (n := if x.w = true then (1 : Int) else 0) (by omega) (by omega)
  unfold rowV
  refine ⟨?_, ?_, ?_, ?_, ?_, ?_⟩
  · rw [wt_eq]
    simp [lisV, wts_cons, wts_nil, hI]
    rfl
  · refine ok_lis ?_
    rw [okVs_cons, okVs_cons, okVs_cons, okVs_cons]
    exact ⟨ok_int (by omega) (by omega), ok_int (by omega) (by omega), ok_int (by omega) (by omega), ok_int (by omega) (by omega), okVs_nil⟩
  · rw [kin_lis]
    simp [kins_cons, kins_nil, kin_int]
  · rw [dep_lis]
    simp [deps_cons, deps_nil, dep_int]
  · rw [enc_lis]
    simp only [encs_cons, encs_nil, enc_int, List.length_cons, List.length_append, List.length_nil]
    omega
  · rw [nrm_eq]
    simp [lisV, nrms_cons, nrms_nil, nrm_eq, intV]
theorem rows_facts : ∀ (T : List Ent) (k : Nat), k + T.length ≤ 100 → (∀ x ∈ T, okE x) → wts (rowsM k T) ≤ 150 * T.length ∧ okVs (rowsM k T) = true ∧ kins (rowsM k T) = true ∧ deps (rowsM k T) ≤ 1 ∧ (encs (rowsM k T)).length ≤ 90 * T.length ∧ nrms (rowsM k T) = rowsM k T
  | [], k, hk, h => by simp [rowsM, wts_nil, okVs_nil, kins_nil, deps_nil, encs_nil, nrms_nil]
  | x :: T, k, hk, h => by
    rw [List.length_cons] at hk
    obtain ⟨a1, a2, a3, a4, a5, a6⟩ := rows_facts T (k + 1) (by omega) (fun y hy => h y (.tail _ hy))
    obtain ⟨b1, b2, b3, b4, b5, b6⟩ := row_facts (k : Int) x (by omega) (by omega) (h x (.head _))
    rw [rowsM]
    split
    · refine ⟨by rw [List.length_cons]; omega, a2, a3, a4, by rw [List.length_cons]; omega, a6⟩
    · rw [wts_cons, okVs_cons, kins_cons, deps_cons, encs_cons, nrms_cons, List.length_cons, List.length_append, b1, b3, b4, a3, a6, b6]
      exact ⟨by omega, ⟨b2, a2⟩, rfl, by omega, by omega, rfl⟩
theorem tab_facts {T : List Ent} (h : okT T) : wt (tabV T) ≤ 2000 ∧ okV (tabV T) = true ∧ kin (tabV T) = true ∧ dep (tabV T) ≤ 2 ∧ (enc (tabV T)).length ≤ 800 ∧ nrm (tabV T) = tabV T := by
  obtain ⟨a1, a2, a3, a4, a5, a6⟩ := rows_facts T 0 (by rw [h.1]; decide) h.2
  rw [h.1] at a1 a5
  unfold tabV
  refine ⟨?_, ok_lis a2, by rw [kin_lis]; exact a3, by rw [dep_lis]; omega, ?_, ?_⟩
  · rw [wt_eq]
    show 30 + 2 * 0 + wts (rowsM 0 T) ≤ 2000
    omega
  · rw [enc_lis]
    simp only [List.length_cons, List.length_append, List.length_nil]
    omega
  · rw [nrm_eq]
    show lisV (nrms (rowsM 0 T)) = _
    rw [a6]
theorem tab_put {T : List Ent} (h : okT T) : benc_Put.f 3 0 ⟨#[]⟩ (rowsM 0 T) = some (textM T, 0) := by
  obtain ⟨a1, a2, a3, a4, a5, a6⟩ := tab_facts h
  rw [show benc_Put.f 3 0 ⟨#[]⟩ (rowsM 0 T) = some (putM (tabV T)) from put_yes (v := tabV T) (fit_of a2 (by omega)), putM_of a3 (by omega) (by omega)]
  rfl
theorem textM_list (T : List Ent) : (textM T).toList = enc (tabV T) := by rw [toList_data]; unfold textM; simp
end Go.Proofs.YthlkcfjodmhhmaaDoor.Dd
namespace Go.Proofs.YthlkcfjodmhhmaaDoor.Dd
open Go.RowKit Go.Lib Go.Proofs.YthlkcfjodmhhmaaDoor.Giv Go.Proofs.YthlkcfjodmhhmaaDoor.Pure Go.Proofs.YthlkcfjodmhhmaaDoorW.PrintWords Go.Proofs.YthlkcfjodmhhmaaDoorW.PrintLast Go.Proofs.YthlkcfjodmhhmaaDoorW.PrintMore
set_option linter.unusedVariables false
set_option linter.unusedSimpArgs false
theorem Tab.drew {w : World} {g : Nat} {T : List Ent} (h : Tab w g T) : Tab w.drew g T := ⟨h.1, h.2⟩
theorem But.cell {g : Nat} {w w' : World} (h : But g w w') {k i : Nat} {v : Value} (hk : k ≠ g) (hc : w.cell? ⟨k, i, none⟩ = some v) : w'.cell? ⟨k, i, none⟩ = some v := by
  cases ho : w.heap[k]? with
  | none => unfold World.cell? at hc; simp only [ho] at hc; cases hc
  | some o =>
    have := h.2 k o hk ho
    unfold World.cell? at hc ⊢
    simp only [ho] at hc
    simp only [this]
    exact hc
end Go.Proofs.YthlkcfjodmhhmaaDoor.Dd
namespace Go.Proofs.YthlkcfjodmhhmaaDoor.Dd
open Go.RowKit Go.Lib Go.Proofs.YthlkcfjodmhhmaaDoor.Giv Go.Proofs.YthlkcfjodmhhmaaDoorW.PrintWords Go.Proofs.YthlkcfjodmhhmaaDoorW.PrintLast Go.Proofs.YthlkcfjodmhhmaaDoorW.PrintMore
set_option linter.unusedVariables false
set_option linter.unusedSimpArgs false
def T1 : List Ent := [zE, ⟨5, 0, true⟩, zE, zE, zE, zE, zE, zE]
theorem put_T0 : putT T0 1 5 0 true = (T1, 0) := by kernel_rfl
theorem find_T1a : findM T1 1 5 = (0, true, 0) := by kernel_rfl
theorem find_T1b : findM T1 1 4 = (0, false, 90) := by kernel_rfl
theorem find_T1c : findM T1 1 6 = (0, false, 3) := by kernel_rfl
theorem last_T1 : lastM T1 1 = 5 := by kernel_rfl
set_option maxHeartbeats 8000000 in
set_option maxRecDepth 100000 in
theorem awake_calls {w : World} (hL : LaidW w) (t : ByteArray) (er : Int) (ht : benc_Put.f 3 0 ⟨#[]⟩ (rowsM 0 T1) = some (t, er)) (he : (t.toList == [108, 108, 105, 49, 101, 105, 53, 101, 105, 48, 101, 105, 49, 101, 101, 101]) = true) :
    Calls Tryd.prog 13 #[] w fun e w' => e = .returned (.bool true) ∧ Below w.heap.size w w' := by
  have HP := Aside0.mk ht
  have HE := Aside0.mk he
  clear ht he
  go_enter Tryd.func13, Tryd.ntmps13
  go_wp2_with fail
  refine (New_calls w).mono ?_
  rintro e w1 ⟨rfl, hb1, hT1⟩
  have HB := Aside0.mk hb1
  have HT := Aside0.mk hT1
  clear hb1 hT1
  go_wp2_with fail
  refine (put_calls HT.out 1 5 0 true _ _ put_T0).mono ?_
  rintro e w2 ⟨rfl, hT2, hB2⟩
  have HT := Aside0.mk hT2
  have HB := Aside0.mk (hB2.1 _ _ HB.out (Nat.le_refl _))
  clear hT2 hB2
  dsimp only
  go_wp2_with fail
  refine (find_calls HT.out 1 5 _ find_T1a).mono ?_
  rintro e w3 ⟨rfl, hb3⟩
  have HT := Aside0.mk ((HT.out.kept hb3).alloc (.cells #[.int .i64 0, .bool true, .slice none 0 0] 31))
  have HB := Aside0.mk (below_alloc (below_step HB.out hb3) (.cells #[.int .i64 0, .bool true, .slice none 0 0] 31))
  have BA := Aside0.mk (blk_new w3 (.cells #[.int .i64 0, .bool true, .slice none 0 0] 31))
  clear hb3
  go_wp2_with fail
  refine (find_calls HT.out 1 4 _ find_T1b).mono ?_
  rintro e w4 ⟨rfl, hb4⟩
  have HT := Aside0.mk ((HT.out.kept hb4).alloc (.cells #[.int .i64 0, .bool false, .slice none 0 0] 31))
  have HB := Aside0.mk (below_alloc (below_step HB.out hb4) (.cells #[.int .i64 0, .bool false, .slice none 0 0] 31))
  have BA := Aside0.mk (blk_alloc (blk_below BA.out hb4) (.cells #[.int .i64 0, .bool false, .slice none 0 0] 31))
  clear hb4
  go_wp2_with fail
  refine (find_calls HT.out 1 6 _ find_T1c).mono ?_
  rintro e w5 ⟨rfl, hb5⟩
  have HT := Aside0.mk ((HT.out.kept hb5).alloc (.cells #[.int .i64 0, .bool false, .slice none 0 0] 31))
  have HB := Aside0.mk (below_alloc (below_step HB.out hb5) (.cells #[.int .i64 0, .bool false, .slice none 0 0] 31))
  have BA := Aside0.mk (blk_alloc (blk_below BA.out hb5) (.cells #[.int .i64 0, .bool false, .slice none 0 0] 31))
  clear hb5
  obtain ⟨z0, z1, z2⟩ := cells3 BA.out
  go_wp2_with fail
  refine (last_calls HT.out 1 _ last_T1).mono ?_
  rintro e w6 ⟨rfl, hb6⟩
  have HT := Aside0.mk (HT.out.kept hb6)
  have HB := Aside0.mk (below_step HB.out hb6)
  clear hb6
  go_wp2_with fail
  refine (text_calls HT.out (LaidW.below hL HB.out) t er HP.out).mono ?_
  rintro e w7 ⟨rfl, hb7⟩
  have HB := Aside0.mk (below_step HB.out hb7)
  clear hb7
  have D := HE.out
  go_wp2_with fail
  go_returns
  exact ⟨rfl, HB.out⟩
end Go.Proofs.YthlkcfjodmhhmaaDoor.Dd
namespace Go.Proofs.YthlkcfjodmhhmaaDoor.Dd
open Go.RowKit Go.Lib Go.Proofs.YthlkcfjodmhhmaaDoor.Giv Go.Proofs.YthlkcfjodmhhmaaDoor.Pure Go.Proofs.YthlkcfjodmhhmaaDoorW.PrintWords Go.Proofs.YthlkcfjodmhhmaaDoorW.PrintLast Go.Proofs.YthlkcfjodmhhmaaDoorW.PrintMore
set_option linter.unusedVariables false
set_option linter.unusedSimpArgs false
theorem okT_T1 : okT T1 := by have := okT_put okT_T0 1 5 0 true; rw [put_T0] at this; exact this
theorem text_T1 : ((textM T1).toList == [108, 108, 105, 49, 101, 105, 53, 101, 105, 48, 101, 105, 49, 101, 101, 101]) = true := by
  have i0 : itoa 0 = [48] := by rw [itoa_pos (by decide)]; show decDigits 0 = _; rw [dd_small (by decide)]; rfl
  have i1 : itoa 1 = [49] := by rw [itoa_pos (by decide)]; show decDigits 1 = _; rw [dd_small (by decide)]; rfl
  have i5 : itoa 5 = [53] := by rw [itoa_pos (by decide)]; show decDigits 5 = _; rw [dd_small (by decide)]; rfl
  rw [textM_list]
  show (enc (lisV [lisV [intV 1, intV 5, intV 0, intV 1]]) == _) = true
  simp only [enc_lis, encs_cons, encs_nil, enc_int, i0, i1, i5]
  rfl
theorem awake_ok {w : World} (hL : LaidW w) : Calls Tryd.prog 13 #[] w fun e w' => e = .returned (.bool true) ∧ Below w.heap.size w w' :=
  awake_calls hL (textM T1) 0 (tab_put okT_T1) text_T1
end Go.Proofs.YthlkcfjodmhhmaaDoor.Dd
namespace Go.Proofs.YthlkcfjodmhhmaaDoor.Dd
open Go.RowKit Go.Lib Go.Proofs.YthlkcfjodmhhmaaDoor.Giv Go.Proofs.YthlkcfjodmhhmaaDoor.Pure Go.Proofs.YthlkcfjodmhhmaaDoorW.PrintWords Go.Proofs.YthlkcfjodmhhmaaDoorW.PrintLast Go.Proofs.YthlkcfjodmhhmaaDoorW.PrintMore
set_option linter.unusedVariables false
set_option linter.unusedSimpArgs false
def mk2 (a b : Ent) : List Ent := [zE, zE, a, zE, zE, b, zE, zE]
def stepE (b : Bool) (e : Ent) (s : Int) : Ent := if 0 < s ∧ s ≤ 1099511627776 ∧ e.s < s then ⟨s, 0, b⟩ else e
theorem put_a (a b : Ent) (s : Int) (f : Bool) : (putT (mk2 a b) 2 s 0 f).1 = mk2 (stepE f a s) b := by
  unfold putT stepE
  by_cases h1 : 0 < s
  · by_cases h2 : s ≤ 1099511627776
    · rw [if_pos ⟨mayM_iff.2 ⟨by decide, by decide, h1, h2⟩, by decide, by decide⟩]
      show (if s ≤ a.s then _ else _ : List Ent × Int).1 = _
      by_cases h3 : s ≤ a.s
      · rw [if_pos h3, if_neg (by omega)]
      · rw [if_neg h3, if_pos (by omega)]; rfl
    · rw [if_neg (fun h => h2 (mayM_iff.1 h.1).2.2.2), if_neg (by omega)]
  · rw [if_neg (fun h => h1 (mayM_iff.1 h.1).2.2.1), if_neg (by omega)]
theorem put_b (a b : Ent) (s : Int) (f : Bool) : (putT (mk2 a b) 5 s 0 f).1 = mk2 a (stepE f b s) := by
  unfold putT stepE
  by_cases h1 : 0 < s
  · by_cases h2 : s ≤ 1099511627776
    · rw [if_pos ⟨mayM_iff.2 ⟨by decide, by decide, h1, h2⟩, by decide, by decide⟩]
      show (if s ≤ b.s then _ else _ : List Ent × Int).1 = _
      by_cases h3 : s ≤ b.s
      · rw [if_pos h3, if_neg (by omega)]
      · rw [if_neg h3, if_pos (by omega)]; rfl
    · rw [if_neg (fun h => h2 (mayM_iff.1 h.1).2.2.2), if_neg (by omega)]
  · rw [if_neg (fun h => h1 (mayM_iff.1 h.1).2.2.1), if_neg (by omega)]
def lo (x : Int) : Int := Go.bits .and .i64 x 65535
def runE (f : Bool) (l : List Int) : Ent := l.foldl (fun e x => stepE f e (lo x)) zE
theorem runE_step (f : Bool) (l : List Int) (i : Nat) (h : i < l.length) : runE f (l.take (i + 1)) = stepE f (runE f (l.take i)) (lo (l.getD i 0)) := by
  unfold runE
  rw [List.take_succ_eq_append_getElem h, List.foldl_append, List.getD_eq_getElem?_getD, List.getElem?_eq_getElem h]
  rfl
theorem stepE_ok {e : Ent} (h : okE e) (b : Bool) (s : Int) : okE (stepE b e s) := by
  unfold stepE
  split
  · rename_i hh
    exact ⟨by show (0 : Int) ≤ s; omega, hh.2.1, (by decide : (0 : Int) ≤ 0), (by decide : (0 : Int) ≤ 255), fun hz => by have : s = 0 := hz; omega⟩
  · exact h
theorem fold_ok (f : Bool) : ∀ (l : List Int) (e : Ent), okE e → okE (l.foldl (fun e x => stepE f e (lo x)) e)
  | [], e, h => h
  | x :: l, e, h => fold_ok f l _ (stepE_ok h f _)
theorem runE_ok (f : Bool) (l : List Int) : okE (runE f l) := fold_ok f l zE okE_zE
theorem okT_mk2 {a b : Ent} (ha : okE a) (hb : okE b) : okT (mk2 a b) := ⟨rfl, fun x hx => by
  simp only [mk2, List.mem_cons, List.not_mem_nil, or_false] at hx
  rcases hx with rfl | rfl | rfl | rfl | rfl | rfl | rfl | rfl <;> first | exact okE_zE | assumption⟩
theorem Tab.other {w w' : World} {g h : Nat} {T : List Ent} (ht : Tab w h T) (hb : But g w w') (hne : h ≠ g) : Tab w' h T := ⟨ht.1, hb.2 h _ hne ht.2⟩
theorem and31_nonneg (x : Int) : 0 ≤ Go.bits .and .i64 x 31 := by
  have h := and_mask_i64 x 5 (by decide)
  have e : (((2 ^ 5 - 1 : Nat)) : Int) = 31 := by decide +kernel
  rw [e] at h
  rw [h]
  exact Int.emod_nonneg _ (by decide +kernel)
theorem cell_kept {w w' : World} {p : Addr} {v : Value} (hb : Below w.heap.size w w') (hc : w.cell? p = some v) : w'.cell? p = some v := by
  refine (Below.cell hb ?_).trans hc
  unfold World.cell? at hc
  cases h : w.heap[p.block]? with
  | none => rw [h] at hc; cases hc
  | some o => exact (Array.getElem?_eq_some_iff.1 h).1
set_option maxHeartbeats 8000000 in
set_option maxRecDepth 100000 in
theorem apart_calls {w : World} (hL : LaidW w) (A : Option Addr) (ca : Nat) (la : List Int) (B : Option Addr) (cb : Nat) (lb : List Int) (mixed : Int)
    (hA : ∀ i, i < la.length → ∃ x, A = some x ∧ w.cell? (x.add i) = some (.int .i64 (la.getD i 0))) (hB : ∀ i, i < lb.length → ∃ x, B = some x ∧ w.cell? (x.add i) = some (.int .i64 (lb.getD i 0))) :
    Calls Tryd.prog 4 #[.slice A la.length ca, .slice B lb.length cb, .int .i64 mixed] w fun e w' => e = .returned (.bool true) ∧ Below w.heap.size w w' := by
  have HA := Aside0.mk hA
  have HB := Aside0.mk hB
  clear hA hB
  by_cases c1 : 60 < la.length
  · have d1 : decide (60 < (la.length : Int)) = true := decide_eq_true (by omega)
    clear c1
    go_enter Tryd.func4, Tryd.ntmps4
    go_wp2_with fail
    refine (New_calls w).mono ?_
    rintro e w1 ⟨rfl, hb1, hT1⟩
    have HW := Aside0.mk hb1
    clear hb1 hT1
    go_wp2_with fail
    refine (New_calls w1).mono ?_
    rintro e w2 ⟨rfl, hb2, hU2⟩
    have HW := Aside0.mk (below_step HW.out hb2)
    clear hb2 hU2
    go_wp2_with fail
    refine (awake_ok (LaidW.below hL HW.out)).mono ?_
    rintro e w3 ⟨rfl, hb3⟩
    have HW := Aside0.mk (below_step HW.out hb3)
    clear hb3
    go_wp2_with fail
    go_returns
    exact ⟨rfl, HW.out⟩
  have d1 : decide (60 < (la.length : Int)) = false := decide_eq_false (by omega)
  by_cases c2 : 60 < lb.length
  · have d2 : decide (60 < (lb.length : Int)) = true := decide_eq_true (by omega)
    clear c1 c2
    go_enter Tryd.func4, Tryd.ntmps4
    go_wp2_with fail
    refine (New_calls w).mono ?_
    rintro e w1 ⟨rfl, hb1, hT1⟩
    have HW := Aside0.mk hb1
    clear hb1 hT1
    go_wp2_with fail
    refine (New_calls w1).mono ?_
    rintro e w2 ⟨rfl, hb2, hU2⟩
    have HW := Aside0.mk (below_step HW.out hb2)
    clear hb2 hU2
    go_wp2_with fail
    refine (awake_ok (LaidW.below hL HW.out)).mono ?_
    rintro e w3 ⟨rfl, hb3⟩
    have HW := Aside0.mk (below_step HW.out hb3)
    clear hb3
    go_wp2_with fail
    go_returns
    exact ⟨rfl, HW.out⟩
  have d2 : decide (60 < (lb.length : Int)) = false := decide_eq_false (by omega)
  have C1 := Aside0.mk c1
  have C2 := Aside0.mk c2
  clear c1 c2
  go_enter Tryd.func4, Tryd.ntmps4
  go_wp2_with fail
  refine (New_calls w).mono ?_
  rintro e w1 ⟨rfl, hb1, hT1⟩
  have HW := Aside0.mk hb1
  have HT := Aside0.mk hT1
  clear hb1 hT1
  go_wp2_with fail
  refine (New_calls w1).mono ?_
  rintro e w2 ⟨rfl, hb2, hU2⟩
  have HW2 := Aside0.mk (below_step HW.out hb2)
  have HT2 := Aside0.mk (HT.out.kept hb2)
  have HU2 := Aside0.mk hU2
  have HG := Aside0.mk (show w.heap.size < w1.heap.size from blk_lt HT.out.2)
  clear hb2 hU2 HW HT
  generalize w1.heap.size = h at *
  go_wp2_with fail
  clear d1 d2
  go_loopw [9] (fun v9 wr => ∃ i : Nat, i ≤ la.length ∧ v9 = .int .i64 (i : Int) ∧ Aside0 (Tab wr w.heap.size (mk2 (runE false (la.take i)) zE)) ∧ Aside0 (Tab wr h T0) ∧ Aside0 (Below w.heap.size w wr)) (fun v9 _ => la.length - (RowKit.intOf v9).toNat)
  case atStart => exact ⟨0, Nat.zero_le _, rfl, HT2, HU2, HW2⟩
  case round =>
    obtain ⟨i, hi, rfl, HT, HU, HW⟩ := hrel
    clear HT2 HU2 HW2
    by_cases hlt : i < la.length
    · have c0 : decide ((i : Int) < (la.length : Int)) = true := decide_eq_true (by omega)
      obtain ⟨x, rfl, hx⟩ := HA.out i hlt
      have hx := cell_kept HW.out hx
      have HS := Aside0.mk (runE_step false la i hlt)
      generalize la.getD i 0 = z at *
      have HI := Aside0.mk hi
      clear hi
      go_wp2_with fail
      refine (put_calls HT.out 2 _ 0 false _ _ rfl).mono ?_
      rintro e w3 ⟨rfl, hT3, hB3⟩
      have HT := Aside0.mk (show Tab w3 w.heap.size (mk2 (runE false (la.take (i + 1))) zE) by rw [HS.out]; rw [put_a] at hT3; exact hT3)
      have HU := Aside0.mk (HU.out.other hB3 (by have := HG.out; omega))
      have HW := Aside0.mk (hB3.1 _ _ HW.out (Nat.le_refl _))
      clear hT3 hB3
      have H64 : wrap64 ((i : Int) + 1) = (i : Int) + 1 := w64 (by omega) (by have := C1.out; omega)
      go_wp2_with fail
      go_roundw
      case rel => exact ⟨i + 1, by omega, by rw [H64]; rfl, HT, HU, HW⟩
      case measure => rw [H64]; simp [RowKit.intOf]; omega
    · have c0 : decide ((i : Int) < (la.length : Int)) = false := decide_eq_false (by omega)
      obtain rfl : i = la.length := by omega
      rw [List.take_of_length_le (Nat.le_refl _)] at HT
      go_wp2_with fail
      go_loopw [10] (fun v10 wr => ∃ i : Nat, i ≤ lb.length ∧ v10 = .int .i64 (i : Int) ∧ Aside0 (Tab wr w.heap.size (mk2 (runE false la) (runE true (lb.take i)))) ∧ Aside0 (Tab wr h T0) ∧ Aside0 (Below w.heap.size w wr)) (fun v10 _ => lb.length - (RowKit.intOf v10).toNat)
      case atStart => exact ⟨0, Nat.zero_le _, rfl, HT, HU, HW⟩
      case round =>
        obtain ⟨i, hi, rfl, HT, HU, HW⟩ := hrel
        by_cases hlt : i < lb.length
        · have c0 : decide ((i : Int) < (lb.length : Int)) = true := decide_eq_true (by omega)
          obtain ⟨x, rfl, hx⟩ := HB.out i hlt
          have hx := cell_kept HW.out hx
          have HS := Aside0.mk (runE_step true lb i hlt)
          generalize lb.getD i 0 = z at *
          have HI := Aside0.mk hi
          clear hi
          go_wp2_with fail
          refine (put_calls HT.out 5 _ 0 true _ _ rfl).mono ?_
          rintro e w3 ⟨rfl, hT3, hB3⟩
          have HT := Aside0.mk (show Tab w3 w.heap.size (mk2 (runE false la) (runE true (lb.take (i + 1)))) by rw [HS.out]; rw [put_b] at hT3; exact hT3)
          have HU := Aside0.mk (HU.out.other hB3 (by have := HG.out; omega))
          have HW := Aside0.mk (hB3.1 _ _ HW.out (Nat.le_refl _))
          clear hT3 hB3
          have H64 : wrap64 ((i : Int) + 1) = (i : Int) + 1 := w64 (by omega) (by have := C2.out; omega)
          go_wp2_with fail
          go_roundw
          case rel => exact ⟨i + 1, by omega, by rw [H64]; rfl, HT, HU, HW⟩
          case measure => rw [H64]; simp [RowKit.intOf]; omega
        · have c0 : decide ((i : Int) < (lb.length : Int)) = false := decide_eq_false (by omega)
          obtain rfl : i = lb.length := by omega
          rw [List.take_of_length_le (Nat.le_refl _)] at HT
          go_wp2_with fail
          go_loopw [11, 12, 13] (fun v11 v12 v13 wr => ∃ x y : Nat, x ≤ la.length ∧ y ≤ lb.length ∧ v11 = .int .i64 (x : Int) ∧ v12 = .int .i64 (y : Int) ∧ v13 = .int .i64 ((x + y : Nat) : Int) ∧ Aside0 (Tab wr w.heap.size (mk2 (runE false la) (runE true lb))) ∧ Aside0 (Tab wr h (mk2 (runE false (la.take x)) (runE true (lb.take y)))) ∧ Aside0 (Below w.heap.size w wr)) (fun v11 v12 _ _ => (la.length - (RowKit.intOf v11).toNat) + (lb.length - (RowKit.intOf v12).toNat))
          case atStart => exact ⟨0, 0, Nat.zero_le _, Nat.zero_le _, rfl, rfl, rfl, HT, HU, HW⟩
          case round =>
            obtain ⟨x, y, hx, hy, rfl, rfl, rfl, HT, HU, HW⟩ := hrel
            by_cases hlx : x < la.length
            · have c1 : decide ((x : Int) < (la.length : Int)) = true := decide_eq_true (by omega)
              obtain ⟨px, rfl, hpx⟩ := HA.out x hlx
              have hpx := cell_kept HW.out hpx
              have HSX := Aside0.mk (runE_step false la x hlx)
              generalize la.getD x 0 = zx at *
              by_cases hly : y < lb.length
              · have c2 : ((y : Int) == (lb.length : Int)) = false := beq_eq_false_iff_ne.2 (by omega)
                obtain ⟨py, rfl, hpy⟩ := HB.out y hly
                have hpy := cell_kept HW.out hpy
                have HSY := Aside0.mk (runE_step true lb y hly)
                generalize lb.getD y 0 = zy at *
                have HX := Aside0.mk hx
                have HY := Aside0.mk hy
                clear hx hy
                generalize hn : ((x + y : Nat) : Int) = n at *
                have b0 := and31_nonneg n
                go_wp2_with fail
                · refine (put_calls HU.out 2 _ 0 false _ _ rfl).mono ?_
                  rintro e w3 ⟨rfl, hU3, hB3⟩
                  have HU := Aside0.mk (show Tab w3 h (mk2 (runE false (la.take (x + 1))) (runE true (lb.take y))) by rw [HSX.out]; rw [put_a] at hU3; exact hU3)
                  have HT := Aside0.mk (HT.out.other hB3 (by have := HG.out; omega))
                  have HW := Aside0.mk (hB3.1 _ _ HW.out (by have := HG.out; omega))
                  clear hU3 hB3
                  have H64 : wrap64 ((x : Int) + 1) = (x : Int) + 1 := w64 (by omega) (by have := C1.out; have := C2.out; have := HX.out; have := HY.out; omega)
                  have N64 : wrap64 (n + 1) = ((x + 1 + y : Nat) : Int) := by rw [w64 (by omega) (by have := C1.out; have := C2.out; have := HX.out; have := HY.out; omega)]; omega
                  go_wp2_with fail
                  go_roundw
                  case rel => exact ⟨x + 1, y, by omega, by have := HY.out; omega, congrArg (Value.int .i64) H64, rfl, congrArg (Value.int .i64) N64, HT, HU, HW⟩
                  case measure => rw [H64]; simp [RowKit.intOf]; omega
                · refine (put_calls HU.out 5 _ 0 true _ _ rfl).mono ?_
                  rintro e w3 ⟨rfl, hU3, hB3⟩
                  have HU := Aside0.mk (show Tab w3 h (mk2 (runE false (la.take x)) (runE true (lb.take (y + 1)))) by rw [HSY.out]; rw [put_b] at hU3; exact hU3)
                  have HT := Aside0.mk (HT.out.other hB3 (by have := HG.out; omega))
                  have HW := Aside0.mk (hB3.1 _ _ HW.out (by have := HG.out; omega))
                  clear hU3 hB3
                  have H64 : wrap64 ((y : Int) + 1) = (y : Int) + 1 := w64 (by omega) (by have := C1.out; have := C2.out; have := HX.out; have := HY.out; omega)
                  have N64 : wrap64 (n + 1) = ((x + (y + 1) : Nat) : Int) := by rw [w64 (by omega) (by have := C1.out; have := C2.out; have := HX.out; have := HY.out; omega)]; omega
                  go_wp2_with fail
                  go_roundw
                  case rel => exact ⟨x, y + 1, by have := HX.out; omega, by omega, rfl, congrArg (Value.int .i64) H64, congrArg (Value.int .i64) N64, HT, HU, HW⟩
                  case measure => rw [H64]; simp [RowKit.intOf]; omega
              · have c2 : ((y : Int) == (lb.length : Int)) = true := beq_iff_eq.2 (by omega)
                have HX := Aside0.mk hx
                have HY := Aside0.mk hy
                clear hx hy
                generalize hn : ((x + y : Nat) : Int) = n at *
                have b0 := and31_nonneg n
                go_wp2_with fail
                refine (put_calls HU.out 2 _ 0 false _ _ rfl).mono ?_
                rintro e w3 ⟨rfl, hU3, hB3⟩
                have HU := Aside0.mk (show Tab w3 h (mk2 (runE false (la.take (x + 1))) (runE true (lb.take y))) by rw [HSX.out]; rw [put_a] at hU3; exact hU3)
                have HT := Aside0.mk (HT.out.other hB3 (by have := HG.out; omega))
                have HW := Aside0.mk (hB3.1 _ _ HW.out (by have := HG.out; omega))
                clear hU3 hB3
                have H64 : wrap64 ((x : Int) + 1) = (x : Int) + 1 := w64 (by omega) (by have := C1.out; have := C2.out; have := HX.out; have := HY.out; omega)
                have N64 : wrap64 (n + 1) = ((x + 1 + y : Nat) : Int) := by rw [w64 (by omega) (by have := C1.out; have := C2.out; have := HX.out; have := HY.out; omega)]; omega
                go_wp2_with fail
                go_roundw
                case rel => exact ⟨x + 1, y, by omega, by have := HY.out; omega, congrArg (Value.int .i64) H64, rfl, congrArg (Value.int .i64) N64, HT, HU, HW⟩
                case measure => rw [H64]; simp [RowKit.intOf]; omega
            · have c1 : decide ((x : Int) < (la.length : Int)) = false := decide_eq_false (by omega)
              by_cases hly : y < lb.length
              · have c2 : ((y : Int) == (lb.length : Int)) = false := beq_eq_false_iff_ne.2 (by omega)
                have c3 : decide ((y : Int) < (lb.length : Int)) = true := decide_eq_true (by omega)
                obtain ⟨py, rfl, hpy⟩ := HB.out y hly
                have hpy := cell_kept HW.out hpy
                have HSY := Aside0.mk (runE_step true lb y hly)
                generalize lb.getD y 0 = zy at *
                have HX := Aside0.mk hx
                have HY := Aside0.mk hy
                clear hx hy
                generalize hn : ((x + y : Nat) : Int) = n at *
                have b0 := and31_nonneg n
                go_wp2_with fail
                refine (put_calls HU.out 5 _ 0 true _ _ rfl).mono ?_
                rintro e w3 ⟨rfl, hU3, hB3⟩
                have HU := Aside0.mk (show Tab w3 h (mk2 (runE false (la.take x)) (runE true (lb.take (y + 1)))) by rw [HSY.out]; rw [put_b] at hU3; exact hU3)
                have HT := Aside0.mk (HT.out.other hB3 (by have := HG.out; omega))
                have HW := Aside0.mk (hB3.1 _ _ HW.out (by have := HG.out; omega))
                clear hU3 hB3
                have H64 : wrap64 ((y : Int) + 1) = (y : Int) + 1 := w64 (by omega) (by have := C1.out; have := C2.out; have := HX.out; have := HY.out; omega)
                have N64 : wrap64 (n + 1) = ((x + (y + 1) : Nat) : Int) := by rw [w64 (by omega) (by have := C1.out; have := C2.out; have := HX.out; have := HY.out; omega)]; omega
                go_wp2_with fail
                go_roundw
                case rel => exact ⟨x, y + 1, by have := HX.out; omega, by omega, rfl, congrArg (Value.int .i64) H64, congrArg (Value.int .i64) N64, HT, HU, HW⟩
                case measure => rw [H64]; simp [RowKit.intOf]; omega
              · have c3 : decide ((y : Int) < (lb.length : Int)) = false := decide_eq_false (by omega)
                obtain rfl : x = la.length := by omega
                obtain rfl : y = lb.length := by omega
                rw [List.take_of_length_le (Nat.le_refl _), List.take_of_length_le (Nat.le_refl _)] at HU
                have HO := Aside0.mk (show okT (mk2 (runE false la) (runE true lb)) from okT_mk2 (runE_ok _ _) (runE_ok _ _))
                have HPT := Aside0.mk (tab_put HO.out)
                generalize mk2 (runE false la) (runE true lb) = U at *
                go_wp2_with fail
                refine (text_calls HT.out (LaidW.below hL HW.out) _ _ HPT.out).mono ?_
                rintro e w5 ⟨rfl, hb5⟩
                have HU := Aside0.mk (HU.out.kept hb5)
                have HW := Aside0.mk (below_step HW.out hb5)
                clear hb5
                go_wp2_with fail
                refine (text_calls HU.out (LaidW.below hL HW.out) _ _ HPT.out).mono ?_
                rintro e w6 ⟨rfl, hb6⟩
                have HW := Aside0.mk (below_step HW.out hb6)
                clear hb6
                have dd : ((textM U).toList == (textM U).toList) = true := beq_self_eq_true _
                go_wp2_with fail
                refine (awake_ok (LaidW.below hL HW.out)).mono ?_
                rintro e w7 ⟨rfl, hb7⟩
                have HW := Aside0.mk (below_step HW.out hb7)
                clear hb7
                go_wp2_with fail
                go_returns
                exact ⟨rfl, HW.out⟩
def IsRow (k : IntKind) (w : World) (a : Option Addr) (len cap : Nat) (zs : List Int) : Prop :=
  (a = none ∧ len = 0 ∧ cap = 0 ∧ zs = []) ∨
  ∃ x, a = some x ∧ len ≤ cap ∧ cap ≤ maxLen ∧ zs.length = cap ∧ (∀ i, i < zs.length → w.cell? (x.add i) = some (.int k (zs.getD i 0))) ∧ ∀ n ∈ zs, (Lit.int k n).wf = true
theorem row_cells {w : World} {a : Option Addr} {len cap : Nat} {zs : List Int} (h : IsRow .i64 w a len cap zs) : ∃ l : List Int, l.length = len ∧ ∀ i, i < l.length → ∃ x, a = some x ∧ w.cell? (x.add i) = some (.int .i64 (l.getD i 0)) := by
  rcases h with ⟨rfl, rfl, rfl, rfl⟩ | ⟨x, rfl, hl, hm, hz, hc, _⟩
  · exact ⟨[], rfl, fun i hi => absurd hi (Nat.not_lt_zero _)⟩
  · refine ⟨zs.take len, by rw [List.length_take]; omega, fun i hi => ⟨x, rfl, ?_⟩⟩
    rw [List.length_take] at hi
    rw [hc i (by omega), List.getD_eq_getElem?_getD, List.getD_eq_getElem?_getD, List.getElem?_take_of_lt (by omega)]
theorem apart_walk (a0 : Option Addr) (len0 cap0 : Nat) (z0 : List Int) (a1 : Option Addr) (len1 cap1 : Nat) (z1 : List Int) (a2 : Int) (W : World) (hL : LaidW W) (w0 : IsRow .i64 W a0 len0 cap0 z0) (y0 : len0 * 8 ≤ 140737488351232) (w1 : IsRow .i64 W a1 len1 cap1 z1) (y1 : len1 * 8 ≤ 140737488351232) :
    Calls Tryd.prog 4 #[.slice a0 len0 cap0, .slice a1 len1 cap1, .int .i64 a2] W fun e w' => e = .returned (.bool true) ∧ Below W.heap.size W w' := by
  obtain ⟨la, rfl, ha⟩ := row_cells w0
  obtain ⟨lb, rfl, hb⟩ := row_cells w1
  exact apart_calls hL a0 cap0 la a1 cap1 lb a2 ha hb
end Go.Proofs.YthlkcfjodmhhmaaDoor.Dd
namespace Go.Proofs.YthlkcfjodmhhmaaDoor.Lay
open Go.RowKit Go.Lib
def LL : List (String × DataW Unit) := [("math/bits.deBruijn32tab", Rows.laid_math_bits_deBruijn32tab), ("math/bits.deBruijn64tab", Rows.laid_math_bits_deBruijn64tab), ("internal/strconv.uint64pow10", Rows.laid_internal_strconv_uint64pow10)]
def cellsOf : DataW Unit → List Value
  | .agg l => l.map fun | .lit (.int k z) => .int k z | _ => .nilIface
  | _ => []
noncomputable def laidWorld (os : Os) : World :=
  let w0 := World.holding Tryd.prog os ⟨#[], #[], []⟩
  let put (h : Array Obj) (g : Nat) (cs : Array Value) : Array Obj := h.modify g fun
    | .cells _ t frozen => .cells cs t frozen
    | o => o
  let h1 := put w0.heap 1 (cellsOf Rows.laid_math_bits_deBruijn32tab).toArray
  let h2 := put h1 2 (cellsOf Rows.laid_math_bits_deBruijn64tab).toArray
  let h3 := put h2 0 (cellsOf Rows.laid_internal_strconv_uint64pow10).toArray
  { w0 with heap := h3 }
theorem laid_met (os : Os) (args : Array Value) : laidMet Tryd.prog LL ((laidWorld os).forCall (fun _ _ => 0) ⟨#[], args, []⟩).memory :=
  (LaidIn.of_run (l := LL) [1, 2, 0] 8 (by kernel_rfl) (by kernel_rfl) (by kernel_rfl) (by kernel_rfl)).met
theorem eqP : (Rows.laid_internal_strconv_uint64pow10 : DataW Unit) = Lib.tabData .u64 Lib.pow10Tab := by kernel_rfl
set_option maxRecDepth 100000 in
theorem tabIs_of_reads {name : String} {k : IntKind} {zs : List Int} {W : World} {g : Nat} {t e : TypeId} {n : Nat} (hg : Tryd.prog.globalNamed name = some g) (hty : (Tryd.prog.globals[g]?).map (·.type) = some t) (ht : Tryd.prog.underlying t = some (.array n e)) (he : Tryd.prog.underlying e = some (.int k)) (hce : Tryd.prog.cellsOf e = 1) (hct : Tryd.prog.cellsOf t = n)
    (h : VarReads Tryd.prog W name (tabData k zs)) : Lib.TabIs Tryd.prog W name k zs := by
  obtain ⟨g', t', cs, fuel, p, h1, h2, h3, h4⟩ := h
  obtain rfl : g' = g := by rw [hg] at h1; exact (Option.some.inj h1).symm
  obtain rfl : t' = t := by rw [hty] at h2; exact (Option.some.inj h2).symm
  have := cells_of_tab ht he hce hct h4
  unfold Lib.TabIs
  rw [h3]
  congr 1
  apply Array.toList_inj.1
  rw [this]
theorem laidW_of {W : World} (hL : laidMetH Tryd.prog LL W) : Giv.LaidW W := by
  have h1 := Lib.laidMet.reads hL (.tail _ (.tail _ (.head _)))
  rw [eqP] at h1
  exact tabIs_of_reads (t := 114) (e := 108) (n := 20) Giv.pow10_named (by kernel_rfl) Tryd.underlying114 Tryd.underlying108 (by kernel_rfl) (by kernel_rfl) h1
theorem own : ownKnob Tryd.prog.godebug = none := by kernel_rfl
theorem laidOut : laidOutB Tryd.prog = true := by kernel_rfl
end Go.Proofs.YthlkcfjodmhhmaaDoor.Lay
