/- Texts put together by prune.py: DdC, DdD, DdF, DdG, DdJ, DdM, Opn, DdK, LayB. -/
import Derived.ChangeArms
import Derived.DataReads
import Derived.SizedLaws
import Derived.OpenShut
import Derived.Test.YthlkcfjodmhhmaaDoorRows
import Derived.Lib.LaidIn
import Derived.Lib.LaidU8T
import Derived.Deep.DeepHandedRow
import Derived.Deep.DeepWitnessRowRef
import Derived.ProofKit
import Derived.Test.YthlkcfjodmhhmaaDoorBa3
namespace Go.Proofs.YthlkcfjodmhhmaaDoor.Dd
open Go.RowKit Go.Lib Go.Proofs.YthlkcfjodmhhmaaDoor.Giv Go.Proofs.YthlkcfjodmhhmaaDoor.Pure Go.Proofs.YthlkcfjodmhhmaaDoorW.PrintWords Go.Proofs.YthlkcfjodmhhmaaDoorW.PrintLast Go.Proofs.YthlkcfjodmhhmaaDoorW.PrintMore
set_option linter.unusedVariables false
set_option linter.unusedSimpArgs false
def ofS (T : List Ent) (x : V) : List Ent × Int := putT T (P.rd_T66 x.f3 0).f1 (P.rd_T66 x.f3 1).f1 (P.rd_T66 x.f3 2).f1 ((P.rd_T66 x.f3 3).f1 == 1)
def ofL : List V → List Ent → Option (List Ent)
  | [], T => some T
  | x :: xs, T => if x.f3.length = 4 then (if (ofS T x).2 = 0 then ofL xs (ofS T x).1 else none) else none
theorem R_but {d : Kd V} {e : Nat} {w w' : World} {base g : Nat} {v : Value} {xs : List V} (h : d.R e w base (fun k => k ≠ g) v xs) (hb : But g w w') : d.R e w' base (fun k => k ≠ g) v xs := by
  refine Kd.R_mono (Kd.R_move (Kd.R_bound h) (fun k hk => ?_)) (fun k hk => hk.1)
  obtain ⟨h1, h2, h3, _⟩ := hk
  have : w.heap[k]? = some w.heap[k] := Array.getElem?_eq_getElem h3
  rw [this]
  exact hb.2 k _ h1 this
theorem cells4 {w : World} {g t : Nat} {a b c d : Value} (h : w.heap[g]? = some (.cells #[a, b, c, d] t (0, 0))) : w.cell? ⟨g, 0, none⟩ = some a ∧ w.cell? ⟨g, 1, none⟩ = some b ∧ w.cell? ⟨g, 2, none⟩ = some c ∧ w.cell? ⟨g, 3, none⟩ = some d :=
  ⟨blk_cell h 0, blk_cell h 1, blk_cell h 2, blk_cell h 3⟩
theorem R_at {w : World} {base : Nat} {ok : Nat → Prop} {v : Value} {xs : List V} (h : Kd.R P.k66 66 w base ok v xs) (i : Nat) (x : V) (hx : xs[i]? = some x) :
    ∃ g0 c0 v3, v = .slice (some ⟨g0, 0, none⟩) xs.length c0 ∧ ok g0 ∧ w.cell? ⟨g0, i * 4, none⟩ = some (.int .i64 x.f0) ∧ w.cell? ⟨g0, i * 4 + 1, none⟩ = some (.int .i64 x.f1) ∧ w.cell? ⟨g0, i * 4 + 2, none⟩ = some (.string x.f2) ∧ w.cell? ⟨g0, i * 4 + 3, none⟩ = some v3 ∧ Kd.R P.k66 66 w base ok v3 x.f3 := by
  obtain ⟨hok, inner, ⟨hl, hv⟩, hr⟩ := h
  have hi : i < xs.length := (List.getElem?_eq_some_iff.1 hx).1
  rcases hv with ⟨_, h0⟩ | ⟨g0, cap, cur, rfl, hg, hh, h1, h2, h3, h4⟩
  · omega
  · have hm := hr.2 i x hx
    obtain ⟨v3, he, hR⟩ := P.k66_openM hm
    have hsz : P.k66.sz = 4 := rfl
    rw [hsz] at he h4 hl h3
    have c : ∀ j u, [Value.int .i64 x.f0, .int .i64 x.f1, .string x.f2, v3][j]? = some u → w.cell? ⟨g0, i * 4 + j, none⟩ = some u := by
      intro j u hu
      rw [← he] at hu
      have hj : j < 4 := by
        have := (List.getElem?_eq_some_iff.1 hu).1
        rw [List.length_take] at this
        omega
      rw [List.getElem?_take_of_lt hj, List.getElem?_drop, ← h4, List.getElem?_take_of_lt (by omega)] at hu
      rw [blk_cell hh, ← hu, Array.getElem?_toList]
    exact ⟨g0, cap, v3, rfl, hok g0 rfl, c 0 _ rfl, c 1 _ rfl, c 2 _ rfl, c 3 _ rfl, Kd.R_mono hR (fun k hk => hk.1)⟩
theorem four_cells {w : World} {base : Nat} {ok : Nat → Prop} {v : Value} {l : List V} (h : Kd.R P.k66 66 w base ok v l) (h4 : l.length = 4) : ∃ b c, v = .slice (some ⟨b, 0, none⟩) 4 c ∧ ok b ∧ w.cell? ⟨b, 1, none⟩ = some (.int .i64 (P.rd_T66 l 0).f1) ∧ w.cell? ⟨b, 5, none⟩ = some (.int .i64 (P.rd_T66 l 1).f1) ∧ w.cell? ⟨b, 9, none⟩ = some (.int .i64 (P.rd_T66 l 2).f1) ∧ w.cell? ⟨b, 13, none⟩ = some (.int .i64 (P.rd_T66 l 3).f1) := by
  match l, h4 with
  | [a0, a1, a2, a3], _ =>
    obtain ⟨g0, c0, _, rfl, k0, _, u0, _⟩ := R_at h 0 a0 rfl
    obtain ⟨g1, c1, _, e1, _, _, u1, _⟩ := R_at h 1 a1 rfl
    obtain ⟨g2, c2, _, e2, _, _, u2, _⟩ := R_at h 2 a2 rfl
    obtain ⟨g3, c3, _, e3, _, _, u3, _⟩ := R_at h 3 a3 rfl
    cases e1; cases e2; cases e3
    exact ⟨g0, c0, rfl, k0, u0, u1, u2, u3⟩
theorem Tab.drew {w : World} {g : Nat} {T : List Ent} (h : Tab w g T) : Tab w.drew g T := ⟨h.1, h.2⟩
theorem But.cell {g : Nat} {w w' : World} (h : But g w w') {k i : Nat} {v : Value} (hk : k ≠ g) (hc : w.cell? ⟨k, i, none⟩ = some v) : w'.cell? ⟨k, i, none⟩ = some v := by
  cases ho : w.heap[k]? with
  | none => unfold World.cell? at hc; simp only [ho] at hc; cases hc
  | some o =>
    have := h.2 k o hk ho
    unfold World.cell? at hc ⊢
    simp only [ho] at hc
    simp only [this]
    exact hc
def OfPost (R : Option (List Ent)) (w : World) (e : Ending) (w' : World) : Prop :=
  ∃ (v : Value) (r : Int), e = .returned (.tuple #[v, .int .i64 r]) ∧ Below w.heap.size w w' ∧ ((∃ T g, R = some T ∧ v = .pointer (some ⟨g, 0, none⟩) ∧ r = 0 ∧ w.heap.size ≤ g ∧ Tab w' g T) ∨ (R = none ∧ v = .pointer none ∧ r = 20))
set_option maxHeartbeats 8000000 in
set_option maxRecDepth 100000 in
theorem of_fail {w : World} (hL : LaidW w) (s : ByteArray) (v : V) (er : Int) (hO : P.benc_Only.f s = some (v.f0, v.f1, v.f2, v.f3, er)) (he : er ≠ 0) :
    Calls Tryd.prog 18 #[.string s] w (OfPost none w) := by
  have d0 : (er != 0) = true := bne_iff_ne.2 he
  have d1 : (er == 0) = false := beq_eq_false_iff_ne.2 he
  have HC := Aside0.mk (fun (W : World) hb => P.benc_Only.calls s v.f0 v.f1 v.f2 v.f3 er W (LaidW.below hL hb) hO)
  clear hO he
  go_enter Tryd.func18, Tryd.ntmps18
  go_wp2_with fail
  refine (HC.out w (Below.refl _ _)).mono ?_
  rintro e w1 ⟨v3, rfl, hR, hb⟩
  obtain ⟨A3, c3, rfl⟩ := Kd.R_slice hR
  have HB1 := Aside0.mk hb
  clear hR hb
  obtain ⟨z0, z1, z2, z3⟩ := cells4 (blk_new w1 (.cells #[.int .i64 v.f0, .int .i64 v.f1, .string v.f2, .slice A3 v.f3.length c3] 66))
  go_wp2_with fail
  go_returns
  exact ⟨_, _, rfl, below_alloc HB1.out _, .inr ⟨rfl, rfl, rfl⟩⟩
set_option maxHeartbeats 8000000 in
set_option maxRecDepth 100000 in
theorem of_calls {w : World} (hL : LaidW w) (s : ByteArray) (v : V) (hO : P.benc_Only.f s = some (v.f0, v.f1, v.f2, v.f3, 0)) (R : Option (List Ent)) (hR : R = match ofL v.f3 T0 with | some T => if (textM T).toList = s.toList then some T else none | none => none) :
    Calls Tryd.prog 18 #[.string s] w (OfPost R w) := by
  have HC := Aside0.mk (fun (W : World) hb => P.benc_Only.calls s v.f0 v.f1 v.f2 v.f3 0 W (LaidW.below hL hb) hO)
  have HRR := Aside0.mk hR
  clear hO hR
  go_enter Tryd.func18, Tryd.ntmps18
  go_wp2_with fail
  refine (HC.out w (Below.refl _ _)).mono ?_
  rintro e w1 ⟨v3, rfl, hV, hb⟩
  obtain ⟨A3, c3, rfl⟩ := Kd.R_slice hV
  have HB1 := Aside0.mk hb
  have HV := Aside0.mk hV
  clear hV hb
  obtain ⟨z0, z1, z2, z3⟩ := cells4 (blk_new w1 (.cells #[.int .i64 v.f0, .int .i64 v.f1, .string v.f2, .slice A3 v.f3.length c3] 66))
  go_wp2_with fail
  refine (New_calls _).mono ?_
  rintro e w2 ⟨rfl, hb2, hT2⟩
  have HT2 := Aside0.mk hT2
  have HB2 := Aside0.mk ((below_alloc HB1.out (.cells #[.int .i64 v.f0, .int .i64 v.f1, .string v.f2, .slice A3 v.f3.length c3] 66)).trans (hb2.mono (below_alloc HB1.out (.cells #[.int .i64 v.f0, .int .i64 v.f1, .string v.f2, .slice A3 v.f3.length c3] 66)).size))
  have HGE := Aside0.mk (below_alloc HB1.out (.cells #[.int .i64 v.f0, .int .i64 v.f1, .string v.f2, .slice A3 v.f3.length c3] 66)).size
  have HV2 := Aside0.mk (Kd.R_mono (Kd.R_bound (Kd.R_below (Kd.R_alloc HV.out (.cells #[.int .i64 v.f0, .int .i64 v.f1, .string v.f2, .slice A3 v.f3.length c3] 66)) (Below.refl _ _))) (ok' := fun k => k < (w1.alloc (.cells #[.int .i64 v.f0, .int .i64 v.f1, .string v.f2, .slice A3 v.f3.length c3] 66)).heap.size) (fun k hk => hk.2.2.1))
  obtain ⟨z0, z1, z2, z3⟩ := cells4 (blk_below (blk_new w1 (.cells #[.int .i64 v.f0, .int .i64 v.f1, .string v.f2, .slice A3 v.f3.length c3] 66)) hb2)
  have HV3 := Aside0.mk (Kd.R_mono (Kd.R_below HV2.out hb2) (ok' := fun k => k ≠ (w1.alloc (.cells #[.int .i64 v.f0, .int .i64 v.f1, .string v.f2, .slice A3 v.f3.length c3] 66)).heap.size) (fun k hk => Nat.ne_of_lt hk))
  clear hb2 hT2 HV HV2 HB1
  generalize (w1.alloc (.cells #[.int .i64 v.f0, .int .i64 v.f1, .string v.f2, .slice A3 v.f3.length c3] 66)).heap.size = g at *
  go_wp2_with fail
  go_loopw [21] (fun v21 wr => ∃ (i : Nat) (T : List Ent), i ≤ v.f3.length ∧ v21 = .int .i64 (i : Int) ∧ Aside0 (Tab wr g T) ∧ Aside0 (okT T) ∧ Aside0 (ofL v.f3 T0 = ofL (v.f3.drop i) T) ∧ Aside0 (Kd.R P.k66 66 wr w.heap.size (fun k => k ≠ g) (.slice A3 v.f3.length c3) v.f3) ∧ Aside0 (Below w.heap.size w wr)) (fun v21 _ => v.f3.length - (RowKit.intOf v21).toNat)
  case atStart => exact ⟨0, T0, Nat.zero_le _, rfl, HT2, ⟨okT_T0⟩, ⟨rfl⟩, HV3, HB2⟩
  case round =>
    obtain ⟨i, T, hi, rfl, HT, HO, HL, HV, HB⟩ := hrel
    clear HT2 HV3 HB2 z0 z1 z2 z3
    by_cases hlt : i < v.f3.length
    · have c0 : decide ((i : Int) < (v.f3.length : Int)) = true := decide_eq_true (by omega)
      obtain ⟨g0, c0', v4, ev, k0, y0, y1, y2, y3, hR4⟩ := R_at HV.out i v.f3[i] (List.getElem?_eq_getElem hlt)
      cases ev
      have HLS := Aside0.mk (show v.f3.drop i = v.f3[i] :: v.f3.drop (i + 1) from List.drop_eq_getElem_cons hlt)
      generalize v.f3[i] = x at *
      obtain ⟨A4, c4, rfl⟩ := Kd.R_slice hR4
      have HC4 := Aside0.mk hR4
      clear hR4
      have BX := Aside0.mk (blk_new wr (.cells #[.int .i64 x.f0, .int .i64 x.f1, .string x.f2, .slice A4 x.f3.length c4] 66))
      have HT4 := Aside0.mk (HT.out.alloc (.cells #[.int .i64 x.f0, .int .i64 x.f1, .string x.f2, .slice A4 x.f3.length c4] 66))
      have HV4 := Aside0.mk (Kd.R_alloc HV.out (.cells #[.int .i64 x.f0, .int .i64 x.f1, .string x.f2, .slice A4 x.f3.length c4] 66))
      have HB4 := Aside0.mk (below_alloc HB.out (.cells #[.int .i64 x.f0, .int .i64 x.f1, .string x.f2, .slice A4 x.f3.length c4] 66))
      obtain ⟨z0, z1, z2, z3⟩ := cells4 BX.out
      by_cases e4 : x.f3.length = 4
      · have HC5 := Kd.R_alloc HC4.out (.cells #[.int .i64 x.f0, .int .i64 x.f1, .string x.f2, .slice A4 x.f3.length c4] 66)
        obtain ⟨b4, c4', ev4, hne4, n0, n1, n2, n3⟩ := four_cells HC5 e4
        rw [e4] at ev4
        cases ev4
        obtain ⟨PX, hPX⟩ : ∃ PX, PX = ofS T x := ⟨_, rfl⟩
        have HPX := Aside0.mk hPX
        have HSX := Aside0.mk hPX.symm
        clear hPX
        unfold ofS at HSX
        have hne0 : wr.heap.size ≠ g := by have := blk_lt HT.out.2; omega
        simp only [e4] at n0 n1 n2 n3 z0 z1 z2 z3 BX HT4 HV4 HB4 y3
        have E4 := Aside0.mk e4
        clear HC5 HC4 e4
        generalize (P.rd_T66 x.f3 0).f1 = m0 at *
        generalize (P.rd_T66 x.f3 1).f1 = m1 at *
        generalize (P.rd_T66 x.f3 2).f1 = m2 at *
        generalize (P.rd_T66 x.f3 3).f1 = m3 at *
        go_wp2_with fail
        go_region_held3 (fun w' => w'.cell? ⟨wr.heap.size, 3, none⟩ = some (.slice (some ⟨b4, 0, none⟩) 4 c4) ∧ w'.cell? ⟨b4, 1, none⟩ = some (.int .i64 m0) ∧ w'.cell? ⟨b4, 5, none⟩ = some (.int .i64 m1) ∧ w'.cell? ⟨b4, 9, none⟩ = some (.int .i64 m2) ∧ w'.cell? ⟨b4, 13, none⟩ = some (.int .i64 m3)) (first | exact ⟨z3, n0, n1, n2, n3⟩ | go_keep) ((go_at_call 10; refine (put_calls (Tab.drew HT4.out) m0 m1 m2 (m3 == 1) _ PX HSX.out).mono ?_; rintro e w5 ⟨rfl, hT5, hB5⟩; have HT5 := Aside0.mk hT5; have HV5 := Aside0.mk (R_but (Kd.R_drew HV4.out) hB5); have HB5 := Aside0.mk (hB5.1 _ _ (below_drew1 HB4.out) HGE.out); have z3 := hB5.cell hne0 z3; have n0 := hB5.cell hne4 n0; have n1 := hB5.cell hne4 n1; have n2 := hB5.cell hne4 n2; have n3 := hB5.cell hne4 n3; clear hT5 hB5))
        clear z0 z1 z2 z3 y0 y1 y2 y3 n0 n1 n2 n3 BX HT4 HV4 HB4
        have HQ := Aside0.mk (show okT PX.1 by rw [HPX.out]; exact okT_put HO.out _ _ _ _)
        have HN := Aside0.mk (show ofL v.f3 T0 = if PX.2 = 0 then ofL (v.f3.drop (i + 1)) PX.1 else none by rw [HL.out, HLS.out, ofL, if_pos E4.out, HPX.out])
        clear HPX HSX E4 HLS HL
        obtain ⟨pT, pr⟩ := PX
        dsimp only at *
        have HM := Aside0.mk (Kd.C_max (Kd.R_reads' HV.out).2.2)
        have HW := Aside0.mk (show wrap64 ((i : Int) + 1) = (i : Int) + 1 from w64 (by omega) (by have := HM.out; omega))
        by_cases hr : pr = 0
        · subst hr
          go_wp2_with fail
          go_roundw
          case rel => exact ⟨i + 1, pT, by omega, by rw [HW.out]; rfl, HT5, HQ, ⟨HN.out.trans (if_pos rfl)⟩, HV5, HB5⟩
          case measure => rw [HW.out]; simp [RowKit.intOf]; omega
        · have dr : (pr != 0) = true := bne_iff_ne.2 hr
          go_wp2_with fail
          go_returns
          refine ⟨_, _, rfl, HB5.out, .inr ⟨?_, rfl, rfl⟩⟩
          rw [HRR.out, HN.out, if_neg hr]
      · have d4 : ((x.f3.length : Int) != 4) = true := bne_iff_ne.2 (by omega)
        go_wp2_with fail
        go_returns
        refine ⟨_, _, rfl, HB4.out, .inr ⟨?_, rfl, rfl⟩⟩
        rw [HRR.out, HL.out, HLS.out, ofL, if_neg e4]
    · have c0 : decide ((i : Int) < (v.f3.length : Int)) = false := decide_eq_false (by omega)
      obtain rfl : i = v.f3.length := by omega
      rw [List.drop_length] at HL
      have HPT := Aside0.mk (tab_put HO.out)
      go_wp2_with fail
      refine (text_calls HT.out (LaidW.below hL HB.out) _ _ HPT.out).mono ?_
      rintro e w5 ⟨rfl, hb5⟩
      have HT5 := Aside0.mk (HT.out.kept hb5)
      have HB5 := Aside0.mk (below_step HB.out hb5)
      clear hb5
      by_cases hs : (textM T).toList = s.toList
      · have ds : (!(textM T).toList == s.toList) = false := by rw [hs]; exact bne_self_eq_false s.toList
        go_wp2_with fail
        go_returns
        refine ⟨_, _, rfl, HB5.out, .inl ⟨T, g, ?_, rfl, rfl, HGE.out, HT5.out⟩⟩
        rw [HRR.out, HL.out]
        exact if_pos hs
      · have ds : (!(textM T).toList == s.toList) = true := bne_iff_ne.2 hs
        go_wp2_with fail
        go_returns
        refine ⟨_, _, rfl, HB5.out, .inr ⟨?_, rfl, rfl⟩⟩
        rw [HRR.out, HL.out]
        exact if_neg hs
end Go.Proofs.YthlkcfjodmhhmaaDoor.Dd
namespace Go.Proofs.YthlkcfjodmhhmaaDoor.Dd
open Go.RowKit Go.Lib Go.Proofs.YthlkcfjodmhhmaaDoor.Giv Go.Proofs.YthlkcfjodmhhmaaDoorW.PrintWords Go.Proofs.YthlkcfjodmhhmaaDoorW.PrintLast Go.Proofs.YthlkcfjodmhhmaaDoorW.PrintMore
set_option linter.unusedVariables false
set_option linter.unusedSimpArgs false
def T1 : List Ent := [zE, ⟨5, 0, true⟩, zE, zE, zE, zE, zE, zE]
theorem put_T0 : putT T0 1 5 0 true = (T1, 0) := by kernel_rfl
theorem find_T1a : findM T1 1 5 = (0, true, 0) := by kernel_rfl
theorem find_T1b : findM T1 1 4 = (0, false, 90) := by kernel_rfl
theorem find_T1c : findM T1 1 6 = (0, false, 3) := by kernel_rfl
theorem last_T1 : lastM T1 1 = 5 := by kernel_rfl
set_option maxHeartbeats 8000000 in
set_option maxRecDepth 100000 in
theorem awake_calls {w : World} (hL : LaidW w) (t : ByteArray) (er : Int) (ht : benc_Put.f 3 0 ⟨#[]⟩ (rowsM 0 T1) = some (t, er)) (he : (t.toList == [108, 108, 105, 49, 101, 105, 53, 101, 105, 48, 101, 105, 49, 101, 101, 101]) = true) :
    Calls Tryd.prog 13 #[] w fun e w' => e = .returned (.bool true) ∧ Below w.heap.size w w' := by
  have HP := Aside0.mk ht
  have HE := Aside0.mk he
  clear ht he
  go_enter Tryd.func13, Tryd.ntmps13
  go_wp2_with fail
  refine (New_calls w).mono ?_
  rintro e w1 ⟨rfl, hb1, hT1⟩
  have HB := Aside0.mk hb1
  have HT := Aside0.mk hT1
  clear hb1 hT1
  go_wp2_with fail
  refine (put_calls HT.out 1 5 0 true _ _ put_T0).mono ?_
  rintro e w2 ⟨rfl, hT2, hB2⟩
  have HT := Aside0.mk hT2
  have HB := Aside0.mk (hB2.1 _ _ HB.out (Nat.le_refl _))
  clear hT2 hB2
  dsimp only
  go_wp2_with fail
  refine (find_calls HT.out 1 5 _ find_T1a).mono ?_
  rintro e w3 ⟨rfl, hb3⟩
  have HT := Aside0.mk ((HT.out.kept hb3).alloc (.cells #[.int .i64 0, .bool true, .slice none 0 0] 31))
  have HB := Aside0.mk (below_alloc (below_step HB.out hb3) (.cells #[.int .i64 0, .bool true, .slice none 0 0] 31))
  have BA := Aside0.mk (blk_new w3 (.cells #[.int .i64 0, .bool true, .slice none 0 0] 31))
  clear hb3
  go_wp2_with fail
  refine (find_calls HT.out 1 4 _ find_T1b).mono ?_
  rintro e w4 ⟨rfl, hb4⟩
  have HT := Aside0.mk ((HT.out.kept hb4).alloc (.cells #[.int .i64 0, .bool false, .slice none 0 0] 31))
  have HB := Aside0.mk (below_alloc (below_step HB.out hb4) (.cells #[.int .i64 0, .bool false, .slice none 0 0] 31))
  have BA := Aside0.mk (blk_alloc (blk_below BA.out hb4) (.cells #[.int .i64 0, .bool false, .slice none 0 0] 31))
  clear hb4
  go_wp2_with fail
  refine (find_calls HT.out 1 6 _ find_T1c).mono ?_
  rintro e w5 ⟨rfl, hb5⟩
  have HT := Aside0.mk ((HT.out.kept hb5).alloc (.cells #[.int .i64 0, .bool false, .slice none 0 0] 31))
  have HB := Aside0.mk (below_alloc (below_step HB.out hb5) (.cells #[.int .i64 0, .bool false, .slice none 0 0] 31))
  have BA := Aside0.mk (blk_alloc (blk_below BA.out hb5) (.cells #[.int .i64 0, .bool false, .slice none 0 0] 31))
  clear hb5
  obtain ⟨z0, z1, z2⟩ := cells3 BA.out
  go_wp2_with fail
  refine (last_calls HT.out 1 _ last_T1).mono ?_
  rintro e w6 ⟨rfl, hb6⟩
  have HT := Aside0.mk (HT.out.kept hb6)
  have HB := Aside0.mk (below_step HB.out hb6)
  clear hb6
  go_wp2_with fail
  refine (text_calls HT.out (LaidW.below hL HB.out) t er HP.out).mono ?_
  rintro e w7 ⟨rfl, hb7⟩
  have HB := Aside0.mk (below_step HB.out hb7)
  clear hb7
  have D := HE.out
  go_wp2_with fail
  go_returns
  exact ⟨rfl, HB.out⟩
end Go.Proofs.YthlkcfjodmhhmaaDoor.Dd
namespace Go.Proofs.YthlkcfjodmhhmaaDoor.Dd
open Go.RowKit Go.Lib Go.Proofs.YthlkcfjodmhhmaaDoor.Giv Go.Proofs.YthlkcfjodmhhmaaDoor.Pure Go.Proofs.YthlkcfjodmhhmaaDoorW.PrintWords Go.Proofs.YthlkcfjodmhhmaaDoorW.PrintLast Go.Proofs.YthlkcfjodmhhmaaDoorW.PrintMore
set_option linter.unusedVariables false
set_option linter.unusedSimpArgs false
theorem ofS_row {T : List Ent} (hT : T.length = 8) (k : Nat) (hk : k < 8) (x : Ent) (hx : okE x) (hs : x.s ≠ 0) (hz : T.getD k zE = zE) : ofS T (rowV (k : Int) x) = (T.set k x, 0) := by
  obtain ⟨h0, h1, h2, h3, _⟩ := hx
  unfold ofS rowV
  show putT T (k : Int) x.s x.e ((if x.w = true then (1 : Int) else 0) == 1) = _
  have hw : ((if x.w = true then (1 : Int) else 0) == 1) = x.w := by cases x.w <;> rfl
  rw [hw]
  unfold putT
  rw [if_pos ⟨mayM_iff.2 ⟨by omega, by omega, by omega, by omega⟩, h2, h3⟩, Int.toNat_natCast, hz, if_neg (by show ¬ x.s ≤ 0; omega)]
theorem ofL_rows : ∀ (T A : List Ent) (k : Nat), A.length = k → k + T.length = 8 → (∀ x ∈ T, okE x) → ofL (rowsM k T) (A ++ List.replicate T.length zE) = some (A ++ T)
  | [], A, k, hA, hk, h => by simp [rowsM, ofL]
  | x :: T, A, k, hA, hk, h => by
    rw [List.length_cons] at hk
    have ih := ofL_rows T (A ++ [x]) (k + 1) (by simp [hA]) (by omega) (fun y hy => h y (.tail _ hy))
    have hx := h x (.head _)
    rw [rowsM]
    split
    · rename_i hz
      rw [hx.2.2.2.2 hz] at ih ⊢
      simpa [List.replicate_succ] using ih
    · rename_i hz
      have hl : (A ++ List.replicate (x :: T).length zE).length = 8 := by simp [hA]; omega
      have hg : (A ++ List.replicate (x :: T).length zE).getD k zE = zE := by
        rw [List.getD_eq_getElem?_getD, List.getElem?_append_right (by omega)]
        simp [hA]
      have hst : (A ++ List.replicate (x :: T).length zE).set k x = A ++ [x] ++ List.replicate T.length zE := by
        rw [List.set_append_right _ _ (by omega)]
        simp [hA, List.replicate_succ]
      rw [ofL, if_pos (show (rowV (k : Int) x).f3.length = 4 from rfl), ofS_row hl k (by omega) x hx hz hg, if_pos rfl, hst, ih]
      simp
theorem ofL_text {T : List Ent} (h : okT T) : ofL (rowsM 0 T) T0 = some T := by
  have := ofL_rows T [] 0 rfl (by rw [h.1]) h.2
  rw [h.1] at this
  exact this
def ofM (s : ByteArray) : Option (List Ent) := if (onlyM s).2 = 0 then (match ofL (onlyM s).1.f3 T0 with | some T => if (textM T).toList = s.toList then some T else none | none => none) else none
theorem of_any {w : World} (hL : LaidW w) (s : ByteArray) (hs : s.size ≤ 1099511627776) : Calls Tryd.prog 18 #[.string s] w (OfPost (ofM s) w) := by
  have h := only_yes hs
  by_cases c : (onlyM s).2 = 0
  · refine of_calls hL s (onlyM s).1 ?_ _ ?_
    · rw [h, ← c]; rfl
    · unfold ofM; rw [if_pos c] <;> rfl
  · have e : ofM s = none := if_neg c
    rw [e]
    exact of_fail hL s (onlyM s).1 (onlyM s).2 h c
theorem of_back {T : List Ent} (h : okT T) : ofM (textM T) = some T := by
  unfold ofM
  rw [only_back h]
  show (match ofL (rowsM 0 T) T0 with | some T' => _ | none => _) = _
  rw [ofL_text h]
  simp
theorem okT_T1 : okT T1 := by have := okT_put okT_T0 1 5 0 true; rw [put_T0] at this; exact this
theorem text_T1 : ((textM T1).toList == [108, 108, 105, 49, 101, 105, 53, 101, 105, 48, 101, 105, 49, 101, 101, 101]) = true := by
  have i0 : itoa 0 = [48] := by rw [itoa_pos (by decide)]; show decDigits 0 = _; rw [dd_small (by decide)]; rfl
  have i1 : itoa 1 = [49] := by rw [itoa_pos (by decide)]; show decDigits 1 = _; rw [dd_small (by decide)]; rfl
  have i5 : itoa 5 = [53] := by rw [itoa_pos (by decide)]; show decDigits 5 = _; rw [dd_small (by decide)]; rfl
  rw [textM_list]
  show (enc (lisV [lisV [intV 1, intV 5, intV 0, intV 1]]) == _) = true
  simp only [enc_lis, encs_cons, encs_nil, enc_int, i0, i1, i5]
  rfl
theorem awake_ok {w : World} (hL : LaidW w) : Calls Tryd.prog 13 #[] w fun e w' => e = .returned (.bool true) ∧ Below w.heap.size w w' :=
  awake_calls hL (textM T1) 0 (tab_put okT_T1) text_T1
end Go.Proofs.YthlkcfjodmhhmaaDoor.Dd
namespace Go.Proofs.YthlkcfjodmhhmaaDoor.Dd
open Go.RowKit Go.Lib Go.Proofs.YthlkcfjodmhhmaaDoor.Giv Go.Proofs.YthlkcfjodmhhmaaDoor.Pure Go.Proofs.YthlkcfjodmhhmaaDoorW.PrintWords Go.Proofs.YthlkcfjodmhhmaaDoorW.PrintLast Go.Proofs.YthlkcfjodmhhmaaDoorW.PrintMore
set_option linter.unusedVariables false
set_option linter.unusedSimpArgs false
def lo (x : Int) : Int := Go.bits .and .i64 x 65535
theorem Tab.other {w w' : World} {g h : Nat} {T : List Ent} (ht : Tab w h T) (hb : But g w w') (hne : h ≠ g) : Tab w' h T := ⟨ht.1, hb.2 h _ hne ht.2⟩
theorem cell_kept {w w' : World} {p : Addr} {v : Value} (hb : Below w.heap.size w w') (hc : w.cell? p = some v) : w'.cell? p = some v := by
  refine (Below.cell hb ?_).trans hc
  unfold World.cell? at hc
  cases h : w.heap[p.block]? with
  | none => rw [h] at hc; cases hc
  | some o => exact (Array.getElem?_eq_some_iff.1 h).1
def IsRow (k : IntKind) (w : World) (a : Option Addr) (len cap : Nat) (zs : List Int) : Prop :=
  (a = none ∧ len = 0 ∧ cap = 0 ∧ zs = []) ∨
  ∃ x, a = some x ∧ len ≤ cap ∧ cap ≤ maxLen ∧ zs.length = cap ∧ (∀ i, i < zs.length → w.cell? (x.add i) = some (.int k (zs.getD i 0))) ∧ ∀ n ∈ zs, (Lit.int k n).wf = true
end Go.Proofs.YthlkcfjodmhhmaaDoor.Dd
namespace Go.Proofs.YthlkcfjodmhhmaaDoor.Dd
open Go.RowKit Go.Lib Go.Proofs.YthlkcfjodmhhmaaDoor.Giv Go.Proofs.YthlkcfjodmhhmaaDoor.Pure Go.Proofs.YthlkcfjodmhhmaaDoorW.PrintWords Go.Proofs.YthlkcfjodmhhmaaDoorW.PrintLast Go.Proofs.YthlkcfjodmhhmaaDoorW.PrintMore
set_option linter.unusedVariables false
set_option linter.unusedSimpArgs false
def LB (w : World) (h : Nat) (S : List Int) : Prop := S.length = 8 ∧ w.heap[h]? = some (.cells (S.map (Value.int .i64)).toArray 3 (0, 0))
theorem LB.cell {w : World} {h : Nat} {S : List Int} (hl : LB w h S) (k : Nat) (hk : k < 8) : w.cell? ⟨h, k, none⟩ = some (.int .i64 (S.getD k 0)) := by
  rw [blk_cell hl.2]
  simp only [List.getElem?_toArray, List.getElem?_map]
  rw [List.getD_eq_getElem?_getD, List.getElem?_eq_getElem (by rw [hl.1]; exact hk)]
  rfl
theorem LB.drew {w : World} {h : Nat} {S : List Int} (hl : LB w h S) : LB w.drew h S := hl
theorem LB.kept {w w' : World} {h : Nat} {S : List Int} (hl : LB w h S) (hb : Below w.heap.size w w') : LB w' h S := ⟨hl.1, blk_below hl.2 hb⟩
theorem LB.set {w : World} {h : Nat} {S : List Int} (hl : LB w h S) (k : Nat) (z : Int) : LB (w.setCell ⟨h, k, none⟩ (.int .i64 z)) h (S.set k z) := by
  refine ⟨by rw [List.length_set]; exact hl.1, blk_put hl.2 k _ ?_⟩
  rw [List.setIfInBounds_toArray, List.map_set]
theorem LB.frozen {w : World} {h : Nat} {S : List Int} (hl : LB w h S) (i : Nat) : w.frozen? ⟨h, i, none⟩ = false := blk_frozen hl.2 i
theorem and255 (x : Int) : 0 ≤ Go.bits .and .i64 x 255 ∧ Go.bits .and .i64 x 255 ≤ 255 := by
  have h := and_mask_i64 x 8 (by decide)
  have e : (((2 ^ 8 - 1 : Nat)) : Int) = 255 := by decide +kernel
  rw [e] at h
  rw [h]
  have a := Int.emod_nonneg x (show ((2 ^ 8 : Nat) : Int) ≠ 0 by decide)
  have b := Int.emod_lt_of_pos x (show (0 : Int) < ((2 ^ 8 : Nat) : Int) by decide)
  have : ((2 ^ 8 : Nat) : Int) = 256 := by decide
  omega
theorem add_succ (x : Addr) (k : Nat) : x.add (k + 1) = ⟨(x.add k).block, (x.add k).off + 1, none⟩ := by
  unfold Addr.add
  by_cases h : k = 0
  · subst h; simp
  · simp [h]; omega
theorem wrap_i64 {n : Int} (h0 : -9223372036854775808 ≤ n) (h1 : n ≤ 9223372036854775807) : IntKind.i64.wrap n = n := by rw [IntKind.wrap_i64]; omega
def IsRow2 (w : World) (a : Option Addr) (len : Nat) (l : List (Int × Int)) : Prop :=
  l.length = len ∧ ∀ i, i < l.length → ∃ x, a = some x ∧ w.cell? (x.add (i * 2)) = some (.int .i64 (l.getD i (0, 0)).1) ∧ w.cell? (x.add (i * 2 + 1)) = some (.int .i64 (l.getD i (0, 0)).2)
end Go.Proofs.YthlkcfjodmhhmaaDoor.Dd
namespace Go.Proofs.YthlkcfjodmhhmaaDoor.Dd
open Go.RowKit Go.Lib Go.Proofs.YthlkcfjodmhhmaaDoor.Giv Go.Proofs.YthlkcfjodmhhmaaDoor.Pure Go.Proofs.YthlkcfjodmhhmaaDoorW.PrintWords Go.Proofs.YthlkcfjodmhhmaaDoorW.PrintLast Go.Proofs.YthlkcfjodmhhmaaDoorW.PrintMore
set_option linter.unusedVariables false
set_option linter.unusedSimpArgs false
theorem okT_of {T : List Ent} {c s e : Int} {b : Bool} {w : World} {g : Nat} (h : okT T) (ht : Tab w g (putT T c s e b).1) : okT (putT T c s e b).1 := okT_put h c s e b
set_option maxHeartbeats 8000000 in
set_option maxRecDepth 100000 in
theorem back_calls {w : World} (hL : LaidW w) (A : Option Addr) (ca : Nat) (la : List (Int × Int)) (B : Option Addr) (cb : Nat) (lb : List (Int × Int))
    (hA : ∀ i, i < la.length → ∃ x, A = some x ∧ w.cell? (x.add (i * 2)) = some (.int .i64 (la.getD i (0, 0)).1) ∧ w.cell? (x.add (i * 2 + 1)) = some (.int .i64 (la.getD i (0, 0)).2))
    (hB : ∀ i, i < lb.length → ∃ x, B = some x ∧ w.cell? (x.add (i * 2)) = some (.int .i64 (lb.getD i (0, 0)).1) ∧ w.cell? (x.add (i * 2 + 1)) = some (.int .i64 (lb.getD i (0, 0)).2)) :
    Calls Tryd.prog 8 #[.slice A la.length ca, .slice B lb.length cb] w fun e w' => e = .returned (.bool true) ∧ Below w.heap.size w w' := by
  have HA := Aside0.mk hA
  have HB := Aside0.mk hB
  clear hA hB
  by_cases c1 : 60 < la.length
  · have d1 : decide (60 < (la.length : Int)) = true := decide_eq_true (by omega)
    clear c1
    go_enter Tryd.func8, Tryd.ntmps8
    go_wp2_with fail
    refine (New_calls w).mono ?_
    rintro e w1 ⟨rfl, hb1, hT1⟩
    have HW := Aside0.mk hb1
    clear hb1 hT1
    go_wp2_with fail
    refine (awake_ok (LaidW.below hL HW.out)).mono ?_
    rintro e w3 ⟨rfl, hb3⟩
    have HW := Aside0.mk (below_step HW.out hb3)
    clear hb3
    go_wp2_with fail
    go_returns
    exact ⟨rfl, HW.out⟩
  have d1 : decide (60 < (la.length : Int)) = false := decide_eq_false (by omega)
  by_cases c2 : 60 < lb.length
  · have d2 : decide (60 < (lb.length : Int)) = true := decide_eq_true (by omega)
    clear c1 c2
    go_enter Tryd.func8, Tryd.ntmps8
    go_wp2_with fail
    refine (New_calls w).mono ?_
    rintro e w1 ⟨rfl, hb1, hT1⟩
    have HW := Aside0.mk hb1
    clear hb1 hT1
    go_wp2_with fail
    refine (awake_ok (LaidW.below hL HW.out)).mono ?_
    rintro e w3 ⟨rfl, hb3⟩
    have HW := Aside0.mk (below_step HW.out hb3)
    clear hb3
    go_wp2_with fail
    go_returns
    exact ⟨rfl, HW.out⟩
  have d2 : decide (60 < (lb.length : Int)) = false := decide_eq_false (by omega)
  have C1 := Aside0.mk c1
  have C2 := Aside0.mk c2
  clear c1 c2
  go_enter Tryd.func8, Tryd.ntmps8
  go_wp2_with fail
  refine (New_calls w).mono ?_
  rintro e w1 ⟨rfl, hb1, hT1⟩
  have HW1 := Aside0.mk hb1
  have HT1 := Aside0.mk hT1
  clear hb1 hT1
  go_wp2_with fail
  clear d1 d2
  go_loopw [6] (fun v6 wr => ∃ (i : Nat) (T : List Ent), i ≤ la.length ∧ v6 = .int .i64 (i : Int) ∧ Aside0 (okT T) ∧ Aside0 (Tab wr w.heap.size T) ∧ Aside0 (Below w.heap.size w wr)) (fun v6 _ => la.length - (RowKit.intOf v6).toNat)
  case atStart => exact ⟨0, T0, Nat.zero_le _, rfl, ⟨okT_T0⟩, HT1, HW1⟩
  case round =>
    obtain ⟨i, T, hi, rfl, HO, HT, HW⟩ := hrel
    clear HT1 HW1
    by_cases hlt : i < la.length
    · have c0 : decide ((i : Int) < (la.length : Int)) = true := decide_eq_true (by omega)
      obtain ⟨x, rfl, hx, hy⟩ := HA.out i hlt
      rw [add_succ] at hy
      have hx0 := hx
      have hy0 := hy
      have hx := cell_kept HW.out hx0
      have hy := cell_kept HW.out hy0
      generalize (la.getD i (0, 0)).1 = z1 at *
      generalize (la.getD i (0, 0)).2 = z2 at *
      have i0 : (0 : Int) ≤ (i : Int) := by omega
      have i2 : (i : Int) < (la.length : Int) := by omega
      have en : IntKind.i64.wrap (1 + Go.bits .and .i64 z2 255) = 1 + Go.bits .and .i64 z2 255 := wrap_i64 (by have := and255 z2; omega) (by have := and255 z2; omega)
      go_wp2_with fail
      go_region_held3 (fun w' => w'.cell? (x.add (i * 2)) = some (.int .i64 z1) ∧ w'.cell? ⟨(x.add (i * 2)).block, (x.add (i * 2)).off + 1, none⟩ = some (.int .i64 z2)) (first | exact ⟨hx, hy⟩ | go_keep) ((go_at_call 10; refine (put_calls (by first | with_reducible exact HT.out | with_reducible exact Tab.drew HT.out) _ _ _ _ _ _ rfl).mono ?_; rintro e w3 ⟨rfl, hT3, hB3⟩; have HW := Aside0.mk (hB3.1 _ _ (by first | with_reducible exact HW.out | with_reducible exact below_drew1 HW.out) (Nat.le_refl _)); have HO := Aside0.mk (okT_of HO.out hT3); have HT := Aside0.mk hT3; have hx := cell_kept HW.out hx0; have hy := cell_kept HW.out hy0; clear hT3 hB3))
      have H64 : wrap64 ((i : Int) + 1) = (i : Int) + 1 := w64 (by omega) (by have := C1.out; omega)
      go_wp2_with fail
      refine ⟨⟨i + 1, _, by omega, congrArg (Value.int .i64) H64, HO, HT, HW⟩, ?_⟩
      rw [H64]; simp [RowKit.intOf]; omega
    · have c0 : decide ((i : Int) < (la.length : Int)) = false := decide_eq_false (by omega)
      have HTX := Aside0.mk (tab_put HO.out)
      have HOF := Aside0.mk (of_back HO.out)
      have HSZ := Aside0.mk (textM_size HO.out)
      go_wp2_with fail
      refine (text_calls HT.out (LaidW.below hL HW.out) _ _ HTX.out).mono ?_
      rintro e w3 ⟨rfl, hb3⟩
      have HT := Aside0.mk (HT.out.kept hb3)
      have HW := Aside0.mk (below_step HW.out hb3)
      clear hb3
      go_wp2_with fail
      have hof := of_any (LaidW.below hL HW.out) (textM T) (by have := HSZ.out; omega)
      rw [HOF.out] at hof
      refine hof.mono ?_
      clear hof
      rintro e w4 ⟨v, r, rfl, hb4, ⟨T', h, hT', rfl, rfl, hge, hTh⟩ | ⟨hn, _, _⟩⟩
      · obtain rfl := Option.some.inj hT'
        have HG := Aside0.mk (show w.heap.size < h from Nat.lt_of_lt_of_le (blk_lt HT.out.2) hge)
        have HT := Aside0.mk (HT.out.kept hb4)
        have HW := Aside0.mk (below_step HW.out hb4)
        have HU := Aside0.mk hTh
        clear hb4 hTh hge hT' HTX HOF HSZ
        go_wp2_with fail
        have HO' := HO
        clear HO
        go_loopw [9] (fun v9 wr => ∃ (i : Nat) (T : List Ent), i ≤ lb.length ∧ v9 = .int .i64 (i : Int) ∧ Aside0 (okT T) ∧ Aside0 (Tab wr w.heap.size T) ∧ Aside0 (Tab wr h T) ∧ Aside0 (Below w.heap.size w wr)) (fun v9 _ => lb.length - (RowKit.intOf v9).toNat)
        case atStart => exact ⟨0, T, Nat.zero_le _, rfl, HO', HT, HU, HW⟩
        case round =>
          clear HO' HT HU HW
          obtain ⟨i, T, hi, rfl, HO, HT, HU, HW⟩ := hrel
          by_cases hlt : i < lb.length
          · have c0 : decide ((i : Int) < (lb.length : Int)) = true := decide_eq_true (by omega)
            obtain ⟨x, rfl, hx, hy⟩ := HB.out i hlt
            rw [add_succ] at hy
            have hx := cell_kept HW.out hx
            have hy := cell_kept HW.out hy
            generalize (lb.getD i (0, 0)).1 = y1 at *
            generalize (lb.getD i (0, 0)).2 = y2 at *
            have i0 : (0 : Int) ≤ (i : Int) := by omega
            have i2 : (i : Int) < (lb.length : Int) := by omega
            have en : IntKind.i64.wrap (1 + Go.bits .and .i64 y2 255) = 1 + Go.bits .and .i64 y2 255 := wrap_i64 (by have := and255 y2; omega) (by have := and255 y2; omega)
            go_wp2_with fail
            go_region_held3 (fun w' => w'.cell? (x.add (i * 2)) = some (.int .i64 y1) ∧ w'.cell? ⟨(x.add (i * 2)).block, (x.add (i * 2)).off + 1, none⟩ = some (.int .i64 y2)) (first | exact ⟨hx, hy⟩ | go_keep) (fail)
            clear hx hy
            generalize Go.bits .and .i64 y1 7 = c at *
            generalize 1 + Go.bits .and .i64 y2 255 = n at *
            clear en
            obtain ⟨F, hF⟩ : ∃ F, findM T c n = F := ⟨_, rfl⟩
            obtain ⟨P, hP⟩ : ∃ P, putT T c n 0 false = P := ⟨_, rfl⟩
            have HF := Aside0.mk hF
            have HP := Aside0.mk hP
            have HO2 := Aside0.mk (show okT P.1 by rw [← hP]; exact okT_put HO.out _ _ _ _)
            clear hF hP
            obtain ⟨fe, fw, fr⟩ := F
            obtain ⟨PT, pr⟩ := P
            dsimp only at *
            have HT := Aside0.mk (Tab.drew HT.out)
            have HU := Aside0.mk (Tab.drew HU.out)
            have HW := Aside0.mk (below_drew1 HW.out)
            go_wp2_with fail
            refine (find_calls HT.out c n _ HF.out).mono ?_
            rintro e w5 ⟨rfl, hb5⟩
            have HT := Aside0.mk ((HT.out.kept hb5).alloc (.cells #[.int .i64 fe, .bool fw, .slice none 0 0] 31))
            have HU := Aside0.mk ((HU.out.kept hb5).alloc (.cells #[.int .i64 fe, .bool fw, .slice none 0 0] 31))
            have HW := Aside0.mk (below_alloc (below_step HW.out hb5) (.cells #[.int .i64 fe, .bool fw, .slice none 0 0] 31))
            have BA := Aside0.mk (blk_new w5 (.cells #[.int .i64 fe, .bool fw, .slice none 0 0] 31))
            clear hb5
            dsimp only
            go_wp2_with fail
            refine (find_calls HU.out c n _ HF.out).mono ?_
            rintro e w6 ⟨rfl, hb6⟩
            have HT := Aside0.mk ((HT.out.kept hb6).alloc (.cells #[.int .i64 fe, .bool fw, .slice none 0 0] 31))
            have HU := Aside0.mk ((HU.out.kept hb6).alloc (.cells #[.int .i64 fe, .bool fw, .slice none 0 0] 31))
            have HW := Aside0.mk (below_alloc (below_step HW.out hb6) (.cells #[.int .i64 fe, .bool fw, .slice none 0 0] 31))
            have BA := Aside0.mk (blk_alloc (blk_below BA.out hb6) (.cells #[.int .i64 fe, .bool fw, .slice none 0 0] 31))
            have BC := Aside0.mk (blk_new w6 (.cells #[.int .i64 fe, .bool fw, .slice none 0 0] 31))
            clear hb6
            obtain ⟨y0, y1, y2⟩ := cells3 BA.out
            obtain ⟨z0, z1, z2⟩ := cells3 BC.out
            dsimp only
            go_wp2_with fail
            refine (put_calls HT.out c n 0 false _ _ HP.out).mono ?_
            rintro e w7 ⟨rfl, hT7, hB7⟩
            have HT := Aside0.mk hT7
            have HU := Aside0.mk (HU.out.other hB7 (by have := HG.out; omega))
            have HW := Aside0.mk (hB7.1 _ _ HW.out (Nat.le_refl _))
            clear hT7 hB7 y0 y1 y2 z0 z1 z2
            dsimp only
            go_wp2_with fail
            refine (put_calls HU.out c n 0 false _ _ HP.out).mono ?_
            rintro e w8 ⟨rfl, hU8, hB8⟩
            have HU := Aside0.mk hU8
            have HT := Aside0.mk (HT.out.other hB8 (by have := HG.out; omega))
            have HW := Aside0.mk (hB8.1 _ _ HW.out (by have := HG.out; omega))
            clear hU8 hB8
            dsimp only
            have H64 : wrap64 ((i : Int) + 1) = (i : Int) + 1 := w64 (by omega) (by have := C2.out; omega)
            go_wp2_with fail
            refine ⟨⟨i + 1, PT, by omega, congrArg (Value.int .i64) H64, HO2, HT, HU, HW⟩, ?_⟩
            rw [H64]; simp [RowKit.intOf]; omega
          · have c0 : decide ((i : Int) < (lb.length : Int)) = false := decide_eq_false (by omega)
            have HPT := Aside0.mk (tab_put HO.out)
            go_wp2_with fail
            refine (text_calls HT.out (LaidW.below hL HW.out) _ _ HPT.out).mono ?_
            rintro e w5 ⟨rfl, hb5⟩
            have HU := Aside0.mk (HU.out.kept hb5)
            have HW := Aside0.mk (below_step HW.out hb5)
            clear hb5
            go_wp2_with fail
            refine (text_calls HU.out (LaidW.below hL HW.out) _ _ HPT.out).mono ?_
            rintro e w6 ⟨rfl, hb6⟩
            have HW := Aside0.mk (below_step HW.out hb6)
            clear hb6
            have dd : ((textM T).toList == (textM T).toList) = true := beq_self_eq_true _
            go_wp2_with fail
            refine (awake_ok (LaidW.below hL HW.out)).mono ?_
            rintro e w7 ⟨rfl, hb7⟩
            have HW := Aside0.mk (below_step HW.out hb7)
            clear hb7
            go_wp2_with fail
            go_returns
            exact ⟨rfl, HW.out⟩
      · cases hn
theorem back_walk (a0 : Option Addr) (len0 cap0 : Nat) (l0 : List (Int × Int)) (a1 : Option Addr) (len1 cap1 : Nat) (l1 : List (Int × Int)) (W : World) (hL : LaidW W) (w0 : IsRow2 W a0 len0 l0) (w1 : IsRow2 W a1 len1 l1) :
    Calls Tryd.prog 8 #[.slice a0 len0 cap0, .slice a1 len1 cap1] W fun e w' => e = .returned (.bool true) ∧ Below W.heap.size W w' := by
  obtain ⟨rfl, h0⟩ := w0
  obtain ⟨rfl, h1⟩ := w1
  exact back_calls hL a0 cap0 l0 a1 cap1 l1 h0 h1
end Go.Proofs.YthlkcfjodmhhmaaDoor.Dd
namespace Go.Proofs.YthlkcfjodmhhmaaDoor.Opn
open Go.RowKit Go.Proofs.YthlkcfjodmhhmaaDoorW.PrintWords
set_option linter.unusedVariables false
def OpensAt {α : Type} (P : Program) (n : Nat) (t : TypeId) (d : Kd α) (G : α → Prop) : Prop :=
  ∀ {H : Type} {enc : TypeId × Value → H} {w : World} {base : Nat} {spare : Nat → Bool} {held : Bool} {cs : List Value} {dd : DataW H} {ps : List MemPlace},
    DataW.trod enc P w base spare held n t cs = some (dd, ps) → (∀ x ∈ dd.weights P t, x ≤ reachBytes) → ∃ a, d.K w a cs ∧ G a
section
variable {α β : Type} {P : Program} {n : Nat} {t e : TypeId} {d : Kd α} {G : α → Prop}
theorem OpensAt.map {d' : Kd β} {G' : β → Prop} (g : α → β) (h : OpensAt P n t d G) (hg : ∀ w a cs, d.K w a cs → G a → d'.K w (g a) cs ∧ G' (g a)) : OpensAt P n t d' G' := by
  intro H enc w base spare held cs dd ps ht hw
  obtain ⟨a, h1, h2⟩ := h ht hw
  exact ⟨g a, (hg _ _ _ h1 h2).1, (hg _ _ _ h1 h2).2⟩
theorem mem_weightsAll {H : Type} {P : Program} {e : TypeId} : ∀ {l : List (DataW H)} {x : DataW H}, x ∈ l → ∀ y ∈ x.weights P e, y ∈ DataW.weightsAll P e l
  | [], _, h, _, _ => absurd h (List.not_mem_nil)
  | a :: l, x, h, y, hy => by
    rw [DataW.weightsAll]
    rcases List.mem_cons.1 h with rfl | h
    · exact List.mem_append_left _ hy
    · exact List.mem_append_right _ (mem_weightsAll h y hy)
theorem choose_list {γ : Type} (L : Nat) (Q : Nat → γ → Prop) (h : ∀ i, i < L → ∃ a, Q i a) : ∃ l : List γ, l.length = L ∧ ∀ i a, l[i]? = some a → Q i a := by
  induction L with
  | zero => exact ⟨[], rfl, fun i a hi => by simp at hi⟩
  | succ L ih =>
    obtain ⟨l, h1, h2⟩ := ih (fun i hi => h i (by omega))
    obtain ⟨a, ha⟩ := h L (by omega)
    refine ⟨l ++ [a], by simp [h1], fun i b hi => ?_⟩
    by_cases hl : i < l.length
    · rw [List.getElem?_append_left hl] at hi
      exact h2 i b hi
    · rw [List.getElem?_append_right (by omega)] at hi
      have : i - l.length = 0 := by
        cases hq : i - l.length with
        | zero => rfl
        | succ m => rw [hq] at hi; simp at hi
      rw [this] at hi
      simp at hi
      subst hi
      obtain rfl : i = L := by omega
      exact ha
theorem addr_add_add (a : Addr) (i j : Nat) : (a.add i).add j = a.add (i + j) := by
  unfold Addr.add
  by_cases h1 : i = 0
  · subst h1; simp
  · by_cases h2 : j = 0
    · subst h2; simp
    · have h3 : ¬ i + j = 0 := by omega
      simp [h1, h2, Nat.add_assoc]
theorem cells_all {w : World} {base : Nat} {a : Addr} {m : Nat} {cs : List Value} (h : w.cells? base a m = some cs) : cs.length = m ∧ ∀ i u, cs[i]? = some u → w.cell? (a.add i) = some u := by
  obtain ⟨_, h1, h2⟩ := World.cells?_some h
  refine ⟨h1, fun i u hu => ?_⟩
  have hi : i < m := by rw [← h1]; exact (List.getElem?_eq_some_iff.1 hu).1
  rw [h2 i hi]
  exact hu
theorem opens_slice (hu : P.underlying t = some (.slice e)) (hc : P.cellsOf e = d.sz) (B : Nat) (hB : P.bytesOf e = B) (h : ∀ m, m < n → OpensAt P m e d G) :
    OpensAt P n t (Kd.slice e d) (fun l => (∀ x ∈ l, G x) ∧ l.length * B ≤ 140737488351232) := by
  intro H enc w base spare held cs dd ps ht hw
  rcases DataW.trod_slice hu ht with ⟨rfl, hx⟩ | ⟨a, len, cap, elems, rest, m, rfl, rfl, hx, _, hl, hm, hlen, hel, _, _⟩
  · exact ⟨[], ⟨none, 0, rfl, Nat.le_refl _, rfl, by simp, fun h => absurd h (Nat.lt_irrefl 0)⟩, by simp, by simp⟩
  · obtain ⟨rfl, _⟩ := Prod.mk.inj hx
    rw [DataW.weights, hu] at hw
    dsimp only at hw
    have hB' := hw _ List.mem_cons_self
    rw [hB] at hB'
    simp only [List.length_map, hlen] at hB'
    have hb : len * B ≤ 140737488351232 := Nat.le_trans (Nat.mul_le_mul_right _ (Nat.le_add_right _ _)) hB'
    obtain ⟨l, h1, h2⟩ := choose_list (γ := α) len (fun i y => ∃ c, c.length = d.sz ∧ d.K w y c ∧ (∀ q u, c[q]? = some u → w.cell? (a.add (i * d.sz + q)) = some u) ∧ G y) (fun i hi => by
      have hi' := hel i hi
      rw [List.getElem?_eq_getElem (by omega)] at hi'
      obtain ⟨c, hc1, hc2⟩ := Option.bind_eq_some_iff.1 hi'
      obtain ⟨k1, k2⟩ := cells_all hc1
      obtain ⟨y, y1, y2⟩ := h m (Nat.lt_succ_self _) hc2 (fun x hx => hw x (List.mem_cons_of_mem _ (List.mem_append_left _ (mem_weightsAll (List.mem_map_of_mem (List.getElem_mem (by omega))) x hx))))
      refine ⟨y, c, by rw [k1, hc], y1, fun q u hq => ?_, y2⟩
      have := k2 q u hq
      rw [hc] at this
      rw [← addr_add_add]
      exact this)
    refine ⟨l, ⟨some a, cap, by rw [h1], by omega, rfl, by unfold maxLen at hm; omega, fun _ => ⟨a, rfl, fun j p hp => ?_⟩⟩, fun x hx => ?_, by rw [h1]; exact hb⟩
    · obtain ⟨c, c1, c2, c3, _⟩ := h2 j p hp
      exact ⟨c, c1, c2, c3⟩
    · obtain ⟨i, hi, rfl⟩ := List.getElem_of_mem hx
      obtain ⟨_, _, _, _, g⟩ := h2 i _ (List.getElem?_eq_getElem hi)
      exact g
end
theorem weights_of {H : Type} {P : Program} {ts : List TypeId} {ds : List (DataW H)} {j : Nat} {t : TypeId} {d : DataW H} (hsz : (DataW.weightsEach P ts ds).all (· ≤ reachBytes) = true) (ht : ts[j]? = some t) (hd : ds[j]? = some d) : ∀ x ∈ d.weights P t, x ≤ reachBytes := by
  intro x hx
  have := List.all_eq_true.1 hsz x (DataW.weights_mem_each ht hd x hx)
  simpa using this
end Go.Proofs.YthlkcfjodmhhmaaDoor.Opn
namespace Go.Proofs.YthlkcfjodmhhmaaDoor.Opn
open Go.RowKit Go.Proofs.YthlkcfjodmhhmaaDoorW.PrintWords
set_option linter.unusedVariables false
theorem opens_two {P : Program} {n : Nat} {t e : TypeId} {k : IntKind} (hu : P.underlying t = some (.array 2 e)) (he : P.underlying e = some (.int k)) (hc : P.cellsOf e = 1) (ht : P.cellsOf t = 2) : OpensAt P n t (Kd.pair (Kd.int k) (Kd.int k)) (fun _ => True) := by
  intro H enc w base spare held cs dd ps h hw
  obtain ⟨xs, m, rfl, hx, hl, hxs, hf⟩ := DataW.trod_array hu h
  rw [ht] at hl
  match cs, hl with
  | [a, b], _ =>
    have h0 := hf 0 (by decide)
    have h1 := hf 1 (by decide)
    rw [hc] at h0 h1
    match xs, hxs with
    | [x0, x1], _ =>
      obtain ⟨z0, e0, _⟩ := DataW.trod_int he (show DataW.trod enc P w base spare held m e [a] = some x0 from h0)
      obtain ⟨z1, e1, _⟩ := DataW.trod_int he (show DataW.trod enc P w base spare held m e [b] = some x1 from h1)
      refine ⟨(z0, z1), ⟨[.int k z0], [.int k z1], ?_, rfl, rfl⟩, trivial⟩
      rw [List.cons.injEq] at e0 e1
      rw [e0.1, e1.1]
      rfl
set_option maxRecDepth 100000 in
theorem open_row2 {H : Type} {enc : TypeId × Value → H} {W : World} {base : Nat} {spare : Nat → Bool} {held : Bool} {v : Value} {d : DataW H} {ps : List MemPlace} {r : Reach} {b0 : Nat}
    (hval : Value.okWide Tryd.prog W r b0 22 v) (hd : DataW.Trod enc Tryd.prog W base spare held 22 v d ps) (hw : ∀ x ∈ d.weights Tryd.prog 22, x ≤ reachBytes) :
    ∃ (l : List (Int × Int)) (A : Option Addr) (c : Nat), v = .slice A l.length c ∧ Dd.IsRow2 W A l.length l := by
  obtain ⟨a, len, cap, rfl⟩ := Go.WideShapes.okWide_slice Tryd.underlying22 hval
  obtain ⟨n, hn⟩ := hd
  obtain ⟨l, ⟨A, c, he, hl, hC⟩, _⟩ := opens_slice (d := Kd.pair (Kd.int .i64) (Kd.int .i64)) (G := fun _ => True) (e := 26) Tryd.underlying22 (by kernel_rfl) 16 (by kernel_rfl) (fun m hm => opens_two Tryd.underlying26 Tryd.underlying3 (by kernel_rfl) (by kernel_rfl)) hn hw
  have he' : Value.slice a len cap = Value.slice A l.length c := by
    have : ([Value.slice a len cap] : List Value) = [.slice A l.length c] := he
    exact (List.cons.inj this).1
  refine ⟨l, A, c, he', rfl, fun i hi => ?_⟩
  obtain ⟨x, rfl, hx⟩ := hC.2.2 (by omega)
  obtain ⟨cs, h1, ⟨c0, c1, rfl, e0, e1⟩, h3⟩ := hx i l[i] (List.getElem?_eq_getElem hi)
  subst e0
  subst e1
  rw [List.getD_eq_getElem?_getD, List.getElem?_eq_getElem hi]
  exact ⟨x, rfl, h3 0 _ rfl, h3 1 _ rfl⟩
end Go.Proofs.YthlkcfjodmhhmaaDoor.Opn
namespace Go.Proofs.YthlkcfjodmhhmaaDoor.Lay
open Go.RowKit Go.Lib
def LL : List (String × DataW Unit) := [("math/bits.deBruijn32tab", Rows.laid_math_bits_deBruijn32tab), ("math/bits.deBruijn64tab", Rows.laid_math_bits_deBruijn64tab), ("internal/strconv.uint64pow10", Rows.laid_internal_strconv_uint64pow10)]
def cellsOf : DataW Unit → List Value
  | .agg l => l.map fun | .lit (.int k z) => .int k z | _ => .nilIface
  | _ => []
noncomputable def laidWorld (os : Os) : World :=
  let w0 := World.holding Tryd.prog os ⟨#[], #[], []⟩
  let put (h : Array Obj) (g : Nat) (cs : Array Value) : Array Obj := h.modify g fun
    | .cells _ t frozen => .cells cs t frozen
    | o => o
  let h1 := put w0.heap 1 (cellsOf Rows.laid_math_bits_deBruijn32tab).toArray
  let h2 := put h1 2 (cellsOf Rows.laid_math_bits_deBruijn64tab).toArray
  let h3 := put h2 0 (cellsOf Rows.laid_internal_strconv_uint64pow10).toArray
  { w0 with heap := h3 }
theorem laid_met (os : Os) (args : Array Value) : laidMet Tryd.prog LL ((laidWorld os).forCall (fun _ _ => 0) ⟨#[], args, []⟩).memory :=
  (LaidIn.of_run (l := LL) [1, 2, 0] 8 (by kernel_rfl) (by kernel_rfl) (by kernel_rfl) (by kernel_rfl)).met
theorem eqP : (Rows.laid_internal_strconv_uint64pow10 : DataW Unit) = Lib.tabData .u64 Lib.pow10Tab := by kernel_rfl
set_option maxRecDepth 100000 in
theorem tabIs_of_reads {name : String} {k : IntKind} {zs : List Int} {W : World} {g : Nat} {t e : TypeId} {n : Nat} (hg : Tryd.prog.globalNamed name = some g) (hty : (Tryd.prog.globals[g]?).map (·.type) = some t) (ht : Tryd.prog.underlying t = some (.array n e)) (he : Tryd.prog.underlying e = some (.int k)) (hce : Tryd.prog.cellsOf e = 1) (hct : Tryd.prog.cellsOf t = n)
    (h : VarReads Tryd.prog W name (tabData k zs)) : Lib.TabIs Tryd.prog W name k zs := by
  obtain ⟨g', t', cs, fuel, p, h1, h2, h3, h4⟩ := h
  obtain rfl : g' = g := by rw [hg] at h1; exact (Option.some.inj h1).symm
  obtain rfl : t' = t := by rw [hty] at h2; exact (Option.some.inj h2).symm
  have := cells_of_tab ht he hce hct h4
  unfold Lib.TabIs
  rw [h3]
  congr 1
  apply Array.toList_inj.1
  rw [this]
theorem laidW_of {W : World} (hL : laidMetH Tryd.prog LL W) : Giv.LaidW W := by
  have h1 := Lib.laidMet.reads hL (.tail _ (.tail _ (.head _)))
  rw [eqP] at h1
  exact tabIs_of_reads (t := 114) (e := 108) (n := 20) Giv.pow10_named (by kernel_rfl) Tryd.underlying114 Tryd.underlying108 (by kernel_rfl) (by kernel_rfl) h1
theorem own : ownKnob Tryd.prog.godebug = none := by kernel_rfl
theorem laidOut : laidOutB Tryd.prog = true := by kernel_rfl
end Go.Proofs.YthlkcfjodmhhmaaDoor.Lay
