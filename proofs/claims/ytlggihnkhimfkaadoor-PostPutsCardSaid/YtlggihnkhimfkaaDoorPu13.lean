/- Texts put together by prune.py: PsW, Opn, PsO, LayP. -/
import Derived.ChangeArms
import Derived.DataReads
import Derived.SizedLaws
import Derived.Test.YtlggihnkhimfkaaDoorRows
import Derived.Lib.LaidIn
import Derived.Lib.LaidU8T
import Derived.Deep.DeepHandedRow
import Derived.Deep.DeepWitnessRowRef
import Derived.ProofKit
import Derived.Stop.LaidErr
import Derived.Lib.LaidTab
import Derived.Test.YtlggihnkhimfkaaDoorPu12
namespace Go.Proofs.YtlggihnkhimfkaaDoor.Pure
open Go.RowKit Go.Lib Go.Proofs.YtlggihnkhimfkaaDoor.Giv Go.Proofs.YtlggihnkhimfkaaDoor.P Go.Proofs.YtlggihnkhimfkaaDoorW.PrintWords Go.Proofs.YtlggihnkhimfkaaDoorW.PrintLast Go.Proofs.YtlggihnkhimfkaaDoorW.PrintMore
set_option linter.unusedVariables false
set_option linter.unusedSimpArgs false
theorem ev_succ {α : Type} {g : Nat → Option α} {r : α} (h : Ev (fun k => g (k + 1)) r) : Ev g r := Ev.step (f := fun k => g (k + 1)) (fun _ => rfl) h
theorem flat_drop (l : List Hit) (i : Nat) (h : i < l.length) : flatHits (l.take (i + 1)) = flatHits (l.take i) ++ [l[i].f0, l[i].f1] := flatHits_take l i h
theorem put_l0 (m : Ms) (hw : wfM m) (hm : mayB m = true) : ∀ (d i : Nat), m.hits.length - i ≤ d → i ≤ m.hits.length → Ev (fun k => R.rPut13.l0 k (if m.was = true then 1 else 0) (flatHits (m.hits.take i)) (i : Int) m.kd m.sh m.ep m.cl m.sq m.nn m.ve m.li m.ok m.id m.v m.kk m.er m.was m.hits m.text) (msgT m, 0)
 | d, i, hd, hi => by
  have hs := may_small' hm
  by_cases hlt : i < m.hits.length
  ·
   cases d with
   | zero => omega
   | succ d =>
    have ih := put_l0 m hw hm d (i + 1) (by omega) (by omega)
    have c0 : (i : Int) < (m.hits.length : Int) := by omega
    have c1 : (0 : Int) ≤ (i : Int) := by omega
    have hfl := flatHits_len (m.hits.take i)
    have htl : (m.hits.take i).length ≤ m.hits.length := by rw [List.length_take]; omega
    have c2 : (flatHits (m.hits.take i)).length < 17592186044416 := by omega
    have c3 : (flatHits (m.hits.take i) ++ [m.hits[i].f0]).length < 17592186044416 := by rw [List.length_append]; simp; omega
    refine Ev.step (f := fun k => R.rPut13.l0 k (if m.was = true then 1 else 0) (flatHits (m.hits.take (i + 1))) ((i + 1 : Nat) : Int) m.kd m.sh m.ep m.cl m.sq m.nn m.ve m.li m.ok m.id m.v m.kk m.er m.was m.hits m.text) (fun k => ?_) ih
    rw [R.rPut13.l0, if_pos c0, if_pos c1, if_pos c2, rdH m.hits i hlt, Option.bind_some, if_pos c3, w1 i (by omega), flat_drop m.hits i hlt, List.append_assoc]
    rfl
  ·
   have hn : ¬ (i : Int) < (m.hits.length : Int) := by omega
   obtain ⟨h1, h2, h3, h4, h5, h6⟩ := msg_facts m hw hm
   have hfl := flatHits_len m.hits
   have hz := msgT_size m
   rw [List.take_of_length_le (by omega)]
   refine ev_succ ?_
   simp only [R.rPut13.l0, if_neg hn]
   refine Ev.bind (list_ev _ (by simp)) ?_
   refine Ev.bind (list_ev m.v (by omega)) ?_
   refine Ev.congr (fun k => if_pos (by simp)) ?_
   simp only [Option.bind_some]
   refine Ev.bind (list_ev _ (by simp)) ?_
   refine Ev.congr (fun k => if_pos (by simp)) ?_
   refine Ev.bind (list_ev _ (by omega)) ?_
   refine Ev.congr (fun k => if_pos (by simp)) ?_
   have e1 := refPut_ev (msgV m) (by omega) h2
   rw [putM_of h1 h3 (by omega)] at e1
   refine Ev.bind (a := ((⟨(enc (msgV m)).toArray⟩ : ByteArray), (0 : Int))) e1 ?_
   refine Ev.bind (PurF.refPut_ev (by rw [encA_size]; omega)) ?_
   refine Ev.bind (PurF.refPut_ev hs.2.2) ?_
   refine Ev.congr (f := fun _ => some (msgT m, 0)) (fun k => ?_) (Ev.now _)
   have hz2 : (putF ⟨(enc (msgV m)).toArray⟩).size + (putF m.text).size ≤ 9223372036854775807 := by
    unfold msgT at hz; rw [ByteArray.size_append] at hz; omega
   rw [if_pos hz2]
   rfl
theorem refPut_msg (m : Ms) (hw : wfM m) (hh : m.hits.length ≤ 1000000) (hv : m.v.length ≤ 1000000) : Ev (fun k => R.rPut13.f k m.kd m.sh m.ep m.cl m.sq m.nn m.ve m.li m.ok m.id m.v m.kk m.er m.was m.hits m.text) (putV m) := by
  simp only [R.rPut13.f, Giv.gMay13.f, if_pos (show m.hits.length ≤ 1000000 ∧ m.v.length ≤ 1000000 from ⟨hh, hv⟩), Option.bind_some]
  unfold putV
  by_cases hm : mayB m = true
  · rw [if_pos hm]
    simp only [if_pos (show mayM m.kd m.sh m.ep m.cl m.sq m.nn m.ve m.li m.ok m.id m.v m.kk m.er m.was m.hits m.text = true from hm)]
    have hl := put_l0 m hw hm m.hits.length 0 (by omega) (by omega)
    rw [List.take_zero] at hl
    have hj : Ev (fun k => R.rPut13.j0 k (if m.was = true then 1 else 0) m.kd m.sh m.ep m.cl m.sq m.nn m.ve m.li m.ok m.id m.v m.kk m.er m.was m.hits m.text) (msgT m, 0) := Ev.step (fun k => by rw [R.rPut13.j0]; rfl) hl
    refine Ev.congr (fun k => ?_) hj
    cases hb : m.was
    · rw [if_neg (by decide), if_neg (by decide)]
    · rw [if_pos rfl, if_pos rfl]
  · rw [if_neg hm]
    simp only [if_neg (show ¬ mayM m.kd m.sh m.ep m.cl m.sq m.nn m.ve m.li m.ok m.id m.v m.kk m.er m.was m.hits m.text = true from hm)]
    exact Ev.now _
theorem rput_c (m : Ms) (Av : Option Addr) (cv : Nat) (Ah : Option Addr) (ch : Nat) (w : World) (hv : Kd.C (Kd.int .i64) w Av m.v.length m.v) (hcv : m.v.length ≤ cv) (hh : Kd.C k52 w Ah m.hits.length m.hits) (hch : m.hits.length ≤ ch) (hw : wfM m) (hs1 : m.hits.length ≤ 1000000) (hs2 : m.v.length ≤ 1000000) (S : ByteArray) (e0 : Int) (hp : putV m = (S, e0)) : Calls Tryd.prog 10 #[.agg #[.int .i64 m.kd, .int .i64 m.sh, .int .i64 m.ep, .int .i64 m.cl, .int .i64 m.sq, .int .i64 m.nn, .int .i64 m.ve, .int .i64 m.li, .int .i64 m.ok, .int .i64 m.id, .slice Av m.v.length cv, .int .i64 m.kk, .int .i64 m.er, .bool m.was, .slice Ah m.hits.length ch, .string m.text]] w fun e w' => e = .returned (.tuple #[.string S, .int .i64 e0]) ∧ Below w.heap.size w w' := by
  obtain ⟨k, hk⟩ := (refPut_msg m hw hs1 hs2).rounds
  exact R.rPut13.calls k m.kd m.sh m.ep m.cl m.sq m.nn m.ve m.li m.ok m.id Av cv m.v m.kk m.er m.was Ah ch m.hits m.text S e0 w hv hcv hh hch (by rw [hk, hp])
set_option maxHeartbeats 8000000 in
set_option maxRecDepth 100000 in
theorem puts_dark (m : Ms) (Av : Option Addr) (cv : Nat) (Ah : Option Addr) (ch : Nat) (w : World) (hL : LaidW w) (hv : Kd.C (Kd.int .i64) w Av m.v.length m.v) (hcv : m.v.length ≤ cv) (hh : Kd.C k52 w Ah m.hits.length m.hits) (hch : m.hits.length ≤ ch) (hl : lightB m = false) :
    Calls Tryd.prog 3 #[.agg #[.int .i64 m.kd, .int .i64 m.sh, .int .i64 m.ep, .int .i64 m.cl, .int .i64 m.sq, .int .i64 m.nn, .int .i64 m.ve, .int .i64 m.li, .int .i64 m.ok, .int .i64 m.id, .slice Av m.v.length cv, .int .i64 m.kk, .int .i64 m.er, .bool m.was, .slice Ah m.hits.length ch, .string m.text]] w fun e w' => e = .returned (.bool true) ∧ Below w.heap.size w w' := by
  have HV := Aside0.mk hv
  have HH := Aside0.mk hh
  have HCV := Aside0.mk hcv
  have HCH := Aside0.mk hch
  have HL := Aside0.mk hL
  have HLT := Aside0.mk hl
  clear hv hh hcv hch hL hl
  go_enter Tryd.func3, Tryd.ntmps3
  go_wp2_with (first | ((with_reducible refine gate_dst (N := 1) rfl ?_); refine box_event ?hg (N := 1) ?hd (cs := #[.int .i64 m.kd, .int .i64 m.sh, .int .i64 m.ep, .int .i64 m.cl, .int .i64 m.sq, .int .i64 m.nn, .int .i64 m.ve, .int .i64 m.li, .int .i64 m.ok, .int .i64 m.id, .slice Av m.v.length cv, .int .i64 m.kk, .int .i64 m.er, .bool m.was, .slice Ah m.hits.length ch, .string m.text]) (t := 30) ?hr ?_; (case hd => rfl); (case hg => rfl); (case hr => first | (go_simp; done) | (go_simp; rfl)); intro gb hg w1 hbox hb; have HB0 := Aside0.mk (below_step (Below.refl w.heap.size w) hb); have BK0 := Aside0.mk hbox; have GE := Aside0.mk (Nat.le_of_eq hg.symm); clear hg hbox hb) | ((with_reducible refine gate_dst (N := 9) rfl ?_); refine ev_load rfl 30 (.tmp 1) rfl _ rfl (fun w => by kernel_rfl) gb 0 rfl [.int .i64 m.kd, .int .i64 m.sh, .int .i64 m.ep, .int .i64 m.cl, .int .i64 m.sq, .int .i64 m.nn, .int .i64 m.ve, .int .i64 m.li, .int .i64 m.ok, .int .i64 m.id, .slice Av m.v.length cv, .int .i64 m.kk, .int .i64 m.er, .bool m.was, .slice Ah m.hits.length ch, .string m.text] (by kernel_rfl) (cells_all BK0.out) ?_) | (go_at_call 7; refine (light_c m Av cv Ah ch _ (Kd.C_below HV.out HB0.out) HCV.out (Kd.C_below HH.out HB0.out) HCH.out _ HLT.out).mono ?_; rintro e w2 ⟨rfl, hb⟩; have HB1 := Aside0.mk (below_step HB0.out hb); have BK1 := Aside0.mk (blk_below BK0.out hb); clear hb) | (go_at_call 8; refine (awake_c _ (LaidW.below HL.out HB1.out)).mono ?_; rintro e w3 ⟨rfl, hb⟩; have HB2 := Aside0.mk (below_step HB1.out hb); have BK2 := Aside0.mk (blk_below BK1.out hb); clear hb) | fail)
  go_ret
  exact ⟨rfl, HB2.out⟩
set_option maxHeartbeats 8000000 in
set_option maxRecDepth 100000 in
theorem puts_bad (m : Ms) (Av : Option Addr) (cv : Nat) (Ah : Option Addr) (ch : Nat) (w : World) (hL : LaidW w) (hv : Kd.C (Kd.int .i64) w Av m.v.length m.v) (hcv : m.v.length ≤ cv) (hh : Kd.C k52 w Ah m.hits.length m.hits) (hch : m.hits.length ≤ ch) (hl : lightB m = true) (hw : wfM m) (hs1 : m.hits.length ≤ 1000000) (hs2 : m.v.length ≤ 1000000) (hp : putV m = (⟨#[]⟩, 1)) :
    Calls Tryd.prog 3 #[.agg #[.int .i64 m.kd, .int .i64 m.sh, .int .i64 m.ep, .int .i64 m.cl, .int .i64 m.sq, .int .i64 m.nn, .int .i64 m.ve, .int .i64 m.li, .int .i64 m.ok, .int .i64 m.id, .slice Av m.v.length cv, .int .i64 m.kk, .int .i64 m.er, .bool m.was, .slice Ah m.hits.length ch, .string m.text]] w fun e w' => e = .returned (.bool true) ∧ Below w.heap.size w w' := by
  have HV := Aside0.mk hv
  have HH := Aside0.mk hh
  have HCV := Aside0.mk hcv
  have HCH := Aside0.mk hch
  have HL := Aside0.mk hL
  have HLT := Aside0.mk hl
  clear hv hh hcv hch hL hl
  have HW := Aside0.mk hw
  have HS1 := Aside0.mk hs1
  have HS2 := Aside0.mk hs2
  have HP := Aside0.mk hp
  have HP2 := Aside0.mk (show (putV m).2 = 1 by rw [hp])
  clear hw hs1 hs2 hp
  have e0 : ((⟨#[]⟩ : ByteArray).toList == (⟨#[]⟩ : ByteArray).toList) = true := by simp
  go_enter Tryd.func3, Tryd.ntmps3
  go_wp2_with (first | ((with_reducible refine gate_dst (N := 1) rfl ?_); refine box_event ?hg (N := 1) ?hd (cs := #[.int .i64 m.kd, .int .i64 m.sh, .int .i64 m.ep, .int .i64 m.cl, .int .i64 m.sq, .int .i64 m.nn, .int .i64 m.ve, .int .i64 m.li, .int .i64 m.ok, .int .i64 m.id, .slice Av m.v.length cv, .int .i64 m.kk, .int .i64 m.er, .bool m.was, .slice Ah m.hits.length ch, .string m.text]) (t := 30) ?hr ?_; (case hd => rfl); (case hg => rfl); (case hr => first | (go_simp; done) | (go_simp; rfl)); intro gb hg w1 hbox hb; have HB0 := Aside0.mk (below_step (Below.refl w.heap.size w) hb); have BK0 := Aside0.mk hbox; have GE := Aside0.mk (Nat.le_of_eq hg.symm); clear hg hbox hb) | ((with_reducible refine gate_dst (N := 9) rfl ?_); refine ev_load rfl 30 (.tmp 1) rfl _ rfl (fun w => by kernel_rfl) gb 0 rfl [.int .i64 m.kd, .int .i64 m.sh, .int .i64 m.ep, .int .i64 m.cl, .int .i64 m.sq, .int .i64 m.nn, .int .i64 m.ve, .int .i64 m.li, .int .i64 m.ok, .int .i64 m.id, .slice Av m.v.length cv, .int .i64 m.kk, .int .i64 m.er, .bool m.was, .slice Ah m.hits.length ch, .string m.text] (by kernel_rfl) (cells_all BK0.out) ?_) | (go_at_call 7; refine (light_c m Av cv Ah ch _ (Kd.C_below HV.out HB0.out) HCV.out (Kd.C_below HH.out HB0.out) HCH.out _ HLT.out).mono ?_; rintro e w2 ⟨rfl, hb⟩; have HB1 := Aside0.mk (below_step HB0.out hb); have BK1 := Aside0.mk (blk_below BK0.out hb); clear hb) | ((with_reducible refine gate_dst (N := 14) rfl ?_); refine ev_load rfl 30 (.tmp 1) rfl _ rfl (fun w => by kernel_rfl) gb 0 rfl [.int .i64 m.kd, .int .i64 m.sh, .int .i64 m.ep, .int .i64 m.cl, .int .i64 m.sq, .int .i64 m.nn, .int .i64 m.ve, .int .i64 m.li, .int .i64 m.ok, .int .i64 m.id, .slice Av m.v.length cv, .int .i64 m.kk, .int .i64 m.er, .bool m.was, .slice Ah m.hits.length ch, .string m.text] (by kernel_rfl) (cells_all BK1.out) ?_) | (go_at_call 9; refine (put_c m Av cv Ah ch _ (LaidW.below HL.out HB1.out) (Kd.C_below HV.out HB1.out) HCV.out (Kd.C_below HH.out HB1.out) HCH.out HW.out _ _ HP.out).mono ?_; rintro e w3 ⟨rfl, hb⟩; have HB2 := Aside0.mk (below_step HB1.out hb); have BK2 := Aside0.mk (blk_below BK1.out hb); clear hb) | ((with_reducible refine gate_dst (N := 19) rfl ?_); refine ev_load rfl 30 (.tmp 1) rfl _ rfl (fun w => by kernel_rfl) gb 0 rfl [.int .i64 m.kd, .int .i64 m.sh, .int .i64 m.ep, .int .i64 m.cl, .int .i64 m.sq, .int .i64 m.nn, .int .i64 m.ve, .int .i64 m.li, .int .i64 m.ok, .int .i64 m.id, .slice Av m.v.length cv, .int .i64 m.kk, .int .i64 m.er, .bool m.was, .slice Ah m.hits.length ch, .string m.text] (by kernel_rfl) (cells_all BK2.out) ?_) | (go_at_call 10; refine (rput_c m Av cv Ah ch _ (Kd.C_below HV.out HB2.out) HCV.out (Kd.C_below HH.out HB2.out) HCH.out HW.out HS1.out HS2.out _ _ HP.out).mono ?_; rintro e w4 ⟨rfl, hb⟩; have HB3 := Aside0.mk (below_step HB2.out hb); have BK3 := Aside0.mk (blk_below BK2.out hb); have cz0 : w4.cell? ⟨gb, 0, none⟩ = some (.int .i64 m.kd) := (blk_cell BK3.out 0).trans rfl; have cz1 : w4.cell? ⟨gb, 1, none⟩ = some (.int .i64 m.sh) := (blk_cell BK3.out 1).trans rfl; have cz2 : w4.cell? ⟨gb, 2, none⟩ = some (.int .i64 m.ep) := (blk_cell BK3.out 2).trans rfl; have cz3 : w4.cell? ⟨gb, 3, none⟩ = some (.int .i64 m.cl) := (blk_cell BK3.out 3).trans rfl; have cz4 : w4.cell? ⟨gb, 4, none⟩ = some (.int .i64 m.sq) := (blk_cell BK3.out 4).trans rfl; have cz5 : w4.cell? ⟨gb, 5, none⟩ = some (.int .i64 m.nn) := (blk_cell BK3.out 5).trans rfl; have cz6 : w4.cell? ⟨gb, 6, none⟩ = some (.int .i64 m.ve) := (blk_cell BK3.out 6).trans rfl; have cz7 : w4.cell? ⟨gb, 7, none⟩ = some (.int .i64 m.li) := (blk_cell BK3.out 7).trans rfl; have cz8 : w4.cell? ⟨gb, 8, none⟩ = some (.int .i64 m.ok) := (blk_cell BK3.out 8).trans rfl; have cz9 : w4.cell? ⟨gb, 9, none⟩ = some (.int .i64 m.id) := (blk_cell BK3.out 9).trans rfl; have cz10 : w4.cell? ⟨gb, 10, none⟩ = some (.slice Av m.v.length cv) := (blk_cell BK3.out 10).trans rfl; have cz11 : w4.cell? ⟨gb, 11, none⟩ = some (.int .i64 m.kk) := (blk_cell BK3.out 11).trans rfl; have cz12 : w4.cell? ⟨gb, 12, none⟩ = some (.int .i64 m.er) := (blk_cell BK3.out 12).trans rfl; have cz13 : w4.cell? ⟨gb, 13, none⟩ = some (.bool m.was) := (blk_cell BK3.out 13).trans rfl; have cz14 : w4.cell? ⟨gb, 14, none⟩ = some (.slice Ah m.hits.length ch) := (blk_cell BK3.out 14).trans rfl; have cz15 : w4.cell? ⟨gb, 15, none⟩ = some (.string m.text) := (blk_cell BK3.out 15).trans rfl; clear hb) | ((with_reducible refine gate_dst (N := 32) rfl ?_); refine ev_load rfl 30 (.tmp 1) rfl _ rfl (fun w => by kernel_rfl) gb 0 rfl [.int .i64 m.kd, .int .i64 m.sh, .int .i64 m.ep, .int .i64 m.cl, .int .i64 m.sq, .int .i64 m.nn, .int .i64 m.ve, .int .i64 m.li, .int .i64 m.ok, .int .i64 m.id, .slice Av m.v.length cv, .int .i64 m.kk, .int .i64 m.er, .bool m.was, .slice Ah m.hits.length ch, .string m.text] (by kernel_rfl) (cells_all BK3.out) ?_) | (go_at_call 11; refine (check_c m Av cv Ah ch _ (Kd.C_below HV.out HB3.out) HCV.out (Kd.C_below HH.out HB3.out) HCH.out _ HP2.out).mono ?_; rintro e w5 ⟨rfl, hb⟩; have HB4 := Aside0.mk (below_step HB3.out hb); have BK4 := Aside0.mk (blk_below BK3.out hb); clear hb) | (go_at_call 8; refine (awake_c _ (LaidW.below HL.out HB4.out)).mono ?_; rintro e w6 ⟨rfl, hb⟩; have HB5 := Aside0.mk (below_step HB4.out hb); have BK5 := Aside0.mk (blk_below BK4.out hb); clear hb) | fail)
  go_ret
  exact ⟨rfl, HB5.out⟩
set_option maxHeartbeats 8000000 in
set_option maxRecDepth 100000 in
theorem puts_ok (m : Ms) (Av : Option Addr) (cv : Nat) (Ah : Option Addr) (ch : Nat) (w : World) (hL : LaidW w) (hv : Kd.C (Kd.int .i64) w Av m.v.length m.v) (hcv : m.v.length ≤ cv) (hh : Kd.C k52 w Ah m.hits.length m.hits) (hch : m.hits.length ≤ ch) (hl : lightB m = true) (hw : wfM m) (hs1 : m.hits.length ≤ 1000000) (hs2 : m.v.length ≤ 1000000) (S : ByteArray) (hp : putV m = (S, 0)) (ht : post_Take.f S = some (m.kd, m.sh, m.ep, m.cl, m.sq, m.nn, m.ve, m.li, m.ok, m.id, m.v, m.kk, m.er, m.was, m.hits, m.text, 0)) :
    Calls Tryd.prog 3 #[.agg #[.int .i64 m.kd, .int .i64 m.sh, .int .i64 m.ep, .int .i64 m.cl, .int .i64 m.sq, .int .i64 m.nn, .int .i64 m.ve, .int .i64 m.li, .int .i64 m.ok, .int .i64 m.id, .slice Av m.v.length cv, .int .i64 m.kk, .int .i64 m.er, .bool m.was, .slice Ah m.hits.length ch, .string m.text]] w fun e w' => e = .returned (.bool true) ∧ Below w.heap.size w w' := by
  have HV := Aside0.mk hv
  have HH := Aside0.mk hh
  have HCV := Aside0.mk hcv
  have HCH := Aside0.mk hch
  have HL := Aside0.mk hL
  have HLT := Aside0.mk hl
  clear hv hh hcv hch hL hl
  have HW := Aside0.mk hw
  have HS1 := Aside0.mk hs1
  have HS2 := Aside0.mk hs2
  have HP := Aside0.mk hp
  have HP2 := Aside0.mk (show (putV m).2 = 0 by rw [hp])
  clear hw hs1 hs2 hp
  have HT := Aside0.mk ht
  clear ht
  have e0 : (S.toList == S.toList) = true := by simp
  go_enter Tryd.func3, Tryd.ntmps3
  go_wp2_with (first | ((with_reducible refine gate_dst (N := 1) rfl ?_); refine box_event ?hg (N := 1) ?hd (cs := #[.int .i64 m.kd, .int .i64 m.sh, .int .i64 m.ep, .int .i64 m.cl, .int .i64 m.sq, .int .i64 m.nn, .int .i64 m.ve, .int .i64 m.li, .int .i64 m.ok, .int .i64 m.id, .slice Av m.v.length cv, .int .i64 m.kk, .int .i64 m.er, .bool m.was, .slice Ah m.hits.length ch, .string m.text]) (t := 30) ?hr ?_; (case hd => rfl); (case hg => rfl); (case hr => first | (go_simp; done) | (go_simp; rfl)); intro gb hg w1 hbox hb; have HB0 := Aside0.mk (below_step (Below.refl w.heap.size w) hb); have BK0 := Aside0.mk hbox; have GE := Aside0.mk (Nat.le_of_eq hg.symm); clear hg hbox hb) | ((with_reducible refine gate_dst (N := 9) rfl ?_); refine ev_load rfl 30 (.tmp 1) rfl _ rfl (fun w => by kernel_rfl) gb 0 rfl [.int .i64 m.kd, .int .i64 m.sh, .int .i64 m.ep, .int .i64 m.cl, .int .i64 m.sq, .int .i64 m.nn, .int .i64 m.ve, .int .i64 m.li, .int .i64 m.ok, .int .i64 m.id, .slice Av m.v.length cv, .int .i64 m.kk, .int .i64 m.er, .bool m.was, .slice Ah m.hits.length ch, .string m.text] (by kernel_rfl) (cells_all BK0.out) ?_) | (go_at_call 7; refine (light_c m Av cv Ah ch _ (Kd.C_below HV.out HB0.out) HCV.out (Kd.C_below HH.out HB0.out) HCH.out _ HLT.out).mono ?_; rintro e w2 ⟨rfl, hb⟩; have HB1 := Aside0.mk (below_step HB0.out hb); have BK1 := Aside0.mk (blk_below BK0.out hb); clear hb) | ((with_reducible refine gate_dst (N := 14) rfl ?_); refine ev_load rfl 30 (.tmp 1) rfl _ rfl (fun w => by kernel_rfl) gb 0 rfl [.int .i64 m.kd, .int .i64 m.sh, .int .i64 m.ep, .int .i64 m.cl, .int .i64 m.sq, .int .i64 m.nn, .int .i64 m.ve, .int .i64 m.li, .int .i64 m.ok, .int .i64 m.id, .slice Av m.v.length cv, .int .i64 m.kk, .int .i64 m.er, .bool m.was, .slice Ah m.hits.length ch, .string m.text] (by kernel_rfl) (cells_all BK1.out) ?_) | (go_at_call 9; refine (put_c m Av cv Ah ch _ (LaidW.below HL.out HB1.out) (Kd.C_below HV.out HB1.out) HCV.out (Kd.C_below HH.out HB1.out) HCH.out HW.out _ _ HP.out).mono ?_; rintro e w3 ⟨rfl, hb⟩; have HB2 := Aside0.mk (below_step HB1.out hb); have BK2 := Aside0.mk (blk_below BK1.out hb); clear hb) | ((with_reducible refine gate_dst (N := 19) rfl ?_); refine ev_load rfl 30 (.tmp 1) rfl _ rfl (fun w => by kernel_rfl) gb 0 rfl [.int .i64 m.kd, .int .i64 m.sh, .int .i64 m.ep, .int .i64 m.cl, .int .i64 m.sq, .int .i64 m.nn, .int .i64 m.ve, .int .i64 m.li, .int .i64 m.ok, .int .i64 m.id, .slice Av m.v.length cv, .int .i64 m.kk, .int .i64 m.er, .bool m.was, .slice Ah m.hits.length ch, .string m.text] (by kernel_rfl) (cells_all BK2.out) ?_) | (go_at_call 10; refine (rput_c m Av cv Ah ch _ (Kd.C_below HV.out HB2.out) HCV.out (Kd.C_below HH.out HB2.out) HCH.out HW.out HS1.out HS2.out _ _ HP.out).mono ?_; rintro e w4 ⟨rfl, hb⟩; have HB3 := Aside0.mk (below_step HB2.out hb); have BK3 := Aside0.mk (blk_below BK2.out hb); have cz0 : w4.cell? ⟨gb, 0, none⟩ = some (.int .i64 m.kd) := (blk_cell BK3.out 0).trans rfl; have cz1 : w4.cell? ⟨gb, 1, none⟩ = some (.int .i64 m.sh) := (blk_cell BK3.out 1).trans rfl; have cz2 : w4.cell? ⟨gb, 2, none⟩ = some (.int .i64 m.ep) := (blk_cell BK3.out 2).trans rfl; have cz3 : w4.cell? ⟨gb, 3, none⟩ = some (.int .i64 m.cl) := (blk_cell BK3.out 3).trans rfl; have cz4 : w4.cell? ⟨gb, 4, none⟩ = some (.int .i64 m.sq) := (blk_cell BK3.out 4).trans rfl; have cz5 : w4.cell? ⟨gb, 5, none⟩ = some (.int .i64 m.nn) := (blk_cell BK3.out 5).trans rfl; have cz6 : w4.cell? ⟨gb, 6, none⟩ = some (.int .i64 m.ve) := (blk_cell BK3.out 6).trans rfl; have cz7 : w4.cell? ⟨gb, 7, none⟩ = some (.int .i64 m.li) := (blk_cell BK3.out 7).trans rfl; have cz8 : w4.cell? ⟨gb, 8, none⟩ = some (.int .i64 m.ok) := (blk_cell BK3.out 8).trans rfl; have cz9 : w4.cell? ⟨gb, 9, none⟩ = some (.int .i64 m.id) := (blk_cell BK3.out 9).trans rfl; have cz10 : w4.cell? ⟨gb, 10, none⟩ = some (.slice Av m.v.length cv) := (blk_cell BK3.out 10).trans rfl; have cz11 : w4.cell? ⟨gb, 11, none⟩ = some (.int .i64 m.kk) := (blk_cell BK3.out 11).trans rfl; have cz12 : w4.cell? ⟨gb, 12, none⟩ = some (.int .i64 m.er) := (blk_cell BK3.out 12).trans rfl; have cz13 : w4.cell? ⟨gb, 13, none⟩ = some (.bool m.was) := (blk_cell BK3.out 13).trans rfl; have cz14 : w4.cell? ⟨gb, 14, none⟩ = some (.slice Ah m.hits.length ch) := (blk_cell BK3.out 14).trans rfl; have cz15 : w4.cell? ⟨gb, 15, none⟩ = some (.string m.text) := (blk_cell BK3.out 15).trans rfl; clear hb) | ((with_reducible refine gate_dst (N := 32) rfl ?_); refine ev_load rfl 30 (.tmp 1) rfl _ rfl (fun w => by kernel_rfl) gb 0 rfl [.int .i64 m.kd, .int .i64 m.sh, .int .i64 m.ep, .int .i64 m.cl, .int .i64 m.sq, .int .i64 m.nn, .int .i64 m.ve, .int .i64 m.li, .int .i64 m.ok, .int .i64 m.id, .slice Av m.v.length cv, .int .i64 m.kk, .int .i64 m.er, .bool m.was, .slice Ah m.hits.length ch, .string m.text] (by kernel_rfl) (cells_all BK3.out) ?_) | (go_at_call 11; refine (check_c m Av cv Ah ch _ (Kd.C_below HV.out HB3.out) HCV.out (Kd.C_below HH.out HB3.out) HCH.out _ HP2.out).mono ?_; rintro e w5 ⟨rfl, hb⟩; have HB4 := Aside0.mk (below_step HB3.out hb); have BK4 := Aside0.mk (blk_below BK3.out hb); clear hb) | (go_at_call 12; refine (take_c S m 0 _ (LaidW.below HL.out HB4.out) HT.out).mono ?_; rintro e w6 ⟨Bv, dv, Bh, dh, rfl, k1, k2, k3, k4, hb⟩; have HB5 := Aside0.mk (below_step HB4.out hb); have BK5 := Aside0.mk (blk_below BK4.out hb); have K1 := Aside0.mk k1; have K2 := Aside0.mk k2; have K3 := Aside0.mk k3; have K4 := Aside0.mk k4; clear hb k1 k2 k3 k4) | ((with_reducible refine gate_dst (N := 7) rfl ?_); refine box_event ?hg (N := 7) ?hd (cs := #[.int .i64 0, .int .i64 0, .int .i64 0, .int .i64 0, .int .i64 0, .int .i64 0, .int .i64 0, .int .i64 0, .int .i64 0, .int .i64 0, .slice none 0 0, .int .i64 0, .int .i64 0, .bool false, .slice none 0 0, .string ⟨#[]⟩]) (t := 30) ?hr ?_; (case hd => rfl); (case hg => rfl); (case hr => first | (go_simp; done) | (go_simp; rfl)); intro gn hg w7 hbox hb; have HB6 := Aside0.mk (below_step HB5.out hb); have BK6 := Aside0.mk (blk_below BK5.out hb); have BN6 := Aside0.mk hbox; have HX6 := Aside0.mk (below_step (Below.refl w6.heap.size w6) hb); have GN := Aside0.mk (Nat.le_of_eq hg.symm); have NE := Aside0.mk (show gb ≠ gn from fun h => absurd (blk_lt BK5.out) (by rw [h, hg]; exact Nat.lt_irrefl _)); clear hg hbox hb) | ((with_reducible refine gate_store (ty := 30) (x := .tmp 7) rfl ?_); refine ev_store rfl rfl 30 (.tmp 7) _ rfl _ rfl gn 30 rfl [.int .i64 m.kd, .int .i64 m.sh, .int .i64 m.ep, .int .i64 m.cl, .int .i64 m.sq, .int .i64 m.nn, .int .i64 m.ve, .int .i64 m.li, .int .i64 m.ok, .int .i64 m.id, .slice Bv m.v.length dv, .int .i64 m.kk, .int .i64 m.er, .bool m.was, .slice Bh m.hits.length dh, .string m.text] [.int .i64 0, .int .i64 0, .int .i64 0, .int .i64 0, .int .i64 0, .int .i64 0, .int .i64 0, .int .i64 0, .int .i64 0, .int .i64 0, .slice none 0 0, .int .i64 0, .int .i64 0, .bool false, .slice none 0 0, .string ⟨#[]⟩] rfl rfl (by simp [Value.oneCell']) rfl BN6.out ?_; intro w8 a8 b8; have BN7 := Aside0.mk a8; have HX7 := Aside0.mk (b8.1 _ _ HX6.out GN.out); have HB7 := Aside0.mk (b8.1 _ _ HB6.out (Nat.le_trans (below_size HB5.out) GN.out)); have BK7 := Aside0.mk (b8.2 _ _ NE.out BK6.out); clear a8 b8) | ((with_reducible refine gate_dst (N := 45) rfl ?_); refine ev_load rfl 30 (.tmp 1) rfl _ rfl (fun w => by kernel_rfl) gb 0 rfl [.int .i64 m.kd, .int .i64 m.sh, .int .i64 m.ep, .int .i64 m.cl, .int .i64 m.sq, .int .i64 m.nn, .int .i64 m.ve, .int .i64 m.li, .int .i64 m.ok, .int .i64 m.id, .slice Av m.v.length cv, .int .i64 m.kk, .int .i64 m.er, .bool m.was, .slice Ah m.hits.length ch, .string m.text] (by kernel_rfl) (cells_all BK7.out) ?_) | ((with_reducible refine gate_dst (N := 46) rfl ?_); refine ev_load rfl 30 (.tmp 7) rfl _ rfl (fun w => by kernel_rfl) gn 0 rfl [.int .i64 m.kd, .int .i64 m.sh, .int .i64 m.ep, .int .i64 m.cl, .int .i64 m.sq, .int .i64 m.nn, .int .i64 m.ve, .int .i64 m.li, .int .i64 m.ok, .int .i64 m.id, .slice Bv m.v.length dv, .int .i64 m.kk, .int .i64 m.er, .bool m.was, .slice Bh m.hits.length dh, .string m.text] (by kernel_rfl) (cells_all BN7.out) ?_) | (go_at_call 13; refine (same_c m m Av cv Ah ch Bv dv Bh dh _ (Kd.C_below HV.out HB7.out) HCV.out (Kd.C_below HH.out HB7.out) HCH.out (Kd.C_below K1.out HX7.out) K2.out (Kd.C_below K3.out HX7.out) K4.out HS2.out HS1.out true (iff_of_true rfl rfl)).mono ?_; rintro e w9 ⟨rfl, hb⟩; have HB8 := Aside0.mk (below_step HB7.out hb); have BK8 := Aside0.mk (blk_below BK7.out hb); clear hb) | (go_at_call 8; refine (awake_c _ (LaidW.below HL.out HB8.out)).mono ?_; rintro e w10 ⟨rfl, hb⟩; have HB9 := Aside0.mk (below_step HB8.out hb); have BK9 := Aside0.mk (blk_below BK8.out hb); clear hb) | fail)
  go_ret
  exact ⟨rfl, HB9.out⟩
theorem PostPuts_walk (m : Ms) (Av : Option Addr) (cv : Nat) (Ah : Option Addr) (ch : Nat) (w : World) (hL : LaidW w) (hv : Kd.C (Kd.int .i64) w Av m.v.length m.v) (hcv : m.v.length ≤ cv) (hh : Kd.C k52 w Ah m.hits.length m.hits) (hch : m.hits.length ≤ ch) (hw : wfM m) :
    Calls Tryd.prog 3 #[.agg #[.int .i64 m.kd, .int .i64 m.sh, .int .i64 m.ep, .int .i64 m.cl, .int .i64 m.sq, .int .i64 m.nn, .int .i64 m.ve, .int .i64 m.li, .int .i64 m.ok, .int .i64 m.id, .slice Av m.v.length cv, .int .i64 m.kk, .int .i64 m.er, .bool m.was, .slice Ah m.hits.length ch, .string m.text]] w fun e w' => e = .returned (.bool true) ∧ Below w.heap.size w w' := by
  cases hl : lightB m
  · exact puts_dark m Av cv Ah ch w hL hv hcv hh hch hl
  · have hs := light_small hl
    by_cases hm : mayB m = true
    · exact puts_ok m Av cv Ah ch w hL hv hcv hh hch hl hw hs.2 hs.1 (msgT m) (if_pos hm) (take_msg m hw hm)
    · exact puts_bad m Av cv Ah ch w hL hv hcv hh hch hl hw hs.2 hs.1 (if_neg hm)
end Go.Proofs.YtlggihnkhimfkaaDoor.Pure
namespace Go.Proofs.YtlggihnkhimfkaaDoor.Opn
open Go.RowKit Go.Proofs.YtlggihnkhimfkaaDoorW.PrintWords
set_option linter.unusedVariables false
def OpensAt {α : Type} (P : Program) (n : Nat) (t : TypeId) (d : Kd α) (G : α → Prop) : Prop :=
  ∀ {H : Type} {enc : TypeId × Value → H} {w : World} {base : Nat} {spare : Nat → Bool} {held : Bool} {cs : List Value} {dd : DataW H} {ps : List MemPlace},
    DataW.trod enc P w base spare held n t cs = some (dd, ps) → (∀ x ∈ dd.weights P t, x ≤ reachBytes) → ∃ a, d.K w a cs ∧ G a
def FieldsAt {α : Type} (P : Program) (n : Nat) (fs : List Field) (start : Nat) (d : Kd α) (G : α → Prop) : Prop :=
  ∀ {H : Type} {enc : TypeId × Value → H} {w : World} {base : Nat} {spare : Nat → Bool} {held : Bool} {cs : List Value} {xs : List (DataW H × List MemPlace)},
    xs.length = fs.length → (∀ (i : Nat) (f : Field), fs[i]? = some f → DataW.trod enc P w base spare held n f.type ((cs.drop f.offset).take (P.cellsOf f.type)) = xs[i]?) →
    (∀ x ∈ DataW.weightsEach P (fs.map Field.type) (xs.map (·.1)), x ≤ reachBytes) → cs.length = start + d.sz → ∃ a, d.K w a (cs.drop start) ∧ G a
section
variable {α β : Type} {P : Program} {n : Nat} {t e : TypeId} {d : Kd α} {G : α → Prop}
theorem OpensAt.map {d' : Kd β} {G' : β → Prop} (g : α → β) (h : OpensAt P n t d G) (hg : ∀ w a cs, d.K w a cs → G a → d'.K w (g a) cs ∧ G' (g a)) : OpensAt P n t d' G' := by
  intro H enc w base spare held cs dd ps ht hw
  obtain ⟨a, h1, h2⟩ := h ht hw
  exact ⟨g a, (hg _ _ _ h1 h2).1, (hg _ _ _ h1 h2).2⟩
theorem opens_int {k : IntKind} (hu : P.underlying t = some (.int k)) : OpensAt P n t (Kd.int k) (fun z => (Lit.int k z).wf = true) := by
  intro H enc w base spare held cs dd ps ht hw
  obtain ⟨z, rfl, _, hz⟩ := DataW.trod_int hu ht
  exact ⟨z, rfl, hz⟩
theorem opens_bool (hu : P.underlying t = some .bool) : OpensAt P n t Kd.bool (fun _ => True) := by
  intro H enc w base spare held cs dd ps ht hw
  obtain ⟨z, rfl, _⟩ := DataW.trod_bool hu ht
  exact ⟨z, rfl, trivial⟩
theorem opens_string (hu : P.underlying t = some .string) : OpensAt P n t Kd.string (fun s => s.size ≤ 140737488351232) := by
  intro H enc w base spare held cs dd ps ht hw
  obtain ⟨z, rfl, hx, _⟩ := DataW.trod_string hu ht
  obtain ⟨rfl, _⟩ := Prod.mk.inj hx
  refine ⟨z, rfl, ?_⟩
  have h1 : z.data.toList.length ≤ reachBytes := hw z.data.toList.length (by rw [DataW.weights]; exact List.mem_singleton_self _)
  rw [Array.length_toList] at h1
  exact h1
theorem mem_weightsAll {H : Type} {P : Program} {e : TypeId} : ∀ {l : List (DataW H)} {x : DataW H}, x ∈ l → ∀ y ∈ x.weights P e, y ∈ DataW.weightsAll P e l
  | [], _, h, _, _ => absurd h (List.not_mem_nil)
  | a :: l, x, h, y, hy => by
    rw [DataW.weightsAll]
    rcases List.mem_cons.1 h with rfl | h
    · exact List.mem_append_left _ hy
    · exact List.mem_append_right _ (mem_weightsAll h y hy)
theorem choose_list {γ : Type} (L : Nat) (Q : Nat → γ → Prop) (h : ∀ i, i < L → ∃ a, Q i a) : ∃ l : List γ, l.length = L ∧ ∀ i a, l[i]? = some a → Q i a := by
  induction L with
  | zero => exact ⟨[], rfl, fun i a hi => by simp at hi⟩
  | succ L ih =>
    obtain ⟨l, h1, h2⟩ := ih (fun i hi => h i (by omega))
    obtain ⟨a, ha⟩ := h L (by omega)
    refine ⟨l ++ [a], by simp [h1], fun i b hi => ?_⟩
    by_cases hl : i < l.length
    · rw [List.getElem?_append_left hl] at hi
      exact h2 i b hi
    · rw [List.getElem?_append_right (by omega)] at hi
      have : i - l.length = 0 := by
        cases hq : i - l.length with
        | zero => rfl
        | succ m => rw [hq] at hi; simp at hi
      rw [this] at hi
      simp at hi
      subst hi
      obtain rfl : i = L := by omega
      exact ha
theorem addr_add_add (a : Addr) (i j : Nat) : (a.add i).add j = a.add (i + j) := by
  unfold Addr.add
  by_cases h1 : i = 0
  · subst h1; simp
  · by_cases h2 : j = 0
    · subst h2; simp
    · have h3 : ¬ i + j = 0 := by omega
      simp [h1, h2, Nat.add_assoc]
theorem cells_all {w : World} {base : Nat} {a : Addr} {m : Nat} {cs : List Value} (h : w.cells? base a m = some cs) : cs.length = m ∧ ∀ i u, cs[i]? = some u → w.cell? (a.add i) = some u := by
  obtain ⟨_, h1, h2⟩ := World.cells?_some h
  refine ⟨h1, fun i u hu => ?_⟩
  have hi : i < m := by rw [← h1]; exact (List.getElem?_eq_some_iff.1 hu).1
  rw [h2 i hi]
  exact hu
theorem opens_slice (hu : P.underlying t = some (.slice e)) (hc : P.cellsOf e = d.sz) (B : Nat) (hB : P.bytesOf e = B) (h : ∀ m, m < n → OpensAt P m e d G) :
    OpensAt P n t (Kd.slice e d) (fun l => (∀ x ∈ l, G x) ∧ l.length * B ≤ 140737488351232) := by
  intro H enc w base spare held cs dd ps ht hw
  rcases DataW.trod_slice hu ht with ⟨rfl, hx⟩ | ⟨a, len, cap, elems, rest, m, rfl, rfl, hx, _, hl, hm, hlen, hel, _, _⟩
  · exact ⟨[], ⟨none, 0, rfl, Nat.le_refl _, rfl, by simp, fun h => absurd h (Nat.lt_irrefl 0)⟩, by simp, by simp⟩
  · obtain ⟨rfl, _⟩ := Prod.mk.inj hx
    rw [DataW.weights, hu] at hw
    dsimp only at hw
    have hB' := hw _ List.mem_cons_self
    rw [hB] at hB'
    simp only [List.length_map, hlen] at hB'
    have hb : len * B ≤ 140737488351232 := Nat.le_trans (Nat.mul_le_mul_right _ (Nat.le_add_right _ _)) hB'
    obtain ⟨l, h1, h2⟩ := choose_list (γ := α) len (fun i y => ∃ c, c.length = d.sz ∧ d.K w y c ∧ (∀ q u, c[q]? = some u → w.cell? (a.add (i * d.sz + q)) = some u) ∧ G y) (fun i hi => by
      have hi' := hel i hi
      rw [List.getElem?_eq_getElem (by omega)] at hi'
      obtain ⟨c, hc1, hc2⟩ := Option.bind_eq_some_iff.1 hi'
      obtain ⟨k1, k2⟩ := cells_all hc1
      obtain ⟨y, y1, y2⟩ := h m (Nat.lt_succ_self _) hc2 (fun x hx => hw x (List.mem_cons_of_mem _ (List.mem_append_left _ (mem_weightsAll (List.mem_map_of_mem (List.getElem_mem (by omega))) x hx))))
      refine ⟨y, c, by rw [k1, hc], y1, fun q u hq => ?_, y2⟩
      have := k2 q u hq
      rw [hc] at this
      rw [← addr_add_add]
      exact this)
    refine ⟨l, ⟨some a, cap, by rw [h1], by omega, rfl, by unfold maxLen at hm; omega, fun _ => ⟨a, rfl, fun j p hp => ?_⟩⟩, fun x hx => ?_, by rw [h1]; exact hb⟩
    · obtain ⟨c, c1, c2, c3, _⟩ := h2 j p hp
      exact ⟨c, c1, c2, c3⟩
    · obtain ⟨i, hi, rfl⟩ := List.getElem_of_mem hx
      obtain ⟨_, _, _, _, g⟩ := h2 i _ (List.getElem?_eq_getElem hi)
      exact g
theorem fields_one {f : Field} {start : Nat} (ho : f.offset = start) (hc : P.cellsOf f.type = d.sz) (h : OpensAt P n f.type d G) : FieldsAt P n [f] start d G := by
  intro H enc w base spare held cs xs hl ht hw hlen
  match xs, hl with
  | [x], _ =>
    have h0 := ht 0 f rfl
    rw [ho, hc, List.take_of_length_le (by rw [List.length_drop]; omega)] at h0
    exact h (dd := x.1) (ps := x.2) h0 (fun y hy => hw y (by simpa [DataW.weightsEach] using hy))
theorem fields_cons {f : Field} {fs : List Field} {start : Nat} {d2 : Kd β} {G2 : β → Prop} (ho : f.offset = start) (hc : P.cellsOf f.type = d.sz) (h : OpensAt P n f.type d G) (h2 : FieldsAt P n fs (start + d.sz) d2 G2) :
    FieldsAt P n (f :: fs) start (Kd.pair d d2) (fun a => G a.1 ∧ G2 a.2) := by
  intro H enc w base spare held cs xs hl ht hw hlen
  match xs, hl with
  | x :: xs, hl =>
    have hs : (Kd.pair d d2).sz = d.sz + d2.sz := rfl
    rw [hs] at hlen
    have h0 := ht 0 f rfl
    rw [ho, hc] at h0
    have hw' : ∀ y ∈ DataW.weights P f.type x.1 ++ DataW.weightsEach P (fs.map Field.type) (xs.map (·.1)), y ≤ reachBytes := by
      intro y hy
      exact hw y (by simpa [DataW.weightsEach] using hy)
    obtain ⟨a, a1, a2⟩ := h (dd := x.1) (ps := x.2) h0 (fun y hy => hw' y (List.mem_append_left _ hy))
    obtain ⟨b, b1, b2⟩ := h2 (cs := cs) (xs := xs) (by simpa using hl) (fun i g hg => ht (i + 1) g hg) (fun y hy => hw' y (List.mem_append_right _ hy)) (by omega)
    refine ⟨(a, b), ⟨(cs.drop start).take d.sz, cs.drop (start + d.sz), ?_, a1, b1⟩, a2, b2⟩
    rw [← List.drop_drop, List.take_append_drop]
theorem opens_struct {fs : Array Field} (hu : P.underlying t = some (.struct fs)) (hc : P.cellsOf t = d.sz) (h : ∀ m, m < n → FieldsAt P m fs.toList 0 d G) : OpensAt P n t d G := by
  intro H enc w base spare held cs dd ps ht hw
  obtain ⟨xs, m, rfl, hx, hl, hxs, hf⟩ := DataW.trod_struct hu ht
  obtain ⟨rfl, _⟩ := Prod.mk.inj hx
  rw [DataW.weights, hu] at hw
  obtain ⟨a, a1, a2⟩ := h m (Nat.lt_succ_self _) (cs := cs) (xs := xs) (by simpa using hxs) (fun i f hi => hf i f (by simpa using hi)) hw (by rw [hl, hc]; omega)
  exact ⟨a, by simpa using a1, a2⟩
end
theorem weights_of {H : Type} {P : Program} {ts : List TypeId} {ds : List (DataW H)} {j : Nat} {t : TypeId} {d : DataW H} (hsz : (DataW.weightsEach P ts ds).all (· ≤ reachBytes) = true) (ht : ts[j]? = some t) (hd : ds[j]? = some d) : ∀ x ∈ d.weights P t, x ≤ reachBytes := by
  intro x hx
  have := List.all_eq_true.1 hsz x (DataW.weights_mem_each ht hd x hx)
  simpa using this
end Go.Proofs.YtlggihnkhimfkaaDoor.Opn
namespace Go.Proofs.YtlggihnkhimfkaaDoor.Opn
open Go.RowKit Go.Proofs.YtlggihnkhimfkaaDoorW.PrintWords Go.Proofs.YtlggihnkhimfkaaDoor.P Go.Proofs.YtlggihnkhimfkaaDoor.Giv Go.Proofs.YtlggihnkhimfkaaDoor.Pure
set_option linter.unusedVariables false
theorem opens_hit : ∀ n, OpensAt Tryd.prog n 52 k52 (fun h => inR h.f0 ∧ inR h.f1) := fun n =>
  OpensAt.map (d := Kd.pair (Kd.int .i64) (Kd.int .i64)) (fun a => (⟨a.1, a.2⟩ : Hit)) (opens_struct Tryd.underlying52 (by kernel_rfl) (fun m hm => fields_cons rfl (by kernel_rfl) (opens_int (by kernel_rfl)) (fields_one rfl (by kernel_rfl) (opens_int (by kernel_rfl))))) (by
    rintro w ⟨a0, a1⟩ cs ⟨_, _, rfl, rfl, rfl⟩ ⟨h0, h1⟩
    exact ⟨k52_mk w ⟨a0, a1⟩, bounds_i64 h0, bounds_i64 h1⟩)
abbrev opK := Kd.pair (Kd.int .i64) (Kd.pair (Kd.int .i64) (Kd.pair (Kd.slice 3 (Kd.int .i64)) (Kd.int .i64)))
abbrev replyK := Kd.pair (Kd.int .i64) (Kd.pair Kd.bool (Kd.slice 52 k52))
theorem opens_op : ∀ n, OpensAt Tryd.prog n 24 opK (fun a => (Lit.int .i64 a.1).wf = true ∧ (Lit.int .i64 a.2.1).wf = true ∧ ((∀ x ∈ a.2.2.1, (Lit.int .i64 x).wf = true) ∧ a.2.2.1.length * 8 ≤ 140737488351232) ∧ (Lit.int .i64 a.2.2.2).wf = true) := fun n =>
  opens_struct Tryd.underlying24 (by kernel_rfl) (fun m hm => fields_cons rfl (by kernel_rfl) (opens_int (by kernel_rfl)) (fields_cons rfl (by kernel_rfl) (opens_int (by kernel_rfl)) (fields_cons rfl (by kernel_rfl) (opens_slice (e := 3) (by kernel_rfl) (by kernel_rfl) 8 (by kernel_rfl) (fun q hq => opens_int (by kernel_rfl))) (fields_one rfl (by kernel_rfl) (opens_int (by kernel_rfl))))))
theorem opens_reply : ∀ n, OpensAt Tryd.prog n 28 replyK (fun a => (Lit.int .i64 a.1).wf = true ∧ True ∧ ((∀ x ∈ a.2.2, inR x.f0 ∧ inR x.f1) ∧ a.2.2.length * 16 ≤ 140737488351232)) := fun n =>
  opens_struct Tryd.underlying28 (by kernel_rfl) (fun m hm => fields_cons rfl (by kernel_rfl) (opens_int (by kernel_rfl)) (fields_cons rfl (by kernel_rfl) (opens_bool (by kernel_rfl)) (fields_one rfl (by kernel_rfl) (opens_slice (e := 52) (by kernel_rfl) (by kernel_rfl) 16 (by kernel_rfl) (fun q hq => opens_hit q)))))
abbrev msgK := Kd.pair (Kd.int .i64) (Kd.pair (Kd.int .i64) (Kd.pair (Kd.int .i64) (Kd.pair (Kd.int .i64) (Kd.pair (Kd.int .i64) (Kd.pair (Kd.int .i64) (Kd.pair (Kd.int .i64) (Kd.pair (Kd.int .i64) (Kd.pair opK (Kd.pair replyK Kd.string)))))))))
abbrev wfI (x : Int) : Prop := (Lit.int .i64 x).wf = true
theorem opens_msg : ∀ n, OpensAt Tryd.prog n 30 msgK (fun a => wfI a.1 ∧ wfI a.2.1 ∧ wfI a.2.2.1 ∧ wfI a.2.2.2.1 ∧ wfI a.2.2.2.2.1 ∧ wfI a.2.2.2.2.2.1 ∧ wfI a.2.2.2.2.2.2.1 ∧ wfI a.2.2.2.2.2.2.2.1 ∧
    (wfI a.2.2.2.2.2.2.2.2.1.1 ∧ wfI a.2.2.2.2.2.2.2.2.1.2.1 ∧ ((∀ x ∈ a.2.2.2.2.2.2.2.2.1.2.2.1, wfI x) ∧ a.2.2.2.2.2.2.2.2.1.2.2.1.length * 8 ≤ 140737488351232) ∧ wfI a.2.2.2.2.2.2.2.2.1.2.2.2) ∧
    (wfI a.2.2.2.2.2.2.2.2.2.1.1 ∧ True ∧ ((∀ x ∈ a.2.2.2.2.2.2.2.2.2.1.2.2, inR x.f0 ∧ inR x.f1) ∧ a.2.2.2.2.2.2.2.2.2.1.2.2.length * 16 ≤ 140737488351232)) ∧ a.2.2.2.2.2.2.2.2.2.2.size ≤ 140737488351232) := fun n =>
  opens_struct Tryd.underlying30 (by kernel_rfl) (fun m hm => fields_cons rfl (by kernel_rfl) (opens_int (by kernel_rfl)) (fields_cons rfl (by kernel_rfl) (opens_int (by kernel_rfl)) (fields_cons rfl (by kernel_rfl) (opens_int (by kernel_rfl)) (fields_cons rfl (by kernel_rfl) (opens_int (by kernel_rfl)) (fields_cons rfl (by kernel_rfl) (opens_int (by kernel_rfl)) (fields_cons rfl (by kernel_rfl) (opens_int (by kernel_rfl)) (fields_cons rfl (by kernel_rfl) (opens_int (by kernel_rfl)) (fields_cons rfl (by kernel_rfl) (opens_int (by kernel_rfl)) (fields_cons rfl (by kernel_rfl) (opens_op m) (fields_cons rfl (by kernel_rfl) (opens_reply m) (fields_one rfl (by kernel_rfl) (opens_string (by kernel_rfl)))))))))))))
set_option maxRecDepth 100000 in
theorem open_msg {H : Type} {enc : TypeId × Value → H} {W : World} {base : Nat} {spare : Nat → Bool} {held : Bool} {v : Value} {d : DataW H} {ps : List MemPlace} {r : Reach} {b0 : Nat}
    (hval : Value.okWide Tryd.prog W r b0 30 v) (hd : DataW.Trod enc Tryd.prog W base spare held 30 v d ps) (hw : ∀ x ∈ d.weights Tryd.prog 30, x ≤ reachBytes) :
    ∃ (m : Ms) (A3 : Option Addr) (c3 : Nat) (A4 : Option Addr) (c4 : Nat), v = .agg #[.int .i64 m.kd, .int .i64 m.sh, .int .i64 m.ep, .int .i64 m.cl, .int .i64 m.sq, .int .i64 m.nn, .int .i64 m.ve, .int .i64 m.li, .int .i64 m.ok, .int .i64 m.id, .slice A3 m.v.length c3, .int .i64 m.kk, .int .i64 m.er, .bool m.was, .slice A4 m.hits.length c4, .string m.text] ∧
      Kd.C (Kd.int .i64) W A3 m.v.length m.v ∧ m.v.length ≤ c3 ∧ Kd.C k52 W A4 m.hits.length m.hits ∧ m.hits.length ≤ c4 ∧ wfM m := by
  obtain ⟨cs, rfl, _⟩ := Go.WideShapes.okWide_struct Tryd.underlying30 hval
  obtain ⟨n, hn⟩ := hd
  obtain ⟨⟨a0, a1, a2, a3, a4, a5, a6, a7, ⟨b0, b1, b2, b3⟩, ⟨e0, e1, e2⟩, tx⟩, hK, h0, h1, h2, h3, h4, h5, h6, h7, ⟨h8, h9, ⟨h10, h10l⟩, h11⟩, ⟨h12, _, ⟨h14, h14l⟩⟩, h15⟩ := opens_msg n hn hw
  obtain ⟨_, _, he, rfl, ⟨_, _, rfl, rfl, ⟨_, _, rfl, rfl, ⟨_, _, rfl, rfl, ⟨_, _, rfl, rfl, ⟨_, _, rfl, rfl, ⟨_, _, rfl, rfl, ⟨_, _, rfl, rfl, ⟨_, _, rfl, ⟨_, _, rfl, rfl, ⟨_, _, rfl, rfl, ⟨_, _, rfl, ⟨A3, c3, rfl, l3, g3⟩, rfl⟩⟩⟩, ⟨_, _, rfl, ⟨_, _, rfl, rfl, ⟨_, _, rfl, rfl, ⟨A4, c4, rfl, l4, g4⟩⟩⟩, rfl⟩⟩⟩⟩⟩⟩⟩⟩⟩⟩ := hK
  dsimp only at h0 h1 h2 h3 h4 h5 h6 h7 h8 h9 h10 h10l h11 h12 h14 h14l h15 l3 g3 l4 g4
  refine ⟨⟨a0, a1, a2, a3, a4, a5, a6, a7, b0, b1, b2, b3, e0, e1, e2, tx⟩, A3, c3, A4, c4, ?_, g3, l3, g4, l4, ?_⟩
  · have : cs.toList = [.int .i64 a0, .int .i64 a1, .int .i64 a2, .int .i64 a3, .int .i64 a4, .int .i64 a5, .int .i64 a6, .int .i64 a7, .int .i64 b0, .int .i64 b1, .slice A3 b2.length c3, .int .i64 b3, .int .i64 e0, .bool e1, .slice A4 e2.length c4, .string tx] := he
    congr 1
    exact Array.toList_inj.1 this
  · refine ⟨?_, fun x hx => bounds_i64 (h10 x hx), bounds_i64 h12, h14, ?_, ?_, h15⟩
    · intro x hx
      simp only [List.mem_cons, List.not_mem_nil, or_false] at hx
      rcases hx with rfl | rfl | rfl | rfl | rfl | rfl | rfl | rfl | rfl | rfl | rfl <;> exact bounds_i64 (by assumption)
    · dsimp only; omega
    · dsimp only; omega
end Go.Proofs.YtlggihnkhimfkaaDoor.Opn
namespace Go.Proofs.YtlggihnkhimfkaaDoor.Lay
open Go.RowKit Go.Lib
def LL : List (String × DataW Unit) := [("math/bits.deBruijn32tab", Rows.laid_math_bits_deBruijn32tab), ("math/bits.deBruijn64tab", Rows.laid_math_bits_deBruijn64tab), ("internal/strconv.uint64pow10", Rows.laid_internal_strconv_uint64pow10), ("strconv.ErrRange", Rows.laid_strconv_ErrRange), ("strconv.ErrSyntax", Rows.laid_strconv_ErrSyntax)]
def cellsOf : DataW Unit → List Value
  | .agg l => l.map fun | .lit (.int k z) => .int k z | _ => .nilIface
  | _ => []
noncomputable def low : Nat := (World.holding Tryd.prog default ⟨#[], #[], []⟩).heap.size
noncomputable def laidWorld (os : Os) : World :=
  let w0 := World.holding Tryd.prog os ⟨#[.cells #[.string ⟨#[118, 97, 108, 117, 101, 32, 111, 117, 116, 32, 111, 102, 32, 114, 97, 110, 103, 101]⟩] 146, .cells #[.string ⟨#[105, 110, 118, 97, 108, 105, 100, 32, 115, 121, 110, 116, 97, 120]⟩] 146], #[], []⟩
  let put (h : Array Obj) (g : Nat) (cs : Array Value) : Array Obj := h.modify g fun
    | .cells _ t frozen => .cells cs t frozen
    | o => o
  let h1 := put w0.heap 1 (cellsOf Rows.laid_math_bits_deBruijn32tab).toArray
  let h2 := put h1 2 (cellsOf Rows.laid_math_bits_deBruijn64tab).toArray
  let h3 := put h2 0 (cellsOf Rows.laid_internal_strconv_uint64pow10).toArray
  let h4 := put h3 4 #[.iface 144 (.pointer (some ⟨low, 0, none⟩))]
  let h5 := put h4 3 #[.iface 144 (.pointer (some ⟨low + 1, 0, none⟩))]
  { w0 with heap := h5 }
theorem laid_met (os : Os) (args : Array Value) : laidMet Tryd.prog LL ((laidWorld os).forCall (fun _ _ => 0) ⟨#[], args, []⟩).memory :=
  (LaidIn.of_run (l := LL) [1, 2, 0, 4, 3, low, low + 1] 8 (by kernel_rfl) (by kernel_rfl) (by kernel_rfl) (by kernel_rfl)).met
def tab64 : List Int := Lib.deBruijn64tab.map Int.ofNat
theorem eqB : (Rows.laid_math_bits_deBruijn64tab : DataW Unit) = Lib.tabData .u8 tab64 := by kernel_rfl
theorem eqP : (Rows.laid_internal_strconv_uint64pow10 : DataW Unit) = Lib.tabData .u64 Lib.pow10Tab := by kernel_rfl
theorem star : "*" ++ "errors.errorString" = "*errors.errorString" := by decide
theorem rowE (u : TypeId) (h : Tryd.prog.typeName? 3 u = some "*errors.errorString") : u = 144 :=
  typeName_ptr_named (nm := "errors.errorString") (by rw [star]; kernel_rfl) (by kernel_rfl) (by decide) u (by rw [star]; exact h)
theorem nR : Tryd.prog.globalNamed "strconv.ErrRange" = some 4 := by kernel_rfl
theorem nS : Tryd.prog.globalNamed "strconv.ErrSyntax" = some 3 := by kernel_rfl
theorem nB : Tryd.prog.globalNamed "math/bits.deBruijn64tab" = some 2 := by kernel_rfl
set_option maxRecDepth 100000 in
theorem tabIs_of_reads {name : String} {k : IntKind} {zs : List Int} {W : World} {g : Nat} {t e : TypeId} {n : Nat} (hg : Tryd.prog.globalNamed name = some g) (hty : (Tryd.prog.globals[g]?).map (·.type) = some t) (ht : Tryd.prog.underlying t = some (.array n e)) (he : Tryd.prog.underlying e = some (.int k)) (hce : Tryd.prog.cellsOf e = 1) (hct : Tryd.prog.cellsOf t = n)
    (h : VarReads Tryd.prog W name (tabData k zs)) : Lib.TabIs Tryd.prog W name k zs := by
  obtain ⟨g', t', cs, fuel, p, h1, h2, h3, h4⟩ := h
  obtain rfl : g' = g := by rw [hg] at h1; exact (Option.some.inj h1).symm
  obtain rfl : t' = t := by rw [hty] at h2; exact (Option.some.inj h2).symm
  have := cells_of_tab ht he hce hct h4
  unfold Lib.TabIs
  rw [h3]
  congr 1
  apply Array.toList_inj.1
  rw [this]
set_option maxRecDepth 100000 in
theorem tabAt_of {W : World} (h : Lib.TabIs Tryd.prog W "math/bits.deBruijn64tab" .u8 tab64) : TabAt 2 Lib.deBruijn64tab W := by
  intro j hj
  have h0 := World.var?_cell nB h j
  rw [h0]
  have hl : Lib.deBruijn64tab.length = 64 := by decide
  simp only [List.getElem?_toArray, List.getElem?_map, tab64]
  rw [List.getElem?_eq_getElem hj]
  simp [List.getD_eq_getElem?_getD, List.getElem?_eq_getElem hj]
set_option maxRecDepth 100000 in
theorem laidW_of {W : World} (hL : laidMetH Tryd.prog LL W) : Giv.LaidW W := by
  have h1 := Lib.laidMet.reads hL (.tail _ (.head _))
  have h0 := Lib.laidMet.reads hL (.tail _ (.tail _ (.head _)))
  rw [eqP] at h0
  rw [eqB] at h1
  have hR := laidMet.tail (laidMet.tail (laidMet.tail hL))
  have hS := laidMet.tail hR
  obtain ⟨a1, s1, hv1, -, -, -⟩ := laid_sentinel hR nR (ti := 89) (by kernel_rfl) Tryd.underlying89 rowE Tryd.underlying144 Tryd.underlying146 rfl rfl Tryd.underlying9 (by kernel_rfl) (by kernel_rfl)
  obtain ⟨a2, s2, hv2, -, -, -⟩ := laid_sentinel hS nS (ti := 89) (by kernel_rfl) Tryd.underlying89 rowE Tryd.underlying144 Tryd.underlying146 rfl rfl Tryd.underlying9 (by kernel_rfl) (by kernel_rfl)
  refine ⟨tabIs_of_reads (t := 124) (e := 115) (n := 20) Giv.pow10_named (by kernel_rfl) Tryd.underlying124 Tryd.underlying115 (by kernel_rfl) (by kernel_rfl) h0, tabAt_of (tabIs_of_reads (t := 137) (e := 5) (n := 64) nB (by kernel_rfl) Tryd.underlying137 Tryd.underlying5 (by kernel_rfl) (by kernel_rfl) h1), ⟨_, by have := World.var?_cell nS hv2 0; simpa using this, .inr ⟨_, _, rfl⟩⟩, ⟨_, by have := World.var?_cell nR hv1 0; simpa using this, .inr ⟨_, _, rfl⟩⟩⟩
theorem own : ownKnob Tryd.prog.godebug = none := by kernel_rfl
theorem laidOut : laidOutB Tryd.prog = true := by kernel_rfl
end Go.Proofs.YtlggihnkhimfkaaDoor.Lay
