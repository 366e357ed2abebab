/- Texts put together by prune.py: PsQ, PsM, PsMg. -/
import Derived.Deep.RegionHeld3
import Derived.Test.YtlggihnkhimfkaaDoorPu10
namespace Go.Proofs.YtlggihnkhimfkaaDoor.Pure
open Go.RowKit Go.Lib Go.Proofs.YtlggihnkhimfkaaDoor.Giv Go.Proofs.YtlggihnkhimfkaaDoor.P Go.Proofs.YtlggihnkhimfkaaDoorW.PrintWords Go.Proofs.YtlggihnkhimfkaaDoorW.PrintLast Go.Proofs.YtlggihnkhimfkaaDoorW.PrintMore
set_option linter.unusedVariables false
set_option linter.unusedSimpArgs false
def zerosM : Ms := ⟨0, 0, 0, 0, 0, 0, 0, 0, 0, 0, [], 0, 0, false, [], ⟨#[]⟩⟩
set_option maxHeartbeats 8000000 in
set_option maxRecDepth 100000 in
theorem awake_gen (m z : Ms) (hm : m = someM) (hw : wfM m) (S : ByteArray) (hp : putV m = (S, 0)) (ht : post_Take.f S = some (m.kd, m.sh, m.ep, m.cl, m.sq, m.nn, m.ve, m.li, m.ok, m.id, m.v, m.kk, m.er, m.was, m.hits, m.text, 0)) (hz : post_Take.f ⟨#[120]⟩ = some (z.kd, z.sh, z.ep, z.cl, z.sq, z.nn, z.ve, z.li, z.ok, z.id, z.v, z.kk, z.er, z.was, z.hits, z.text, 130)) (hs1 : m.v.length ≤ 1000000) (hs2 : m.hits.length ≤ 1000000) (h28 : 28 < (S.size : Int)) (w : World) (hL : LaidW w) :
    Calls Tryd.prog 8 #[] w fun e w' => e = .returned (.bool true) ∧ Below w.heap.size w w' := by
  have HM := Aside0.mk hm
  have HW := Aside0.mk hw
  have HP := Aside0.mk hp
  have HT := Aside0.mk ht
  have HZ := Aside0.mk hz
  have HS1 := Aside0.mk hs1
  have HS2 := Aside0.mk hs2
  have HL := Aside0.mk hL
  clear hm hw hp ht hz hs1 hs2 hL
  go_enter Tryd.func8, Tryd.ntmps8
  go_upto_region 4 with (first | (go_at_call 14; refine (some_c m HM.out _).mono ?_; rintro e w1 ⟨Va, ca, Ha, da, rfl, k1, k2, k3, k4, hb⟩; have HB1 := Aside0.mk hb; have K1 := Aside0.mk k1; have K2 := Aside0.mk k2; have K3 := Aside0.mk k3; have K4 := Aside0.mk k4; clear k1 k2 k3 k4 hb) | (go_at_call 9; refine (put_c m Va ca Ha da _ (LaidW.below HL.out HB1.out) K1.out K2.out K3.out K4.out HW.out S 0 HP.out).mono ?_; rintro e w2 ⟨rfl, hb⟩; have HB2 := Aside0.mk (below_step HB1.out hb); clear hb) | (go_at_call 12; with_reducible refine (take_c S m 0 _ (LaidW.below HL.out HB2.out) HT.out).mono ?_; rintro e w3 ⟨Vb, cb, Hb, db, rfl, k1, k2, k3, k4, hb⟩; have HB3 := Aside0.mk (below_step HB2.out hb); have L1 := Aside0.mk k1; have L2 := Aside0.mk k2; have L3 := Aside0.mk k3; have L4 := Aside0.mk k4; clear k1 k2 k3 k4 hb) | ((with_reducible refine gate_dst (N := 3) rfl ?_); refine box_event ?hg (N := 3) ?hd (cs := #[.int .i64 0, .int .i64 0, .int .i64 0, .int .i64 0, .int .i64 0, .int .i64 0, .int .i64 0, .int .i64 0, .int .i64 0, .int .i64 0, .slice none 0 0, .int .i64 0, .int .i64 0, .bool false, .slice none 0 0, .string ⟨#[]⟩]) (t := 30) ?hr ?_; (case hd => rfl); (case hg => rfl); (case hr => first | (go_simp; done) | (go_simp; rfl)); intro gm hg w4 hbox hb; have HB4 := Aside0.mk (below_step HB3.out hb); have BM4 := Aside0.mk hbox; have HX4 := Aside0.mk (below_step (Below.refl w3.heap.size w3) hb); have GM := Aside0.mk (Nat.le_of_eq hg.symm); clear hg hbox hb) | ((with_reducible refine gate_store (ty := 30) (x := .tmp 3) rfl ?_); refine ev_store rfl rfl 30 (.tmp 3) _ rfl _ rfl gm 30 rfl [.int .i64 m.kd, .int .i64 m.sh, .int .i64 m.ep, .int .i64 m.cl, .int .i64 m.sq, .int .i64 m.nn, .int .i64 m.ve, .int .i64 m.li, .int .i64 m.ok, .int .i64 m.id, .slice Vb m.v.length cb, .int .i64 m.kk, .int .i64 m.er, .bool m.was, .slice Hb m.hits.length db, .string m.text] [.int .i64 0, .int .i64 0, .int .i64 0, .int .i64 0, .int .i64 0, .int .i64 0, .int .i64 0, .int .i64 0, .int .i64 0, .int .i64 0, .slice none 0 0, .int .i64 0, .int .i64 0, .bool false, .slice none 0 0, .string ⟨#[]⟩] rfl rfl (by simp [Value.oneCell']) rfl BM4.out ?_; intro w5 a5 b5; have BM5 := Aside0.mk a5; have HX5 := Aside0.mk (b5.1 _ _ HX4.out GM.out); have HB5 := Aside0.mk (b5.1 _ _ HB4.out (Nat.le_trans (below_size HB3.out) GM.out)); clear a5 b5) | (go_at_call 12; with_reducible refine (take_c ⟨#[120]⟩ z 130 _ (LaidW.below HL.out HB5.out) HZ.out).mono ?_; rintro e w6 ⟨Vz, cz, Hz, dz, rfl, k1, k2, k3, k4, hb⟩; have HB6 := Aside0.mk (below_step HB5.out hb); have HX6 := Aside0.mk (below_step HX5.out hb); have BM6 := Aside0.mk (blk_below BM5.out hb); clear k1 k2 k3 k4 hb) | ((with_reducible refine gate_dst (N := 5) rfl ?_); refine box_event ?hg (N := 5) ?hd (cs := #[.int .i64 0, .int .i64 0, .int .i64 0, .int .i64 0, .int .i64 0, .int .i64 0, .int .i64 0, .int .i64 0, .int .i64 0, .int .i64 0, .slice none 0 0, .int .i64 0, .int .i64 0, .bool false, .slice none 0 0, .string ⟨#[]⟩]) (t := 30) ?hr ?_; (case hd => rfl); (case hg => rfl); (case hr => first | (go_simp; done) | (go_simp; rfl)); intro gz hg w7 hbox hb; have HB7 := Aside0.mk (below_step HB6.out hb); have HX7 := Aside0.mk (below_step HX6.out hb); have BM7 := Aside0.mk (blk_below BM6.out hb); have BZ7 := Aside0.mk hbox; have GZ := Aside0.mk (Nat.le_of_eq hg.symm); have NE := Aside0.mk (show gm ≠ gz from fun h => absurd (blk_lt BM6.out) (by rw [h, hg]; exact Nat.lt_irrefl _)); clear hg hbox hb) | ((with_reducible refine gate_store (ty := 30) (x := .tmp 5) rfl ?_); refine ev_store rfl rfl 30 (.tmp 5) _ rfl _ rfl gz 30 rfl [.int .i64 z.kd, .int .i64 z.sh, .int .i64 z.ep, .int .i64 z.cl, .int .i64 z.sq, .int .i64 z.nn, .int .i64 z.ve, .int .i64 z.li, .int .i64 z.ok, .int .i64 z.id, .slice Vz z.v.length cz, .int .i64 z.kk, .int .i64 z.er, .bool z.was, .slice Hz z.hits.length dz, .string z.text] [.int .i64 0, .int .i64 0, .int .i64 0, .int .i64 0, .int .i64 0, .int .i64 0, .int .i64 0, .int .i64 0, .int .i64 0, .int .i64 0, .slice none 0 0, .int .i64 0, .int .i64 0, .bool false, .slice none 0 0, .string ⟨#[]⟩] rfl rfl (by simp [Value.oneCell']) rfl BZ7.out ?_; intro w8 a8 b8; have HB8 := Aside0.mk (b8.1 _ _ HB7.out (Nat.le_trans (below_size HB6.out) GZ.out)); have HX8 := Aside0.mk (b8.1 _ _ HX7.out (Nat.le_trans (below_size HX6.out) GZ.out)); have BM8 := Aside0.mk (b8.2 _ _ NE.out BM7.out); have cz0 : w8.cell? ⟨gm, 0, none⟩ = some (.int .i64 m.kd) := (blk_cell BM8.out 0).trans rfl; have cz1 : w8.cell? ⟨gm, 1, none⟩ = some (.int .i64 m.sh) := (blk_cell BM8.out 1).trans rfl; have cz2 : w8.cell? ⟨gm, 2, none⟩ = some (.int .i64 m.ep) := (blk_cell BM8.out 2).trans rfl; have cz3 : w8.cell? ⟨gm, 3, none⟩ = some (.int .i64 m.cl) := (blk_cell BM8.out 3).trans rfl; have cz4 : w8.cell? ⟨gm, 4, none⟩ = some (.int .i64 m.sq) := (blk_cell BM8.out 4).trans rfl; have cz5 : w8.cell? ⟨gm, 5, none⟩ = some (.int .i64 m.nn) := (blk_cell BM8.out 5).trans rfl; have cz6 : w8.cell? ⟨gm, 6, none⟩ = some (.int .i64 m.ve) := (blk_cell BM8.out 6).trans rfl; have cz7 : w8.cell? ⟨gm, 7, none⟩ = some (.int .i64 m.li) := (blk_cell BM8.out 7).trans rfl; have cz8 : w8.cell? ⟨gm, 8, none⟩ = some (.int .i64 m.ok) := (blk_cell BM8.out 8).trans rfl; have cz9 : w8.cell? ⟨gm, 9, none⟩ = some (.int .i64 m.id) := (blk_cell BM8.out 9).trans rfl; have cz10 : w8.cell? ⟨gm, 10, none⟩ = some (.slice Vb m.v.length cb) := (blk_cell BM8.out 10).trans rfl; have cz11 : w8.cell? ⟨gm, 11, none⟩ = some (.int .i64 m.kk) := (blk_cell BM8.out 11).trans rfl; have cz12 : w8.cell? ⟨gm, 12, none⟩ = some (.int .i64 m.er) := (blk_cell BM8.out 12).trans rfl; have cz13 : w8.cell? ⟨gm, 13, none⟩ = some (.bool m.was) := (blk_cell BM8.out 13).trans rfl; have cz14 : w8.cell? ⟨gm, 14, none⟩ = some (.slice Hb m.hits.length db) := (blk_cell BM8.out 14).trans rfl; have cz15 : w8.cell? ⟨gm, 15, none⟩ = some (.string m.text) := (blk_cell BM8.out 15).trans rfl; clear a8 b8) | fail)
  have h28' : decide ((S.size : Int) > 28) = true := decide_eq_true h28
  go_region_held3 (fun w' => w'.cell? ⟨gm, 0, none⟩ = some (.int .i64 m.kd) ∧ w'.cell? ⟨gm, 1, none⟩ = some (.int .i64 m.sh) ∧ w'.cell? ⟨gm, 2, none⟩ = some (.int .i64 m.ep) ∧ w'.cell? ⟨gm, 3, none⟩ = some (.int .i64 m.cl) ∧ w'.cell? ⟨gm, 4, none⟩ = some (.int .i64 m.sq) ∧ w'.cell? ⟨gm, 5, none⟩ = some (.int .i64 m.nn) ∧ w'.cell? ⟨gm, 6, none⟩ = some (.int .i64 m.ve) ∧ w'.cell? ⟨gm, 7, none⟩ = some (.int .i64 m.li) ∧ w'.cell? ⟨gm, 8, none⟩ = some (.int .i64 m.ok) ∧ w'.cell? ⟨gm, 9, none⟩ = some (.int .i64 m.id) ∧ w'.cell? ⟨gm, 10, none⟩ = some (.slice Vb m.v.length cb) ∧ w'.cell? ⟨gm, 11, none⟩ = some (.int .i64 m.kk) ∧ w'.cell? ⟨gm, 12, none⟩ = some (.int .i64 m.er) ∧ w'.cell? ⟨gm, 13, none⟩ = some (.bool m.was) ∧ w'.cell? ⟨gm, 14, none⟩ = some (.slice Hb m.hits.length db) ∧ w'.cell? ⟨gm, 15, none⟩ = some (.string m.text)) (go_keep) (first | (go_at_call 14; refine (some_c m HM.out _).mono ?_; rintro e w9 ⟨Vd, cd, Hd, dd, rfl, k1, k2, k3, k4, hb⟩; have HB9 := Aside0.mk (below_step (by first | exact HB8.out | exact below_drew HB8.out | exact pw_below_drewN HB8.out _) hb); have HX9 := Aside0.mk (below_step (by first | exact HX8.out | exact below_drew HX8.out | exact pw_below_drewN HX8.out _) hb); replace cz0 := pw_cell_below hb (show _ from cz0); replace cz1 := pw_cell_below hb (show _ from cz1); replace cz2 := pw_cell_below hb (show _ from cz2); replace cz3 := pw_cell_below hb (show _ from cz3); replace cz4 := pw_cell_below hb (show _ from cz4); replace cz5 := pw_cell_below hb (show _ from cz5); replace cz6 := pw_cell_below hb (show _ from cz6); replace cz7 := pw_cell_below hb (show _ from cz7); replace cz8 := pw_cell_below hb (show _ from cz8); replace cz9 := pw_cell_below hb (show _ from cz9); replace cz10 := pw_cell_below hb (show _ from cz10); replace cz11 := pw_cell_below hb (show _ from cz11); replace cz12 := pw_cell_below hb (show _ from cz12); replace cz13 := pw_cell_below hb (show _ from cz13); replace cz14 := pw_cell_below hb (show _ from cz14); replace cz15 := pw_cell_below hb (show _ from cz15); have M1 := Aside0.mk k1; have M2 := Aside0.mk k2; have M3 := Aside0.mk k3; have M4 := Aside0.mk k4; clear k1 k2 k3 k4 hb) | (go_at_call 13; refine (same_c m m Vb cb Hb db Vd cd Hd dd _ (Kd.C_below L1.out (by first | exact HX9.out | exact below_drew HX9.out | exact pw_below_drewN HX9.out _)) L2.out (Kd.C_below L3.out (by first | exact HX9.out | exact below_drew HX9.out | exact pw_below_drewN HX9.out _)) L4.out (by first | exact M1.out | exact Kd.C_drew M1.out | exact Kd.C_drewN M1.out _) M2.out (by first | exact M3.out | exact Kd.C_drew M3.out | exact Kd.C_drewN M3.out _) M4.out HS1.out HS2.out true (iff_of_true rfl rfl)).mono ?_; rintro e w10 ⟨rfl, hb⟩; have HB10 := Aside0.mk (below_step (by first | exact HB9.out | exact below_drew HB9.out | exact pw_below_drewN HB9.out _) hb); replace cz0 := pw_cell_below hb (show _ from cz0); replace cz1 := pw_cell_below hb (show _ from cz1); replace cz2 := pw_cell_below hb (show _ from cz2); replace cz3 := pw_cell_below hb (show _ from cz3); replace cz4 := pw_cell_below hb (show _ from cz4); replace cz5 := pw_cell_below hb (show _ from cz5); replace cz6 := pw_cell_below hb (show _ from cz6); replace cz7 := pw_cell_below hb (show _ from cz7); replace cz8 := pw_cell_below hb (show _ from cz8); replace cz9 := pw_cell_below hb (show _ from cz9); replace cz10 := pw_cell_below hb (show _ from cz10); replace cz11 := pw_cell_below hb (show _ from cz11); replace cz12 := pw_cell_below hb (show _ from cz12); replace cz13 := pw_cell_below hb (show _ from cz13); replace cz14 := pw_cell_below hb (show _ from cz14); replace cz15 := pw_cell_below hb (show _ from cz15); clear hb))
  go_wp2
  go_ret
  exact ⟨rfl, HB10.out⟩
theorem awake_c (w : World) (hL : LaidW w) : Calls Tryd.prog 8 #[] w fun e w' => e = .returned (.bool true) ∧ Below w.heap.size w w' :=
  awake_gen someM zerosM rfl some_wf (msgT someM) (if_pos some_may) (take_msg someM some_wf some_may) x_bad (by decide) (by decide) (by have := msgT_30 someM; omega) w hL
theorem is_c (l : List Int) (A : Option Addr) (c : Nat) (w : World) (hC : Kd.C (Kd.int .i64) w A l.length l) (hc : l.length ≤ c) (hl : l.length ≤ 1000000) (b : Bool) (hb : isV l = b) :
    Calls Tryd.prog 40 #[.slice A l.length c] w fun e w' => e = .returned (.bool b) ∧ Below w.heap.size w w' := by
  obtain ⟨k, hk⟩ := (is_ev l hl).rounds
  refine (ploverref05_Is.calls k A c l b w hC hc (by rw [hk, hb])).mono ?_
  rintro e w' ⟨he, n, hn⟩
  exact ⟨he, hn ▸ pw_below_drewN (Below.refl _ _) n⟩
def bad13 (m : Ms) : Bool := decide (m.kd < 1) || decide (m.kd > 19) || decide (m.sh < 0) || decide (m.sh > 15) || (decide (0 < m.v.length) && !isV m.v)
theorem may_odd {m : Ms} {r : Bool} (hr : mayB m = r) {x : Int} (hx : x ∈ six m.ep m.cl m.sq m.nn m.ve m.li) (ho : x < 0 ∨ x > 1099511627776) : r = false := by
  rw [← hr]
  refine Bool.eq_false_iff.2 fun h => ?_
  have h1 := ((mayB_iff m).1 h).1
  rw [List.any_eq_false] at h1
  exact h1 x hx (by simp [oddP]; omega)
theorem may_hit {m : Ms} {r : Bool} (hr : mayB m = r) (i : Nat) (hi : i < m.hits.length) (ho : m.hits[i].f1 < 0 ∨ m.hits[i].f1 > 1099511627776 ∨ 64 ≤ i) : r = false := by
  rw [← hr]
  refine Bool.eq_false_iff.2 fun h => ?_
  obtain ⟨h1, h2⟩ := ((mayB_iff m).1 h).2.1
  have h3 := h1 m.hits[i] (List.getElem_mem hi)
  simp [oddP] at h3
  omega
theorem may_bad {m : Ms} {r : Bool} (hr : mayB m = r) (h : bad13 m = true) : r = false := by
  rw [← hr]
  refine Bool.eq_false_iff.2 fun hm => ?_
  have h2 := ((mayB_iff m).1 hm).2.2
  unfold lastP at h2
  simp [bad13] at h
  rcases h with ((((h | h) | h) | h) | h)
  · omega
  · omega
  · omega
  · omega
  · have := h2.2.2.2.2.1 (by omega)
    rw [this] at h
    simp at h
theorem may_last {m : Ms} {r : Bool} (hr : mayB m = r) (h : ¬ (m.ok ≥ 0 ∧ m.ok ≤ 3 ∧ m.kk ≥ 0 ∧ m.kk ≤ 64 ∧ m.er ≥ 0 ∧ m.er ≤ 255 ∧ (m.text.size : Int) ≤ 262144)) : r = false := by
  rw [← hr]
  refine Bool.eq_false_iff.2 fun hm => ?_
  have h2 := ((mayB_iff m).1 hm).2.2
  unfold lastP at h2
  exact h h2.2.2.2.2.2
theorem may_all {m : Ms} {r : Bool} (hr : mayB m = r) (L : List Int) (hL : L = [m.ep, m.cl, m.sq, m.nn, m.ve, m.li]) (h1 : ∀ i, i < L.length → oddP (L.getD i 0) = false) (h2 : ∀ i, i < m.hits.length → oddP (m.hits.getD i z52).f1 = false ∧ i < 64) (h3 : bad13 m = false) (h4 : m.ok ≥ 0 ∧ m.ok ≤ 3 ∧ m.kk ≥ 0 ∧ m.kk ≤ 64 ∧ m.er ≥ 0 ∧ m.er ≤ 255 ∧ (m.text.size : Int) ≤ 262144) : r = true := by
  rw [← hr]
  refine (mayB_iff m).2 ⟨?_, ⟨?_, ?_⟩, ?_⟩
  · rw [List.any_eq_false]
    intro x hx
    have hx2 : x ∈ L := by rw [hL]; exact hx
    obtain ⟨i, hi, rfl⟩ := List.getElem_of_mem hx2
    have := h1 i hi
    rw [List.getD_eq_getElem?_getD, List.getElem?_eq_getElem hi] at this
    simpa using this
  · intro x hx
    obtain ⟨i, hi, rfl⟩ := List.getElem_of_mem hx
    have := (h2 i hi).1
    rwa [List.getD_eq_getElem?_getD, List.getElem?_eq_getElem hi] at this
  · rcases Nat.lt_or_ge 64 m.hits.length with h | h
    · exact absurd (h2 64 h).2 (by decide)
    · exact h
  · unfold lastP
    simp [bad13] at h3
    refine ⟨by omega, by omega, by omega, by omega, fun hp => ?_, h4⟩
    have := h3.2
    cases hv : isV m.v with
    | true => rfl
    | false =>
      rw [hv] at this
      simp at this
      rw [this] at hp
      simp at hp
set_option maxHeartbeats 16000000 in
set_option maxRecDepth 100000 in
theorem may_hand (m : Ms) (Av : Option Addr) (cv : Nat) (Ah : Option Addr) (ch : Nat) (w : World) (hv : Kd.C (Kd.int .i64) w Av m.v.length m.v) (hcv : m.v.length ≤ cv) (hh : Kd.C k52 w Ah m.hits.length m.hits) (hch : m.hits.length ≤ ch) (hs1 : m.hits.length ≤ 1000000) (hs2 : m.v.length ≤ 1000000) (r : Bool) (hr : mayB m = r) :
  Calls Tryd.prog 21 #[.agg #[.int .i64 m.kd, .int .i64 m.sh, .int .i64 m.ep, .int .i64 m.cl, .int .i64 m.sq, .int .i64 m.nn, .int .i64 m.ve, .int .i64 m.li, .int .i64 m.ok, .int .i64 m.id, .slice Av m.v.length cv, .int .i64 m.kk, .int .i64 m.er, .bool m.was, .slice Ah m.hits.length ch, .string m.text]] w fun e w' => e = .returned (.bool r) ∧ Below w.heap.size w w' := by
 have HV := Aside0.mk hv
 have HH := Aside0.mk hh
 have HCV := Aside0.mk hcv
 have HS1 := Aside0.mk hs1
 have HS2 := Aside0.mk hs2
 have HR := Aside0.mk hr
 clear hv hh hcv hch hs1 hs2 hr
 obtain ⟨L, hL6⟩ : ∃ L : List Int, L = [m.ep, m.cl, m.sq, m.nn, m.ve, m.li] := ⟨_, rfl⟩
 have HL6 := Aside0.mk hL6
 have hLn : L.length = 6 := by rw [hL6]; rfl
 clear hL6
 go_enter Tryd.func21, Tryd.ntmps21
 go_upto_region 1 with (first | ((with_reducible refine gate_dst (N := 1) rfl ?_); refine box_event ?hg (N := 1) ?hd (cs := #[.int .i64 m.kd, .int .i64 m.sh, .int .i64 m.ep, .int .i64 m.cl, .int .i64 m.sq, .int .i64 m.nn, .int .i64 m.ve, .int .i64 m.li, .int .i64 m.ok, .int .i64 m.id, .slice Av m.v.length cv, .int .i64 m.kk, .int .i64 m.er, .bool m.was, .slice Ah m.hits.length ch, .string m.text]) (t := 30) ?hr ?_; (case hd => rfl); (case hg => rfl); (case hr => first | (go_simp; done) | (go_simp; rfl)); intro gb hg w1 hbox hb; have HB1 := Aside0.mk (below_step (Below.refl w.heap.size w) hb); have BK1 := Aside0.mk hbox; clear hg hbox hb) | fail)
 have cz2 : w1.cell? ⟨gb, 2, none⟩ = some (.int .i64 m.ep) := (blk_cell BK1.out 2).trans rfl
 have cz3 : w1.cell? ⟨gb, 3, none⟩ = some (.int .i64 m.cl) := (blk_cell BK1.out 3).trans rfl
 have cz4 : w1.cell? ⟨gb, 4, none⟩ = some (.int .i64 m.sq) := (blk_cell BK1.out 4).trans rfl
 have cz5 : w1.cell? ⟨gb, 5, none⟩ = some (.int .i64 m.nn) := (blk_cell BK1.out 5).trans rfl
 have cz6 : w1.cell? ⟨gb, 6, none⟩ = some (.int .i64 m.ve) := (blk_cell BK1.out 6).trans rfl
 have cz7 : w1.cell? ⟨gb, 7, none⟩ = some (.int .i64 m.li) := (blk_cell BK1.out 7).trans rfl
 go_upto_region 2 with (first | ((with_reducible refine gate_dst (N := 19) rfl ?_); refine Kd.R_lit (Kd.int .i64) _ 3 ?hg (N := 19) ?hd (xs := [m.ep, m.cl, m.sq, m.nn, m.ve, m.li]) (inner := [.int .i64 m.ep, .int .i64 m.cl, .int .i64 m.sq, .int .i64 m.nn, .int .i64 m.ve, .int .i64 m.li]) (ok := fun _ => True) (okp := fun _ => True) ?hr ?hp (fun _ hk => hk) trivial (Below.refl _ _) (Nat.le_refl _) (by simp) ?_; (case hd => rfl); (case hg => rfl); (case hr => first | (go_simp; done) | (go_simp; rfl)); (case hp => exact (Reps.one (show Kd.M (Kd.int .i64) _ _ _ m.ep [.int .i64 m.ep] from rfl) (Reps.one (show Kd.M (Kd.int .i64) _ _ _ m.cl [.int .i64 m.cl] from rfl) (Reps.one (show Kd.M (Kd.int .i64) _ _ _ m.sq [.int .i64 m.sq] from rfl) (Reps.one (show Kd.M (Kd.int .i64) _ _ _ m.nn [.int .i64 m.nn] from rfl) (Reps.one (show Kd.M (Kd.int .i64) _ _ _ m.ve [.int .i64 m.ve] from rfl) (Reps.one (show Kd.M (Kd.int .i64) _ _ _ m.li [.int .i64 m.li] from rfl) (Reps.none _ _)))))))); intro v4 w4 ho hb hg_ hnew_; clear hg_ hnew_; rw [← HL6.out] at ho; obtain ⟨Al, cl6, rfl⟩ := Kd.R_slice ho; have CL := Aside0.mk (Kd.R_reads' ho).2.2; have HB4 := Aside0.mk (below_step HB1.out hb); have BK4 := Aside0.mk (blk_below BK1.out hb); clear ho hb) | fail)
 clear cz2 cz3 cz4 cz5 cz6 cz7
 have HM := Aside0.mk hLn
 go_wp2_with fail
 go_loop [4] (fun v => ∃ i : Nat, i ≤ L.length ∧ v = .int .i64 i ∧ Veil (∀ j, j < i → oddP (L.getD j 0) = false)) (fun v => L.length - (Go.RowKit.intOf v).toNat)
 case atStart => exact ⟨0, Nat.zero_le _, rfl, veil (fun j hj => by omega)⟩
 case round =>
  obtain ⟨i, hi, rfl, Hi⟩ := hrel
  by_cases hlt : i < L.length
  ·
   obtain ⟨ad, rfl, hcell⟩ := Kd.at_int CL.out (i : Int) (by omega) (by omega)
   rw [rdI L i hlt, Int.toNat_natCast] at hcell
   have HX := Aside0.mk ((show ∀ x, x ∈ L → x ∈ six m.ep m.cl m.sq m.nn m.ve m.li from fun x hx => by rw [HL6.out] at hx; exact hx) L[i] (List.getElem_mem hlt))
   have HG := Aside0.mk (show L.getD i 0 = L[i] by simp [hlt])
   generalize L[i] = x at *
   by_cases h1 : x < 0
   ·
    obtain rfl := may_odd HR.out HX.out (.inl h1)
    go_wp2
    go_ret
    exact ⟨rfl, HB4.out⟩
   ·
    by_cases h2 : x > 1099511627776
    ·
     obtain rfl := may_odd HR.out HX.out (.inr h2)
     go_wp2
     go_ret
     exact ⟨rfl, HB4.out⟩
    ·
     have HO := Aside0.mk (show oddP x = false by simp [oddP]; omega)
     go_wp2
     go_round
     case rel =>
      refine ⟨i + 1, by omega, by go_num, veil fun j hj => ?_⟩
      by_cases e : j = i
      ·
       subst e; rw [HG.out]; exact HO.out
      ·
       exact Hi.out j (by omega)
     case measure => simp [Go.RowKit.intOf]; omega
  ·
   obtain rfl : i = L.length := by omega
   have c14 : w4.cell? ⟨gb, 14, none⟩ = some (.slice Ah m.hits.length ch) := (blk_cell BK4.out 14).trans rfl
   have hL2 : ¬ ((L.length : Int) < (L.length : Int)) := by omega
   go_wp2_with fail
   go_loop [5] (fun v => ∃ i : Nat, i ≤ m.hits.length ∧ v = .int .i64 i ∧ Veil (∀ j, j < i → oddP (m.hits.getD j z52).f1 = false ∧ j < 64)) (fun v => m.hits.length - (Go.RowKit.intOf v).toNat)
   case atStart => exact ⟨0, Nat.zero_le _, rfl, veil (fun j hj => by omega)⟩
   case round =>
    obtain ⟨i, hi2, rfl, Hj⟩ := hrel
    have hS := HS1.out
    by_cases hlt2 : i < m.hits.length
    ·
     obtain ⟨ad, rfl, c0, c1⟩ := at_T52 (Kd.C_below HH.out HB4.out) (i : Int) (by omega) (by omega)
     rw [rdH m.hits i hlt2, Int.toNat_natCast] at c0 c1
     have HT := Aside0.mk (fun ho => may_hit HR.out i hlt2 ho)
     have HG := Aside0.mk (show (m.hits.getD i z52) = m.hits[i] by simp [hlt2])
     generalize m.hits[i] = p at *
     obtain ⟨x0, x1⟩ := p
     simp only at c0 c1 HT
     by_cases h1 : x1 < 0
     ·
      obtain rfl := HT.out (.inl h1)
      go_wp2
      go_ret
      exact ⟨rfl, HB4.out⟩
     ·
      by_cases h2 : x1 > 1099511627776
      ·
       obtain rfl := HT.out (.inr (.inl h2))
       go_wp2
       go_ret
       exact ⟨rfl, HB4.out⟩
      ·
       by_cases h3 : (i : Int) ≥ 64
       ·
        obtain rfl := HT.out (.inr (.inr (by omega)))
        go_wp2
        go_ret
        exact ⟨rfl, HB4.out⟩
       ·
        have HO := Aside0.mk (show oddP x1 = false by simp [oddP]; omega)
        clear HT
        go_wp2
        go_round
        case rel =>
         refine ⟨i + 1, by omega, by go_num, veil fun j hj => ?_⟩
         by_cases e : j = i
         ·
          subst e; rw [HG.out]; exact ⟨HO.out, by omega⟩
         ·
          exact Hj.out j (by omega)
        case measure => simp [Go.RowKit.intOf]; omega
    ·
     obtain rfl : i = m.hits.length := by omega
     have hL3 : ¬ ((m.hits.length : Int) < (m.hits.length : Int)) := by omega
     go_upto_region 13 with fail
     clear c14
     go_cut [94] (fun v wc => v = .bool (bad13 m) ∧ Aside0 (wc.heap[gb]? = some (.cells #[.int .i64 m.kd, .int .i64 m.sh, .int .i64 m.ep, .int .i64 m.cl, .int .i64 m.sq, .int .i64 m.nn, .int .i64 m.ve, .int .i64 m.li, .int .i64 m.ok, .int .i64 m.id, .slice Av m.v.length cv, .int .i64 m.kk, .int .i64 m.er, .bool m.was, .slice Ah m.hits.length ch, .string m.text] 30 (0, 0))) ∧ Aside0 (Below w.heap.size w wc))
     case first =>
      have cz0 : w4.cell? ⟨gb, 0, none⟩ = some (.int .i64 m.kd) := (blk_cell BK4.out 0).trans rfl
      have cz1 : w4.cell? ⟨gb, 1, none⟩ = some (.int .i64 m.sh) := (blk_cell BK4.out 1).trans rfl
      have cz10 : w4.cell? ⟨gb, 10, none⟩ = some (.slice Av m.v.length cv) := (blk_cell BK4.out 10).trans rfl
      have BKc := BK4
      have HBc := HB4
      by_cases g0 : m.kd < 1
      ·
       have e : bad13 m = true := by simp [bad13]; omega
       go_wp2
       go_meet
       case rel => exact ⟨congrArg Value.bool e.symm, BK4, HB4⟩
      by_cases g1 : m.kd > 19
      ·
       have e : bad13 m = true := by simp [bad13]; omega
       go_wp2
       go_meet
       case rel => exact ⟨congrArg Value.bool e.symm, BK4, HB4⟩
      by_cases g2 : m.sh < 0
      ·
       have e : bad13 m = true := by simp [bad13]; omega
       go_wp2
       go_meet
       case rel => exact ⟨congrArg Value.bool e.symm, BK4, HB4⟩
      by_cases g3 : m.sh > 15
      ·
       have e : bad13 m = true := by simp [bad13]; omega
       go_wp2
       go_meet
       case rel => exact ⟨congrArg Value.bool e.symm, BK4, HB4⟩
      by_cases g4 : (m.v.length : Int) > 0
      ·
       cases hI : isV m.v with
       | false =>
        have HI := Aside0.mk hI
        have e : bad13 m = true := by simp [bad13, hI]; omega
        clear hI
        go_wp2_with (first | (go_at_call 40; refine (is_c m.v Av cv _ (Kd.C_below HV.out HBc.out) HCV.out HS2.out _ HI.out).mono ?_; rintro e w5 ⟨rfl, hb⟩; have BK5 := Aside0.mk (blk_below BKc.out hb); have HB5 := Aside0.mk (below_step HBc.out hb); clear hb) | fail)
        go_meet
        case rel => exact ⟨congrArg Value.bool e.symm, BK5, HB5⟩
       | true =>
        have HI := Aside0.mk hI
        have e : bad13 m = false := by simp [bad13, hI]; omega
        clear hI
        go_wp2_with (first | (go_at_call 40; refine (is_c m.v Av cv _ (Kd.C_below HV.out HBc.out) HCV.out HS2.out _ HI.out).mono ?_; rintro e w5 ⟨rfl, hb⟩; have BK5 := Aside0.mk (blk_below BKc.out hb); have HB5 := Aside0.mk (below_step HBc.out hb); clear hb) | fail)
        go_meet
        case rel => exact ⟨congrArg Value.bool e.symm, BK5, HB5⟩
      ·
       have e : bad13 m = false := by simp [bad13]; omega
       go_wp2
       go_meet
       case rel => exact ⟨congrArg Value.bool e.symm, BK4, HB4⟩
     case rest =>
      obtain ⟨rfl, BKr, HBr⟩ := hcut
      have cz8 : wc.cell? ⟨gb, 8, none⟩ = some (.int .i64 m.ok) := (blk_cell BKr.out 8).trans rfl
      have cz11 : wc.cell? ⟨gb, 11, none⟩ = some (.int .i64 m.kk) := (blk_cell BKr.out 11).trans rfl
      have cz12 : wc.cell? ⟨gb, 12, none⟩ = some (.int .i64 m.er) := (blk_cell BKr.out 12).trans rfl
      have cz15 : wc.cell? ⟨gb, 15, none⟩ = some (.string m.text) := (blk_cell BKr.out 15).trans rfl
      cases hb13 : bad13 m with
      | true =>
       obtain rfl := may_bad HR.out hb13
       as_aux_lemma =>
       go_wp2
       go_ret
       exact ⟨rfl, HBr.out⟩
      | false =>
       by_cases n0 : ¬ (m.ok ≥ 0)
       ·
        obtain rfl := may_last HR.out (fun h => n0 h.1)
        as_aux_lemma =>
        go_wp2
        go_ret
        exact ⟨rfl, HBr.out⟩
       have g0 := Decidable.not_not.1 n0
       clear n0
       by_cases n1 : ¬ (m.ok ≤ 3)
       ·
        obtain rfl := may_last HR.out (fun h => n1 h.2.1)
        as_aux_lemma =>
        go_wp2
        go_ret
        exact ⟨rfl, HBr.out⟩
       have g1 := Decidable.not_not.1 n1
       clear n1
       by_cases n2 : ¬ (m.kk ≥ 0)
       ·
        obtain rfl := may_last HR.out (fun h => n2 h.2.2.1)
        as_aux_lemma =>
        go_wp2
        go_ret
        exact ⟨rfl, HBr.out⟩
       have g2 := Decidable.not_not.1 n2
       clear n2
       by_cases n3 : ¬ (m.kk ≤ 64)
       ·
        obtain rfl := may_last HR.out (fun h => n3 h.2.2.2.1)
        as_aux_lemma =>
        go_wp2
        go_ret
        exact ⟨rfl, HBr.out⟩
       have g3 := Decidable.not_not.1 n3
       clear n3
       by_cases n4 : ¬ (m.er ≥ 0)
       ·
        obtain rfl := may_last HR.out (fun h => n4 h.2.2.2.2.1)
        as_aux_lemma =>
        go_wp2
        go_ret
        exact ⟨rfl, HBr.out⟩
       have g4 := Decidable.not_not.1 n4
       clear n4
       by_cases n5 : ¬ (m.er ≤ 255)
       ·
        obtain rfl := may_last HR.out (fun h => n5 h.2.2.2.2.2.1)
        as_aux_lemma =>
        go_wp2
        go_ret
        exact ⟨rfl, HBr.out⟩
       have g5 := Decidable.not_not.1 n5
       clear n5
       by_cases n6 : ¬ ((m.text.size : Int) ≤ 262144)
       ·
        obtain rfl := may_last HR.out (fun h => n6 h.2.2.2.2.2.2)
        as_aux_lemma =>
        go_wp2
        go_ret
        exact ⟨rfl, HBr.out⟩
       have g6 := Decidable.not_not.1 n6
       clear n6
       obtain rfl := may_all HR.out L HL6.out Hi.out Hj.out hb13 ⟨g0, g1, g2, g3, g4, g5, g6⟩
       as_aux_lemma =>
       go_wp2
       go_ret
       exact ⟨rfl, HBr.out⟩
end Go.Proofs.YtlggihnkhimfkaaDoor.Pure
namespace Go.Proofs.YtlggihnkhimfkaaDoor.Giv
open Go.RowKit Go.Lib Go.Proofs.YtlggihnkhimfkaaDoorW.PrintWords
def gMay13.f (a0_0 a0_1 a0_2 a0_3 a0_4 a0_5 a0_6 a0_7 a0_8 a0_9 : Int) (l0_10 : List Int) (a0_11 a0_12 : Int) (a0_13 : Bool) (l0_14 : List P.S52) (a0_15 : ByteArray) : Option Bool :=
  if l0_14.length ≤ 1000000 ∧ l0_10.length ≤ 1000000 then some (mayM a0_0 a0_1 a0_2 a0_3 a0_4 a0_5 a0_6 a0_7 a0_8 a0_9 l0_10 a0_11 a0_12 a0_13 l0_14 a0_15) else none
theorem gMay13.calls (a0_0 a0_1 a0_2 a0_3 a0_4 a0_5 a0_6 a0_7 a0_8 a0_9 : Int) (A0_10 : Option Addr) (c0_10 : Nat) (l0_10 : List Int) (a0_11 a0_12 : Int) (a0_13 : Bool) (A0_14 : Option Addr) (c0_14 : Nat) (l0_14 : List P.S52) (a0_15 : ByteArray) (r : Bool) (w : World) (hr0_10 : Kd.C (Kd.int .i64) w A0_10 l0_10.length l0_10) (hc0_10 : l0_10.length ≤ c0_10) (hr0_14 : Kd.C P.k52 w A0_14 l0_14.length l0_14) (hc0_14 : l0_14.length ≤ c0_14) (h : gMay13.f a0_0 a0_1 a0_2 a0_3 a0_4 a0_5 a0_6 a0_7 a0_8 a0_9 l0_10 a0_11 a0_12 a0_13 l0_14 a0_15 = some r) :
    Calls Tryd.prog 21 #[.agg #[.int .i64 a0_0, .int .i64 a0_1, .int .i64 a0_2, .int .i64 a0_3, .int .i64 a0_4, .int .i64 a0_5, .int .i64 a0_6, .int .i64 a0_7, .int .i64 a0_8, .int .i64 a0_9, .slice A0_10 l0_10.length c0_10, .int .i64 a0_11, .int .i64 a0_12, .bool a0_13, .slice A0_14 l0_14.length c0_14, .string a0_15]] w fun e w' => e = .returned (.bool r) ∧ Below w.heap.size w w' := by
  unfold gMay13.f at h
  split at h
  · rename_i hc
    exact Pure.may_hand ⟨a0_0, a0_1, a0_2, a0_3, a0_4, a0_5, a0_6, a0_7, a0_8, a0_9, l0_10, a0_11, a0_12, a0_13, l0_14, a0_15⟩ A0_10 c0_10 A0_14 c0_14 w hr0_10 hc0_10 hr0_14 hc0_14 hc.1 hc.2 r (Option.some.inj h)
  · cases h
end Go.Proofs.YtlggihnkhimfkaaDoor.Giv
