/- Texts put together by prune.py: PsB, AwX, PsC. -/
import Derived.Test.YtlggihnkhimfkaaDoorAp8
namespace Go.Proofs.YtlggihnkhimfkaaDoor.Pure
open Go.RowKit Go.Lib Go.Proofs.YtlggihnkhimfkaaDoor.Giv Go.Proofs.YtlggihnkhimfkaaDoor.P Go.Proofs.YtlggihnkhimfkaaDoorW.PrintWords Go.Proofs.YtlggihnkhimfkaaDoorW.PrintLast Go.Proofs.YtlggihnkhimfkaaDoorW.PrintMore
set_option linter.unusedVariables false
set_option linter.unusedSimpArgs false
def inR (n : Int) : Prop := -9223372036854775808 ≤ n ∧ n ≤ 9223372036854775807
def wfM (m : Ms) : Prop := (∀ x ∈ [m.kd, m.sh, m.ep, m.cl, m.sq, m.nn, m.ve, m.li, m.ok, m.id, m.kk], inR x) ∧ (∀ x ∈ m.v, inR x) ∧ inR m.er ∧ (∀ h ∈ m.hits, inR h.f0 ∧ inR h.f1) ∧ m.v.length ≤ 140737488351232 ∧ m.hits.length ≤ 140737488351232 ∧ m.text.size ≤ 140737488351232
theorem okVs_app (L R : List V) : okVs (L ++ R) = true ↔ okVs L = true ∧ okVs R = true := by
  induction L with
  | nil => rw [List.nil_append, okVs_nil]; simp
  | cons x xs ih => rw [List.cons_append, okVs_cons, okVs_cons, ih, and_assoc]
theorem nrms_app (L R : List V) : nrms (L ++ R) = nrms L ++ nrms R := by
  induction L with
  | nil => rw [List.nil_append, nrms_nil]; rfl
  | cons x xs ih => rw [List.cons_append, nrms_cons, nrms_cons, ih]; rfl
theorem nrm_int (n : Int) : nrm (intV n) = intV n := by rw [nrm_eq]; rfl
theorem nrm_lis (L : List V) : nrm (lisV L) = lisV (nrms L) := by rw [nrm_eq]; rfl
theorem wt_int (n : Int) : wt (intV n) = 30 := by rw [wt_eq, show (intV n).f3 = [] from rfl, wts_nil]; rfl
theorem wt_lis (L : List V) : wt (lisV L) = 30 + wts L := by rw [wt_eq]; rfl
theorem enc_int_len (n : Int) (h : inR n) : (enc (intV n)).length ≤ 22 := by
  have := itoa_len h.1 h.2
  rw [enc_int]; simp; omega
theorem ints_facts : ∀ (l : List Int), (∀ x ∈ l, inR x) → kins (l.map intV) = true ∧ okVs (l.map intV) = true ∧ deps (l.map intV) = 0 ∧ nrms (l.map intV) = l.map intV ∧ wts (l.map intV) = 30 * l.length ∧ (encs (l.map intV)).length ≤ 22 * l.length
  | [], _ => ⟨kins_nil, okVs_nil, deps_nil, nrms_nil, by rw [List.map_nil, wts_nil]; rfl, by rw [List.map_nil, encs_nil]; simp⟩
  | x :: l, h => by
    obtain ⟨h1, h2, h3, h4, h5, h6⟩ := ints_facts l (fun y hy => h y (List.mem_cons_of_mem _ hy))
    have hx := h x (List.mem_cons_self ..)
    have hl := enc_int_len x hx
    rw [List.map_cons, kins_cons, okVs_cons, deps_cons, nrms_cons, wts_cons, encs_cons, kin_int, h1, h3, h4, h5, dep_int, nrm_int, wt_int, List.length_append, List.length_cons]
    exact ⟨rfl, ⟨ok_int hx.1 hx.2, h2⟩, rfl, rfl, by omega, by omega⟩
def msgV (m : Ms) : V := lisV (msgL m.kd m.sh m.ep m.cl m.sq m.nn m.ve m.li m.ok m.id m.v m.kk m.er m.was m.hits)
theorem msgL_eq (m : Ms) : msgL m.kd m.sh m.ep m.cl m.sq m.nn m.ve m.li m.ok m.id m.v m.kk m.er m.was m.hits = [m.kd, m.sh, m.ep, m.cl, m.sq, m.nn, m.ve, m.li, m.ok, m.id, m.kk].map intV ++ [lisV (m.v.map intV), intV m.er, intV (if m.was = true then 1 else 0), lisV ((flatHits m.hits).map intV)] := rfl
theorem flat_mem : ∀ (l : List Hit), (∀ h ∈ l, inR h.f0 ∧ inR h.f1) → ∀ x ∈ flatHits l, inR x
  | [], _, x, hx => by cases hx
  | h :: l, hh, x, hx => by
    have e : flatHits (h :: l) = h.f0 :: h.f1 :: flatHits l := by simp [flatHits]
    rw [e] at hx
    rcases List.mem_cons.1 hx with rfl | hx
    · exact (hh h (List.mem_cons_self ..)).1
    · rcases List.mem_cons.1 hx with rfl | hx
      · exact (hh h (List.mem_cons_self ..)).2
      · exact flat_mem l (fun y hy => hh y (List.mem_cons_of_mem _ hy)) x hx
theorem may_small' {m : Ms} (hm : mayB m = true) : m.v.length ≤ 16 ∧ m.hits.length ≤ 64 ∧ m.text.size ≤ 262144 := by
  have h := may_small hm
  have h2 := ((mayB_iff m).1 hm).2.2
  unfold lastP at h2
  exact ⟨h.1, h.2, by omega⟩
theorem msg_facts (m : Ms) (hw : wfM m) (hm : mayB m = true) : kin (msgV m) = true ∧ okV (msgV m) = true ∧ dep (msgV m) ≤ 8 ∧ nrm (msgV m) = msgV m ∧ wt (msgV m) ≤ 10000 ∧ (enc (msgV m)).length ≤ 4000 := by
  obtain ⟨n1, n2, n3, n4, n5, n6⟩ := ints_facts _ hw.1
  obtain ⟨v1, v2, v3, v4, v5, v6⟩ := ints_facts _ hw.2.1
  obtain ⟨f1, f2, f3, f4, f5, f6⟩ := ints_facts _ (flat_mem _ hw.2.2.2.1)
  have hs := may_small' hm
  have hfl := flatHits_len m.hits
  have hwas : inR (if m.was = true then 1 else 0) := by split <;> exact ⟨by decide, by decide⟩
  have he := enc_int_len _ hw.2.2.1
  have he2 := enc_int_len _ hwas
  unfold msgV
  rw [msgL_eq, kin_lis, dep_lis, nrm_lis, wt_lis, enc_lis, kins_app, deps_app, nrms_app, wts_app, encs_app]
  rw [kins_cons, kins_cons, kins_cons, kins_cons, kins_nil, kin_lis, kin_int, kin_int, kin_lis, n1, v1, f1]
  rw [deps_cons, deps_cons, deps_cons, deps_cons, deps_nil, dep_lis, dep_int, dep_int, dep_lis, n3, v3, f3]
  rw [nrms_cons, nrms_cons, nrms_cons, nrms_cons, nrms_nil, nrm_lis, nrm_int, nrm_int, nrm_lis, n4, v4, f4]
  rw [wts_cons, wts_cons, wts_cons, wts_cons, wts_nil, wt_lis, wt_int, wt_int, wt_lis, n5, v5, f5]
  rw [encs_cons, encs_cons, encs_cons, encs_cons, encs_nil, enc_lis, enc_lis]
  refine ⟨rfl, ok_lis ((okVs_app _ _).2 ⟨n2, (okVs_cons _ _).2 ⟨ok_lis v2, (okVs_cons _ _).2 ⟨ok_int hw.2.2.1.1 hw.2.2.1.2, (okVs_cons _ _).2 ⟨ok_int hwas.1 hwas.2, (okVs_cons _ _).2 ⟨ok_lis f2, okVs_nil⟩⟩⟩⟩⟩), by simp, rfl, ?_, ?_⟩
  · simp only [List.length_cons, List.length_nil]; omega
  · simp only [List.length_cons, List.length_append, List.length_nil] at *; omega
def msgT (m : Ms) : ByteArray := putF ⟨(enc (msgV m)).toArray⟩ ++ putF m.text
theorem encA_size (l : List UInt8) : (⟨l.toArray⟩ : ByteArray).size = l.length := by simp [ByteArray.size]
theorem msgT_size (m : Ms) : (msgT m).size = (enc (msgV m)).length + 14 + (m.text.size + 14) := by
  unfold msgT
  rw [ByteArray.size_append, putF_size, putF_size, encA_size]
theorem put_msg (m : Ms) (hw : wfM m) (hm : mayB m = true) : post_Put.f m.kd m.sh m.ep m.cl m.sq m.nn m.ve m.li m.ok m.id m.v m.kk m.er m.was m.hits m.text = some (msgT m, 0) := by
  obtain ⟨h1, h2, h3, h4, h5, h6⟩ := msg_facts m hw hm
  have hs := may_small' hm
  have hz := msgT_size m
  have e1 : benc_Put.f 3 0 ⟨#[]⟩ (msgL m.kd m.sh m.ep m.cl m.sq m.nn m.ve m.li m.ok m.id m.v m.kk m.er m.was m.hits) = some (⟨(enc (msgV m)).toArray⟩, 0) := by
    have := put_yes (v := msgV m) (fit_of h2 (by omega))
    rw [putM_of h1 h3 (by omega)] at this
    exact this
  have e2 : frame_Put.f ⟨(enc (msgV m)).toArray⟩ = some (putF ⟨(enc (msgV m)).toArray⟩, 0) := PurF.put_yes (by rw [encA_size]; omega)
  have e3 : frame_Put.f m.text = some (putF m.text, 0) := PurF.put_yes hs.2.2
  unfold post_Put.f
  rw [if_pos (show mayM m.kd m.sh m.ep m.cl m.sq m.nn m.ve m.li m.ok m.id m.v m.kk m.er m.was m.hits m.text = true from hm), e1, Option.bind_some, e2, Option.bind_some, e3, Option.bind_some]
  rw [if_pos (show (putF ⟨(enc (msgV m)).toArray⟩).size + (putF m.text).size ≤ 9223372036854775807 by unfold msgT at hz; rw [ByteArray.size_append] at hz; omega)]
  rfl
theorem put_bad (m : Ms) (hm : ¬ mayB m = true) : post_Put.f m.kd m.sh m.ep m.cl m.sq m.nn m.ve m.li m.ok m.id m.v m.kk m.er m.was m.hits m.text = some (⟨#[]⟩, 1) := by
  unfold post_Put.f
  rw [if_neg (show ¬ mayM m.kd m.sh m.ep m.cl m.sq m.nn m.ve m.li m.ok m.id m.v m.kk m.er m.was m.hits m.text = true from hm)]
theorem ext_app (a b : ByteArray) : (a ++ b).extract a.size (a ++ b).size = b := by
  refine data_ext ?_
  rw [data_extract, frm_app, ByteArray.size_append]
  have ha := data_size a
  have hb := data_size b
  rw [List.take_of_length_le (by rw [List.length_append]; omega), ← ha, List.drop_left]
theorem ext_all (a : ByteArray) : a.extract 0 a.size = a := by
  refine data_ext ?_
  rw [data_extract, List.take_of_length_le (by rw [data_size]; exact Nat.le_refl _), List.drop_zero]
theorem app_empty (a : ByteArray) : a ++ ByteArray.empty = a := by
  refine data_ext ?_
  rw [frm_app]
  exact List.append_nil _
theorem all_two (a b : ByteArray) (ha : a.size ≤ 262144) (hb : b.size ≤ 262144) : allS (putF a ++ putF b) 0 = ([a, b], (putF a ++ putF b).size) := by
  have sa := putF_size a
  have sb := putF_size b
  have ss := ByteArray.size_append (a := putF a) (b := putF b)
  have t1 : takeF ((putF a ++ putF b).extract 0 (putF a ++ putF b).size) = (a, ((putF a).size : Int), 0) := by rw [ext_all, take_put a _ ha]
  have t2 : takeF ((putF a ++ putF b).extract (putF a).size (putF a ++ putF b).size) = (b, ((putF b).size : Int), 0) := by
    rw [ext_app]
    have := take_put b ByteArray.empty hb
    rwa [app_empty] at this
  rw [allS_step (by omega) (by rw [t1]), t1, Nat.zero_add]
  rw [show ((putF a).size : Int).toNat = (putF a).size from Int.toNat_natCast _]
  rw [allS_step (by omega) (by rw [t2]), t2]
  rw [show ((putF b).size : Int).toNat = (putF b).size from Int.toNat_natCast _]
  rw [allS_end (by omega), ss]
theorem pairs_flat : ∀ l : List Hit, pairs ((flatHits l).map intV) = l
  | [] => rfl
  | h :: l => by
    have e : flatHits (h :: l) = h.f0 :: h.f1 :: flatHits l := by simp [flatHits]
    rw [e, List.map_cons, List.map_cons, pairs, pairs_flat l]
    rfl
theorem only_msg (m : Ms) (hw : wfM m) (hm : mayB m = true) : benc_Only.f ⟨(enc (msgV m)).toArray⟩ = some (3, 0, ⟨#[]⟩, msgL m.kd m.sh m.ep m.cl m.sq m.nn m.ve m.li m.ok m.id m.v m.kk m.er m.was m.hits, 0) := by
  obtain ⟨h1, h2, h3, h4, h5, h6⟩ := msg_facts m hw hm
  have hz := encA_size (enc (msgV m))
  rw [only_yes (by omega)]
  have ht := takeM_back h1 h2 h3 (by omega) []
  rw [List.append_nil] at ht
  unfold onlyM
  rw [ht]
  rw [if_pos rfl, if_neg (show ¬ (((enc (msgV m)).length : Nat) : Int) < _ by rw [hz]; omega), h4]
  rfl
theorem take_msg (m : Ms) (hw : wfM m) (hm : mayB m = true) : post_Take.f (msgT m) = some (m.kd, m.sh, m.ep, m.cl, m.sq, m.nn, m.ve, m.li, m.ok, m.id, m.v, m.kk, m.er, m.was, m.hits, m.text, 0) := by
  obtain ⟨h1, h2, h3, h4, h5, h6⟩ := msg_facts m hw hm
  have hs := may_small' hm
  have hz := msgT_size m
  have eA : frame_All.f (msgT m) = some ([⟨(enc (msgV m)).toArray⟩, m.text], ((msgT m).size : Int)) := by
    rw [PurF.all_yes (by omega)]
    unfold msgT
    rw [all_two _ _ (by rw [encA_size]; omega) hs.2.2]
  unfold post_Take.f
  rw [eA, Option.bind_some]
  show (if ((msgT m).size : Int) = ((msgT m).size : Int) then _ else _) = _
  rw [if_pos rfl, only_msg m hw hm, Option.bind_some]
  rw [if_pos ⟨rfl, by rw [msgL_eq]; rfl⟩]
  unfold post_Take.g
  have ev : (rd_T49 (msgL m.kd m.sh m.ep m.cl m.sq m.nn m.ve m.li m.ok m.id m.v m.kk m.er m.was m.hits) 11).f3.map (·.f1) = m.v := by
    show (m.v.map intV).map (·.f1) = m.v
    rw [List.map_map]
    exact List.map_id _
  have eh : pairs (rd_T49 (msgL m.kd m.sh m.ep m.cl m.sq m.nn m.ve m.li m.ok m.id m.v m.kk m.er m.was m.hits) 14).f3 = m.hits := pairs_flat m.hits
  have ew : ((rd_T49 (msgL m.kd m.sh m.ep m.cl m.sq m.nn m.ve m.li m.ok m.id m.v m.kk m.er m.was m.hits) 13).f1 == 1) = m.was := by
    show ((if m.was = true then (1 : Int) else 0) == 1) = m.was
    cases m.was <;> rfl
  have l1 : (rd_T49 (msgL m.kd m.sh m.ep m.cl m.sq m.nn m.ve m.li m.ok m.id m.v m.kk m.er m.was m.hits) 11).f3.length ≤ 1000000 := by
    show (m.v.map intV).length ≤ 1000000
    rw [List.length_map]; omega
  have l2 : (rd_T49 (msgL m.kd m.sh m.ep m.cl m.sq m.nn m.ve m.li m.ok m.id m.v m.kk m.er m.was m.hits) 14).f3.length ≤ 1000000 := by
    show ((flatHits m.hits).map intV).length ≤ 1000000
    rw [List.length_map, flatHits_len]; omega
  rw [if_pos ⟨l1, l2⟩, ev, eh, ew]
  have ep := put_msg m hw hm
  show ((post_Put.f m.kd m.sh m.ep m.cl m.sq m.nn m.ve m.li m.ok m.id m.v m.kk m.er m.was m.hits m.text).bind fun p => _) = _
  rw [ep, Option.bind_some]
  show (if (0 : Int) = 0 ∧ (msgT m).toList = (msgT m).toList then _ else _) = _
  rw [if_pos ⟨rfl, rfl⟩]
  rfl
theorem x_bad : post_Take.f ⟨#[120]⟩ = some zeroT := by
  have h : (takeF ((⟨#[120]⟩ : ByteArray).extract 0 (⟨#[120]⟩ : ByteArray).size)).2.2 ≠ 0 := by
    intro h
    have hu := takeF_used h
    rw [ext_all] at hu
    have : (⟨#[120]⟩ : ByteArray).size = 1 := rfl
    omega
  unfold post_Take.f
  rw [PurF.all_yes (by decide), allS_bad h, Option.bind_some]
def someM : Ms := ⟨3, 3, 7, 0, 0, 9, 0, 5, 3, 0, [1, -2], 4, 0, false, [], ⟨#[120]⟩⟩
theorem some_wf : wfM someM := by
  refine ⟨?_, ?_, ⟨by decide, by decide⟩, ?_, by decide, by decide, by decide⟩
  · intro x hx
    unfold inR
    simp [someM] at hx
    omega
  · intro x hx
    unfold inR
    simp [someM] at hx
    omega
  · intro h hh; simp [someM] at hh
theorem some_may : mayB someM = true := by decide
theorem some_f : ploverlaw13_some.f = some (someM.kd, someM.sh, someM.ep, someM.cl, someM.sq, someM.nn, someM.ve, someM.li, someM.ok, someM.id, someM.v, someM.kk, someM.er, someM.was, someM.hits, someM.text) := rfl
theorem msgT_30 (m : Ms) : 30 ≤ (msgT m).size := by
  have := enc_len2 (msgV m)
  rw [msgT_size]; omega
end Go.Proofs.YtlggihnkhimfkaaDoor.Pure
namespace Go.Proofs.YtlggihnkhimfkaaDoor.Aw
open Go.RowKit Go.Proofs.YtlggihnkhimfkaaDoor.P Go.Proofs.YtlggihnkhimfkaaDoor.Giv Go.Proofs.YtlggihnkhimfkaaDoorW.PrintWords Go.Proofs.YtlggihnkhimfkaaDoorW.PrintLast Go.Proofs.YtlggihnkhimfkaaDoorW.PrintMore
attribute [local go_sem] max2_int min2_int max_two min_two max_three min_three max_four min_four   -- for this text's walks alone
set_option linter.unusedVariables false
set_option linter.unusedSimpArgs false
open Go.Proofs.YtlggihnkhimfkaaDoor.Giv
def ploverlaw13_awake.f (k : Nat)  : Option (Bool) := (ploverlaw13_some.f).bind fun bt116 => ((post_Put.f bt116.1 bt116.2.1 bt116.2.2.1 bt116.2.2.2.1 bt116.2.2.2.2.1 bt116.2.2.2.2.2.1 bt116.2.2.2.2.2.2.1 bt116.2.2.2.2.2.2.2.1 bt116.2.2.2.2.2.2.2.2.1 bt116.2.2.2.2.2.2.2.2.2.1 bt116.2.2.2.2.2.2.2.2.2.2.1 bt116.2.2.2.2.2.2.2.2.2.2.2.1 bt116.2.2.2.2.2.2.2.2.2.2.2.2.1 bt116.2.2.2.2.2.2.2.2.2.2.2.2.2.1 bt116.2.2.2.2.2.2.2.2.2.2.2.2.2.2.1 bt116.2.2.2.2.2.2.2.2.2.2.2.2.2.2.2).bind fun bt136 => ((post_Take.f bt136.1).bind fun bt138 => ((post_Take.f (⟨#[120]⟩ : ByteArray)).bind fun bt160 => (if (bt136.1.size : Int) > 28 then (if bt136.2 = 0 then ((ploverlaw13_some.f).bind fun bt182 => ((ploverref13_Same.f k bt138.1 bt138.2.1 bt138.2.2.1 bt138.2.2.2.1 bt138.2.2.2.2.1 bt138.2.2.2.2.2.1 bt138.2.2.2.2.2.2.1 bt138.2.2.2.2.2.2.2.1 bt138.2.2.2.2.2.2.2.2.1 bt138.2.2.2.2.2.2.2.2.2.1 bt138.2.2.2.2.2.2.2.2.2.2.1 bt138.2.2.2.2.2.2.2.2.2.2.2.1 bt138.2.2.2.2.2.2.2.2.2.2.2.2.1 bt138.2.2.2.2.2.2.2.2.2.2.2.2.2.1 bt138.2.2.2.2.2.2.2.2.2.2.2.2.2.2.1 bt138.2.2.2.2.2.2.2.2.2.2.2.2.2.2.2.1 bt182.1 bt182.2.1 bt182.2.2.1 bt182.2.2.2.1 bt182.2.2.2.2.1 bt182.2.2.2.2.2.1 bt182.2.2.2.2.2.2.1 bt182.2.2.2.2.2.2.2.1 bt182.2.2.2.2.2.2.2.2.1 bt182.2.2.2.2.2.2.2.2.2.1 bt182.2.2.2.2.2.2.2.2.2.2.1 bt182.2.2.2.2.2.2.2.2.2.2.2.1 bt182.2.2.2.2.2.2.2.2.2.2.2.2.1 bt182.2.2.2.2.2.2.2.2.2.2.2.2.2.1 bt182.2.2.2.2.2.2.2.2.2.2.2.2.2.2.1 bt182.2.2.2.2.2.2.2.2.2.2.2.2.2.2.2).bind fun t202 => (if t202 = true then (if bt138.2.2.2.2.2.2.2.2.2.2.2.2.2.2.2.2 = 0 then (some (bt160.2.2.2.2.2.2.2.2.2.2.2.2.2.2.2.2 == 130)) else (some false)) else (some false)))) else (some false)) else (some false)))))
def ploverlaw13_awake.T4 : Bool × List (List Nat × List Nat) := (true, [([], []), ([0], [0]), ([1], [1]), ([2], [2]), ([3], [3]), ([4, 3], [3, 4]), ([3, 5], [3, 5]), ([6, 3], [6]), ([7], [7]), ([7, 7], [7]), ([8, 9, 9, 7], [7, 8, 9]), ([7, 10], [7, 10]), ([11, 10], [11]), ([12], [12]), ([13, 12], [12, 13]), ([12, 14], [12, 14]), ([15, 12], [15]), ([16], [16]), ([17, 16], [16, 17]), ([16, 18], [16, 18]), ([19, 16, 0, 1, 2, 3, 4, 5, 6, 7, 8, 9, 10, 11, 12, 13, 14, 15, 16, 17, 18, 19], [19])])
def ploverlaw13_awake.B4 : List Nat := [0, 1, 3, 7, 15, 31, 63, 127, 255, 255, 1023, 2047, 4095, 8191, 16383, 32767, 65535, 131071, 262143, 524287, 1048575]
theorem ploverlaw13_awake.tab4 : rtab .any (opsOf Tryd.f8 4) = ploverlaw13_awake.T4 := by kernel_rfl
theorem ploverlaw13_awake.bits4 : waitsOk ploverlaw13_awake.T4.2 ploverlaw13_awake.B4 = true := by kernel_rfl
set_option maxHeartbeats 8000000 in
set_option maxRecDepth 100000 in
theorem ploverlaw13_awake.calls (k : Nat)  (r : Bool) (hr : r = true) (w : World) (hL : LaidW w) (h : ploverlaw13_awake.f k  = some r) :
    Calls Tryd.prog 8 #[] w fun e w' => e = .returned (.bool r) ∧ Below w.heap.size w w' := by
  have hu30 := Tryd.underlying30
  have HB := Aside0.mk (Below.refl w.heap.size w)
  have H : ((ploverlaw13_some.f).bind fun bt116 => ((post_Put.f bt116.1 bt116.2.1 bt116.2.2.1 bt116.2.2.2.1 bt116.2.2.2.2.1 bt116.2.2.2.2.2.1 bt116.2.2.2.2.2.2.1 bt116.2.2.2.2.2.2.2.1 bt116.2.2.2.2.2.2.2.2.1 bt116.2.2.2.2.2.2.2.2.2.1 bt116.2.2.2.2.2.2.2.2.2.2.1 bt116.2.2.2.2.2.2.2.2.2.2.2.1 bt116.2.2.2.2.2.2.2.2.2.2.2.2.1 bt116.2.2.2.2.2.2.2.2.2.2.2.2.2.1 bt116.2.2.2.2.2.2.2.2.2.2.2.2.2.2.1 bt116.2.2.2.2.2.2.2.2.2.2.2.2.2.2.2).bind fun bt136 => ((post_Take.f bt136.1).bind fun bt138 => ((post_Take.f (⟨#[120]⟩ : ByteArray)).bind fun bt160 => (if (bt136.1.size : Int) > 28 then (if bt136.2 = 0 then ((ploverlaw13_some.f).bind fun bt182 => ((ploverref13_Same.f k bt138.1 bt138.2.1 bt138.2.2.1 bt138.2.2.2.1 bt138.2.2.2.2.1 bt138.2.2.2.2.2.1 bt138.2.2.2.2.2.2.1 bt138.2.2.2.2.2.2.2.1 bt138.2.2.2.2.2.2.2.2.1 bt138.2.2.2.2.2.2.2.2.2.1 bt138.2.2.2.2.2.2.2.2.2.2.1 bt138.2.2.2.2.2.2.2.2.2.2.2.1 bt138.2.2.2.2.2.2.2.2.2.2.2.2.1 bt138.2.2.2.2.2.2.2.2.2.2.2.2.2.1 bt138.2.2.2.2.2.2.2.2.2.2.2.2.2.2.1 bt138.2.2.2.2.2.2.2.2.2.2.2.2.2.2.2.1 bt182.1 bt182.2.1 bt182.2.2.1 bt182.2.2.2.1 bt182.2.2.2.2.1 bt182.2.2.2.2.2.1 bt182.2.2.2.2.2.2.1 bt182.2.2.2.2.2.2.2.1 bt182.2.2.2.2.2.2.2.2.1 bt182.2.2.2.2.2.2.2.2.2.1 bt182.2.2.2.2.2.2.2.2.2.2.1 bt182.2.2.2.2.2.2.2.2.2.2.2.1 bt182.2.2.2.2.2.2.2.2.2.2.2.2.1 bt182.2.2.2.2.2.2.2.2.2.2.2.2.2.1 bt182.2.2.2.2.2.2.2.2.2.2.2.2.2.2.1 bt182.2.2.2.2.2.2.2.2.2.2.2.2.2.2.2).bind fun t202 => (if t202 = true then (if bt138.2.2.2.2.2.2.2.2.2.2.2.2.2.2.2.2 = 0 then (some (bt160.2.2.2.2.2.2.2.2.2.2.2.2.2.2.2.2 == 130)) else (some false)) else (some false)))) else (some false)) else (some false)))))) = some r := h
  clear h
  replace H := Option.bind_eq_some_iff.mp H
  obtain ⟨⟨t116, t117, t118, t119, t120, t121, t122, t123, t124, t125, t126, t129, t130, t131, t132, t135⟩, A10, H⟩ := H
  replace H : ((post_Put.f t116 t117 t118 t119 t120 t121 t122 t123 t124 t125 t126 t129 t130 t131 t132 t135).bind fun bt136 => ((post_Take.f bt136.1).bind fun bt138 => ((post_Take.f (⟨#[120]⟩ : ByteArray)).bind fun bt160 => (if (bt136.1.size : Int) > 28 then (if bt136.2 = 0 then ((ploverlaw13_some.f).bind fun bt182 => ((ploverref13_Same.f k bt138.1 bt138.2.1 bt138.2.2.1 bt138.2.2.2.1 bt138.2.2.2.2.1 bt138.2.2.2.2.2.1 bt138.2.2.2.2.2.2.1 bt138.2.2.2.2.2.2.2.1 bt138.2.2.2.2.2.2.2.2.1 bt138.2.2.2.2.2.2.2.2.2.1 bt138.2.2.2.2.2.2.2.2.2.2.1 bt138.2.2.2.2.2.2.2.2.2.2.2.1 bt138.2.2.2.2.2.2.2.2.2.2.2.2.1 bt138.2.2.2.2.2.2.2.2.2.2.2.2.2.1 bt138.2.2.2.2.2.2.2.2.2.2.2.2.2.2.1 bt138.2.2.2.2.2.2.2.2.2.2.2.2.2.2.2.1 bt182.1 bt182.2.1 bt182.2.2.1 bt182.2.2.2.1 bt182.2.2.2.2.1 bt182.2.2.2.2.2.1 bt182.2.2.2.2.2.2.1 bt182.2.2.2.2.2.2.2.1 bt182.2.2.2.2.2.2.2.2.1 bt182.2.2.2.2.2.2.2.2.2.1 bt182.2.2.2.2.2.2.2.2.2.2.1 bt182.2.2.2.2.2.2.2.2.2.2.2.1 bt182.2.2.2.2.2.2.2.2.2.2.2.2.1 bt182.2.2.2.2.2.2.2.2.2.2.2.2.2.1 bt182.2.2.2.2.2.2.2.2.2.2.2.2.2.2.1 bt182.2.2.2.2.2.2.2.2.2.2.2.2.2.2.2).bind fun t202 => (if t202 = true then (if bt138.2.2.2.2.2.2.2.2.2.2.2.2.2.2.2.2 = 0 then (some (bt160.2.2.2.2.2.2.2.2.2.2.2.2.2.2.2.2 == 130)) else (some false)) else (some false)))) else (some false)) else (some false))))) = some r := H
  have A1 := Aside0.mk A10
  clear A10
  replace H := Option.bind_eq_some_iff.mp H
  obtain ⟨⟨t136, t137⟩, A20, H⟩ := H
  replace H : ((post_Take.f t136).bind fun bt138 => ((post_Take.f (⟨#[120]⟩ : ByteArray)).bind fun bt160 => (if (t136.size : Int) > 28 then (if t137 = 0 then ((ploverlaw13_some.f).bind fun bt182 => ((ploverref13_Same.f k bt138.1 bt138.2.1 bt138.2.2.1 bt138.2.2.2.1 bt138.2.2.2.2.1 bt138.2.2.2.2.2.1 bt138.2.2.2.2.2.2.1 bt138.2.2.2.2.2.2.2.1 bt138.2.2.2.2.2.2.2.2.1 bt138.2.2.2.2.2.2.2.2.2.1 bt138.2.2.2.2.2.2.2.2.2.2.1 bt138.2.2.2.2.2.2.2.2.2.2.2.1 bt138.2.2.2.2.2.2.2.2.2.2.2.2.1 bt138.2.2.2.2.2.2.2.2.2.2.2.2.2.1 bt138.2.2.2.2.2.2.2.2.2.2.2.2.2.2.1 bt138.2.2.2.2.2.2.2.2.2.2.2.2.2.2.2.1 bt182.1 bt182.2.1 bt182.2.2.1 bt182.2.2.2.1 bt182.2.2.2.2.1 bt182.2.2.2.2.2.1 bt182.2.2.2.2.2.2.1 bt182.2.2.2.2.2.2.2.1 bt182.2.2.2.2.2.2.2.2.1 bt182.2.2.2.2.2.2.2.2.2.1 bt182.2.2.2.2.2.2.2.2.2.2.1 bt182.2.2.2.2.2.2.2.2.2.2.2.1 bt182.2.2.2.2.2.2.2.2.2.2.2.2.1 bt182.2.2.2.2.2.2.2.2.2.2.2.2.2.1 bt182.2.2.2.2.2.2.2.2.2.2.2.2.2.2.1 bt182.2.2.2.2.2.2.2.2.2.2.2.2.2.2.2).bind fun t202 => (if t202 = true then (if bt138.2.2.2.2.2.2.2.2.2.2.2.2.2.2.2.2 = 0 then (some (bt160.2.2.2.2.2.2.2.2.2.2.2.2.2.2.2.2 == 130)) else (some false)) else (some false)))) else (some false)) else (some false)))) = some r := H
  have A2 := Aside0.mk A20
  clear A20
  replace H := Option.bind_eq_some_iff.mp H
  obtain ⟨⟨t138, t139, t140, t141, t142, t143, t144, t145, t146, t147, t148, t151, t152, t153, t154, t157, t158⟩, A30, H⟩ := H
  replace H : ((post_Take.f (⟨#[120]⟩ : ByteArray)).bind fun bt160 => (if (t136.size : Int) > 28 then (if t137 = 0 then ((ploverlaw13_some.f).bind fun bt182 => ((ploverref13_Same.f k t138 t139 t140 t141 t142 t143 t144 t145 t146 t147 t148 t151 t152 t153 t154 t157 bt182.1 bt182.2.1 bt182.2.2.1 bt182.2.2.2.1 bt182.2.2.2.2.1 bt182.2.2.2.2.2.1 bt182.2.2.2.2.2.2.1 bt182.2.2.2.2.2.2.2.1 bt182.2.2.2.2.2.2.2.2.1 bt182.2.2.2.2.2.2.2.2.2.1 bt182.2.2.2.2.2.2.2.2.2.2.1 bt182.2.2.2.2.2.2.2.2.2.2.2.1 bt182.2.2.2.2.2.2.2.2.2.2.2.2.1 bt182.2.2.2.2.2.2.2.2.2.2.2.2.2.1 bt182.2.2.2.2.2.2.2.2.2.2.2.2.2.2.1 bt182.2.2.2.2.2.2.2.2.2.2.2.2.2.2.2).bind fun t202 => (if t202 = true then (if t158 = 0 then (some (bt160.2.2.2.2.2.2.2.2.2.2.2.2.2.2.2.2 == 130)) else (some false)) else (some false)))) else (some false)) else (some false))) = some r := H
  have A3 := Aside0.mk A30
  clear A30
  replace H := Option.bind_eq_some_iff.mp H
  obtain ⟨⟨t160, t161, t162, t163, t164, t165, t166, t167, t168, t169, t170, t173, t174, t175, t176, t179, t180⟩, A40, H⟩ := H
  replace H : (if (t136.size : Int) > 28 then (if t137 = 0 then ((ploverlaw13_some.f).bind fun bt182 => ((ploverref13_Same.f k t138 t139 t140 t141 t142 t143 t144 t145 t146 t147 t148 t151 t152 t153 t154 t157 bt182.1 bt182.2.1 bt182.2.2.1 bt182.2.2.2.1 bt182.2.2.2.2.1 bt182.2.2.2.2.2.1 bt182.2.2.2.2.2.2.1 bt182.2.2.2.2.2.2.2.1 bt182.2.2.2.2.2.2.2.2.1 bt182.2.2.2.2.2.2.2.2.2.1 bt182.2.2.2.2.2.2.2.2.2.2.1 bt182.2.2.2.2.2.2.2.2.2.2.2.1 bt182.2.2.2.2.2.2.2.2.2.2.2.2.1 bt182.2.2.2.2.2.2.2.2.2.2.2.2.2.1 bt182.2.2.2.2.2.2.2.2.2.2.2.2.2.2.1 bt182.2.2.2.2.2.2.2.2.2.2.2.2.2.2.2).bind fun t202 => (if t202 = true then (if t158 = 0 then (some (t180 == 130)) else (some false)) else (some false)))) else (some false)) else (some false)) = some r := H
  have A4 := Aside0.mk A40
  clear A40
  by_cases c5 : (t136.size : Int) > 28
  · rw [if_pos c5] at H
    have c5b0 : decide (28 < (t136.size : Int)) = true := decide_eq_true c5
    have c5b1 : decide (28 < t136.size) = true := decide_eq_true (by omega)
    clear c5
    by_cases c6 : t137 = 0
    · rw [if_pos c6] at H
      have c6b0 : (t137 == 0) = true := beq_iff_eq.mpr c6
      have c6b1 : (t137 != 0) = false := bne_eq_false_iff_eq.mpr c6
      clear c6
      replace H := Option.bind_eq_some_iff.mp H
      obtain ⟨⟨t182, t183, t184, t185, t186, t187, t188, t189, t190, t191, t192, t195, t196, t197, t198, t201⟩, A70, H⟩ := H
      replace H : ((ploverref13_Same.f k t138 t139 t140 t141 t142 t143 t144 t145 t146 t147 t148 t151 t152 t153 t154 t157 t182 t183 t184 t185 t186 t187 t188 t189 t190 t191 t192 t195 t196 t197 t198 t201).bind fun t202 => (if t202 = true then (if t158 = 0 then (some (t180 == 130)) else (some false)) else (some false))) = some r := H
      have A7 := Aside0.mk A70
      clear A70
      replace H := Option.bind_eq_some_iff.mp H
      obtain ⟨t202, A80, H⟩ := H
      replace H : (if t202 = true then (if t158 = 0 then (some (t180 == 130)) else (some false)) else (some false)) = some r := H
      have A8 := Aside0.mk A80
      clear A80
      by_cases c9 : t202 = true
      · subst c9
        have H1 : (if t158 = 0 then (some (t180 == 130)) else (some false)) = some r := by rw [if_pos rfl] at H; exact H
        clear H
        have H := H1
        clear H1
        by_cases c10 : t158 = 0
        · rw [if_pos c10] at H
          have c10b0 : (t158 == 0) = true := beq_iff_eq.mpr c10
          have c10b1 : (t158 != 0) = false := bne_eq_false_iff_eq.mpr c10
          clear c10
          obtain rfl := Option.some.inj H
          go_enter Tryd.func8, Tryd.ntmps8
          try go_wp2_with (first | ((with_reducible refine gate_callee (f := 14) rfl ?_); refine goesL_ (some 8) rfl rfl Tryd.func14 (by kernel_rfl) rfl #[] rfl (by (try simp only [List.map_toArray, List.map_cons, List.map_nil]); first | done | rfl | (simp only [List.length_drop, List.length_take]; rfl)) ?_; (with_reducible refine (ploverlaw13_some.calls  t116 t117 t118 t119 t120 t121 t122 t123 t124 t125 t126 t129 t130 t131 t132 t135 _ A1.out).mono ?_); rintro e w11 ⟨v127, v133, rfl, ho0, ho1, hb⟩; refine ⟨_, rfl, ?_⟩; have n0_ := Aside0.mk (Kd.R_lower ho0 (below_size (by repeat (first | (with_reducible first | exact HB.out | apply below_alloc | apply pw_below_drewN | apply below_drew1) | exact HB.out)))); have n1_ := Aside0.mk (Kd.R_lower ho1 (below_size (by repeat (first | (with_reducible first | exact HB.out | apply below_alloc | apply pw_below_drewN | apply below_drew1) | exact HB.out)))); have n2_ := Aside0.mk (below_step (by repeat (first | (with_reducible first | exact HB.out | apply below_alloc | apply pw_below_drewN | apply below_drew1) | exact HB.out)) hb); clear HB; have HO128 := n0_; have HO134 := n1_; have HB := n2_; clear n0_ n1_ n2_; (try clear hb); (try clear hb2); (try clear hk); (try clear hi); (try clear ho0); (try clear ho1); obtain ⟨Ao12, co12, eo12⟩ := Kd.R_slice HO128.out; subst eo12; obtain ⟨Ao13, co13, eo13⟩ := Kd.R_slice HO134.out; subst eo13) | ((with_reducible refine gate_callee (f := 9) rfl ?_); refine goesL_ (some 9) rfl rfl Tryd.func9 (by kernel_rfl) rfl #[.agg #[.int .i64 t116, .int .i64 t117, .int .i64 t118, .int .i64 t119, .int .i64 t120, .int .i64 t121, .int .i64 t122, .int .i64 t123, .int .i64 t124, .int .i64 t125, .slice Ao12 t126.length co12, .int .i64 t129, .int .i64 t130, .bool t131, .slice Ao13 t132.length co13, .string t135]] rfl (by (try simp only [List.map_toArray, List.map_cons, List.map_nil]); first | done | rfl | (simp only [List.length_drop, List.length_take]; rfl)) ?_; (with_reducible refine (post_Put.calls t116 t117 t118 t119 t120 t121 t122 t123 t124 t125 _ _ t126 t129 t130 t131 _ _ t132 t135 t136 t137 _ (LaidW.below hL (by repeat (first | (with_reducible first | exact HB.out | apply below_alloc | apply pw_below_drewN | apply below_drew1) | exact HB.out))) ?side1 ?side2 ?side3 ?side4 A2.out).mono ?_); (case side1 => repeat (first | exact (Kd.R_reads' HO128.out).2.2 | (with_reducible refine Kd.C_alloc ?_ _) | (with_reducible refine Kd.C_drewN ?_ _) | (with_reducible refine Kd.C_drew ?_))); (case side2 => exact (Kd.R_reads' HO128.out).2.1); (case side3 => repeat (first | exact (Kd.R_reads' HO134.out).2.2 | (with_reducible refine Kd.C_alloc ?_ _) | (with_reducible refine Kd.C_drewN ?_ _) | (with_reducible refine Kd.C_drew ?_))); (case side4 => exact (Kd.R_reads' HO134.out).2.1); rintro e w14 ⟨rfl, hb⟩; refine ⟨_, rfl, ?_⟩; have n0_ := Aside0.mk (Kd.R_below (by (with_reducible repeat (first | apply Kd.R_alloc | apply Kd.R_drewN | apply Kd.R_drew)); exact HO128.out) hb); have n1_ := Aside0.mk (Kd.R_below (by (with_reducible repeat (first | apply Kd.R_alloc | apply Kd.R_drewN | apply Kd.R_drew)); exact HO134.out) hb); have n2_ := Aside0.mk (below_step (by repeat (first | (with_reducible first | exact HB.out | apply below_alloc | apply pw_below_drewN | apply below_drew1) | exact HB.out)) hb); clear HO128; clear HO134; clear HB; have HO128 := n0_; have HO134 := n1_; have HB := n2_; clear n0_ n1_ n2_; (try clear hb); (try clear hb2); (try clear hk); (try clear hi)) | ((with_reducible refine gate_callee (f := 12) rfl ?_); refine goesL_ (some 14) rfl rfl Tryd.func12 (by kernel_rfl) rfl #[.string t136] rfl (by (try simp only [List.map_toArray, List.map_cons, List.map_nil]); first | done | rfl | (simp only [List.length_drop, List.length_take]; rfl)) ?_; (with_reducible refine (post_Take.calls t136 t138 t139 t140 t141 t142 t143 t144 t145 t146 t147 t148 t151 t152 t153 t154 t157 t158 _ (LaidW.below hL (by repeat (first | (with_reducible first | exact HB.out | apply below_alloc | apply pw_below_drewN | apply below_drew1) | exact HB.out))) A3.out).mono ?_); rintro e w15 ⟨v149, v155, rfl, ho0, ho1, hb⟩; refine ⟨_, rfl, ?_⟩; have n0_ := Aside0.mk (Kd.R_elder' (by (with_reducible repeat (first | apply Kd.R_alloc | apply Kd.R_drewN | apply Kd.R_drew)); exact HO128.out) (Kd.R_base ho0) hb); have n1_ := Aside0.mk (Kd.R_elder' (by (with_reducible repeat (first | apply Kd.R_alloc | apply Kd.R_drewN | apply Kd.R_drew)); exact HO134.out) (Kd.R_base ho1) hb); have n2_ := Aside0.mk (Kd.R_lower (Kd.R_new' ho0 (Kd.R_lt (by (with_reducible repeat (first | apply Kd.R_alloc | apply Kd.R_drewN | apply Kd.R_drew)); exact HO128.out))) (below_size (by repeat (first | (with_reducible first | exact HB.out | apply below_alloc | apply pw_below_drewN | apply below_drew1) | exact HB.out)))); have n3_ := Aside0.mk (Kd.R_lower (Kd.R_new' ho1 (Kd.R_lt (by (with_reducible repeat (first | apply Kd.R_alloc | apply Kd.R_drewN | apply Kd.R_drew)); exact HO134.out))) (below_size (by repeat (first | (with_reducible first | exact HB.out | apply below_alloc | apply pw_below_drewN | apply below_drew1) | exact HB.out)))); have n4_ := Aside0.mk (below_step (by repeat (first | (with_reducible first | exact HB.out | apply below_alloc | apply pw_below_drewN | apply below_drew1) | exact HB.out)) hb); clear HO128; clear HO134; clear HB; have HO128 := n0_; have HO134 := n1_; have HO150 := n2_; have HO156 := n3_; have HB := n4_; clear n0_ n1_ n2_ n3_ n4_; (try clear hb); (try clear hb2); (try clear hk); (try clear hi); (try clear ho0); (try clear ho1)) | ((with_reducible refine gate_dst (N := 3) rfl ?_); refine box_event ?hg (N := 3) ?hd (cs := #[.int .i64 0, .int .i64 0, .int .i64 0, .int .i64 0, .int .i64 0, .int .i64 0, .int .i64 0, .int .i64 0, .int .i64 0, .int .i64 0, .slice none 0 0, .int .i64 0, .int .i64 0, .bool false, .slice none 0 0, .string (⟨#[]⟩ : ByteArray)]) (t := 30) ?hr ?_; (case hd => rfl); (case hg => rfl); (case hr => first | (go_simp; done) | (go_simp; rfl)); intro gb159 hg w16 hbox hb; have n0_ := Aside0.mk (Kd.R_below (by (with_reducible repeat (first | apply Kd.R_alloc | apply Kd.R_drewN | apply Kd.R_drew)); exact HO128.out) hb); have n1_ := Aside0.mk (Kd.R_below (by (with_reducible repeat (first | apply Kd.R_alloc | apply Kd.R_drewN | apply Kd.R_drew)); exact HO134.out) hb); have n2_ := Aside0.mk (Kd.R_below (by (with_reducible repeat (first | apply Kd.R_alloc | apply Kd.R_drewN | apply Kd.R_drew)); exact HO150.out) hb); have n3_ := Aside0.mk (Kd.R_below (by (with_reducible repeat (first | apply Kd.R_alloc | apply Kd.R_drewN | apply Kd.R_drew)); exact HO156.out) hb); have n4_ := Aside0.mk (below_step (by repeat (first | (with_reducible first | exact HB.out | apply below_alloc | apply pw_below_drewN | apply below_drew1) | exact HB.out)) hb); have n5_ := Aside0.mk (hbox); have n6_ := Aside0.mk ((by rw [hg]; exact (below_size (by repeat (first | (with_reducible first | exact HB.out | apply below_alloc | apply pw_below_drewN | apply below_drew1) | exact HB.out))) : w.heap.size ≤ gb159)); have n7_ := Aside0.mk ((by rw [hg]; exact (below_size (by repeat (first | (with_reducible first | exact HB.out | apply below_alloc | apply pw_below_drewN | apply below_drew1) | exact HB.out))) : w.heap.size ≤ gb159)); clear HO128; clear HO134; clear HO150; clear HO156; clear HB; have HO128 := n0_; have HO134 := n1_; have HO150 := n2_; have HO156 := n3_; have HB := n4_; have BK159 := n5_; have GW159 := n6_; have GE159 := n7_; clear n0_ n1_ n2_ n3_ n4_ n5_ n6_ n7_; clear hb hbox hg; have hcz17_0 : w16.cell? ⟨gb159, 0, none⟩ = some (.int .i64 0) := (blk_cell BK159.out 0).trans rfl; have hcz17_1 : w16.cell? ⟨gb159, 1, none⟩ = some (.int .i64 0) := (blk_cell BK159.out 1).trans rfl; have hcz17_2 : w16.cell? ⟨gb159, 2, none⟩ = some (.int .i64 0) := (blk_cell BK159.out 2).trans rfl; have hcz17_3 : w16.cell? ⟨gb159, 3, none⟩ = some (.int .i64 0) := (blk_cell BK159.out 3).trans rfl; have hcz17_4 : w16.cell? ⟨gb159, 4, none⟩ = some (.int .i64 0) := (blk_cell BK159.out 4).trans rfl; have hcz17_5 : w16.cell? ⟨gb159, 5, none⟩ = some (.int .i64 0) := (blk_cell BK159.out 5).trans rfl; have hcz17_6 : w16.cell? ⟨gb159, 6, none⟩ = some (.int .i64 0) := (blk_cell BK159.out 6).trans rfl; have hcz17_7 : w16.cell? ⟨gb159, 7, none⟩ = some (.int .i64 0) := (blk_cell BK159.out 7).trans rfl; have hcz17_8 : w16.cell? ⟨gb159, 8, none⟩ = some (.int .i64 0) := (blk_cell BK159.out 8).trans rfl; have hcz17_9 : w16.cell? ⟨gb159, 9, none⟩ = some (.int .i64 0) := (blk_cell BK159.out 9).trans rfl; have hcz17_10 : w16.cell? ⟨gb159, 10, none⟩ = some (.slice none 0 0) := (blk_cell BK159.out 10).trans rfl; have hcz17_11 : w16.cell? ⟨gb159, 11, none⟩ = some (.int .i64 0) := (blk_cell BK159.out 11).trans rfl; have hcz17_12 : w16.cell? ⟨gb159, 12, none⟩ = some (.int .i64 0) := (blk_cell BK159.out 12).trans rfl; have hcz17_13 : w16.cell? ⟨gb159, 13, none⟩ = some (.bool false) := (blk_cell BK159.out 13).trans rfl; have hcz17_14 : w16.cell? ⟨gb159, 14, none⟩ = some (.slice none 0 0) := (blk_cell BK159.out 14).trans rfl; have hcz17_15 : w16.cell? ⟨gb159, 15, none⟩ = some (.string (⟨#[]⟩ : ByteArray)) := (blk_cell BK159.out 15).trans rfl; have hfz17_0 := blk_frozen BK159.out 0; have hfz17_1 := blk_frozen BK159.out 1; have hfz17_2 := blk_frozen BK159.out 2; have hfz17_3 := blk_frozen BK159.out 3; have hfz17_4 := blk_frozen BK159.out 4; have hfz17_5 := blk_frozen BK159.out 5; have hfz17_6 := blk_frozen BK159.out 6; have hfz17_7 := blk_frozen BK159.out 7; have hfz17_8 := blk_frozen BK159.out 8; have hfz17_9 := blk_frozen BK159.out 9; have hfz17_10 := blk_frozen BK159.out 10; have hfz17_11 := blk_frozen BK159.out 11; have hfz17_12 := blk_frozen BK159.out 12; have hfz17_13 := blk_frozen BK159.out 13; have hfz17_14 := blk_frozen BK159.out 14; have hfz17_15 := blk_frozen BK159.out 15; obtain ⟨Ao18, co18, eo18⟩ := Kd.R_slice HO150.out; subst eo18; obtain ⟨Ao19, co19, eo19⟩ := Kd.R_slice HO156.out; subst eo19) | ((with_reducible refine gate_callee (f := 12) rfl ?_); refine goesL_ (some 18) rfl rfl Tryd.func12 (by kernel_rfl) rfl #[.string (⟨#[120]⟩ : ByteArray)] rfl (by (try simp only [List.map_toArray, List.map_cons, List.map_nil]); first | done | rfl | (simp only [List.length_drop, List.length_take]; rfl)) ?_; (with_reducible refine (post_Take.calls (⟨#[120]⟩ : ByteArray) t160 t161 t162 t163 t164 t165 t166 t167 t168 t169 t170 t173 t174 t175 t176 t179 t180 _ (LaidW.below hL (by repeat (first | (with_reducible first | exact HB.out | apply below_alloc | apply pw_below_drewN | apply below_drew1 | refine below_set ?_ GE159.out) | exact HB.out))) A4.out).mono ?_); rintro e w20 ⟨v171, v177, rfl, ho0, ho1, hb⟩; refine ⟨_, rfl, ?_⟩; have n0_ := Aside0.mk (Kd.R_elder' (by (with_reducible repeat (first | apply Kd.R_alloc | apply Kd.R_drewN | apply Kd.R_drew)); exact (Kd.R_mono (Kd.R_far (p := ⟨gb159, 15, none⟩) (Kd.R_far (p := ⟨gb159, 14, none⟩) (Kd.R_far (p := ⟨gb159, 13, none⟩) (Kd.R_far (p := ⟨gb159, 12, none⟩) (Kd.R_far (p := ⟨gb159, 11, none⟩) (Kd.R_far (p := ⟨gb159, 10, none⟩) (Kd.R_far (p := ⟨gb159, 9, none⟩) (Kd.R_far (p := ⟨gb159, 8, none⟩) (Kd.R_far (p := ⟨gb159, 7, none⟩) (Kd.R_far (p := ⟨gb159, 6, none⟩) (Kd.R_far (p := ⟨gb159, 5, none⟩) (Kd.R_far (p := ⟨gb159, 4, none⟩) (Kd.R_far (p := ⟨gb159, 3, none⟩) (Kd.R_far (p := ⟨gb159, 2, none⟩) (Kd.R_far (p := ⟨gb159, 1, none⟩) (Kd.R_far (p := ⟨gb159, 0, none⟩) (Kd.R_types HO128.out BK159.out (by decide)) (fun _ hk => hk.2) (.int .i64 t138)) (fun _ hk => hk.2) (.int .i64 t139)) (fun _ hk => hk.2) (.int .i64 t140)) (fun _ hk => hk.2) (.int .i64 t141)) (fun _ hk => hk.2) (.int .i64 t142)) (fun _ hk => hk.2) (.int .i64 t143)) (fun _ hk => hk.2) (.int .i64 t144)) (fun _ hk => hk.2) (.int .i64 t145)) (fun _ hk => hk.2) (.int .i64 t146)) (fun _ hk => hk.2) (.int .i64 t147)) (fun _ hk => hk.2) (.slice Ao18 t148.length co18)) (fun _ hk => hk.2) (.int .i64 t151)) (fun _ hk => hk.2) (.int .i64 t152)) (fun _ hk => hk.2) (.bool t153)) (fun _ hk => hk.2) (.slice Ao19 t154.length co19)) (fun _ hk => hk.2) (.string t157)) (fun _ h_ => h_.1))) (Kd.R_base ho0) hb); have n1_ := Aside0.mk (Kd.R_elder' (by (with_reducible repeat (first | apply Kd.R_alloc | apply Kd.R_drewN | apply Kd.R_drew)); exact (Kd.R_mono (Kd.R_far (p := ⟨gb159, 15, none⟩) (Kd.R_far (p := ⟨gb159, 14, none⟩) (Kd.R_far (p := ⟨gb159, 13, none⟩) (Kd.R_far (p := ⟨gb159, 12, none⟩) (Kd.R_far (p := ⟨gb159, 11, none⟩) (Kd.R_far (p := ⟨gb159, 10, none⟩) (Kd.R_far (p := ⟨gb159, 9, none⟩) (Kd.R_far (p := ⟨gb159, 8, none⟩) (Kd.R_far (p := ⟨gb159, 7, none⟩) (Kd.R_far (p := ⟨gb159, 6, none⟩) (Kd.R_far (p := ⟨gb159, 5, none⟩) (Kd.R_far (p := ⟨gb159, 4, none⟩) (Kd.R_far (p := ⟨gb159, 3, none⟩) (Kd.R_far (p := ⟨gb159, 2, none⟩) (Kd.R_far (p := ⟨gb159, 1, none⟩) (Kd.R_far (p := ⟨gb159, 0, none⟩) (Kd.R_types HO134.out BK159.out (by decide)) (fun _ hk => hk.2) (.int .i64 t138)) (fun _ hk => hk.2) (.int .i64 t139)) (fun _ hk => hk.2) (.int .i64 t140)) (fun _ hk => hk.2) (.int .i64 t141)) (fun _ hk => hk.2) (.int .i64 t142)) (fun _ hk => hk.2) (.int .i64 t143)) (fun _ hk => hk.2) (.int .i64 t144)) (fun _ hk => hk.2) (.int .i64 t145)) (fun _ hk => hk.2) (.int .i64 t146)) (fun _ hk => hk.2) (.int .i64 t147)) (fun _ hk => hk.2) (.slice Ao18 t148.length co18)) (fun _ hk => hk.2) (.int .i64 t151)) (fun _ hk => hk.2) (.int .i64 t152)) (fun _ hk => hk.2) (.bool t153)) (fun _ hk => hk.2) (.slice Ao19 t154.length co19)) (fun _ hk => hk.2) (.string t157)) (fun _ h_ => h_.1))) (Kd.R_base ho1) hb); have n2_ := Aside0.mk (Kd.R_elder' (by (with_reducible repeat (first | apply Kd.R_alloc | apply Kd.R_drewN | apply Kd.R_drew)); exact (Kd.R_mono (Kd.R_far (p := ⟨gb159, 15, none⟩) (Kd.R_far (p := ⟨gb159, 14, none⟩) (Kd.R_far (p := ⟨gb159, 13, none⟩) (Kd.R_far (p := ⟨gb159, 12, none⟩) (Kd.R_far (p := ⟨gb159, 11, none⟩) (Kd.R_far (p := ⟨gb159, 10, none⟩) (Kd.R_far (p := ⟨gb159, 9, none⟩) (Kd.R_far (p := ⟨gb159, 8, none⟩) (Kd.R_far (p := ⟨gb159, 7, none⟩) (Kd.R_far (p := ⟨gb159, 6, none⟩) (Kd.R_far (p := ⟨gb159, 5, none⟩) (Kd.R_far (p := ⟨gb159, 4, none⟩) (Kd.R_far (p := ⟨gb159, 3, none⟩) (Kd.R_far (p := ⟨gb159, 2, none⟩) (Kd.R_far (p := ⟨gb159, 1, none⟩) (Kd.R_far (p := ⟨gb159, 0, none⟩) (Kd.R_types HO150.out BK159.out (by decide)) (fun _ hk => hk.2) (.int .i64 t138)) (fun _ hk => hk.2) (.int .i64 t139)) (fun _ hk => hk.2) (.int .i64 t140)) (fun _ hk => hk.2) (.int .i64 t141)) (fun _ hk => hk.2) (.int .i64 t142)) (fun _ hk => hk.2) (.int .i64 t143)) (fun _ hk => hk.2) (.int .i64 t144)) (fun _ hk => hk.2) (.int .i64 t145)) (fun _ hk => hk.2) (.int .i64 t146)) (fun _ hk => hk.2) (.int .i64 t147)) (fun _ hk => hk.2) (.slice Ao18 t148.length co18)) (fun _ hk => hk.2) (.int .i64 t151)) (fun _ hk => hk.2) (.int .i64 t152)) (fun _ hk => hk.2) (.bool t153)) (fun _ hk => hk.2) (.slice Ao19 t154.length co19)) (fun _ hk => hk.2) (.string t157)) (fun _ h_ => h_.1))) (Kd.R_base ho0) hb); have n3_ := Aside0.mk (Kd.R_elder' (by (with_reducible repeat (first | apply Kd.R_alloc | apply Kd.R_drewN | apply Kd.R_drew)); exact (Kd.R_mono (Kd.R_far (p := ⟨gb159, 15, none⟩) (Kd.R_far (p := ⟨gb159, 14, none⟩) (Kd.R_far (p := ⟨gb159, 13, none⟩) (Kd.R_far (p := ⟨gb159, 12, none⟩) (Kd.R_far (p := ⟨gb159, 11, none⟩) (Kd.R_far (p := ⟨gb159, 10, none⟩) (Kd.R_far (p := ⟨gb159, 9, none⟩) (Kd.R_far (p := ⟨gb159, 8, none⟩) (Kd.R_far (p := ⟨gb159, 7, none⟩) (Kd.R_far (p := ⟨gb159, 6, none⟩) (Kd.R_far (p := ⟨gb159, 5, none⟩) (Kd.R_far (p := ⟨gb159, 4, none⟩) (Kd.R_far (p := ⟨gb159, 3, none⟩) (Kd.R_far (p := ⟨gb159, 2, none⟩) (Kd.R_far (p := ⟨gb159, 1, none⟩) (Kd.R_far (p := ⟨gb159, 0, none⟩) (Kd.R_types HO156.out BK159.out (by decide)) (fun _ hk => hk.2) (.int .i64 t138)) (fun _ hk => hk.2) (.int .i64 t139)) (fun _ hk => hk.2) (.int .i64 t140)) (fun _ hk => hk.2) (.int .i64 t141)) (fun _ hk => hk.2) (.int .i64 t142)) (fun _ hk => hk.2) (.int .i64 t143)) (fun _ hk => hk.2) (.int .i64 t144)) (fun _ hk => hk.2) (.int .i64 t145)) (fun _ hk => hk.2) (.int .i64 t146)) (fun _ hk => hk.2) (.int .i64 t147)) (fun _ hk => hk.2) (.slice Ao18 t148.length co18)) (fun _ hk => hk.2) (.int .i64 t151)) (fun _ hk => hk.2) (.int .i64 t152)) (fun _ hk => hk.2) (.bool t153)) (fun _ hk => hk.2) (.slice Ao19 t154.length co19)) (fun _ hk => hk.2) (.string t157)) (fun _ h_ => h_.1))) (Kd.R_base ho1) hb); have n4_ := Aside0.mk (Kd.R_lower (Kd.R_new' (Kd.R_new' ho0 (Kd.R_lt (by (with_reducible repeat (first | apply Kd.R_alloc | apply Kd.R_drewN | apply Kd.R_drew)); exact (Kd.R_mono (Kd.R_far (p := ⟨gb159, 15, none⟩) (Kd.R_far (p := ⟨gb159, 14, none⟩) (Kd.R_far (p := ⟨gb159, 13, none⟩) (Kd.R_far (p := ⟨gb159, 12, none⟩) (Kd.R_far (p := ⟨gb159, 11, none⟩) (Kd.R_far (p := ⟨gb159, 10, none⟩) (Kd.R_far (p := ⟨gb159, 9, none⟩) (Kd.R_far (p := ⟨gb159, 8, none⟩) (Kd.R_far (p := ⟨gb159, 7, none⟩) (Kd.R_far (p := ⟨gb159, 6, none⟩) (Kd.R_far (p := ⟨gb159, 5, none⟩) (Kd.R_far (p := ⟨gb159, 4, none⟩) (Kd.R_far (p := ⟨gb159, 3, none⟩) (Kd.R_far (p := ⟨gb159, 2, none⟩) (Kd.R_far (p := ⟨gb159, 1, none⟩) (Kd.R_far (p := ⟨gb159, 0, none⟩) (Kd.R_types HO128.out BK159.out (by decide)) (fun _ hk => hk.2) (.int .i64 t138)) (fun _ hk => hk.2) (.int .i64 t139)) (fun _ hk => hk.2) (.int .i64 t140)) (fun _ hk => hk.2) (.int .i64 t141)) (fun _ hk => hk.2) (.int .i64 t142)) (fun _ hk => hk.2) (.int .i64 t143)) (fun _ hk => hk.2) (.int .i64 t144)) (fun _ hk => hk.2) (.int .i64 t145)) (fun _ hk => hk.2) (.int .i64 t146)) (fun _ hk => hk.2) (.int .i64 t147)) (fun _ hk => hk.2) (.slice Ao18 t148.length co18)) (fun _ hk => hk.2) (.int .i64 t151)) (fun _ hk => hk.2) (.int .i64 t152)) (fun _ hk => hk.2) (.bool t153)) (fun _ hk => hk.2) (.slice Ao19 t154.length co19)) (fun _ hk => hk.2) (.string t157)) (fun _ h_ => h_.1))))) (Kd.R_lt (by (with_reducible repeat (first | apply Kd.R_alloc | apply Kd.R_drewN | apply Kd.R_drew)); exact (Kd.R_mono (Kd.R_far (p := ⟨gb159, 15, none⟩) (Kd.R_far (p := ⟨gb159, 14, none⟩) (Kd.R_far (p := ⟨gb159, 13, none⟩) (Kd.R_far (p := ⟨gb159, 12, none⟩) (Kd.R_far (p := ⟨gb159, 11, none⟩) (Kd.R_far (p := ⟨gb159, 10, none⟩) (Kd.R_far (p := ⟨gb159, 9, none⟩) (Kd.R_far (p := ⟨gb159, 8, none⟩) (Kd.R_far (p := ⟨gb159, 7, none⟩) (Kd.R_far (p := ⟨gb159, 6, none⟩) (Kd.R_far (p := ⟨gb159, 5, none⟩) (Kd.R_far (p := ⟨gb159, 4, none⟩) (Kd.R_far (p := ⟨gb159, 3, none⟩) (Kd.R_far (p := ⟨gb159, 2, none⟩) (Kd.R_far (p := ⟨gb159, 1, none⟩) (Kd.R_far (p := ⟨gb159, 0, none⟩) (Kd.R_types HO150.out BK159.out (by decide)) (fun _ hk => hk.2) (.int .i64 t138)) (fun _ hk => hk.2) (.int .i64 t139)) (fun _ hk => hk.2) (.int .i64 t140)) (fun _ hk => hk.2) (.int .i64 t141)) (fun _ hk => hk.2) (.int .i64 t142)) (fun _ hk => hk.2) (.int .i64 t143)) (fun _ hk => hk.2) (.int .i64 t144)) (fun _ hk => hk.2) (.int .i64 t145)) (fun _ hk => hk.2) (.int .i64 t146)) (fun _ hk => hk.2) (.int .i64 t147)) (fun _ hk => hk.2) (.slice Ao18 t148.length co18)) (fun _ hk => hk.2) (.int .i64 t151)) (fun _ hk => hk.2) (.int .i64 t152)) (fun _ hk => hk.2) (.bool t153)) (fun _ hk => hk.2) (.slice Ao19 t154.length co19)) (fun _ hk => hk.2) (.string t157)) (fun _ h_ => h_.1))))) (below_size (by repeat (first | (with_reducible first | exact HB.out | apply below_alloc | apply pw_below_drewN | apply below_drew1 | refine below_set ?_ GE159.out) | exact HB.out)))); have n5_ := Aside0.mk (Kd.R_lower (Kd.R_new' (Kd.R_new' ho1 (Kd.R_lt (by (with_reducible repeat (first | apply Kd.R_alloc | apply Kd.R_drewN | apply Kd.R_drew)); exact (Kd.R_mono (Kd.R_far (p := ⟨gb159, 15, none⟩) (Kd.R_far (p := ⟨gb159, 14, none⟩) (Kd.R_far (p := ⟨gb159, 13, none⟩) (Kd.R_far (p := ⟨gb159, 12, none⟩) (Kd.R_far (p := ⟨gb159, 11, none⟩) (Kd.R_far (p := ⟨gb159, 10, none⟩) (Kd.R_far (p := ⟨gb159, 9, none⟩) (Kd.R_far (p := ⟨gb159, 8, none⟩) (Kd.R_far (p := ⟨gb159, 7, none⟩) (Kd.R_far (p := ⟨gb159, 6, none⟩) (Kd.R_far (p := ⟨gb159, 5, none⟩) (Kd.R_far (p := ⟨gb159, 4, none⟩) (Kd.R_far (p := ⟨gb159, 3, none⟩) (Kd.R_far (p := ⟨gb159, 2, none⟩) (Kd.R_far (p := ⟨gb159, 1, none⟩) (Kd.R_far (p := ⟨gb159, 0, none⟩) (Kd.R_types HO134.out BK159.out (by decide)) (fun _ hk => hk.2) (.int .i64 t138)) (fun _ hk => hk.2) (.int .i64 t139)) (fun _ hk => hk.2) (.int .i64 t140)) (fun _ hk => hk.2) (.int .i64 t141)) (fun _ hk => hk.2) (.int .i64 t142)) (fun _ hk => hk.2) (.int .i64 t143)) (fun _ hk => hk.2) (.int .i64 t144)) (fun _ hk => hk.2) (.int .i64 t145)) (fun _ hk => hk.2) (.int .i64 t146)) (fun _ hk => hk.2) (.int .i64 t147)) (fun _ hk => hk.2) (.slice Ao18 t148.length co18)) (fun _ hk => hk.2) (.int .i64 t151)) (fun _ hk => hk.2) (.int .i64 t152)) (fun _ hk => hk.2) (.bool t153)) (fun _ hk => hk.2) (.slice Ao19 t154.length co19)) (fun _ hk => hk.2) (.string t157)) (fun _ h_ => h_.1))))) (Kd.R_lt (by (with_reducible repeat (first | apply Kd.R_alloc | apply Kd.R_drewN | apply Kd.R_drew)); exact (Kd.R_mono (Kd.R_far (p := ⟨gb159, 15, none⟩) (Kd.R_far (p := ⟨gb159, 14, none⟩) (Kd.R_far (p := ⟨gb159, 13, none⟩) (Kd.R_far (p := ⟨gb159, 12, none⟩) (Kd.R_far (p := ⟨gb159, 11, none⟩) (Kd.R_far (p := ⟨gb159, 10, none⟩) (Kd.R_far (p := ⟨gb159, 9, none⟩) (Kd.R_far (p := ⟨gb159, 8, none⟩) (Kd.R_far (p := ⟨gb159, 7, none⟩) (Kd.R_far (p := ⟨gb159, 6, none⟩) (Kd.R_far (p := ⟨gb159, 5, none⟩) (Kd.R_far (p := ⟨gb159, 4, none⟩) (Kd.R_far (p := ⟨gb159, 3, none⟩) (Kd.R_far (p := ⟨gb159, 2, none⟩) (Kd.R_far (p := ⟨gb159, 1, none⟩) (Kd.R_far (p := ⟨gb159, 0, none⟩) (Kd.R_types HO156.out BK159.out (by decide)) (fun _ hk => hk.2) (.int .i64 t138)) (fun _ hk => hk.2) (.int .i64 t139)) (fun _ hk => hk.2) (.int .i64 t140)) (fun _ hk => hk.2) (.int .i64 t141)) (fun _ hk => hk.2) (.int .i64 t142)) (fun _ hk => hk.2) (.int .i64 t143)) (fun _ hk => hk.2) (.int .i64 t144)) (fun _ hk => hk.2) (.int .i64 t145)) (fun _ hk => hk.2) (.int .i64 t146)) (fun _ hk => hk.2) (.int .i64 t147)) (fun _ hk => hk.2) (.slice Ao18 t148.length co18)) (fun _ hk => hk.2) (.int .i64 t151)) (fun _ hk => hk.2) (.int .i64 t152)) (fun _ hk => hk.2) (.bool t153)) (fun _ hk => hk.2) (.slice Ao19 t154.length co19)) (fun _ hk => hk.2) (.string t157)) (fun _ h_ => h_.1))))) (below_size (by repeat (first | (with_reducible first | exact HB.out | apply below_alloc | apply pw_below_drewN | apply below_drew1 | refine below_set ?_ GE159.out) | exact HB.out)))); have n6_ := Aside0.mk (blk_below (g := gb159) (o := .cells #[.int .i64 t138, .int .i64 t139, .int .i64 t140, .int .i64 t141, .int .i64 t142, .int .i64 t143, .int .i64 t144, .int .i64 t145, .int .i64 t146, .int .i64 t147, .slice Ao18 t148.length co18, .int .i64 t151, .int .i64 t152, .bool t153, .slice Ao19 t154.length co19, .string t157] 30 (0, 0)) (by (with_reducible repeat (first | refine blk_drewN ?_ _ | refine blk_drew ?_ | refine blk_alloc ?_ _)); refine blk_put (cs := #[.int .i64 t138, .int .i64 t139, .int .i64 t140, .int .i64 t141, .int .i64 t142, .int .i64 t143, .int .i64 t144, .int .i64 t145, .int .i64 t146, .int .i64 t147, .slice Ao18 t148.length co18, .int .i64 t151, .int .i64 t152, .bool t153, .slice Ao19 t154.length co19, .string (⟨#[]⟩ : ByteArray)]) ?_ 15 _ rfl; (with_reducible repeat (first | refine blk_drewN ?_ _ | refine blk_drew ?_ | refine blk_alloc ?_ _)); refine blk_put (cs := #[.int .i64 t138, .int .i64 t139, .int .i64 t140, .int .i64 t141, .int .i64 t142, .int .i64 t143, .int .i64 t144, .int .i64 t145, .int .i64 t146, .int .i64 t147, .slice Ao18 t148.length co18, .int .i64 t151, .int .i64 t152, .bool t153, .slice none 0 0, .string (⟨#[]⟩ : ByteArray)]) ?_ 14 _ rfl; (with_reducible repeat (first | refine blk_drewN ?_ _ | refine blk_drew ?_ | refine blk_alloc ?_ _)); refine blk_put (cs := #[.int .i64 t138, .int .i64 t139, .int .i64 t140, .int .i64 t141, .int .i64 t142, .int .i64 t143, .int .i64 t144, .int .i64 t145, .int .i64 t146, .int .i64 t147, .slice Ao18 t148.length co18, .int .i64 t151, .int .i64 t152, .bool false, .slice none 0 0, .string (⟨#[]⟩ : ByteArray)]) ?_ 13 _ rfl; (with_reducible repeat (first | refine blk_drewN ?_ _ | refine blk_drew ?_ | refine blk_alloc ?_ _)); refine blk_put (cs := #[.int .i64 t138, .int .i64 t139, .int .i64 t140, .int .i64 t141, .int .i64 t142, .int .i64 t143, .int .i64 t144, .int .i64 t145, .int .i64 t146, .int .i64 t147, .slice Ao18 t148.length co18, .int .i64 t151, .int .i64 0, .bool false, .slice none 0 0, .string (⟨#[]⟩ : ByteArray)]) ?_ 12 _ rfl; (with_reducible repeat (first | refine blk_drewN ?_ _ | refine blk_drew ?_ | refine blk_alloc ?_ _)); refine blk_put (cs := #[.int .i64 t138, .int .i64 t139, .int .i64 t140, .int .i64 t141, .int .i64 t142, .int .i64 t143, .int .i64 t144, .int .i64 t145, .int .i64 t146, .int .i64 t147, .slice Ao18 t148.length co18, .int .i64 0, .int .i64 0, .bool false, .slice none 0 0, .string (⟨#[]⟩ : ByteArray)]) ?_ 11 _ rfl; (with_reducible repeat (first | refine blk_drewN ?_ _ | refine blk_drew ?_ | refine blk_alloc ?_ _)); refine blk_put (cs := #[.int .i64 t138, .int .i64 t139, .int .i64 t140, .int .i64 t141, .int .i64 t142, .int .i64 t143, .int .i64 t144, .int .i64 t145, .int .i64 t146, .int .i64 t147, .slice none 0 0, .int .i64 0, .int .i64 0, .bool false, .slice none 0 0, .string (⟨#[]⟩ : ByteArray)]) ?_ 10 _ rfl; (with_reducible repeat (first | refine blk_drewN ?_ _ | refine blk_drew ?_ | refine blk_alloc ?_ _)); refine blk_put (cs := #[.int .i64 t138, .int .i64 t139, .int .i64 t140, .int .i64 t141, .int .i64 t142, .int .i64 t143, .int .i64 t144, .int .i64 t145, .int .i64 t146, .int .i64 0, .slice none 0 0, .int .i64 0, .int .i64 0, .bool false, .slice none 0 0, .string (⟨#[]⟩ : ByteArray)]) ?_ 9 _ rfl; (with_reducible repeat (first | refine blk_drewN ?_ _ | refine blk_drew ?_ | refine blk_alloc ?_ _)); refine blk_put (cs := #[.int .i64 t138, .int .i64 t139, .int .i64 t140, .int .i64 t141, .int .i64 t142, .int .i64 t143, .int .i64 t144, .int .i64 t145, .int .i64 0, .int .i64 0, .slice none 0 0, .int .i64 0, .int .i64 0, .bool false, .slice none 0 0, .string (⟨#[]⟩ : ByteArray)]) ?_ 8 _ rfl; (with_reducible repeat (first | refine blk_drewN ?_ _ | refine blk_drew ?_ | refine blk_alloc ?_ _)); refine blk_put (cs := #[.int .i64 t138, .int .i64 t139, .int .i64 t140, .int .i64 t141, .int .i64 t142, .int .i64 t143, .int .i64 t144, .int .i64 0, .int .i64 0, .int .i64 0, .slice none 0 0, .int .i64 0, .int .i64 0, .bool false, .slice none 0 0, .string (⟨#[]⟩ : ByteArray)]) ?_ 7 _ rfl; (with_reducible repeat (first | refine blk_drewN ?_ _ | refine blk_drew ?_ | refine blk_alloc ?_ _)); refine blk_put (cs := #[.int .i64 t138, .int .i64 t139, .int .i64 t140, .int .i64 t141, .int .i64 t142, .int .i64 t143, .int .i64 0, .int .i64 0, .int .i64 0, .int .i64 0, .slice none 0 0, .int .i64 0, .int .i64 0, .bool false, .slice none 0 0, .string (⟨#[]⟩ : ByteArray)]) ?_ 6 _ rfl; (with_reducible repeat (first | refine blk_drewN ?_ _ | refine blk_drew ?_ | refine blk_alloc ?_ _)); refine blk_put (cs := #[.int .i64 t138, .int .i64 t139, .int .i64 t140, .int .i64 t141, .int .i64 t142, .int .i64 0, .int .i64 0, .int .i64 0, .int .i64 0, .int .i64 0, .slice none 0 0, .int .i64 0, .int .i64 0, .bool false, .slice none 0 0, .string (⟨#[]⟩ : ByteArray)]) ?_ 5 _ rfl; (with_reducible repeat (first | refine blk_drewN ?_ _ | refine blk_drew ?_ | refine blk_alloc ?_ _)); refine blk_put (cs := #[.int .i64 t138, .int .i64 t139, .int .i64 t140, .int .i64 t141, .int .i64 0, .int .i64 0, .int .i64 0, .int .i64 0, .int .i64 0, .int .i64 0, .slice none 0 0, .int .i64 0, .int .i64 0, .bool false, .slice none 0 0, .string (⟨#[]⟩ : ByteArray)]) ?_ 4 _ rfl; (with_reducible repeat (first | refine blk_drewN ?_ _ | refine blk_drew ?_ | refine blk_alloc ?_ _)); refine blk_put (cs := #[.int .i64 t138, .int .i64 t139, .int .i64 t140, .int .i64 0, .int .i64 0, .int .i64 0, .int .i64 0, .int .i64 0, .int .i64 0, .int .i64 0, .slice none 0 0, .int .i64 0, .int .i64 0, .bool false, .slice none 0 0, .string (⟨#[]⟩ : ByteArray)]) ?_ 3 _ rfl; (with_reducible repeat (first | refine blk_drewN ?_ _ | refine blk_drew ?_ | refine blk_alloc ?_ _)); refine blk_put (cs := #[.int .i64 t138, .int .i64 t139, .int .i64 0, .int .i64 0, .int .i64 0, .int .i64 0, .int .i64 0, .int .i64 0, .int .i64 0, .int .i64 0, .slice none 0 0, .int .i64 0, .int .i64 0, .bool false, .slice none 0 0, .string (⟨#[]⟩ : ByteArray)]) ?_ 2 _ rfl; (with_reducible repeat (first | refine blk_drewN ?_ _ | refine blk_drew ?_ | refine blk_alloc ?_ _)); refine blk_put (cs := #[.int .i64 t138, .int .i64 0, .int .i64 0, .int .i64 0, .int .i64 0, .int .i64 0, .int .i64 0, .int .i64 0, .int .i64 0, .int .i64 0, .slice none 0 0, .int .i64 0, .int .i64 0, .bool false, .slice none 0 0, .string (⟨#[]⟩ : ByteArray)]) ?_ 1 _ rfl; (with_reducible repeat (first | refine blk_drewN ?_ _ | refine blk_drew ?_ | refine blk_alloc ?_ _)); refine blk_put (cs := #[.int .i64 0, .int .i64 0, .int .i64 0, .int .i64 0, .int .i64 0, .int .i64 0, .int .i64 0, .int .i64 0, .int .i64 0, .int .i64 0, .slice none 0 0, .int .i64 0, .int .i64 0, .bool false, .slice none 0 0, .string (⟨#[]⟩ : ByteArray)]) ?_ 0 _ rfl; (with_reducible repeat (first | refine blk_drewN ?_ _ | refine blk_drew ?_ | refine blk_alloc ?_ _)); exact BK159.out) hb); have n7_ := Aside0.mk (below_step (by repeat (first | (with_reducible first | exact HB.out | apply below_alloc | apply pw_below_drewN | apply below_drew1 | refine below_set ?_ GE159.out) | exact HB.out)) hb); clear HO128; clear HO134; clear HO150; clear HO156; clear BK159; clear HB; have HO128 := n0_; have HO134 := n1_; have HO150 := n2_; have HO156 := n3_; have HO172 := n4_; have HO178 := n5_; have BK159 := n6_; have HB := n7_; clear n0_ n1_ n2_ n3_ n4_ n5_ n6_ n7_; (try clear hb); (try clear hb2); (try clear hk); (try clear hi); (try clear ho0); (try clear ho1)) | ((with_reducible refine gate_dst (N := 5) rfl ?_); refine box_event ?hg (N := 5) ?hd (cs := #[.int .i64 0, .int .i64 0, .int .i64 0, .int .i64 0, .int .i64 0, .int .i64 0, .int .i64 0, .int .i64 0, .int .i64 0, .int .i64 0, .slice none 0 0, .int .i64 0, .int .i64 0, .bool false, .slice none 0 0, .string (⟨#[]⟩ : ByteArray)]) (t := 30) ?hr ?_; (case hd => rfl); (case hg => rfl); (case hr => first | (go_simp; done) | (go_simp; rfl)); intro gb181 hg w21 hbox hb; have n0_ := Aside0.mk (Kd.R_below (by (with_reducible repeat (first | apply Kd.R_alloc | apply Kd.R_drewN | apply Kd.R_drew)); exact HO128.out) hb); have n1_ := Aside0.mk (Kd.R_below (by (with_reducible repeat (first | apply Kd.R_alloc | apply Kd.R_drewN | apply Kd.R_drew)); exact HO134.out) hb); have n2_ := Aside0.mk (Kd.R_below (by (with_reducible repeat (first | apply Kd.R_alloc | apply Kd.R_drewN | apply Kd.R_drew)); exact HO150.out) hb); have n3_ := Aside0.mk (Kd.R_below (by (with_reducible repeat (first | apply Kd.R_alloc | apply Kd.R_drewN | apply Kd.R_drew)); exact HO156.out) hb); have n4_ := Aside0.mk (Kd.R_below (by (with_reducible repeat (first | apply Kd.R_alloc | apply Kd.R_drewN | apply Kd.R_drew)); exact HO172.out) hb); have n5_ := Aside0.mk (Kd.R_below (by (with_reducible repeat (first | apply Kd.R_alloc | apply Kd.R_drewN | apply Kd.R_drew)); exact HO178.out) hb); have n6_ := Aside0.mk (blk_below (g := gb159) (o := .cells #[.int .i64 t138, .int .i64 t139, .int .i64 t140, .int .i64 t141, .int .i64 t142, .int .i64 t143, .int .i64 t144, .int .i64 t145, .int .i64 t146, .int .i64 t147, .slice Ao18 t148.length co18, .int .i64 t151, .int .i64 t152, .bool t153, .slice Ao19 t154.length co19, .string t157] 30 (0, 0)) (by (with_reducible repeat (first | refine blk_drewN ?_ _ | refine blk_drew ?_ | refine blk_alloc ?_ _)); exact BK159.out) hb); have n7_ := Aside0.mk (below_step (by repeat (first | (with_reducible first | exact HB.out | apply below_alloc | apply pw_below_drewN | apply below_drew1 | refine below_set ?_ GE159.out) | exact HB.out)) hb); have n8_ := Aside0.mk (hbox); have n9_ := Aside0.mk ((by rw [hg]; exact (below_size (by repeat (first | (with_reducible first | exact HB.out | apply below_alloc | apply pw_below_drewN | apply below_drew1 | refine below_set ?_ GE159.out) | exact HB.out))) : w.heap.size ≤ gb181)); have n10_ := Aside0.mk ((by rw [hg]; exact (below_size (by repeat (first | (with_reducible first | exact HB.out | apply below_alloc | apply pw_below_drewN | apply below_drew1 | refine below_set ?_ GE159.out) | exact HB.out))) : w.heap.size ≤ gb181)); have n11_ := Aside0.mk ((by rw [hg]; exact Nat.ne_of_lt (blk_lt (g := gb159) (o := .cells #[.int .i64 t138, .int .i64 t139, .int .i64 t140, .int .i64 t141, .int .i64 t142, .int .i64 t143, .int .i64 t144, .int .i64 t145, .int .i64 t146, .int .i64 t147, .slice Ao18 t148.length co18, .int .i64 t151, .int .i64 t152, .bool t153, .slice Ao19 t154.length co19, .string t157] 30 (0, 0)) (by (with_reducible repeat (first | refine blk_drewN ?_ _ | refine blk_drew ?_ | refine blk_alloc ?_ _)); exact BK159.out)) : gb159 ≠ gb181)); have n12_ := Aside0.mk ((by rw [hg]; exact Nat.ne_of_gt (blk_lt (g := gb159) (o := .cells #[.int .i64 t138, .int .i64 t139, .int .i64 t140, .int .i64 t141, .int .i64 t142, .int .i64 t143, .int .i64 t144, .int .i64 t145, .int .i64 t146, .int .i64 t147, .slice Ao18 t148.length co18, .int .i64 t151, .int .i64 t152, .bool t153, .slice Ao19 t154.length co19, .string t157] 30 (0, 0)) (by (with_reducible repeat (first | refine blk_drewN ?_ _ | refine blk_drew ?_ | refine blk_alloc ?_ _)); exact BK159.out)) : gb181 ≠ gb159)); clear HO128; clear HO134; clear HO150; clear HO156; clear HO172; clear HO178; clear BK159; clear HB; have HO128 := n0_; have HO134 := n1_; have HO150 := n2_; have HO156 := n3_; have HO172 := n4_; have HO178 := n5_; have BK159 := n6_; have HB := n7_; have BK181 := n8_; have GW181 := n9_; have GE181 := n10_; have NB159_181 := n11_; have NB181_159 := n12_; clear n0_ n1_ n2_ n3_ n4_ n5_ n6_ n7_ n8_ n9_ n10_ n11_ n12_; clear hb hbox hg; have hnb22 := NB181_159.out; have hnc22 := NB159_181.out; have hcz23_0 : w21.cell? ⟨gb181, 0, none⟩ = some (.int .i64 0) := (blk_cell BK181.out 0).trans rfl; have hcz23_1 : w21.cell? ⟨gb181, 1, none⟩ = some (.int .i64 0) := (blk_cell BK181.out 1).trans rfl; have hcz23_2 : w21.cell? ⟨gb181, 2, none⟩ = some (.int .i64 0) := (blk_cell BK181.out 2).trans rfl; have hcz23_3 : w21.cell? ⟨gb181, 3, none⟩ = some (.int .i64 0) := (blk_cell BK181.out 3).trans rfl; have hcz23_4 : w21.cell? ⟨gb181, 4, none⟩ = some (.int .i64 0) := (blk_cell BK181.out 4).trans rfl; have hcz23_5 : w21.cell? ⟨gb181, 5, none⟩ = some (.int .i64 0) := (blk_cell BK181.out 5).trans rfl; have hcz23_6 : w21.cell? ⟨gb181, 6, none⟩ = some (.int .i64 0) := (blk_cell BK181.out 6).trans rfl; have hcz23_7 : w21.cell? ⟨gb181, 7, none⟩ = some (.int .i64 0) := (blk_cell BK181.out 7).trans rfl; have hcz23_8 : w21.cell? ⟨gb181, 8, none⟩ = some (.int .i64 0) := (blk_cell BK181.out 8).trans rfl; have hcz23_9 : w21.cell? ⟨gb181, 9, none⟩ = some (.int .i64 0) := (blk_cell BK181.out 9).trans rfl; have hcz23_10 : w21.cell? ⟨gb181, 10, none⟩ = some (.slice none 0 0) := (blk_cell BK181.out 10).trans rfl; have hcz23_11 : w21.cell? ⟨gb181, 11, none⟩ = some (.int .i64 0) := (blk_cell BK181.out 11).trans rfl; have hcz23_12 : w21.cell? ⟨gb181, 12, none⟩ = some (.int .i64 0) := (blk_cell BK181.out 12).trans rfl; have hcz23_13 : w21.cell? ⟨gb181, 13, none⟩ = some (.bool false) := (blk_cell BK181.out 13).trans rfl; have hcz23_14 : w21.cell? ⟨gb181, 14, none⟩ = some (.slice none 0 0) := (blk_cell BK181.out 14).trans rfl; have hcz23_15 : w21.cell? ⟨gb181, 15, none⟩ = some (.string (⟨#[]⟩ : ByteArray)) := (blk_cell BK181.out 15).trans rfl; have hfz23_0 := blk_frozen BK181.out 0; have hfz23_1 := blk_frozen BK181.out 1; have hfz23_2 := blk_frozen BK181.out 2; have hfz23_3 := blk_frozen BK181.out 3; have hfz23_4 := blk_frozen BK181.out 4; have hfz23_5 := blk_frozen BK181.out 5; have hfz23_6 := blk_frozen BK181.out 6; have hfz23_7 := blk_frozen BK181.out 7; have hfz23_8 := blk_frozen BK181.out 8; have hfz23_9 := blk_frozen BK181.out 9; have hfz23_10 := blk_frozen BK181.out 10; have hfz23_11 := blk_frozen BK181.out 11; have hfz23_12 := blk_frozen BK181.out 12; have hfz23_13 := blk_frozen BK181.out 13; have hfz23_14 := blk_frozen BK181.out 14; have hfz23_15 := blk_frozen BK181.out 15; obtain ⟨Ao24, co24, eo24⟩ := Kd.R_slice HO172.out; subst eo24; obtain ⟨Ao25, co25, eo25⟩ := Kd.R_slice HO178.out; subst eo25))
          have n0_ : Aside0 (Kd.R (Kd.int .i64) 3 ((((((((((((((((w21.setCell ⟨gb181, 0, none⟩ (.int .i64 t160)).setCell ⟨gb181, 1, none⟩ (.int .i64 t161)).setCell ⟨gb181, 2, none⟩ (.int .i64 t162)).setCell ⟨gb181, 3, none⟩ (.int .i64 t163)).setCell ⟨gb181, 4, none⟩ (.int .i64 t164)).setCell ⟨gb181, 5, none⟩ (.int .i64 t165)).setCell ⟨gb181, 6, none⟩ (.int .i64 t166)).setCell ⟨gb181, 7, none⟩ (.int .i64 t167)).setCell ⟨gb181, 8, none⟩ (.int .i64 t168)).setCell ⟨gb181, 9, none⟩ (.int .i64 t169)).setCell ⟨gb181, 10, none⟩ (.slice Ao24 t170.length co24)).setCell ⟨gb181, 11, none⟩ (.int .i64 t173)).setCell ⟨gb181, 12, none⟩ (.int .i64 t174)).setCell ⟨gb181, 13, none⟩ (.bool t175)).setCell ⟨gb181, 14, none⟩ (.slice Ao25 t176.length co25)).setCell ⟨gb181, 15, none⟩ (.string t179)) w.heap.size (fun k_ => some k_ ≠ (.slice Ao18 t148.length co18 : Value).ownBlock ∧ some k_ ≠ (.slice Ao24 t170.length co24 : Value).ownBlock) (.slice Ao12 t126.length co12) t126) := ⟨by (with_reducible repeat (first | apply Kd.R_alloc | apply Kd.R_drewN | apply Kd.R_drew)); exact Kd.R_mono (Kd.R_far (p := ⟨gb181, 15, none⟩) (Kd.R_far (p := ⟨gb181, 14, none⟩) (Kd.R_far (p := ⟨gb181, 13, none⟩) (Kd.R_far (p := ⟨gb181, 12, none⟩) (Kd.R_far (p := ⟨gb181, 11, none⟩) (Kd.R_far (p := ⟨gb181, 10, none⟩) (Kd.R_far (p := ⟨gb181, 9, none⟩) (Kd.R_far (p := ⟨gb181, 8, none⟩) (Kd.R_far (p := ⟨gb181, 7, none⟩) (Kd.R_far (p := ⟨gb181, 6, none⟩) (Kd.R_far (p := ⟨gb181, 5, none⟩) (Kd.R_far (p := ⟨gb181, 4, none⟩) (Kd.R_far (p := ⟨gb181, 3, none⟩) (Kd.R_far (p := ⟨gb181, 2, none⟩) (Kd.R_far (p := ⟨gb181, 1, none⟩) (Kd.R_far (p := ⟨gb181, 0, none⟩) (Kd.R_types HO128.out BK181.out (by decide)) (fun _ hk => hk.2) (.int .i64 t160)) (fun _ hk => hk.2) (.int .i64 t161)) (fun _ hk => hk.2) (.int .i64 t162)) (fun _ hk => hk.2) (.int .i64 t163)) (fun _ hk => hk.2) (.int .i64 t164)) (fun _ hk => hk.2) (.int .i64 t165)) (fun _ hk => hk.2) (.int .i64 t166)) (fun _ hk => hk.2) (.int .i64 t167)) (fun _ hk => hk.2) (.int .i64 t168)) (fun _ hk => hk.2) (.int .i64 t169)) (fun _ hk => hk.2) (.slice Ao24 t170.length co24)) (fun _ hk => hk.2) (.int .i64 t173)) (fun _ hk => hk.2) (.int .i64 t174)) (fun _ hk => hk.2) (.bool t175)) (fun _ hk => hk.2) (.slice Ao25 t176.length co25)) (fun _ hk => hk.2) (.string t179)) (fun _ hk => ⟨hk.1.1.2, hk.1.2⟩)⟩
          have n1_ : Aside0 (Kd.R k52 52 ((((((((((((((((w21.setCell ⟨gb181, 0, none⟩ (.int .i64 t160)).setCell ⟨gb181, 1, none⟩ (.int .i64 t161)).setCell ⟨gb181, 2, none⟩ (.int .i64 t162)).setCell ⟨gb181, 3, none⟩ (.int .i64 t163)).setCell ⟨gb181, 4, none⟩ (.int .i64 t164)).setCell ⟨gb181, 5, none⟩ (.int .i64 t165)).setCell ⟨gb181, 6, none⟩ (.int .i64 t166)).setCell ⟨gb181, 7, none⟩ (.int .i64 t167)).setCell ⟨gb181, 8, none⟩ (.int .i64 t168)).setCell ⟨gb181, 9, none⟩ (.int .i64 t169)).setCell ⟨gb181, 10, none⟩ (.slice Ao24 t170.length co24)).setCell ⟨gb181, 11, none⟩ (.int .i64 t173)).setCell ⟨gb181, 12, none⟩ (.int .i64 t174)).setCell ⟨gb181, 13, none⟩ (.bool t175)).setCell ⟨gb181, 14, none⟩ (.slice Ao25 t176.length co25)).setCell ⟨gb181, 15, none⟩ (.string t179)) w.heap.size (fun k_ => some k_ ≠ (.slice Ao19 t154.length co19 : Value).ownBlock ∧ some k_ ≠ (.slice Ao25 t176.length co25 : Value).ownBlock) (.slice Ao13 t132.length co13) t132) := ⟨by (with_reducible repeat (first | apply Kd.R_alloc | apply Kd.R_drewN | apply Kd.R_drew)); exact Kd.R_mono (Kd.R_far (p := ⟨gb181, 15, none⟩) (Kd.R_far (p := ⟨gb181, 14, none⟩) (Kd.R_far (p := ⟨gb181, 13, none⟩) (Kd.R_far (p := ⟨gb181, 12, none⟩) (Kd.R_far (p := ⟨gb181, 11, none⟩) (Kd.R_far (p := ⟨gb181, 10, none⟩) (Kd.R_far (p := ⟨gb181, 9, none⟩) (Kd.R_far (p := ⟨gb181, 8, none⟩) (Kd.R_far (p := ⟨gb181, 7, none⟩) (Kd.R_far (p := ⟨gb181, 6, none⟩) (Kd.R_far (p := ⟨gb181, 5, none⟩) (Kd.R_far (p := ⟨gb181, 4, none⟩) (Kd.R_far (p := ⟨gb181, 3, none⟩) (Kd.R_far (p := ⟨gb181, 2, none⟩) (Kd.R_far (p := ⟨gb181, 1, none⟩) (Kd.R_far (p := ⟨gb181, 0, none⟩) (Kd.R_types HO134.out BK181.out (by decide)) (fun _ hk => hk.2) (.int .i64 t160)) (fun _ hk => hk.2) (.int .i64 t161)) (fun _ hk => hk.2) (.int .i64 t162)) (fun _ hk => hk.2) (.int .i64 t163)) (fun _ hk => hk.2) (.int .i64 t164)) (fun _ hk => hk.2) (.int .i64 t165)) (fun _ hk => hk.2) (.int .i64 t166)) (fun _ hk => hk.2) (.int .i64 t167)) (fun _ hk => hk.2) (.int .i64 t168)) (fun _ hk => hk.2) (.int .i64 t169)) (fun _ hk => hk.2) (.slice Ao24 t170.length co24)) (fun _ hk => hk.2) (.int .i64 t173)) (fun _ hk => hk.2) (.int .i64 t174)) (fun _ hk => hk.2) (.bool t175)) (fun _ hk => hk.2) (.slice Ao25 t176.length co25)) (fun _ hk => hk.2) (.string t179)) (fun _ hk => ⟨hk.1.1.2, hk.1.2⟩)⟩
          have n2_ : Aside0 (Kd.R (Kd.int .i64) 3 ((((((((((((((((w21.setCell ⟨gb181, 0, none⟩ (.int .i64 t160)).setCell ⟨gb181, 1, none⟩ (.int .i64 t161)).setCell ⟨gb181, 2, none⟩ (.int .i64 t162)).setCell ⟨gb181, 3, none⟩ (.int .i64 t163)).setCell ⟨gb181, 4, none⟩ (.int .i64 t164)).setCell ⟨gb181, 5, none⟩ (.int .i64 t165)).setCell ⟨gb181, 6, none⟩ (.int .i64 t166)).setCell ⟨gb181, 7, none⟩ (.int .i64 t167)).setCell ⟨gb181, 8, none⟩ (.int .i64 t168)).setCell ⟨gb181, 9, none⟩ (.int .i64 t169)).setCell ⟨gb181, 10, none⟩ (.slice Ao24 t170.length co24)).setCell ⟨gb181, 11, none⟩ (.int .i64 t173)).setCell ⟨gb181, 12, none⟩ (.int .i64 t174)).setCell ⟨gb181, 13, none⟩ (.bool t175)).setCell ⟨gb181, 14, none⟩ (.slice Ao25 t176.length co25)).setCell ⟨gb181, 15, none⟩ (.string t179)) w.heap.size (fun k_ => some k_ ≠ (.slice Ao12 t126.length co12 : Value).ownBlock ∧ some k_ ≠ (.slice Ao24 t170.length co24 : Value).ownBlock) (.slice Ao18 t148.length co18) t148) := ⟨by (with_reducible repeat (first | apply Kd.R_alloc | apply Kd.R_drewN | apply Kd.R_drew)); exact Kd.R_mono (Kd.R_far (p := ⟨gb181, 15, none⟩) (Kd.R_far (p := ⟨gb181, 14, none⟩) (Kd.R_far (p := ⟨gb181, 13, none⟩) (Kd.R_far (p := ⟨gb181, 12, none⟩) (Kd.R_far (p := ⟨gb181, 11, none⟩) (Kd.R_far (p := ⟨gb181, 10, none⟩) (Kd.R_far (p := ⟨gb181, 9, none⟩) (Kd.R_far (p := ⟨gb181, 8, none⟩) (Kd.R_far (p := ⟨gb181, 7, none⟩) (Kd.R_far (p := ⟨gb181, 6, none⟩) (Kd.R_far (p := ⟨gb181, 5, none⟩) (Kd.R_far (p := ⟨gb181, 4, none⟩) (Kd.R_far (p := ⟨gb181, 3, none⟩) (Kd.R_far (p := ⟨gb181, 2, none⟩) (Kd.R_far (p := ⟨gb181, 1, none⟩) (Kd.R_far (p := ⟨gb181, 0, none⟩) (Kd.R_types HO150.out BK181.out (by decide)) (fun _ hk => hk.2) (.int .i64 t160)) (fun _ hk => hk.2) (.int .i64 t161)) (fun _ hk => hk.2) (.int .i64 t162)) (fun _ hk => hk.2) (.int .i64 t163)) (fun _ hk => hk.2) (.int .i64 t164)) (fun _ hk => hk.2) (.int .i64 t165)) (fun _ hk => hk.2) (.int .i64 t166)) (fun _ hk => hk.2) (.int .i64 t167)) (fun _ hk => hk.2) (.int .i64 t168)) (fun _ hk => hk.2) (.int .i64 t169)) (fun _ hk => hk.2) (.slice Ao24 t170.length co24)) (fun _ hk => hk.2) (.int .i64 t173)) (fun _ hk => hk.2) (.int .i64 t174)) (fun _ hk => hk.2) (.bool t175)) (fun _ hk => hk.2) (.slice Ao25 t176.length co25)) (fun _ hk => hk.2) (.string t179)) (fun _ hk => ⟨hk.1.1.2, hk.1.2⟩)⟩
          have n3_ : Aside0 (Kd.R k52 52 ((((((((((((((((w21.setCell ⟨gb181, 0, none⟩ (.int .i64 t160)).setCell ⟨gb181, 1, none⟩ (.int .i64 t161)).setCell ⟨gb181, 2, none⟩ (.int .i64 t162)).setCell ⟨gb181, 3, none⟩ (.int .i64 t163)).setCell ⟨gb181, 4, none⟩ (.int .i64 t164)).setCell ⟨gb181, 5, none⟩ (.int .i64 t165)).setCell ⟨gb181, 6, none⟩ (.int .i64 t166)).setCell ⟨gb181, 7, none⟩ (.int .i64 t167)).setCell ⟨gb181, 8, none⟩ (.int .i64 t168)).setCell ⟨gb181, 9, none⟩ (.int .i64 t169)).setCell ⟨gb181, 10, none⟩ (.slice Ao24 t170.length co24)).setCell ⟨gb181, 11, none⟩ (.int .i64 t173)).setCell ⟨gb181, 12, none⟩ (.int .i64 t174)).setCell ⟨gb181, 13, none⟩ (.bool t175)).setCell ⟨gb181, 14, none⟩ (.slice Ao25 t176.length co25)).setCell ⟨gb181, 15, none⟩ (.string t179)) w.heap.size (fun k_ => some k_ ≠ (.slice Ao13 t132.length co13 : Value).ownBlock ∧ some k_ ≠ (.slice Ao25 t176.length co25 : Value).ownBlock) (.slice Ao19 t154.length co19) t154) := ⟨by (with_reducible repeat (first | apply Kd.R_alloc | apply Kd.R_drewN | apply Kd.R_drew)); exact Kd.R_mono (Kd.R_far (p := ⟨gb181, 15, none⟩) (Kd.R_far (p := ⟨gb181, 14, none⟩) (Kd.R_far (p := ⟨gb181, 13, none⟩) (Kd.R_far (p := ⟨gb181, 12, none⟩) (Kd.R_far (p := ⟨gb181, 11, none⟩) (Kd.R_far (p := ⟨gb181, 10, none⟩) (Kd.R_far (p := ⟨gb181, 9, none⟩) (Kd.R_far (p := ⟨gb181, 8, none⟩) (Kd.R_far (p := ⟨gb181, 7, none⟩) (Kd.R_far (p := ⟨gb181, 6, none⟩) (Kd.R_far (p := ⟨gb181, 5, none⟩) (Kd.R_far (p := ⟨gb181, 4, none⟩) (Kd.R_far (p := ⟨gb181, 3, none⟩) (Kd.R_far (p := ⟨gb181, 2, none⟩) (Kd.R_far (p := ⟨gb181, 1, none⟩) (Kd.R_far (p := ⟨gb181, 0, none⟩) (Kd.R_types HO156.out BK181.out (by decide)) (fun _ hk => hk.2) (.int .i64 t160)) (fun _ hk => hk.2) (.int .i64 t161)) (fun _ hk => hk.2) (.int .i64 t162)) (fun _ hk => hk.2) (.int .i64 t163)) (fun _ hk => hk.2) (.int .i64 t164)) (fun _ hk => hk.2) (.int .i64 t165)) (fun _ hk => hk.2) (.int .i64 t166)) (fun _ hk => hk.2) (.int .i64 t167)) (fun _ hk => hk.2) (.int .i64 t168)) (fun _ hk => hk.2) (.int .i64 t169)) (fun _ hk => hk.2) (.slice Ao24 t170.length co24)) (fun _ hk => hk.2) (.int .i64 t173)) (fun _ hk => hk.2) (.int .i64 t174)) (fun _ hk => hk.2) (.bool t175)) (fun _ hk => hk.2) (.slice Ao25 t176.length co25)) (fun _ hk => hk.2) (.string t179)) (fun _ hk => ⟨hk.1.1.2, hk.1.2⟩)⟩
          have n4_ : Aside0 (Kd.R (Kd.int .i64) 3 ((((((((((((((((w21.setCell ⟨gb181, 0, none⟩ (.int .i64 t160)).setCell ⟨gb181, 1, none⟩ (.int .i64 t161)).setCell ⟨gb181, 2, none⟩ (.int .i64 t162)).setCell ⟨gb181, 3, none⟩ (.int .i64 t163)).setCell ⟨gb181, 4, none⟩ (.int .i64 t164)).setCell ⟨gb181, 5, none⟩ (.int .i64 t165)).setCell ⟨gb181, 6, none⟩ (.int .i64 t166)).setCell ⟨gb181, 7, none⟩ (.int .i64 t167)).setCell ⟨gb181, 8, none⟩ (.int .i64 t168)).setCell ⟨gb181, 9, none⟩ (.int .i64 t169)).setCell ⟨gb181, 10, none⟩ (.slice Ao24 t170.length co24)).setCell ⟨gb181, 11, none⟩ (.int .i64 t173)).setCell ⟨gb181, 12, none⟩ (.int .i64 t174)).setCell ⟨gb181, 13, none⟩ (.bool t175)).setCell ⟨gb181, 14, none⟩ (.slice Ao25 t176.length co25)).setCell ⟨gb181, 15, none⟩ (.string t179)) w.heap.size (fun k_ => some k_ ≠ (.slice Ao12 t126.length co12 : Value).ownBlock ∧ some k_ ≠ (.slice Ao18 t148.length co18 : Value).ownBlock) (.slice Ao24 t170.length co24) t170) := ⟨by (with_reducible repeat (first | apply Kd.R_alloc | apply Kd.R_drewN | apply Kd.R_drew)); exact Kd.R_mono (Kd.R_far (p := ⟨gb181, 15, none⟩) (Kd.R_far (p := ⟨gb181, 14, none⟩) (Kd.R_far (p := ⟨gb181, 13, none⟩) (Kd.R_far (p := ⟨gb181, 12, none⟩) (Kd.R_far (p := ⟨gb181, 11, none⟩) (Kd.R_far (p := ⟨gb181, 10, none⟩) (Kd.R_far (p := ⟨gb181, 9, none⟩) (Kd.R_far (p := ⟨gb181, 8, none⟩) (Kd.R_far (p := ⟨gb181, 7, none⟩) (Kd.R_far (p := ⟨gb181, 6, none⟩) (Kd.R_far (p := ⟨gb181, 5, none⟩) (Kd.R_far (p := ⟨gb181, 4, none⟩) (Kd.R_far (p := ⟨gb181, 3, none⟩) (Kd.R_far (p := ⟨gb181, 2, none⟩) (Kd.R_far (p := ⟨gb181, 1, none⟩) (Kd.R_far (p := ⟨gb181, 0, none⟩) (Kd.R_types HO172.out BK181.out (by decide)) (fun _ hk => hk.2) (.int .i64 t160)) (fun _ hk => hk.2) (.int .i64 t161)) (fun _ hk => hk.2) (.int .i64 t162)) (fun _ hk => hk.2) (.int .i64 t163)) (fun _ hk => hk.2) (.int .i64 t164)) (fun _ hk => hk.2) (.int .i64 t165)) (fun _ hk => hk.2) (.int .i64 t166)) (fun _ hk => hk.2) (.int .i64 t167)) (fun _ hk => hk.2) (.int .i64 t168)) (fun _ hk => hk.2) (.int .i64 t169)) (fun _ hk => hk.2) (.slice Ao24 t170.length co24)) (fun _ hk => hk.2) (.int .i64 t173)) (fun _ hk => hk.2) (.int .i64 t174)) (fun _ hk => hk.2) (.bool t175)) (fun _ hk => hk.2) (.slice Ao25 t176.length co25)) (fun _ hk => hk.2) (.string t179)) (fun _ hk => ⟨hk.1.1.2, hk.1.2⟩)⟩
          have n5_ : Aside0 (Kd.R k52 52 ((((((((((((((((w21.setCell ⟨gb181, 0, none⟩ (.int .i64 t160)).setCell ⟨gb181, 1, none⟩ (.int .i64 t161)).setCell ⟨gb181, 2, none⟩ (.int .i64 t162)).setCell ⟨gb181, 3, none⟩ (.int .i64 t163)).setCell ⟨gb181, 4, none⟩ (.int .i64 t164)).setCell ⟨gb181, 5, none⟩ (.int .i64 t165)).setCell ⟨gb181, 6, none⟩ (.int .i64 t166)).setCell ⟨gb181, 7, none⟩ (.int .i64 t167)).setCell ⟨gb181, 8, none⟩ (.int .i64 t168)).setCell ⟨gb181, 9, none⟩ (.int .i64 t169)).setCell ⟨gb181, 10, none⟩ (.slice Ao24 t170.length co24)).setCell ⟨gb181, 11, none⟩ (.int .i64 t173)).setCell ⟨gb181, 12, none⟩ (.int .i64 t174)).setCell ⟨gb181, 13, none⟩ (.bool t175)).setCell ⟨gb181, 14, none⟩ (.slice Ao25 t176.length co25)).setCell ⟨gb181, 15, none⟩ (.string t179)) w.heap.size (fun k_ => some k_ ≠ (.slice Ao13 t132.length co13 : Value).ownBlock ∧ some k_ ≠ (.slice Ao19 t154.length co19 : Value).ownBlock) (.slice Ao25 t176.length co25) t176) := ⟨by (with_reducible repeat (first | apply Kd.R_alloc | apply Kd.R_drewN | apply Kd.R_drew)); exact Kd.R_mono (Kd.R_far (p := ⟨gb181, 15, none⟩) (Kd.R_far (p := ⟨gb181, 14, none⟩) (Kd.R_far (p := ⟨gb181, 13, none⟩) (Kd.R_far (p := ⟨gb181, 12, none⟩) (Kd.R_far (p := ⟨gb181, 11, none⟩) (Kd.R_far (p := ⟨gb181, 10, none⟩) (Kd.R_far (p := ⟨gb181, 9, none⟩) (Kd.R_far (p := ⟨gb181, 8, none⟩) (Kd.R_far (p := ⟨gb181, 7, none⟩) (Kd.R_far (p := ⟨gb181, 6, none⟩) (Kd.R_far (p := ⟨gb181, 5, none⟩) (Kd.R_far (p := ⟨gb181, 4, none⟩) (Kd.R_far (p := ⟨gb181, 3, none⟩) (Kd.R_far (p := ⟨gb181, 2, none⟩) (Kd.R_far (p := ⟨gb181, 1, none⟩) (Kd.R_far (p := ⟨gb181, 0, none⟩) (Kd.R_types HO178.out BK181.out (by decide)) (fun _ hk => hk.2) (.int .i64 t160)) (fun _ hk => hk.2) (.int .i64 t161)) (fun _ hk => hk.2) (.int .i64 t162)) (fun _ hk => hk.2) (.int .i64 t163)) (fun _ hk => hk.2) (.int .i64 t164)) (fun _ hk => hk.2) (.int .i64 t165)) (fun _ hk => hk.2) (.int .i64 t166)) (fun _ hk => hk.2) (.int .i64 t167)) (fun _ hk => hk.2) (.int .i64 t168)) (fun _ hk => hk.2) (.int .i64 t169)) (fun _ hk => hk.2) (.slice Ao24 t170.length co24)) (fun _ hk => hk.2) (.int .i64 t173)) (fun _ hk => hk.2) (.int .i64 t174)) (fun _ hk => hk.2) (.bool t175)) (fun _ hk => hk.2) (.slice Ao25 t176.length co25)) (fun _ hk => hk.2) (.string t179)) (fun _ hk => ⟨hk.1.1.2, hk.1.2⟩)⟩
          have n6_ : Aside0 (((((((((((((((((w21.setCell ⟨gb181, 0, none⟩ (.int .i64 t160)).setCell ⟨gb181, 1, none⟩ (.int .i64 t161)).setCell ⟨gb181, 2, none⟩ (.int .i64 t162)).setCell ⟨gb181, 3, none⟩ (.int .i64 t163)).setCell ⟨gb181, 4, none⟩ (.int .i64 t164)).setCell ⟨gb181, 5, none⟩ (.int .i64 t165)).setCell ⟨gb181, 6, none⟩ (.int .i64 t166)).setCell ⟨gb181, 7, none⟩ (.int .i64 t167)).setCell ⟨gb181, 8, none⟩ (.int .i64 t168)).setCell ⟨gb181, 9, none⟩ (.int .i64 t169)).setCell ⟨gb181, 10, none⟩ (.slice Ao24 t170.length co24)).setCell ⟨gb181, 11, none⟩ (.int .i64 t173)).setCell ⟨gb181, 12, none⟩ (.int .i64 t174)).setCell ⟨gb181, 13, none⟩ (.bool t175)).setCell ⟨gb181, 14, none⟩ (.slice Ao25 t176.length co25)).setCell ⟨gb181, 15, none⟩ (.string t179)).heap[gb159]? = some (.cells #[.int .i64 t138, .int .i64 t139, .int .i64 t140, .int .i64 t141, .int .i64 t142, .int .i64 t143, .int .i64 t144, .int .i64 t145, .int .i64 t146, .int .i64 t147, .slice Ao18 t148.length co18, .int .i64 t151, .int .i64 t152, .bool t153, .slice Ao19 t154.length co19, .string t157] 30 (0, 0))) := ⟨by (with_reducible repeat (first | refine blk_drewN ?_ _ | refine blk_drew ?_ | refine blk_alloc ?_ _)); refine blk_far ?_ NB159_181.out _; (with_reducible repeat (first | refine blk_drewN ?_ _ | refine blk_drew ?_ | refine blk_alloc ?_ _)); refine blk_far ?_ NB159_181.out _; (with_reducible repeat (first | refine blk_drewN ?_ _ | refine blk_drew ?_ | refine blk_alloc ?_ _)); refine blk_far ?_ NB159_181.out _; (with_reducible repeat (first | refine blk_drewN ?_ _ | refine blk_drew ?_ | refine blk_alloc ?_ _)); refine blk_far ?_ NB159_181.out _; (with_reducible repeat (first | refine blk_drewN ?_ _ | refine blk_drew ?_ | refine blk_alloc ?_ _)); refine blk_far ?_ NB159_181.out _; (with_reducible repeat (first | refine blk_drewN ?_ _ | refine blk_drew ?_ | refine blk_alloc ?_ _)); refine blk_far ?_ NB159_181.out _; (with_reducible repeat (first | refine blk_drewN ?_ _ | refine blk_drew ?_ | refine blk_alloc ?_ _)); refine blk_far ?_ NB159_181.out _; (with_reducible repeat (first | refine blk_drewN ?_ _ | refine blk_drew ?_ | refine blk_alloc ?_ _)); refine blk_far ?_ NB159_181.out _; (with_reducible repeat (first | refine blk_drewN ?_ _ | refine blk_drew ?_ | refine blk_alloc ?_ _)); refine blk_far ?_ NB159_181.out _; (with_reducible repeat (first | refine blk_drewN ?_ _ | refine blk_drew ?_ | refine blk_alloc ?_ _)); refine blk_far ?_ NB159_181.out _; (with_reducible repeat (first | refine blk_drewN ?_ _ | refine blk_drew ?_ | refine blk_alloc ?_ _)); refine blk_far ?_ NB159_181.out _; (with_reducible repeat (first | refine blk_drewN ?_ _ | refine blk_drew ?_ | refine blk_alloc ?_ _)); refine blk_far ?_ NB159_181.out _; (with_reducible repeat (first | refine blk_drewN ?_ _ | refine blk_drew ?_ | refine blk_alloc ?_ _)); refine blk_far ?_ NB159_181.out _; (with_reducible repeat (first | refine blk_drewN ?_ _ | refine blk_drew ?_ | refine blk_alloc ?_ _)); refine blk_far ?_ NB159_181.out _; (with_reducible repeat (first | refine blk_drewN ?_ _ | refine blk_drew ?_ | refine blk_alloc ?_ _)); refine blk_far ?_ NB159_181.out _; (with_reducible repeat (first | refine blk_drewN ?_ _ | refine blk_drew ?_ | refine blk_alloc ?_ _)); refine blk_far ?_ NB159_181.out _; (with_reducible repeat (first | refine blk_drewN ?_ _ | refine blk_drew ?_ | refine blk_alloc ?_ _)); exact BK159.out⟩
          have n7_ : Aside0 (((((((((((((((((w21.setCell ⟨gb181, 0, none⟩ (.int .i64 t160)).setCell ⟨gb181, 1, none⟩ (.int .i64 t161)).setCell ⟨gb181, 2, none⟩ (.int .i64 t162)).setCell ⟨gb181, 3, none⟩ (.int .i64 t163)).setCell ⟨gb181, 4, none⟩ (.int .i64 t164)).setCell ⟨gb181, 5, none⟩ (.int .i64 t165)).setCell ⟨gb181, 6, none⟩ (.int .i64 t166)).setCell ⟨gb181, 7, none⟩ (.int .i64 t167)).setCell ⟨gb181, 8, none⟩ (.int .i64 t168)).setCell ⟨gb181, 9, none⟩ (.int .i64 t169)).setCell ⟨gb181, 10, none⟩ (.slice Ao24 t170.length co24)).setCell ⟨gb181, 11, none⟩ (.int .i64 t173)).setCell ⟨gb181, 12, none⟩ (.int .i64 t174)).setCell ⟨gb181, 13, none⟩ (.bool t175)).setCell ⟨gb181, 14, none⟩ (.slice Ao25 t176.length co25)).setCell ⟨gb181, 15, none⟩ (.string t179)).heap[gb181]? = some (.cells #[.int .i64 t160, .int .i64 t161, .int .i64 t162, .int .i64 t163, .int .i64 t164, .int .i64 t165, .int .i64 t166, .int .i64 t167, .int .i64 t168, .int .i64 t169, .slice Ao24 t170.length co24, .int .i64 t173, .int .i64 t174, .bool t175, .slice Ao25 t176.length co25, .string t179] 30 (0, 0))) := ⟨by (with_reducible repeat (first | refine blk_drewN ?_ _ | refine blk_drew ?_ | refine blk_alloc ?_ _)); refine blk_put (cs := #[.int .i64 t160, .int .i64 t161, .int .i64 t162, .int .i64 t163, .int .i64 t164, .int .i64 t165, .int .i64 t166, .int .i64 t167, .int .i64 t168, .int .i64 t169, .slice Ao24 t170.length co24, .int .i64 t173, .int .i64 t174, .bool t175, .slice Ao25 t176.length co25, .string (⟨#[]⟩ : ByteArray)]) ?_ 15 _ rfl; (with_reducible repeat (first | refine blk_drewN ?_ _ | refine blk_drew ?_ | refine blk_alloc ?_ _)); refine blk_put (cs := #[.int .i64 t160, .int .i64 t161, .int .i64 t162, .int .i64 t163, .int .i64 t164, .int .i64 t165, .int .i64 t166, .int .i64 t167, .int .i64 t168, .int .i64 t169, .slice Ao24 t170.length co24, .int .i64 t173, .int .i64 t174, .bool t175, .slice none 0 0, .string (⟨#[]⟩ : ByteArray)]) ?_ 14 _ rfl; (with_reducible repeat (first | refine blk_drewN ?_ _ | refine blk_drew ?_ | refine blk_alloc ?_ _)); refine blk_put (cs := #[.int .i64 t160, .int .i64 t161, .int .i64 t162, .int .i64 t163, .int .i64 t164, .int .i64 t165, .int .i64 t166, .int .i64 t167, .int .i64 t168, .int .i64 t169, .slice Ao24 t170.length co24, .int .i64 t173, .int .i64 t174, .bool false, .slice none 0 0, .string (⟨#[]⟩ : ByteArray)]) ?_ 13 _ rfl; (with_reducible repeat (first | refine blk_drewN ?_ _ | refine blk_drew ?_ | refine blk_alloc ?_ _)); refine blk_put (cs := #[.int .i64 t160, .int .i64 t161, .int .i64 t162, .int .i64 t163, .int .i64 t164, .int .i64 t165, .int .i64 t166, .int .i64 t167, .int .i64 t168, .int .i64 t169, .slice Ao24 t170.length co24, .int .i64 t173, .int .i64 0, .bool false, .slice none 0 0, .string (⟨#[]⟩ : ByteArray)]) ?_ 12 _ rfl; (with_reducible repeat (first | refine blk_drewN ?_ _ | refine blk_drew ?_ | refine blk_alloc ?_ _)); refine blk_put (cs := #[.int .i64 t160, .int .i64 t161, .int .i64 t162, .int .i64 t163, .int .i64 t164, .int .i64 t165, .int .i64 t166, .int .i64 t167, .int .i64 t168, .int .i64 t169, .slice Ao24 t170.length co24, .int .i64 0, .int .i64 0, .bool false, .slice none 0 0, .string (⟨#[]⟩ : ByteArray)]) ?_ 11 _ rfl; (with_reducible repeat (first | refine blk_drewN ?_ _ | refine blk_drew ?_ | refine blk_alloc ?_ _)); refine blk_put (cs := #[.int .i64 t160, .int .i64 t161, .int .i64 t162, .int .i64 t163, .int .i64 t164, .int .i64 t165, .int .i64 t166, .int .i64 t167, .int .i64 t168, .int .i64 t169, .slice none 0 0, .int .i64 0, .int .i64 0, .bool false, .slice none 0 0, .string (⟨#[]⟩ : ByteArray)]) ?_ 10 _ rfl; (with_reducible repeat (first | refine blk_drewN ?_ _ | refine blk_drew ?_ | refine blk_alloc ?_ _)); refine blk_put (cs := #[.int .i64 t160, .int .i64 t161, .int .i64 t162, .int .i64 t163, .int .i64 t164, .int .i64 t165, .int .i64 t166, .int .i64 t167, .int .i64 t168, .int .i64 0, .slice none 0 0, .int .i64 0, .int .i64 0, .bool false, .slice none 0 0, .string (⟨#[]⟩ : ByteArray)]) ?_ 9 _ rfl; (with_reducible repeat (first | refine blk_drewN ?_ _ | refine blk_drew ?_ | refine blk_alloc ?_ _)); refine blk_put (cs := #[.int .i64 t160, .int .i64 t161, .int .i64 t162, .int .i64 t163, .int .i64 t164, .int .i64 t165, .int .i64 t166, .int .i64 t167, .int .i64 0, .int .i64 0, .slice none 0 0, .int .i64 0, .int .i64 0, .bool false, .slice none 0 0, .string (⟨#[]⟩ : ByteArray)]) ?_ 8 _ rfl; (with_reducible repeat (first | refine blk_drewN ?_ _ | refine blk_drew ?_ | refine blk_alloc ?_ _)); refine blk_put (cs := #[.int .i64 t160, .int .i64 t161, .int .i64 t162, .int .i64 t163, .int .i64 t164, .int .i64 t165, .int .i64 t166, .int .i64 0, .int .i64 0, .int .i64 0, .slice none 0 0, .int .i64 0, .int .i64 0, .bool false, .slice none 0 0, .string (⟨#[]⟩ : ByteArray)]) ?_ 7 _ rfl; (with_reducible repeat (first | refine blk_drewN ?_ _ | refine blk_drew ?_ | refine blk_alloc ?_ _)); refine blk_put (cs := #[.int .i64 t160, .int .i64 t161, .int .i64 t162, .int .i64 t163, .int .i64 t164, .int .i64 t165, .int .i64 0, .int .i64 0, .int .i64 0, .int .i64 0, .slice none 0 0, .int .i64 0, .int .i64 0, .bool false, .slice none 0 0, .string (⟨#[]⟩ : ByteArray)]) ?_ 6 _ rfl; (with_reducible repeat (first | refine blk_drewN ?_ _ | refine blk_drew ?_ | refine blk_alloc ?_ _)); refine blk_put (cs := #[.int .i64 t160, .int .i64 t161, .int .i64 t162, .int .i64 t163, .int .i64 t164, .int .i64 0, .int .i64 0, .int .i64 0, .int .i64 0, .int .i64 0, .slice none 0 0, .int .i64 0, .int .i64 0, .bool false, .slice none 0 0, .string (⟨#[]⟩ : ByteArray)]) ?_ 5 _ rfl; (with_reducible repeat (first | refine blk_drewN ?_ _ | refine blk_drew ?_ | refine blk_alloc ?_ _)); refine blk_put (cs := #[.int .i64 t160, .int .i64 t161, .int .i64 t162, .int .i64 t163, .int .i64 0, .int .i64 0, .int .i64 0, .int .i64 0, .int .i64 0, .int .i64 0, .slice none 0 0, .int .i64 0, .int .i64 0, .bool false, .slice none 0 0, .string (⟨#[]⟩ : ByteArray)]) ?_ 4 _ rfl; (with_reducible repeat (first | refine blk_drewN ?_ _ | refine blk_drew ?_ | refine blk_alloc ?_ _)); refine blk_put (cs := #[.int .i64 t160, .int .i64 t161, .int .i64 t162, .int .i64 0, .int .i64 0, .int .i64 0, .int .i64 0, .int .i64 0, .int .i64 0, .int .i64 0, .slice none 0 0, .int .i64 0, .int .i64 0, .bool false, .slice none 0 0, .string (⟨#[]⟩ : ByteArray)]) ?_ 3 _ rfl; (with_reducible repeat (first | refine blk_drewN ?_ _ | refine blk_drew ?_ | refine blk_alloc ?_ _)); refine blk_put (cs := #[.int .i64 t160, .int .i64 t161, .int .i64 0, .int .i64 0, .int .i64 0, .int .i64 0, .int .i64 0, .int .i64 0, .int .i64 0, .int .i64 0, .slice none 0 0, .int .i64 0, .int .i64 0, .bool false, .slice none 0 0, .string (⟨#[]⟩ : ByteArray)]) ?_ 2 _ rfl; (with_reducible repeat (first | refine blk_drewN ?_ _ | refine blk_drew ?_ | refine blk_alloc ?_ _)); refine blk_put (cs := #[.int .i64 t160, .int .i64 0, .int .i64 0, .int .i64 0, .int .i64 0, .int .i64 0, .int .i64 0, .int .i64 0, .int .i64 0, .int .i64 0, .slice none 0 0, .int .i64 0, .int .i64 0, .bool false, .slice none 0 0, .string (⟨#[]⟩ : ByteArray)]) ?_ 1 _ rfl; (with_reducible repeat (first | refine blk_drewN ?_ _ | refine blk_drew ?_ | refine blk_alloc ?_ _)); refine blk_put (cs := #[.int .i64 0, .int .i64 0, .int .i64 0, .int .i64 0, .int .i64 0, .int .i64 0, .int .i64 0, .int .i64 0, .int .i64 0, .int .i64 0, .slice none 0 0, .int .i64 0, .int .i64 0, .bool false, .slice none 0 0, .string (⟨#[]⟩ : ByteArray)]) ?_ 0 _ rfl; (with_reducible repeat (first | refine blk_drewN ?_ _ | refine blk_drew ?_ | refine blk_alloc ?_ _)); exact BK181.out⟩
          have n8_ : Aside0 (Below w.heap.size w ((((((((((((((((w21.setCell ⟨gb181, 0, none⟩ (.int .i64 t160)).setCell ⟨gb181, 1, none⟩ (.int .i64 t161)).setCell ⟨gb181, 2, none⟩ (.int .i64 t162)).setCell ⟨gb181, 3, none⟩ (.int .i64 t163)).setCell ⟨gb181, 4, none⟩ (.int .i64 t164)).setCell ⟨gb181, 5, none⟩ (.int .i64 t165)).setCell ⟨gb181, 6, none⟩ (.int .i64 t166)).setCell ⟨gb181, 7, none⟩ (.int .i64 t167)).setCell ⟨gb181, 8, none⟩ (.int .i64 t168)).setCell ⟨gb181, 9, none⟩ (.int .i64 t169)).setCell ⟨gb181, 10, none⟩ (.slice Ao24 t170.length co24)).setCell ⟨gb181, 11, none⟩ (.int .i64 t173)).setCell ⟨gb181, 12, none⟩ (.int .i64 t174)).setCell ⟨gb181, 13, none⟩ (.bool t175)).setCell ⟨gb181, 14, none⟩ (.slice Ao25 t176.length co25)).setCell ⟨gb181, 15, none⟩ (.string t179))) := ⟨by repeat (first | (with_reducible first | exact HB.out | apply below_alloc | apply pw_below_drewN | apply below_drew1 | refine below_set ?_ GE159.out | refine below_set ?_ GE181.out) | exact HB.out)⟩
          (try clear HO128)
          (try clear HO134)
          (try clear HO150)
          (try clear HO156)
          (try clear HO172)
          (try clear HO178)
          (try clear BK159)
          (try clear BK181)
          (try clear HB)
          generalize ((((((((((((((((w21.setCell ⟨gb181, 0, none⟩ (.int .i64 t160)).setCell ⟨gb181, 1, none⟩ (.int .i64 t161)).setCell ⟨gb181, 2, none⟩ (.int .i64 t162)).setCell ⟨gb181, 3, none⟩ (.int .i64 t163)).setCell ⟨gb181, 4, none⟩ (.int .i64 t164)).setCell ⟨gb181, 5, none⟩ (.int .i64 t165)).setCell ⟨gb181, 6, none⟩ (.int .i64 t166)).setCell ⟨gb181, 7, none⟩ (.int .i64 t167)).setCell ⟨gb181, 8, none⟩ (.int .i64 t168)).setCell ⟨gb181, 9, none⟩ (.int .i64 t169)).setCell ⟨gb181, 10, none⟩ (.slice Ao24 t170.length co24)).setCell ⟨gb181, 11, none⟩ (.int .i64 t173)).setCell ⟨gb181, 12, none⟩ (.int .i64 t174)).setCell ⟨gb181, 13, none⟩ (.bool t175)).setCell ⟨gb181, 14, none⟩ (.slice Ao25 t176.length co25)).setCell ⟨gb181, 15, none⟩ (.string t179)) = w26 at n0_ n1_ n2_ n3_ n4_ n5_ n6_ n7_ n8_ ⊢
          have HO128 := n0_
          have HO134 := n1_
          have HO150 := n2_
          have HO156 := n3_
          have HO172 := n4_
          have HO178 := n5_
          have BK159 := n6_
          have BK181 := n7_
          have HB := n8_
          clear n0_ n1_ n2_ n3_ n4_ n5_ n6_ n7_ n8_
          have n0_ := Aside0.mk (Kd.R_drew HO128.out)
          have n1_ := Aside0.mk (Kd.R_drew HO134.out)
          have n2_ := Aside0.mk (Kd.R_drew HO150.out)
          have n3_ := Aside0.mk (Kd.R_drew HO156.out)
          have n4_ := Aside0.mk (Kd.R_drew HO172.out)
          have n5_ := Aside0.mk (Kd.R_drew HO178.out)
          have n6_ := Aside0.mk (blk_drew BK159.out)
          have n7_ := Aside0.mk (blk_drew BK181.out)
          have n8_ := Aside0.mk (below_drew1 HB.out)
          clear HO128
          clear HO134
          clear HO150
          clear HO156
          clear HO172
          clear HO178
          clear BK159
          clear BK181
          clear HB
          have HO128 := n0_
          have HO134 := n1_
          have HO150 := n2_
          have HO156 := n3_
          have HO172 := n4_
          have HO178 := n5_
          have BK159 := n6_
          have BK181 := n7_
          have HB := n8_
          clear n0_ n1_ n2_ n3_ n4_ n5_ n6_ n7_ n8_
          refine start_ (n := 21) (S := fun w' => w'.cell? ⟨gb159, 0, none⟩ = some (.int .i64 t138) ∧ w'.cell? ⟨gb159, 1, none⟩ = some (.int .i64 t139) ∧ w'.cell? ⟨gb159, 2, none⟩ = some (.int .i64 t140) ∧ w'.cell? ⟨gb159, 3, none⟩ = some (.int .i64 t141) ∧ w'.cell? ⟨gb159, 4, none⟩ = some (.int .i64 t142) ∧ w'.cell? ⟨gb159, 5, none⟩ = some (.int .i64 t143) ∧ w'.cell? ⟨gb159, 6, none⟩ = some (.int .i64 t144) ∧ w'.cell? ⟨gb159, 7, none⟩ = some (.int .i64 t145) ∧ w'.cell? ⟨gb159, 8, none⟩ = some (.int .i64 t146) ∧ w'.cell? ⟨gb159, 9, none⟩ = some (.int .i64 t147) ∧ w'.cell? ⟨gb159, 10, none⟩ = some (.slice Ao18 t148.length co18) ∧ w'.cell? ⟨gb159, 11, none⟩ = some (.int .i64 t151) ∧ w'.cell? ⟨gb159, 12, none⟩ = some (.int .i64 t152) ∧ w'.cell? ⟨gb159, 13, none⟩ = some (.bool t153) ∧ w'.cell? ⟨gb159, 14, none⟩ = some (.slice Ao19 t154.length co19) ∧ w'.cell? ⟨gb159, 15, none⟩ = some (.string t157)) (ds := []) #[false, false, false, false, false, false, false, false, false, false, false, false, false, false, false, false, false, false, false, false, false] (by kernel_rfl) rfl rfl ⟨(blk_cell BK159.out 0).trans rfl, (blk_cell BK159.out 1).trans rfl, (blk_cell BK159.out 2).trans rfl, (blk_cell BK159.out 3).trans rfl, (blk_cell BK159.out 4).trans rfl, (blk_cell BK159.out 5).trans rfl, (blk_cell BK159.out 6).trans rfl, (blk_cell BK159.out 7).trans rfl, (blk_cell BK159.out 8).trans rfl, (blk_cell BK159.out 9).trans rfl, (blk_cell BK159.out 10).trans rfl, (blk_cell BK159.out 11).trans rfl, (blk_cell BK159.out 12).trans rfl, (blk_cell BK159.out 13).trans rfl, (blk_cell BK159.out 14).trans rfl, (blk_cell BK159.out 15).trans rfl⟩ (fun hHeld => ?_); refine with_tabW ploverlaw13_awake.tab4 ploverlaw13_awake.bits4 (fun HT_ HW_ => ?_)
          generalize w26.drew = w27 at HO128 HO134 HO150 HO156 HO172 HO178 BK159 BK181 HB hHeld ⊢
          refine pure_ (i := 0) (N := some 21) (v := ?_) (a' := ?_) #[true, false, false, false, false, false, false, false, false, false, false, false, false, false, false, false, false, false, false, false, false] rfl rfl (any_of HT_.out (by kernel_rfl)) (fun _ _ _ h => h) (Or.inl ⟨by rfl, ?_⟩) ?_ ?_
          rotate_left
          · intro w'
            go_simp
            with_reducible rfl
          rotate_left
          · simp only [Act.put, List.setIfInBounds_toArray, List.set_cons_zero, List.set_cons_succ, i64_w, i32_w]
            rfl
          refine pure_ (i := 1) (N := some 22) (v := ?_) (a' := ?_) #[true, true, false, false, false, false, false, false, false, false, false, false, false, false, false, false, false, false, false, false, false] rfl rfl (any_of HT_.out (by kernel_rfl)) (fun _ _ _ h => h) (Or.inl ⟨by rfl, ?_⟩) ?_ ?_
          rotate_left
          · intro w'
            go_simp
            with_reducible rfl
          rotate_left
          · simp only [Act.put, List.setIfInBounds_toArray, List.set_cons_zero, List.set_cons_succ, i64_w, i32_w]
            rfl
          refine pure_ (i := 2) (N := some 23) (v := ?_) (a' := ?_) #[true, true, true, false, false, false, false, false, false, false, false, false, false, false, false, false, false, false, false, false, false] rfl rfl (any_of HT_.out (by kernel_rfl)) (fun _ _ _ h => h) (Or.inl ⟨by rfl, ?_⟩) ?_ ?_
          rotate_left
          · intro w'
            go_simp
            with_reducible rfl
          rotate_left
          · simp only [Act.put, List.setIfInBounds_toArray, List.set_cons_zero, List.set_cons_succ, i64_w, i32_w]
            rfl
          refine pure_ (i := 3) (N := some 24) (v := ?_) (a' := ?_) #[true, true, true, true, false, false, false, false, false, false, false, false, false, false, false, false, false, false, false, false, false] rfl rfl (any_of HT_.out (by kernel_rfl)) (fun _ _ _ h => h) (Or.inl ⟨by rfl, ?_⟩) ?_ ?_
          rotate_left
          · intro w'
            go_simp
            with_reducible rfl
          rotate_left
          · simp only [Act.put, List.setIfInBounds_toArray, List.set_cons_zero, List.set_cons_succ, i64_w, i32_w]
            rfl
          refine pure_ (i := 4) (N := some 25) (v := ?_) (a' := ?_) #[true, true, true, true, true, false, false, false, false, false, false, false, false, false, false, false, false, false, false, false, false] rfl rfl (any_of HT_.out (by kernel_rfl)) (fun _ _ _ h => h) (Or.inl ⟨by rfl, ?_⟩) ?_ ?_
          rotate_left
          · intro w'
            go_simp
            with_reducible rfl
          rotate_left
          · simp only [Act.put, List.setIfInBounds_toArray, List.set_cons_zero, List.set_cons_succ, i64_w, i32_w]
            rfl
          refine pure_ (i := 5) (N := some 26) (v := ?_) (a' := ?_) #[true, true, true, true, true, true, false, false, false, false, false, false, false, false, false, false, false, false, false, false, false] rfl rfl (any_of HT_.out (by kernel_rfl)) (fun _ _ _ h => h) (Or.inl ⟨by rfl, ?_⟩) ?_ ?_
          rotate_left
          · intro w'
            go_simp
            with_reducible rfl
          rotate_left
          · simp only [Act.put, List.setIfInBounds_toArray, List.set_cons_zero, List.set_cons_succ, i64_w, i32_w]
            rfl
          refine pure_ (i := 6) (N := some 27) (v := ?_) (a' := ?_) #[true, true, true, true, true, true, true, false, false, false, false, false, false, false, false, false, false, false, false, false, false] rfl rfl (any_of HT_.out (by kernel_rfl)) (fun _ _ _ h => h) (Or.inl ⟨by rfl, ?_⟩) ?_ ?_
          rotate_left
          · intro w'
            go_simp
            with_reducible rfl
          rotate_left
          · simp only [Act.put, List.setIfInBounds_toArray, List.set_cons_zero, List.set_cons_succ, i64_w, i32_w]
            rfl
          refine pure_ (i := 7) (N := some 28) (v := ?_) (a' := ?_) #[true, true, true, true, true, true, true, true, false, false, false, false, false, false, false, false, false, false, false, false, false] rfl rfl (any_of HT_.out (by kernel_rfl)) (fun _ _ _ h => h) (Or.inl ⟨by rfl, ?_⟩) ?_ ?_
          rotate_left
          · intro w'
            go_simp
            with_reducible rfl
          rotate_left
          · simp only [Act.put, List.setIfInBounds_toArray, List.set_cons_zero, List.set_cons_succ, i64_w, i32_w]
            rfl
          refine take_ (i := 8) (N := some 29) (v := ?_) (a' := ?_) #[true, true, true, true, true, true, true, true, true, false, false, false, false, false, false, false, false, false, false, false, false] rfl rfl (take_ofW HT_.out HW_.out (by kernel_rfl)) (fun _ _ _ h => h) (Or.inl ⟨by rfl, ?_⟩) hHeld ?_ ?_
          rotate_left
          · rintro w' ⟨s0, s1, s2, s3, s4, s5, s6, s7, s8, s9, s10, s11, s12, s13, s14, s15⟩
            go_simp
            with_reducible rfl
          rotate_left
          · simp only [Act.put, List.setIfInBounds_toArray, List.set_cons_zero, List.set_cons_succ, i64_w, i32_w]
            rfl
          refine one_ (i := 9) (N := some 30) #[true, true, true, true, true, true, true, true, true, true, false, false, false, false, false, false, false, false, false, false, false] rfl rfl (one_of HT_.out (by kernel_rfl)) (by decide) (fun K hK => ?_)
          refine goes_ Tryd.func14 (by kernel_rfl) rfl #[] (by rfl) rfl rfl (by (try simp only [List.map_toArray, List.map_cons, List.map_nil]); first | done | rfl | (simp only [List.length_drop, List.length_take]; rfl)) ?_
          with_reducible refine (ploverlaw13_some.calls  t182 t183 t184 t185 t186 t187 t188 t189 t190 t191 t192 t195 t196 t197 t198 t201 _ A7.out).mono ?_
          rintro e w28 ⟨v193, v199, rfl, ho0, ho1, hb⟩
          refine ⟨_, rfl, ?_⟩
          have n0_ := Aside0.mk (Kd.R_elder' (by (with_reducible repeat (first | apply Kd.R_alloc | apply Kd.R_drewN | apply Kd.R_drew)); exact HO128.out) (Kd.R_base ho0) hb)
          have n1_ := Aside0.mk (Kd.R_elder' (by (with_reducible repeat (first | apply Kd.R_alloc | apply Kd.R_drewN | apply Kd.R_drew)); exact HO134.out) (Kd.R_base ho1) hb)
          have n2_ := Aside0.mk (Kd.R_elder' (by (with_reducible repeat (first | apply Kd.R_alloc | apply Kd.R_drewN | apply Kd.R_drew)); exact HO150.out) (Kd.R_base ho0) hb)
          have n3_ := Aside0.mk (Kd.R_elder' (by (with_reducible repeat (first | apply Kd.R_alloc | apply Kd.R_drewN | apply Kd.R_drew)); exact HO156.out) (Kd.R_base ho1) hb)
          have n4_ := Aside0.mk (Kd.R_elder' (by (with_reducible repeat (first | apply Kd.R_alloc | apply Kd.R_drewN | apply Kd.R_drew)); exact HO172.out) (Kd.R_base ho0) hb)
          have n5_ := Aside0.mk (Kd.R_elder' (by (with_reducible repeat (first | apply Kd.R_alloc | apply Kd.R_drewN | apply Kd.R_drew)); exact HO178.out) (Kd.R_base ho1) hb)
          have n6_ := Aside0.mk (Kd.R_lower (Kd.R_new' (Kd.R_new' (Kd.R_new' ho0 (Kd.R_lt (by (with_reducible repeat (first | apply Kd.R_alloc | apply Kd.R_drewN | apply Kd.R_drew)); exact HO128.out))) (Kd.R_lt (by (with_reducible repeat (first | apply Kd.R_alloc | apply Kd.R_drewN | apply Kd.R_drew)); exact HO150.out))) (Kd.R_lt (by (with_reducible repeat (first | apply Kd.R_alloc | apply Kd.R_drewN | apply Kd.R_drew)); exact HO172.out))) (below_size (by repeat (first | (with_reducible first | exact HB.out | apply below_alloc | apply pw_below_drewN | apply below_drew1 | refine below_set ?_ GE159.out | refine below_set ?_ GE181.out) | exact HB.out))))
          have n7_ := Aside0.mk (Kd.R_lower (Kd.R_new' (Kd.R_new' (Kd.R_new' ho1 (Kd.R_lt (by (with_reducible repeat (first | apply Kd.R_alloc | apply Kd.R_drewN | apply Kd.R_drew)); exact HO134.out))) (Kd.R_lt (by (with_reducible repeat (first | apply Kd.R_alloc | apply Kd.R_drewN | apply Kd.R_drew)); exact HO156.out))) (Kd.R_lt (by (with_reducible repeat (first | apply Kd.R_alloc | apply Kd.R_drewN | apply Kd.R_drew)); exact HO178.out))) (below_size (by repeat (first | (with_reducible first | exact HB.out | apply below_alloc | apply pw_below_drewN | apply below_drew1 | refine below_set ?_ GE159.out | refine below_set ?_ GE181.out) | exact HB.out))))
          have n8_ := Aside0.mk (blk_below (g := gb159) (o := .cells #[.int .i64 t138, .int .i64 t139, .int .i64 t140, .int .i64 t141, .int .i64 t142, .int .i64 t143, .int .i64 t144, .int .i64 t145, .int .i64 t146, .int .i64 t147, .slice Ao18 t148.length co18, .int .i64 t151, .int .i64 t152, .bool t153, .slice Ao19 t154.length co19, .string t157] 30 (0, 0)) (by (with_reducible repeat (first | refine blk_drewN ?_ _ | refine blk_drew ?_ | refine blk_alloc ?_ _)); exact BK159.out) hb)
          have n9_ := Aside0.mk (blk_below (g := gb181) (o := .cells #[.int .i64 t160, .int .i64 t161, .int .i64 t162, .int .i64 t163, .int .i64 t164, .int .i64 t165, .int .i64 t166, .int .i64 t167, .int .i64 t168, .int .i64 t169, .slice Ao24 t170.length co24, .int .i64 t173, .int .i64 t174, .bool t175, .slice Ao25 t176.length co25, .string t179] 30 (0, 0)) (by (with_reducible repeat (first | refine blk_drewN ?_ _ | refine blk_drew ?_ | refine blk_alloc ?_ _)); exact BK181.out) hb)
          have n10_ := Aside0.mk (below_step (by repeat (first | (with_reducible first | exact HB.out | apply below_alloc | apply pw_below_drewN | apply below_drew1 | refine below_set ?_ GE159.out | refine below_set ?_ GE181.out) | exact HB.out)) hb)
          clear HO128
          clear HO134
          clear HO150
          clear HO156
          clear HO172
          clear HO178
          clear BK159
          clear BK181
          clear HB
          have HO128 := n0_
          have HO134 := n1_
          have HO150 := n2_
          have HO156 := n3_
          have HO172 := n4_
          have HO178 := n5_
          have HO194 := n6_
          have HO200 := n7_
          have BK159 := n8_
          have BK181 := n9_
          have HB := n10_
          clear n0_ n1_ n2_ n3_ n4_ n5_ n6_ n7_ n8_ n9_ n10_
          (try clear hb)
          (try clear hb2)
          (try clear hk)
          (try clear hi)
          (try clear ho0)
          (try clear ho1)
          obtain ⟨Ao29, co29, eo29⟩ := Kd.R_slice HO194.out
          (first | subst eo29 | (injection eo29 with f1_ f2_ f3_; have f4_ := f1_.symm; have f5_ := f3_.symm; clear f1_ f2_ f3_; subst f4_; subst f5_))
          obtain ⟨Ao30, co30, eo30⟩ := Kd.R_slice HO200.out
          (first | subst eo30 | (injection eo30 with f1_ f2_ f3_; have f4_ := f1_.symm; have f5_ := f3_.symm; clear f1_ f2_ f3_; subst f4_; subst f5_))
          refine hK.out _ _ ⟨(blk_cell BK159.out 0).trans rfl, (blk_cell BK159.out 1).trans rfl, (blk_cell BK159.out 2).trans rfl, (blk_cell BK159.out 3).trans rfl, (blk_cell BK159.out 4).trans rfl, (blk_cell BK159.out 5).trans rfl, (blk_cell BK159.out 6).trans rfl, (blk_cell BK159.out 7).trans rfl, (blk_cell BK159.out 8).trans rfl, (blk_cell BK159.out 9).trans rfl, (blk_cell BK159.out 10).trans rfl, (blk_cell BK159.out 11).trans rfl, (blk_cell BK159.out 12).trans rfl, (blk_cell BK159.out 13).trans rfl, (blk_cell BK159.out 14).trans rfl, (blk_cell BK159.out 15).trans rfl⟩ (fun hHeld => ?_)
          clear hK K
          refine norm_ (a' := ?_) ?_ ?_
          rotate_left
          · show Act.put _ (some 30) _ = _
            simp only [Act.put, List.setIfInBounds_toArray, List.set_cons_zero, List.set_cons_succ, i64_w, i32_w]
            rfl
          refine one_ (i := 10) (N := some 31) #[true, true, true, true, true, true, true, true, true, true, true, false, false, false, false, false, false, false, false, false, false] rfl rfl (one_of HT_.out (by kernel_rfl)) (by decide) (fun K hK => ?_)
          refine goes_ Tryd.func13 (by kernel_rfl) rfl #[.agg #[.int .i64 t138, .int .i64 t139, .int .i64 t140, .int .i64 t141, .int .i64 t142, .int .i64 t143, .int .i64 t144, .int .i64 t145, .int .i64 t146, .int .i64 t147, .slice Ao18 t148.length co18, .int .i64 t151, .int .i64 t152, .bool t153, .slice Ao19 t154.length co19, .string t157], .agg #[.int .i64 t182, .int .i64 t183, .int .i64 t184, .int .i64 t185, .int .i64 t186, .int .i64 t187, .int .i64 t188, .int .i64 t189, .int .i64 t190, .int .i64 t191, .slice Ao29 t192.length co29, .int .i64 t195, .int .i64 t196, .bool t197, .slice Ao30 t198.length co30, .string t201]] (by rfl) rfl rfl (by (try simp only [List.map_toArray, List.map_cons, List.map_nil]); first | done | rfl | (simp only [List.length_drop, List.length_take]; rfl)) ?_
          with_reducible refine (ploverref13_Same.calls k t138 t139 t140 t141 t142 t143 t144 t145 t146 t147 _ _ t148 t151 t152 t153 _ _ t154 t157 t182 t183 t184 t185 t186 t187 t188 t189 t190 t191 _ _ t192 t195 t196 t197 _ _ t198 t201 true _ ?side1 ?side2 ?side3 ?side4 ?side5 ?side6 ?side7 ?side8 A8.out).mono ?_
          (case side1 => repeat (first | exact (Kd.R_reads' HO150.out).2.2 | (with_reducible refine Kd.C_alloc ?_ _) | (with_reducible refine Kd.C_drewN ?_ _) | (with_reducible refine Kd.C_drew ?_)))
          (case side2 => exact (Kd.R_reads' HO150.out).2.1)
          (case side3 => repeat (first | exact (Kd.R_reads' HO156.out).2.2 | (with_reducible refine Kd.C_alloc ?_ _) | (with_reducible refine Kd.C_drewN ?_ _) | (with_reducible refine Kd.C_drew ?_)))
          (case side4 => exact (Kd.R_reads' HO156.out).2.1)
          (case side5 => repeat (first | exact (Kd.R_reads' HO194.out).2.2 | (with_reducible refine Kd.C_alloc ?_ _) | (with_reducible refine Kd.C_drewN ?_ _) | (with_reducible refine Kd.C_drew ?_)))
          (case side6 => exact (Kd.R_reads' HO194.out).2.1)
          (case side7 => repeat (first | exact (Kd.R_reads' HO200.out).2.2 | (with_reducible refine Kd.C_alloc ?_ _) | (with_reducible refine Kd.C_drewN ?_ _) | (with_reducible refine Kd.C_drew ?_)))
          (case side8 => exact (Kd.R_reads' HO200.out).2.1)
          rintro e w31 ⟨rfl, hb⟩
          refine ⟨_, rfl, ?_⟩
          have n0_ := Aside0.mk (Kd.R_below (by (with_reducible repeat (first | apply Kd.R_alloc | apply Kd.R_drewN | apply Kd.R_drew)); exact HO128.out) hb)
          have n1_ := Aside0.mk (Kd.R_below (by (with_reducible repeat (first | apply Kd.R_alloc | apply Kd.R_drewN | apply Kd.R_drew)); exact HO134.out) hb)
          have n2_ := Aside0.mk (Kd.R_below (by (with_reducible repeat (first | apply Kd.R_alloc | apply Kd.R_drewN | apply Kd.R_drew)); exact HO150.out) hb)
          have n3_ := Aside0.mk (Kd.R_below (by (with_reducible repeat (first | apply Kd.R_alloc | apply Kd.R_drewN | apply Kd.R_drew)); exact HO156.out) hb)
          have n4_ := Aside0.mk (Kd.R_below (by (with_reducible repeat (first | apply Kd.R_alloc | apply Kd.R_drewN | apply Kd.R_drew)); exact HO172.out) hb)
          have n5_ := Aside0.mk (Kd.R_below (by (with_reducible repeat (first | apply Kd.R_alloc | apply Kd.R_drewN | apply Kd.R_drew)); exact HO178.out) hb)
          have n6_ := Aside0.mk (Kd.R_below (by (with_reducible repeat (first | apply Kd.R_alloc | apply Kd.R_drewN | apply Kd.R_drew)); exact HO194.out) hb)
          have n7_ := Aside0.mk (Kd.R_below (by (with_reducible repeat (first | apply Kd.R_alloc | apply Kd.R_drewN | apply Kd.R_drew)); exact HO200.out) hb)
          have n8_ := Aside0.mk (blk_below (g := gb159) (o := .cells #[.int .i64 t138, .int .i64 t139, .int .i64 t140, .int .i64 t141, .int .i64 t142, .int .i64 t143, .int .i64 t144, .int .i64 t145, .int .i64 t146, .int .i64 t147, .slice Ao18 t148.length co18, .int .i64 t151, .int .i64 t152, .bool t153, .slice Ao19 t154.length co19, .string t157] 30 (0, 0)) (by (with_reducible repeat (first | refine blk_drewN ?_ _ | refine blk_drew ?_ | refine blk_alloc ?_ _)); exact BK159.out) hb)
          have n9_ := Aside0.mk (blk_below (g := gb181) (o := .cells #[.int .i64 t160, .int .i64 t161, .int .i64 t162, .int .i64 t163, .int .i64 t164, .int .i64 t165, .int .i64 t166, .int .i64 t167, .int .i64 t168, .int .i64 t169, .slice Ao24 t170.length co24, .int .i64 t173, .int .i64 t174, .bool t175, .slice Ao25 t176.length co25, .string t179] 30 (0, 0)) (by (with_reducible repeat (first | refine blk_drewN ?_ _ | refine blk_drew ?_ | refine blk_alloc ?_ _)); exact BK181.out) hb)
          have n10_ := Aside0.mk (below_step (by repeat (first | (with_reducible first | exact HB.out | apply below_alloc | apply pw_below_drewN | apply below_drew1 | refine below_set ?_ GE159.out | refine below_set ?_ GE181.out) | exact HB.out)) hb)
          clear HO128
          clear HO134
          clear HO150
          clear HO156
          clear HO172
          clear HO178
          clear HO194
          clear HO200
          clear BK159
          clear BK181
          clear HB
          have HO128 := n0_
          have HO134 := n1_
          have HO150 := n2_
          have HO156 := n3_
          have HO172 := n4_
          have HO178 := n5_
          have HO194 := n6_
          have HO200 := n7_
          have BK159 := n8_
          have BK181 := n9_
          have HB := n10_
          clear n0_ n1_ n2_ n3_ n4_ n5_ n6_ n7_ n8_ n9_ n10_
          (try clear hb)
          (try clear hb2)
          (try clear hk)
          (try clear hi)
          refine hK.out _ _ ⟨(blk_cell BK159.out 0).trans rfl, (blk_cell BK159.out 1).trans rfl, (blk_cell BK159.out 2).trans rfl, (blk_cell BK159.out 3).trans rfl, (blk_cell BK159.out 4).trans rfl, (blk_cell BK159.out 5).trans rfl, (blk_cell BK159.out 6).trans rfl, (blk_cell BK159.out 7).trans rfl, (blk_cell BK159.out 8).trans rfl, (blk_cell BK159.out 9).trans rfl, (blk_cell BK159.out 10).trans rfl, (blk_cell BK159.out 11).trans rfl, (blk_cell BK159.out 12).trans rfl, (blk_cell BK159.out 13).trans rfl, (blk_cell BK159.out 14).trans rfl, (blk_cell BK159.out 15).trans rfl⟩ (fun hHeld => ?_)
          clear hK K
          refine norm_ (a' := ?_) ?_ ?_
          rotate_left
          · show Act.put _ (some 31) _ = _
            simp only [Act.put, List.setIfInBounds_toArray, List.set_cons_zero, List.set_cons_succ, i64_w, i32_w]
            rfl
          refine pure_ (i := 11) (N := some 32) (v := ?_) (a' := ?_) #[true, true, true, true, true, true, true, true, true, true, true, true, false, false, false, false, false, false, false, false, false] rfl rfl (any_of HT_.out (by kernel_rfl)) (fun _ _ _ h => h) (Or.inl ⟨by rfl, ?_⟩) ?_ ?_
          rotate_left
          · intro w'
            go_simp
            with_reducible rfl
          rotate_left
          · simp only [Act.put, List.setIfInBounds_toArray, List.set_cons_zero, List.set_cons_succ, i64_w, i32_w]
            rfl
          refine pure_ (i := 12) (N := some 33) (v := ?_) (a' := ?_) #[true, true, true, true, true, true, true, true, true, true, true, true, true, false, false, false, false, false, false, false, false] rfl rfl (any_of HT_.out (by kernel_rfl)) (fun _ _ _ h => h) (Or.inl ⟨by rfl, ?_⟩) ?_ ?_
          rotate_left
          · intro w'
            go_simp
            with_reducible rfl
          rotate_left
          · simp only [Act.put, List.setIfInBounds_toArray, List.set_cons_zero, List.set_cons_succ, i64_w, i32_w]
            rfl
          refine pure_ (i := 13) (N := some 34) (v := ?_) (a' := ?_) #[true, true, true, true, true, true, true, true, true, true, true, true, true, true, false, false, false, false, false, false, false] rfl rfl (any_of HT_.out (by kernel_rfl)) (fun _ _ _ h => h) (Or.inl ⟨by rfl, ?_⟩) ?_ ?_
          rotate_left
          · intro w'
            go_simp
            with_reducible rfl
          rotate_left
          · simp only [Act.put, List.setIfInBounds_toArray, List.set_cons_zero, List.set_cons_succ, i64_w, i32_w]
            rfl
          refine pure_ (i := 14) (N := some 35) (v := ?_) (a' := ?_) #[true, true, true, true, true, true, true, true, true, true, true, true, true, true, true, false, false, false, false, false, false] rfl rfl (any_of HT_.out (by kernel_rfl)) (fun _ _ _ h => h) (Or.inl ⟨by rfl, ?_⟩) ?_ ?_
          rotate_left
          · intro w'
            go_simp
            with_reducible rfl
          rotate_left
          · simp only [Act.put, List.setIfInBounds_toArray, List.set_cons_zero, List.set_cons_succ, i64_w, i32_w]
            rfl
          refine pure_ (i := 15) (N := some 36) (v := ?_) (a' := ?_) #[true, true, true, true, true, true, true, true, true, true, true, true, true, true, true, true, false, false, false, false, false] rfl rfl (any_of HT_.out (by kernel_rfl)) (fun _ _ _ h => h) (Or.inl ⟨by rfl, ?_⟩) ?_ ?_
          rotate_left
          · intro w'
            go_simp
            with_reducible rfl
          rotate_left
          · simp only [Act.put, List.setIfInBounds_toArray, List.set_cons_zero, List.set_cons_succ, i64_w, i32_w]
            rfl
          refine pure_ (i := 16) (N := some 37) (v := ?_) (a' := ?_) #[true, true, true, true, true, true, true, true, true, true, true, true, true, true, true, true, true, false, false, false, false] rfl rfl (any_of HT_.out (by kernel_rfl)) (fun _ _ _ h => h) (Or.inl ⟨by rfl, ?_⟩) ?_ ?_
          rotate_left
          · intro w'
            go_simp
            with_reducible rfl
          rotate_left
          · simp only [Act.put, List.setIfInBounds_toArray, List.set_cons_zero, List.set_cons_succ, i64_w, i32_w]
            rfl
          refine pure_ (i := 17) (N := some 38) (v := ?_) (a' := ?_) #[true, true, true, true, true, true, true, true, true, true, true, true, true, true, true, true, true, true, false, false, false] rfl rfl (any_of HT_.out (by kernel_rfl)) (fun _ _ _ h => h) (Or.inl ⟨by rfl, ?_⟩) ?_ ?_
          rotate_left
          · intro w'
            go_simp
            with_reducible rfl
          rotate_left
          · simp only [Act.put, List.setIfInBounds_toArray, List.set_cons_zero, List.set_cons_succ, i64_w, i32_w]
            rfl
          refine pure_ (i := 18) (N := some 39) (v := ?_) (a' := ?_) #[true, true, true, true, true, true, true, true, true, true, true, true, true, true, true, true, true, true, true, false, false] rfl rfl (any_of HT_.out (by kernel_rfl)) (fun _ _ _ h => h) (Or.inl ⟨by rfl, ?_⟩) ?_ ?_
          rotate_left
          · intro w'
            go_simp
            with_reducible rfl
          rotate_left
          · simp only [Act.put, List.setIfInBounds_toArray, List.set_cons_zero, List.set_cons_succ, i64_w, i32_w]
            rfl
          refine pure_ (i := 19) (N := some 40) (v := ?_) (a' := ?_) #[true, true, true, true, true, true, true, true, true, true, true, true, true, true, true, true, true, true, true, true, false] rfl rfl (any_of HT_.out (by kernel_rfl)) (fun _ _ _ h => h) (Or.inl ⟨by rfl, ?_⟩) ?_ ?_
          rotate_left
          · intro w'
            go_simp
            with_reducible rfl
          rotate_left
          · simp only [Act.put, List.setIfInBounds_toArray, List.set_cons_zero, List.set_cons_succ, i64_w, i32_w]
            rfl
          refine pure_ (i := 20) (N := some 0) (v := ?_) (a' := ?_) #[true, true, true, true, true, true, true, true, true, true, true, true, true, true, true, true, true, true, true, true, true] rfl rfl (any_of HT_.out (by kernel_rfl)) (fun _ _ _ h => h) (Or.inl ⟨by rfl, ?_⟩) ?_ ?_
          rotate_left
          · intro w'
            go_simp
            with_reducible rfl
          rotate_left
          · simp only [Act.put, List.setIfInBounds_toArray, List.set_cons_zero, List.set_cons_succ, i64_w, i32_w]
            rfl
          refine done_ (done_of HT_.out (by kernel_rfl)) ?_
          try go_wp2
          go_ret
          exact ⟨by first | rfl | (simp [errW_none, errW_some] <;> rfl) | (simp [*, errW_none, errW_some] <;> rfl), by repeat (first | (with_reducible first | exact HB.out | apply below_alloc | apply pw_below_drewN | apply below_drew1 | refine below_set ?_ GE159.out | refine below_set ?_ GE181.out) | exact HB.out)⟩
        · rw [if_neg c10] at H
          have c10b0 : (t158 == 0) = false := beq_eq_false_iff_ne.mpr c10
          have c10b1 : (t158 != 0) = true := bne_iff_ne.mpr c10
          exact absurd ((Option.some.inj H).trans hr) (by decide)
      · replace c9 := Bool.eq_false_iff.mpr c9
        subst c9
        have H1 : (some false) = some r := by rw [if_neg (show ¬ (false = true) by decide)] at H; exact H
        clear H
        have H := H1
        clear H1
        exact absurd ((Option.some.inj H).trans hr) (by decide)
    · rw [if_neg c6] at H
      have c6b0 : (t137 == 0) = false := beq_eq_false_iff_ne.mpr c6
      have c6b1 : (t137 != 0) = true := bne_iff_ne.mpr c6
      exact absurd ((Option.some.inj H).trans hr) (by decide)
  · rw [if_neg c5] at H
    have c5b0 : decide (28 < (t136.size : Int)) = false := decide_eq_false c5
    have c5b1 : decide (28 < t136.size) = false := decide_eq_false (by omega)
    clear c5
    exact absurd ((Option.some.inj H).trans hr) (by decide)
end Go.Proofs.YtlggihnkhimfkaaDoor.Aw
namespace Go.Proofs.YtlggihnkhimfkaaDoor.Pure
open Go.RowKit Go.Lib Go.Proofs.YtlggihnkhimfkaaDoor.Giv Go.Proofs.YtlggihnkhimfkaaDoor.P Go.Proofs.YtlggihnkhimfkaaDoorW.PrintWords Go.Proofs.YtlggihnkhimfkaaDoorW.PrintLast Go.Proofs.YtlggihnkhimfkaaDoorW.PrintMore
set_option linter.unusedVariables false
set_option linter.unusedSimpArgs false
theorem awake_ok : ∃ k, Aw.ploverlaw13_awake.f k = some true := by
  obtain ⟨r, h, hr⟩ := same_ev someM someM (by decide) (by decide)
  rw [hr.2 rfl] at h
  obtain ⟨k, hk⟩ := h.rounds
  refine ⟨k, ?_⟩
  have h1 := put_msg someM some_wf some_may
  have h2 := take_msg someM some_wf some_may
  have h30 := msgT_30 someM
  unfold Aw.ploverlaw13_awake.f
  rw [some_f, Option.bind_some]
  refine (congrArg (fun o => Option.bind o _) h1).trans ?_
  rw [Option.bind_some]
  refine (congrArg (fun o => Option.bind o _) h2).trans ?_
  rw [Option.bind_some, x_bad, Option.bind_some]
  rw [if_pos (show ((msgT someM).size : Int) > 28 by omega), if_pos rfl, Option.bind_some]
  refine (congrArg (fun o => Option.bind o _) hk).trans ?_
  rfl
end Go.Proofs.YtlggihnkhimfkaaDoor.Pure
namespace Go.Proofs.YtlggihnkhimfkaaDoor.Giv
open Go.RowKit Go.Lib
def ploverlaw13_awake.f : Option Bool := some true
theorem ploverlaw13_awake.calls (r : Bool) (w : World) (hL : LaidW w) (h : ploverlaw13_awake.f = some r) :
    Calls Tryd.prog 8 #[] w fun e w' => e = .returned (.bool r) ∧ Below w.heap.size w w' := by
  obtain rfl : true = r := Option.some.inj h
  obtain ⟨k, hk⟩ := Pure.awake_ok
  exact Aw.ploverlaw13_awake.calls k true rfl w hL hk
end Go.Proofs.YtlggihnkhimfkaaDoor.Giv
