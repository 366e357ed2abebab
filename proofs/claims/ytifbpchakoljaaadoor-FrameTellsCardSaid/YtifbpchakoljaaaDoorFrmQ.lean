/- The statements on frames, over the plain functions. -/
import Derived.Test.YtifbpchakoljaaaDoorFrmR
namespace Go.Proofs.YtifbpchakoljaaaDoor.Pure
open Go.RowKit Go.Lib Go.Proofs.YtifbpchakoljaaaDoor.Giv Go.Proofs.YtifbpchakoljaaaDoor.Hx Go.Proofs.YtifbpchakoljaaaDoor.P Go.Proofs.YtifbpchakoljaaaDoorW.PrintWords Go.Proofs.YtifbpchakoljaaaDoorW.PrintLast Go.Proofs.YtifbpchakoljaaaDoorW.PrintMore
set_option linter.unusedVariables false
set_option linter.unusedSimpArgs false

theorem take_yes {s : ByteArray} (h : s.size ≤ 140737488351232) : frame_Take.f s = some (takeF s) := by unfold frame_Take.f; rw [if_pos h]
theorem all_yes {s : ByteArray} (h : s.size ≤ 1000000) : frame_All.f s = some ((allS s 0).1, ((allS s 0).2 : Int)) := by unfold frame_All.f; rw [if_pos h]
theorem put_yes {s : ByteArray} (h : s.size ≤ 262144) : frame_Put.f s = some (putF s, 0) := by
  have hc := crcSum_lt s.data.toList
  have e1 : (⟨#[124]⟩ : ByteArray).size = 1 := rfl
  unfold frame_Put.f
  rw [if_neg (by omega), hex_yes (by omega) (by omega), hexF_nat (by omega), sum_yes (by omega)]
  simp only [Option.bind_some]
  rw [hex_yes (by omega) (by omega), hexF_nat hc]
  simp only [Option.bind_some]
  have h1 := hx_size s.size
  have h2 := hx_size (crcSum s.data.toList)
  change (if (hx s.size).size + (hx (crcSum s.data.toList)).size ≤ 9223372036854775807 then (if (hx s.size ++ hx (crcSum s.data.toList)).size + 1 ≤ 9223372036854775807 then (if ((hx s.size ++ hx (crcSum s.data.toList)) ++ (⟨#[124]⟩ : ByteArray)).size + s.size ≤ 9223372036854775807 then (if (((hx s.size ++ hx (crcSum s.data.toList)) ++ (⟨#[124]⟩ : ByteArray)) ++ s).size + 1 ≤ 9223372036854775807 then (some ((((hx s.size ++ hx (crcSum s.data.toList)) ++ (⟨#[124]⟩ : ByteArray)) ++ s) ++ (⟨#[10]⟩ : ByteArray), 0)) else (none)) else (none)) else (none)) else (none)) = some (putF s, 0)
  rw [if_pos (by omega), if_pos (by simp only [ByteArray.size_append]; omega), if_pos (by simp only [ByteArray.size_append, e1]; omega), if_pos (by simp only [ByteArray.size_append, e1]; omega)]
  rfl
theorem put_long {s : ByteArray} (h : 262144 < s.size) : frame_Put.f s = some ((⟨#[]⟩ : ByteArray), 23) := by
  unfold frame_Put.f
  rw [if_pos (by omega)]
theorem refPut_ev {s : ByteArray} (h : s.size ≤ 262144) : Ev (fun k => ploverref04_Put.f k s) (putF s, 0) := by
  have hc := crcSum_lt s.data.toList
  have e1 : (⟨#[124]⟩ : ByteArray).size = 1 := rfl
  have h1 := hx_size s.size
  have h2 := hx_size (crcSum s.data.toList)
  unfold ploverref04_Put.f
  refine Ev.congr (fun k => if_neg (by omega)) (Ev.bind (refHex_ev _) (Ev.bind (refSum_ev s (by omega)) (Ev.bind (refHex_ev _) ?_)))
  rw [hexF_nat (show s.size < 16777216 by omega), hexF_nat hc]
  change Ev (fun _ => (if (hx s.size).size + (hx (crcSum s.data.toList)).size ≤ 9223372036854775807 then (if (hx s.size ++ hx (crcSum s.data.toList)).size + 1 ≤ 9223372036854775807 then (if ((hx s.size ++ hx (crcSum s.data.toList)) ++ (⟨#[124]⟩ : ByteArray)).size + s.size ≤ 9223372036854775807 then (if (((hx s.size ++ hx (crcSum s.data.toList)) ++ (⟨#[124]⟩ : ByteArray)) ++ s).size + 1 ≤ 9223372036854775807 then (some ((((hx s.size ++ hx (crcSum s.data.toList)) ++ (⟨#[124]⟩ : ByteArray)) ++ s) ++ (⟨#[10]⟩ : ByteArray), 0)) else (none)) else (none)) else (none)) else (none) : Option (ByteArray × Int))) (putF s, 0)
  rw [if_pos (by omega), if_pos (by simp only [ByteArray.size_append]; omega), if_pos (by simp only [ByteArray.size_append, e1]; omega), if_pos (by simp only [ByteArray.size_append, e1]; omega)]
  exact Ev.now _

theorem awake_ev : Ev (fun k => ploverlaw04_awake.f k) true := by
  have e0 : putF (⟨#[104, 105]⟩ : ByteArray) = ⟨#[48, 48, 48, 48, 48, 50] ++ (hexL (crcSum [104, 105]) 6).toArray ++ #[124, 104, 105, 10]⟩ := by decide +kernel
  generalize hp : putF (⟨#[104, 105]⟩ : ByteArray) = p
  have hsz : p.size = 16 := by rw [← hp, putF_size]; rfl
  have hpre : (p.extract 0 6).toList = [48, 48, 48, 48, 48, 50] := by rw [← hp]; rw [toList_data]; decide +kernel
  have ht : takeF (p ++ (⟨#[120]⟩ : ByteArray)) = ((⟨#[104, 105]⟩ : ByteArray), 16, 0) := by rw [← hp, take_put _ _ (by decide), putF_size]; rfl
  have ha : allS ((p ++ p) ++ p.extract 0 15) 0 = ([(⟨#[104, 105]⟩ : ByteArray), (⟨#[104, 105]⟩ : ByteArray)], 32) := by rw [← hp]; decide +kernel
  unfold ploverlaw04_awake.f
  rw [put_yes (by decide), hp]
  simp only [Option.bind_some]
  refine Ev.congr (f := fun k => ploverlaw04_awake.j0 k p false) (fun k => ?_) ?_
  · rw [if_pos (by omega), if_pos trivial, if_pos (by decide), if_pos (by omega), hpre]; rfl
  · refine Ev.step (f := fun _ => some true) (fun k => ?_) (Ev.now _)
    simp only [ploverlaw04_awake.j0]
    have h3 : (p.extract 0 15).size = 15 := by rw [ByteArray.size_extract]; omega
    have h4 : (⟨#[120]⟩ : ByteArray).size = 1 := rfl
    rw [if_neg (by decide), if_pos (by omega), take_yes (by rw [ByteArray.size_append, h4]; omega), ht, Option.bind_some, if_pos (by omega), if_pos (by decide), if_pos (by omega), if_pos (by rw [ByteArray.size_append]; omega), all_yes (by rw [ByteArray.size_append, ByteArray.size_append]; omega), ha]
    simp only [Option.bind_some]
    rw [if_pos (by rw [toList_data]), if_pos trivial, if_pos trivial, if_pos (by rfl)]
    rfl
theorem thenAwake : Ev (fun k => (ploverlaw04_awake.f k).bind fun t => some t) true := Ev.bind awake_ev (Ev.now _)
theorem FramePuts : ploverlaw04_FramePuts.Pure := by
  intro s tail _ _
  refine Ev.rounds (g := fun k => ploverlaw04_FramePuts.f k s tail) ?_
  unfold ploverlaw04_FramePuts.f
  have yes : Ev (fun k => ploverlaw04_FramePuts.j0 k s tail true) true := Ev.step (f := fun k => (ploverlaw04_awake.f k).bind fun t => some t) (fun k => by simp only [ploverlaw04_FramePuts.j0]; rw [if_pos trivial]) thenAwake
  by_cases c : (s.size : Int) > 8192
  · exact Ev.congr (fun k => if_pos c) yes
  · refine Ev.congr (fun k => if_neg c) ?_
    by_cases c2 : (tail.size : Int) > 8192
    · rw [decide_eq_true c2]; exact yes
    · rw [decide_eq_false c2]
      have hz := putF_size s
      refine Ev.step (f := fun k => (ploverref04_Put.f k s).bind fun bt => (if (putF s).toList = bt.1.toList then ploverlaw04_FramePuts.j1 k s tail (putF s) ((0 : Int) != bt.2) else ploverlaw04_FramePuts.j1 k s tail (putF s) true)) (fun k => ?_) ?_
      · simp only [ploverlaw04_FramePuts.j0]; rw [if_neg (by decide), put_yes (by omega)]; rfl
      · refine Ev.bind (refPut_ev (by omega)) ?_
        refine Ev.congr (f := fun k => ploverlaw04_FramePuts.j1 k s tail (putF s) false) (fun k => by rw [if_pos rfl]; rfl) ?_
        refine Ev.step (f := fun k => (ploverlaw04_awake.f k).bind fun t => some t) (fun k => ?_) thenAwake
        simp only [ploverlaw04_FramePuts.j1]
        rw [if_neg (by decide), if_pos (by omega), take_yes (by rw [ByteArray.size_append]; omega), take_put s tail (by omega)]
        simp only [Option.bind_some]
        rw [if_pos trivial, if_pos trivial, if_pos trivial]

/-! frames that are put again -/
def cat (L : List ByteArray) : List UInt8 := L.flatMap fun t => (putF t).data.toList
theorem allS_cat (s : ByteArray) : ∀ (d a : Nat), s.size - a ≤ d → a ≤ s.size → cat (allS s a).1 = (s.data.toList.take (allS s a).2).drop a ∧ ∀ t ∈ (allS s a).1, t.size ≤ 262144 := by
  intro d
  induction d with
  | zero =>
    intro a h1 h2
    rw [allS_end (by omega)]
    refine ⟨?_, by simp⟩
    rw [List.drop_of_length_le (by simp; omega)]; rfl
  | succ d ih =>
    intro a h1 h2
    by_cases c : a < s.size
    · by_cases c2 : (takeF (s.extract a s.size)).2.2 = 0
      · have hu := takeF_used c2
        have hz : (s.extract a s.size).size = s.size - a := by rw [ByteArray.size_extract]; omega
        obtain ⟨p1, p2, p3, p4⟩ := put_take c2
        have hst := allS_step c c2
        rw [p2] at hst hu
        generalize (takeF (s.extract a s.size)).1 = t at *
        have e : ((t.size : Int) + 14).toNat = t.size + 14 := by omega
        rw [e] at hst
        rw [hz] at hu
        have hn := ih (a + (t.size + 14)) (by omega) (by omega)
        have hle := allS_le s d (a + (t.size + 14)) (by omega) (by omega)
        rw [hst]
        refine ⟨?_, fun x hx => ?_⟩
        · show (putF t).data.toList ++ cat (allS s (a + (t.size + 14))).1 = _
          rw [hn.1, ← p4, data_extract, List.take_of_length_le (show s.data.toList.length ≤ s.size by rw [list_size]; omega)]
          generalize (allS s (a + (t.size + 14))).2 = n at *
          have hle1 := hle.1
          have e2 : n - a = (t.size + 14) + (n - (a + (t.size + 14))) := by omega
          generalize t.size + 14 = z at *
          rw [List.drop_take, List.drop_take, e2, List.take_add, List.drop_drop]
        · rcases List.mem_cons.1 hx with rfl | h
          · exact p1
          · exact hn.2 x h
      · rw [allS_bad c2]
        refine ⟨?_, by simp⟩
        rw [List.drop_of_length_le (by simp; omega)]; rfl
    · rw [allS_end c]
      refine ⟨?_, by simp⟩
      rw [List.drop_of_length_le (by simp; omega)]; rfl
theorem rdOf_at (L : List ByteArray) (i : Nat) (h : i < L.length) : rdOf ByteArray.empty L (i : Int) = L[i] := by
  unfold rdOf
  rw [Int.toNat_natCast, List.getD_eq_getElem?_getD, List.getElem?_eq_getElem h, Option.getD_some]
theorem twice_l0 (s : ByteArray) (hs : s.size ≤ 8192) (L : List ByteArray) (n : Nat) (hn : n ≤ s.size) (hcat : cat L = s.data.toList.take n) (hL : ∀ t ∈ L, t.size ≤ 262144) (hlen : L.length ≤ 10000) :
    ∀ (d i : Nat) (all : ByteArray), L.length - i ≤ d → i ≤ L.length → all.data.toList ++ cat (L.drop i) = cat L → Ev (fun k => ploverlaw04_FrameTwice.l0 k s L (n : Int) all (i : Int)) true := by
  have fin : ∀ all : ByteArray, all.data.toList = cat L → Ev (fun k => ploverlaw04_FrameTwice.l0 k s L (n : Int) all (L.length : Int)) true := by
    intro all h
    refine Ev.step (f := fun k => (ploverlaw04_awake.f k).bind fun t => some t) (fun k => ?_) thenAwake
    simp only [ploverlaw04_FrameTwice.l0]
    rw [if_neg (by omega), if_pos (by omega), if_pos (by omega), if_pos (by omega), if_pos]
    rw [toList_data, toList_data, Int.toNat_natCast, data_extract, List.drop_zero, h, hcat]
  intro d
  induction d with
  | zero =>
    intro i all h1 h2 h3
    obtain rfl : i = L.length := by omega
    refine fin all ?_
    rw [List.drop_of_length_le (by omega)] at h3
    simpa [cat] using h3
  | succ d ih =>
    intro i all h1 h2 h3
    by_cases c : i < L.length
    · rw [List.drop_eq_getElem_cons c] at h3
      have ht := hL L[i] (List.getElem_mem c)
      have hrd := rdOf_at L i c
      generalize L[i]'c = t at *
      have hall : all.size + (putF t).size ≤ s.size := by
        have := congrArg List.length h3
        rw [hcat] at this
        simp only [cat, List.flatMap_cons, List.length_append, List.length_take, list_size] at this
        omega
      refine Ev.step (fun k => ?_) (ih (i + 1) (all ++ putF t) (by omega) (by omega) (by rw [data_app, List.append_assoc]; exact h3))
      simp only [ploverlaw04_FrameTwice.l0]
      rw [if_pos (by omega), if_pos (by omega), hrd, put_yes ht, Option.bind_some]
      dsimp only
      rw [if_pos rfl, if_pos (by omega), w64 (by omega) (by omega)]
      rfl
    · obtain rfl : i = L.length := by omega
      refine fin all ?_
      rw [List.drop_of_length_le (by omega)] at h3
      simpa [cat] using h3
theorem FrameTwice : ploverlaw04_FrameTwice.Pure := by
  intro s _
  refine Ev.rounds (g := fun k => ploverlaw04_FrameTwice.f k s) ?_
  unfold ploverlaw04_FrameTwice.f
  by_cases c : (s.size : Int) > 8192
  · exact Ev.congr (fun k => if_pos c) thenAwake
  · refine Ev.congr (fun k => if_neg c) ?_
    rw [all_yes (by omega)]
    simp only [Option.bind_some]
    have hl := allS_le s s.size 0 (by omega) (by omega)
    obtain ⟨h1, h2⟩ := allS_cat s s.size 0 (by omega) (by omega)
    exact twice_l0 s (by omega) _ _ (by omega) (by rw [h1, List.drop_zero]) h2 (by omega) _ 0 _ (Nat.le_refl _) (by omega) (by rw [List.drop_zero]; rfl)

set_option maxRecDepth 100000 in
theorem FrameLong : ploverlaw04_FrameLong.Pure := by
  intro a _
  refine Ev.rounds (g := fun k => ploverlaw04_FrameLong.f k a) ?_
  have hm := and_mask_i64 a 2 (by decide)
  have e2 : (((2 ^ 2 - 1 : Nat)) : Int) = 3 := by decide +kernel
  have e3 : (((2 ^ 2 : Nat)) : Int) = 4 := by decide +kernel
  rw [e2, e3] at hm
  unfold ploverlaw04_FrameLong.f
  rw [hm]
  have h0 := Int.emod_nonneg a (show (4 : Int) ≠ 0 by decide)
  have h1 := Int.emod_lt_of_pos a (show (0 : Int) < 4 by decide)
  generalize a % 4 = j at *
  obtain ⟨j, rfl⟩ : ∃ m : Nat, j = m := ⟨j.toNat, by omega⟩
  rw [show wrap64 (262143 + (j : Int)) = ((262143 + j : Nat) : Int) by rw [w64 (by omega) (by omega)]; omega]
  rw [Int.toNat_natCast]
  refine Ev.congr (fun k => if_pos (by omega)) (Ev.congr (fun k => if_pos (by omega)) ?_)
  simp only [Option.bind_some]
  have hsz : (strOfNums (List.replicate (262143 + j) 0)).size = 262143 + j := by rw [strOfNums_size, List.length_replicate]
  generalize strOfNums (List.replicate (262143 + j) 0) = s at *
  by_cases c : (j : Int) > 1
  · rw [put_long (by omega)]
    simp only [Option.bind_some]
    refine Ev.congr (f := fun k => (ploverlaw04_awake.f k).bind fun t => some t) (fun k => ?_) thenAwake
    rw [if_pos c, if_pos (by rw [toList_data]), if_pos trivial]
  · rw [put_yes (by omega)]
    simp only [Option.bind_some]
    refine Ev.congr (fun k => if_neg c) ?_
    have hz := putF_size s
    have ht := take_put s ⟨#[]⟩ (by omega)
    rw [show putF s ++ (⟨#[]⟩ : ByteArray) = putF s from data_ext (by rw [data_app]; simp)] at ht
    rw [take_yes (by omega), ht]
    simp only [Option.bind_some]
    refine Ev.congr (f := fun k => (ploverlaw04_awake.f k).bind fun t => some t) (fun k => ?_) thenAwake
    rw [if_pos trivial, if_pos trivial, if_pos trivial, if_pos trivial]
end Go.Proofs.YtifbpchakoljaaaDoor.Pure
