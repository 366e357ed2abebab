/- The statement on what is read: the reference's reading is the code's. -/
import Derived.Test.YtifbpchakoljaaaDoorFrmQ
namespace Go.Proofs.YtifbpchakoljaaaDoor.Pure
open Go.RowKit Go.Lib Go.Proofs.YtifbpchakoljaaaDoor.Giv Go.Proofs.YtifbpchakoljaaaDoor.Hx Go.Proofs.YtifbpchakoljaaaDoor.P Go.Proofs.YtifbpchakoljaaaDoorW.PrintWords Go.Proofs.YtifbpchakoljaaaDoorW.PrintLast Go.Proofs.YtifbpchakoljaaaDoorW.PrintMore
set_option linter.unusedVariables false
set_option linter.unusedSimpArgs false

/-! the reference's reading -/
theorem take_bad (s : ByteArray) (x y : Int) : Ev (fun k => ploverref04_Take.j0 k s x y true) (nothing, 0, 40) := Ev.step (f := fun _ => some (nothing, 0, 40)) (fun k => by simp only [ploverref04_Take.j0]; rw [if_pos trivial]; rfl) (Ev.now _)
theorem rest_bt (s : ByteArray) (n : Nat) : bt (s.extract 13 s.size) (n : Int) = bt s ((13 + n : Nat) : Int) := by
  rw [bt_data, bt_data, data_extract, List.take_of_length_le (show s.data.toList.length ≤ s.size by rw [list_size]; exact Nat.le_refl _), List.getD_eq_getElem?_getD, List.getElem?_drop, ← List.getD_eq_getElem?_getD]
theorem rest_ext (s : ByteArray) (n : Nat) : (s.extract 13 s.size).extract 0 n = s.extract 13 (13 + n) := by
  refine data_ext ?_
  rw [data_extract, data_extract, data_extract, List.drop_zero, List.take_of_length_le (show s.data.toList.length ≤ s.size by rw [list_size]; exact Nat.le_refl _), List.drop_take, show 13 + n - 13 = n by omega]
theorem take_good (s : ByteArray) (n : Nat) (c : Int) (hs : s.size ≤ 140737488351232) (h13 : 13 ≤ s.size) (hn : n ≤ 16777216) : Ev (fun k => ploverref04_Take.j0 k s (n : Int) c false) (restT (s.extract 13 s.size) (n : Int) c) := by
  have hrs : (s.extract 13 s.size).size = s.size - 13 := by rw [ByteArray.size_extract]; omega
  have hw1 : wrap64 ((s.size : Int) - 14) = (s.size : Int) - 14 := w64 (by omega) (by omega)
  have hw2 : wrap64 (13 + (n : Int)) = ((13 + n : Nat) : Int) := by rw [w64 (by omega) (by omega)]; omega
  have hw3 : wrap64 (14 + (n : Int)) = 13 + (n : Int) + 1 := by rw [w64 (by omega) (by omega)]; omega
  unfold restT
  rw [hrs, Int.toNat_natCast, rest_bt, rest_ext]
  by_cases d1 : n + 13 < s.size
  · rw [if_neg (by omega)]
    have d1' : ¬ ((s.size : Int) - 14 < (n : Int)) := by omega
    by_cases d2 : bt s ((13 + n : Nat) : Int) = 10
    · rw [if_neg (by rw [d2]; simp)]
      refine Ev.step (f := fun k => (ploverref03_Sum.f k (s.extract 13 (13 + n))).bind fun t => (if t = c then (some (s.extract 13 (13 + n), 13 + (n : Int) + 1, 0)) else (some ((⟨#[]⟩ : ByteArray), 0, 41)))) (fun k => ?_) (Ev.bind (refSum_ev _ (by rw [ByteArray.size_extract]; omega)) ?_)
      · simp only [ploverref04_Take.j0]
        rw [if_neg (by decide), hw1, hw2, hw3, if_neg d1', if_pos (by omega), if_pos (by omega), if_pos d2, if_pos (by omega), if_pos (by omega), Int.toNat_natCast]
      · by_cases d3 : ((crcSum (s.extract 13 (13 + n)).data.toList : Nat) : Int) = c
        · refine Ev.to (Ev.congr (fun k => if_pos d3) (Ev.now _)) ?_
          rw [if_neg (by rw [d3]; simp)]
        · refine Ev.to (Ev.congr (fun k => if_neg d3) (Ev.now _)) ?_
          rw [if_pos d3]
          rfl
    · rw [if_pos d2]
      refine Ev.step (f := fun _ => some (nothing, 0, 40)) (fun k => ?_) (Ev.now _)
      simp only [ploverref04_Take.j0]
      rw [if_neg (by decide), hw1, hw2, if_neg d1', if_pos (by omega), if_pos (by omega), if_neg d2]
      rfl
  · rw [if_pos (by omega)]
    refine Ev.step (f := fun _ => some (nothing, 0, 21)) (fun k => ?_) (Ev.now _)
    simp only [ploverref04_Take.j0]
    rw [if_neg (by decide), hw1, if_pos (by omega)]
    rfl
theorem refTake_ev (s : ByteArray) (hs : s.size ≤ 140737488351232) : Ev (fun k => ploverref04_Take.f k s) (takeF s) := by
  unfold ploverref04_Take.f
  by_cases h13 : s.size < 13
  · refine Ev.congr (f := fun _ => some (takeF s)) (fun k => ?_) (Ev.now _)
    rw [if_pos (by omega)]
    unfold takeF
    rw [if_pos h13]
    rfl
  · refine Ev.congr (fun k => if_neg (by omega)) (Ev.congr (fun k => if_pos (by decide)) (Ev.congr (fun k => if_pos (by omega)) (Ev.bind (refUnhex_ev _) (Ev.congr (fun k => if_pos (by decide)) (Ev.congr (fun k => if_pos (by omega)) (Ev.bind (refUnhex_ev _) ?_))))))
    have hT : takeF s = if (unhexF (s.extract 0 6)).2 = 0 ∧ (unhexF (s.extract 6 12)).2 = 0 ∧ (unhexF (s.extract 0 6)).1 ≤ 262144 ∧ bt s 12 = 124 then restT (s.extract 13 s.size) (unhexF (s.extract 0 6)).1 (unhexF (s.extract 6 12)).1 else (nothing, 0, 40) := by unfold takeF; rw [if_neg h13]
    rw [hT]
    clear hT
    have u1c := unhex_cases (s.extract 0 6)
    generalize unhexF (s.extract 0 6) = u1 at *
    generalize unhexF (s.extract 6 12) = u2 at *
    rcases u1c with rfl | ⟨n, hn, rfl⟩
    · rw [if_neg (fun h => absurd h.1 (by decide))]
      exact Ev.congr (fun k => if_neg (by decide)) (take_bad _ _ _)
    · refine Ev.congr (fun k => if_pos rfl) ?_
      by_cases c2 : u2.2 = 0
      · refine Ev.congr (fun k => if_pos c2) ?_
        by_cases c3 : (n : Int) > 262144
        · rw [if_neg (fun h => by have h9 : (n : Int) ≤ 262144 := h.2.2.1; omega)]
          exact Ev.congr (fun k => if_pos c3) (take_bad _ _ _)
        · refine Ev.congr (fun k => if_neg c3) (Ev.congr (fun k => if_pos (by omega)) ?_)
          by_cases c4 : bt s 12 = 124
          · rw [if_pos ⟨rfl, c2, by show (n : Int) ≤ 262144; omega, c4⟩, show (bt s 12 != 124) = false by rw [c4]; rfl]
            exact take_good s n _ hs (by omega) (by omega)
          · rw [if_neg (fun h => c4 h.2.2.2), show (bt s 12 != 124) = true by rw [bne_iff_ne]; exact c4]
            exact take_bad _ _ _
      · rw [if_neg (fun h => c2 h.2.1)]
        exact Ev.congr (fun k => if_neg c2) (take_bad _ _ _)
theorem refAll_l0 (s : ByteArray) (hs : s.size ≤ 1000000) : ∀ (d a : Nat) (L : List ByteArray), s.size - a ≤ d → a ≤ s.size → L.length ≤ a → Ev (fun k => ploverref04_All.l0 k s L (a : Int)) (L ++ (allS s a).1, ((allS s a).2 : Int)) := by
  intro d
  induction d with
  | zero =>
    intro a L h1 h2 h3
    rw [allS_end (by omega)]
    refine Ev.step (f := fun _ => some (L ++ [], (a : Int))) (fun k => ?_) (Ev.now _)
    simp only [ploverref04_All.l0]
    rw [if_neg (by omega), List.append_nil]
  | succ d ih =>
    intro a L h1 h2 h3
    by_cases c : a < s.size
    · have hz : (s.extract a s.size).size = s.size - a := by rw [ByteArray.size_extract]; omega
      refine Ev.step (f := fun k => (ploverref04_Take.f k (s.extract a s.size)).bind fun bt => (if bt.2.2 = 0 then (if L.length < 8796093022208 then (ploverref04_All.l0 k s (L ++ [bt.1]) (wrap64 ((a : Int) + bt.2.1))) else none) else (some (L, (a : Int))))) (fun k => ?_) (Ev.bind (refTake_ev _ (by omega)) ?_)
      · simp only [ploverref04_All.l0]
        rw [if_pos (by omega), if_pos (by omega), if_pos (by omega), Int.toNat_natCast]
      · by_cases c2 : (takeF (s.extract a s.size)).2.2 = 0
        · have hu := takeF_used c2
          rw [hz] at hu
          rw [allS_step c c2]
          obtain ⟨n, hn⟩ : ∃ n : Nat, (takeF (s.extract a s.size)).2.1 = (n : Int) := ⟨(takeF (s.extract a s.size)).2.1.toNat, by omega⟩
          rw [hn] at hu ⊢
          refine Ev.congr (fun k => if_pos c2) (Ev.congr (fun k => if_pos (by omega)) ?_)
          have := ih (a + n) (L ++ [(takeF (s.extract a s.size)).1]) (by omega) (by omega) (by simp; omega)
          rw [w64 (by omega) (by omega)]
          rw [List.append_assoc] at this
          exact this
        · rw [allS_bad c2]
          refine Ev.congr (fun k => if_neg c2) ?_
          rw [List.append_nil]
          exact Ev.now _
    · rw [allS_end c]
      refine Ev.step (f := fun _ => some (L ++ [], (a : Int))) (fun k => ?_) (Ev.now _)
      simp only [ploverref04_All.l0]
      rw [if_neg (by omega), List.append_nil]
theorem same_l0 (L : List ByteArray) (hL : L.length ≤ 1000000) : ∀ (d i : Nat), L.length - i ≤ d → i ≤ L.length → Ev (fun k => ploverref01_Same.l0 k L L (i : Int)) true := by
  intro d
  induction d with
  | zero =>
    intro i h1 h2
    refine Ev.step (f := fun _ => some true) (fun k => ?_) (Ev.now _)
    simp only [ploverref01_Same.l0]
    rw [if_neg (by omega)]
  | succ d ih =>
    intro i h1 h2
    by_cases c : i < L.length
    · refine Ev.step (fun k => ?_) (ih (i + 1) (by omega) (by omega))
      simp only [ploverref01_Same.l0]
      rw [if_pos (by omega), if_pos (by omega), if_pos (by omega), if_pos trivial, w64 (by omega) (by omega)]
      rfl
    · refine Ev.step (f := fun _ => some true) (fun k => ?_) (Ev.now _)
      simp only [ploverref01_Same.l0]
      rw [if_neg (by omega)]
theorem same_ev (L : List ByteArray) (hL : L.length ≤ 1000000) : Ev (fun k => ploverref01_Same.f k L L) true := by
  unfold ploverref01_Same.f
  exact Ev.congr (fun k => if_pos rfl) (same_l0 L hL L.length 0 (by omega) (by omega))
theorem FrameReads : ploverlaw04_FrameReads.Pure := by
  intro s _
  refine Ev.rounds (g := fun k => ploverlaw04_FrameReads.f k s) ?_
  unfold ploverlaw04_FrameReads.f
  by_cases c : (s.size : Int) > 8192
  · exact Ev.congr (fun k => if_pos c) thenAwake
  · refine Ev.congr (fun k => if_neg c) ?_
    rw [take_yes (by omega), all_yes (by omega)]
    simp only [Option.bind_some]
    have hl := allS_le s s.size 0 (by omega) (by omega)
    refine Ev.bind (refTake_ev s (by omega)) ?_
    refine Ev.bind (f := fun k x => _) (show Ev (fun k => ploverref04_All.f k s) ((allS s 0).1, ((allS s 0).2 : Int)) from refAll_l0 s (by omega) s.size 0 [] (by omega) (by omega) (by simp)) ?_
    refine Ev.congr (fun k => if_pos rfl) (Ev.congr (fun k => if_pos rfl) (Ev.congr (fun k => if_pos rfl) (Ev.bind (same_ev _ (by omega)) (Ev.congr (fun k => if_pos rfl) (Ev.congr (fun k => if_pos rfl) thenAwake)))))

end Go.Proofs.YtifbpchakoljaaaDoor.Pure
