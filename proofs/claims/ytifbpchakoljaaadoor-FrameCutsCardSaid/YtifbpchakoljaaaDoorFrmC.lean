/- Frames that are cut anywhere: what is whole is read. -/
import Derived.Test.YtifbpchakoljaaaDoorCx
import Derived.Test.YtifbpchakoljaaaDoorFrmP
import Derived.Test.YtifbpchakoljaaaDoorCrcW
import Derived.Test.YtifbpchakoljaaaDoorAid
import Derived.Lib.SmallJoins
namespace Go.Proofs.YtifbpchakoljaaaDoor.PureC
open Go.RowKit Go.Lib Go.Proofs.YtifbpchakoljaaaDoor.Giv Go.Proofs.YtifbpchakoljaaaDoor.Hx Go.Proofs.YtifbpchakoljaaaDoor.C Go.Proofs.YtifbpchakoljaaaDoorW.PrintWords Go.Proofs.YtifbpchakoljaaaDoorW.PrintLast Go.Proofs.YtifbpchakoljaaaDoorW.PrintMore
set_option linter.unusedVariables false
set_option linter.unusedSimpArgs false
set_option linter.unusedVariables false
set_option linter.unusedSimpArgs false

theorem w64 {n : Int} (h0 : -9223372036854775808 ≤ n) (h1 : n ≤ 9223372036854775807) : wrap64 n = n := by unfold wrap64; omega
theorem bounds {n : Int} (h : (Lit.int .i64 n).wf = true) : -9223372036854775808 ≤ n ∧ n ≤ 9223372036854775807 := by
  have h9 := h
  simp [Lit.wf, show IntKind.i64.min = -9223372036854775808 from rfl, show IntKind.i64.max = 9223372036854775807 from rfl] at h9
  exact h9
theorem hex_yes {n : Int} (h0 : -9223372036854775808 ≤ n) (h1 : n ≤ 9223372036854775807) : crc_Hex.f n = some (hexF n) := by unfold crc_Hex.f; rw [if_pos ⟨h0, h1⟩]
theorem sum_yes {s : ByteArray} (h : s.size ≤ 140737488351232) : crc_Sum.f s = some ((crcSum s.data.toList : Nat) : Int) := by unfold crc_Sum.f; rw [if_pos h]
theorem Ev.to {α : Type} {g : Nat → Option α} {r r' : α} (h : Ev g r) (e : r = r') : Ev g r' := e ▸ h
theorem hexF_nat {m : Nat} (h : m < 16777216) : hexF (m : Int) = (⟨(hexL m 6).toArray⟩, 0) := by unfold hexF; rw [if_pos (by omega)]; rfl


theorem take_yes {s : ByteArray} (h : s.size ≤ 140737488351232) : frame_Take.f s = some (takeF s) := by unfold frame_Take.f; rw [if_pos h]
theorem all_yes {s : ByteArray} (h : s.size ≤ 1000000) : frame_All.f s = some ((allS s 0).1, ((allS s 0).2 : Int)) := by unfold frame_All.f; rw [if_pos h]
theorem put_yes {s : ByteArray} (h : s.size ≤ 262144) : frame_Put.f s = some (putF s, 0) := by
  have hc := crcSum_lt s.data.toList
  have e1 : (⟨#[124]⟩ : ByteArray).size = 1 := rfl
  unfold frame_Put.f
  rw [if_neg (by omega), hex_yes (by omega) (by omega), hexF_nat (by omega), sum_yes (by omega)]
  simp only [Option.bind_some]
  rw [hex_yes (by omega) (by omega), hexF_nat hc]
  simp only [Option.bind_some]
  have h1 := hx_size s.size
  have h2 := hx_size (crcSum s.data.toList)
  change (if (hx s.size).size + (hx (crcSum s.data.toList)).size ≤ 9223372036854775807 then (if (hx s.size ++ hx (crcSum s.data.toList)).size + 1 ≤ 9223372036854775807 then (if ((hx s.size ++ hx (crcSum s.data.toList)) ++ (⟨#[124]⟩ : ByteArray)).size + s.size ≤ 9223372036854775807 then (if (((hx s.size ++ hx (crcSum s.data.toList)) ++ (⟨#[124]⟩ : ByteArray)) ++ s).size + 1 ≤ 9223372036854775807 then (some ((((hx s.size ++ hx (crcSum s.data.toList)) ++ (⟨#[124]⟩ : ByteArray)) ++ s) ++ (⟨#[10]⟩ : ByteArray), 0)) else (none)) else (none)) else (none)) else (none)) = some (putF s, 0)
  rw [if_pos (by omega), if_pos (by simp only [ByteArray.size_append]; omega), if_pos (by simp only [ByteArray.size_append, e1]; omega), if_pos (by simp only [ByteArray.size_append, e1]; omega)]
  rfl
theorem put_long {s : ByteArray} (h : 262144 < s.size) : frame_Put.f s = some ((⟨#[]⟩ : ByteArray), 23) := by
  unfold frame_Put.f
  rw [if_pos (by omega)]
theorem awake_ev : Ev (fun k => ploverlaw04_awake.f k) true := by
  have e0 : putF (⟨#[104, 105]⟩ : ByteArray) = ⟨#[48, 48, 48, 48, 48, 50] ++ (hexL (crcSum [104, 105]) 6).toArray ++ #[124, 104, 105, 10]⟩ := by decide +kernel
  generalize hp : putF (⟨#[104, 105]⟩ : ByteArray) = p
  have hsz : p.size = 16 := by rw [← hp, putF_size]; rfl
  have hpre : (p.extract 0 6).toList = [48, 48, 48, 48, 48, 50] := by rw [← hp]; rw [toList_data]; decide +kernel
  have ht : takeF (p ++ (⟨#[120]⟩ : ByteArray)) = ((⟨#[104, 105]⟩ : ByteArray), 16, 0) := by rw [← hp, take_put _ _ (by decide), putF_size]; rfl
  have ha : allS ((p ++ p) ++ p.extract 0 15) 0 = ([(⟨#[104, 105]⟩ : ByteArray), (⟨#[104, 105]⟩ : ByteArray)], 32) := by rw [← hp]; decide +kernel
  unfold ploverlaw04_awake.f
  rw [put_yes (by decide), hp]
  simp only [Option.bind_some]
  refine Ev.congr (f := fun k => ploverlaw04_awake.j0 k p false) (fun k => ?_) ?_
  · rw [if_pos (by omega), if_pos trivial, if_pos (by decide), if_pos (by omega), hpre]; rfl
  · refine Ev.step (f := fun _ => some true) (fun k => ?_) (Ev.now _)
    simp only [ploverlaw04_awake.j0]
    have h3 : (p.extract 0 15).size = 15 := by rw [ByteArray.size_extract]; omega
    have h4 : (⟨#[120]⟩ : ByteArray).size = 1 := rfl
    rw [if_neg (by decide), if_pos (by omega), take_yes (by rw [ByteArray.size_append, h4]; omega), ht, Option.bind_some, if_pos (by omega), if_pos (by decide), if_pos (by omega), if_pos (by rw [ByteArray.size_append]; omega), all_yes (by rw [ByteArray.size_append, ByteArray.size_append]; omega), ha]
    simp only [Option.bind_some]
    rw [if_pos (by rw [toList_data]), if_pos trivial, if_pos trivial, if_pos (by rfl)]
    rfl
theorem thenAwake : Ev (fun k => (ploverlaw04_awake.f k).bind fun t => some t) true := Ev.bind awake_ev (Ev.now _)
def cat (L : List ByteArray) : List UInt8 := L.flatMap fun t => (putF t).data.toList
theorem rdOf_at (L : List ByteArray) (i : Nat) (h : i < L.length) : rdOf ByteArray.empty L (i : Int) = L[i] := by
  unfold rdOf
  rw [Int.toNat_natCast, List.getD_eq_getElem?_getD, List.getElem?_eq_getElem h, Option.getD_some]
theorem same_l0 (L : List ByteArray) (hL : L.length ≤ 1000000) : ∀ (d i : Nat), L.length - i ≤ d → i ≤ L.length → Ev (fun k => ploverref01_Same.l0 k L L (i : Int)) true := by
  intro d
  induction d with
  | zero =>
    intro i h1 h2
    refine Ev.step (f := fun _ => some true) (fun k => ?_) (Ev.now _)
    simp only [ploverref01_Same.l0]
    rw [if_neg (by omega)]
  | succ d ih =>
    intro i h1 h2
    by_cases c : i < L.length
    · refine Ev.step (fun k => ?_) (ih (i + 1) (by omega) (by omega))
      simp only [ploverref01_Same.l0]
      rw [if_pos (by omega), if_pos (by omega), if_pos (by omega), if_pos trivial, w64 (by omega) (by omega)]
      rfl
    · refine Ev.step (f := fun _ => some true) (fun k => ?_) (Ev.now _)
      simp only [ploverref01_Same.l0]
      rw [if_neg (by omega)]
theorem same_ev (L : List ByteArray) (hL : L.length ≤ 1000000) : Ev (fun k => ploverref01_Same.f k L L) true := by
  unfold ploverref01_Same.f
  exact Ev.congr (fun k => if_pos rfl) (same_l0 L hL L.length 0 (by omega) (by omega))

/-! many frames, one behind the other -/
def P (T : List ByteArray) (j : Nat) : Nat := (cat (T.take j)).length
theorem cat_append (A B : List ByteArray) : cat (A ++ B) = cat A ++ cat B := by unfold cat; rw [List.flatMap_append]
theorem cat_one (t : ByteArray) : cat [t] = (putF t).data.toList := by simp [cat]
theorem take_one (T : List ByteArray) (i : Nat) (h : i < T.length) : T.take (i + 1) = T.take i ++ [T[i]] := by rw [List.take_succ_eq_append_getElem h]
theorem P_step (T : List ByteArray) (i : Nat) (h : i < T.length) : P T (i + 1) = P T i + ((T[i]).size + 14) := by
  unfold P
  rw [take_one T i h, cat_append, cat_one, List.length_append, list_size, putF_size]
theorem P_mono (T : List ByteArray) : ∀ (d i : Nat), i + d ≤ T.length → P T i ≤ P T (i + d)
  | 0, _, _ => Nat.le_refl _
  | d + 1, i, h => by
    have h1 := P_mono T d i (by omega)
    have h2 := P_step T (i + d) (by omega)
    rw [← Nat.add_assoc]; omega
theorem P_all (T : List ByteArray) : P T T.length = (cat T).length := by unfold P; rw [List.take_length]
theorem cat_at (T : List ByteArray) (i : Nat) (h : i < T.length) : cat T = cat (T.take i) ++ ((putF T[i]).data.toList ++ cat (T.drop (i + 1))) := by
  have e : T = T.take i ++ ([T[i]] ++ T.drop (i + 1)) := by
    rw [List.singleton_append, List.getElem_cons_drop, List.take_append_drop]
  conv => lhs; rw [e]
  rw [cat_append, cat_append, cat_one]
theorem cut_list (A B D : List UInt8) (k : Nat) (h : A.length + B.length ≤ k) : ((A ++ (B ++ D)).take k).drop A.length = B ++ ((A ++ (B ++ D)).take k).drop (A.length + B.length) := by
  have e : (A ++ (B ++ D)).take k = A ++ (B ++ D.take (k - A.length - B.length)) := by
    rw [List.take_append, List.take_of_length_le (by omega), List.take_append, List.take_of_length_le (by omega)]
  rw [e, List.drop_left, ← List.append_assoc, List.drop_left' (by rw [List.length_append])]
theorem cut_whole (T : List ByteArray) (s : ByteArray) (k i : Nat) (hs : s.data.toList = (cat T).take k) (hk : k ≤ (cat T).length) (h : i < T.length) (hi : P T (i + 1) ≤ k) :
    s.extract (P T i) s.size = putF T[i] ++ s.extract (P T (i + 1)) s.size := by
  refine data_ext ?_
  have hsz : s.data.toList.length = s.size := list_size s
  have hp := P_step T i h
  rw [data_app, data_extract, data_extract, List.take_of_length_le (by omega), hs]
  have := cut_list (cat (T.take i)) (putF T[i]).data.toList (cat (T.drop (i + 1))) k (by rw [list_size, putF_size]; unfold P at hp hi; omega)
  rw [← cat_at T i h, list_size, putF_size] at this
  rw [hp]
  exact this
theorem cut_not (T : List ByteArray) (s : ByteArray) (k i : Nat) (hs : s.data.toList = (cat T).take k) (hk : k ≤ (cat T).length) (h : i < T.length) (hT : (T[i]).size ≤ 262144) (h0 : P T i ≤ k) (hi : k < P T (i + 1)) :
    (takeF (s.extract (P T i) s.size)).2.2 ≠ 0 := by
  intro hok
  have hp := P_step T i h
  have hsz : s.size = k := by rw [← list_size, hs, List.length_take]; omega
  obtain ⟨p1, _, p3, p4⟩ := put_take hok
  generalize (takeF (s.extract (P T i) s.size)).1 = t at *
  have hxs : (s.extract (P T i) s.size).size = k - P T i := by rw [ByteArray.size_extract]; omega
  rw [hxs] at p3
  have e1 : (s.extract (P T i) s.size).data.toList = ((putF T[i]).data.toList ++ cat (T.drop (i + 1))).take (k - P T i) := by
    rw [data_extract, List.take_of_length_le (by rw [list_size]; exact Nat.le_refl _), hs, cat_at T i h, List.take_append]
    have hl : (cat (T.take i)).length = P T i := rfl
    rw [List.take_of_length_le (by omega), hl, List.drop_left' hl]
  have e2 := congrArg (List.take 6) p4
  rw [List.take_take, e1, List.take_take, putF_data, show min (min 6 (t.size + 14)) (k - P T i) = 6 by omega, List.append_assoc, List.take_left' (hexL_len _), putF_data, List.take_left' (hexL_len _)] at e2
  have f1 := hexL_fold (T[i]).size (by omega)
  rw [e2, hexL_fold t.size (by omega)] at f1
  have := Option.some.inj f1
  omega
theorem cut_all (T : List ByteArray) (s : ByteArray) (k j : Nat) (hs : s.data.toList = (cat T).take k) (hk : k ≤ (cat T).length) (hT : ∀ t ∈ T, t.size ≤ 262144) (hj : j ≤ T.length) (h0 : P T j ≤ k) (h1 : ∀ h : j < T.length, k < P T (j + 1)) :
    ∀ (d i : Nat), i + d = j → allS s (P T i) = ((T.take j).drop i, P T j) := by
  have hsz : s.size = k := by rw [← list_size, hs, List.length_take]; omega
  intro d
  induction d with
  | zero =>
    intro i h
    obtain rfl : i = j := by omega
    rw [List.drop_of_length_le (by rw [List.length_take]; omega)]
    by_cases c : i < T.length
    · exact allS_bad (cut_not T s k i hs hk c (hT _ (List.getElem_mem c)) h0 (h1 c))
    · obtain rfl : i = T.length := by omega
      exact allS_end (by rw [hsz]; rw [P_all] at *; omega)
  | succ d ih =>
    intro i h
    have hi : i < T.length := by omega
    have hm : P T (i + 1) ≤ P T j := by
      have := P_mono T d (i + 1) (by omega)
      rwa [show i + 1 + d = j by omega] at this
    have hp := P_step T i hi
    have hw := cut_whole T s k i hs hk hi (by omega)
    have ht := take_put T[i] (s.extract (P T (i + 1)) s.size) (hT _ (List.getElem_mem hi))
    rw [← hw] at ht
    rw [allS_step (by omega) (by rw [ht]), ht]
    simp only [putF_size]
    rw [show P T i + (((T[i]).size + 14 : Nat) : Int).toNat = P T (i + 1) by omega, ih (i + 1) (by omega)]
    have : (T.take j).drop i = T[i] :: (T.take j).drop (i + 1) := by
      rw [List.drop_eq_getElem_cons (show i < (T.take j).length by rw [List.length_take]; omega), List.getElem_take]
    rw [this]

/-! the law's loops -/
def endsOf (T : List ByteArray) (i : Nat) : List Int := (List.range i).map fun j => (P T (j + 1) : Int)
theorem ends_len (T : List ByteArray) (i : Nat) : (endsOf T i).length = i := by simp [endsOf]
theorem ends_at (T : List ByteArray) (i j : Nat) (h : j < i) : rd (endsOf T i) (j : Int) = (P T (j + 1) : Int) := by
  unfold rd
  rw [Int.toNat_natCast, List.getD_eq_getElem?_getD, List.getElem?_eq_getElem (by rw [ends_len]; exact h), Option.getD_some]
  simp [endsOf]
theorem ends_step (T : List ByteArray) (i : Nat) : endsOf T i ++ [(P T (i + 1) : Int)] = endsOf T (i + 1) := by simp [endsOf, List.range_succ]
theorem l2_ev (T : List ByteArray) (hn : T.length ≤ 16) (hT : ∀ t ∈ T, t.size ≤ 262144) (s : ByteArray) (k : Nat) (hs : s.data.toList = (cat T).take k) (hk : k ≤ (cat T).length) :
    ∀ (d j : Nat), j + d = T.length → P T j ≤ k → Ev (fun q => ploverlaw04_FrameCuts.l2 q T (endsOf T T.length) (k : Int) (allS s 0).1 ((allS s 0).2 : Int) (j : Int) (P T j : Int)) true := by
  have fin : ∀ j, j ≤ T.length → P T j ≤ k → (∀ h : j < T.length, k < P T (j + 1)) → (allS s 0).1 = T.take j ∧ (allS s 0).2 = P T j := by
    intro j h1 h2 h3
    have h0 : P T 0 = 0 := rfl
    have := cut_all T s k j hs hk hT h1 h2 h3 j 0 (by omega)
    rw [h0] at this
    rw [this]
    exact ⟨by rw [List.drop_zero], rfl⟩
  intro d
  induction d with
  | zero =>
    intro j h1 h2
    obtain ⟨e1, e2⟩ := fin j (by omega) h2 (fun h => by omega)
    rw [e1, e2]
    refine Ev.step (f := fun q => (ploverref01_Same.f q (T.take j) (T.take j)).bind fun t => (if t = true then ((ploverlaw04_awake.f q).bind fun t => some t) else some false)) (fun q => ?_) (Ev.bind (same_ev _ (by rw [List.length_take]; omega)) (Ev.congr (fun _ => if_pos rfl) thenAwake))
    simp only [ploverlaw04_FrameCuts.l2]
    rw [if_neg (by rw [ends_len]; omega), if_pos trivial, if_pos (by omega), if_pos (by omega), Int.toNat_natCast]
  | succ d ih =>
    intro j h1 h2
    by_cases c : P T (j + 1) ≤ k
    · refine Ev.step (fun q => ?_) (ih (j + 1) (by omega) c)
      simp only [ploverlaw04_FrameCuts.l2]
      rw [if_pos (by rw [ends_len]; omega), if_pos (by omega), ends_at T T.length j (by omega), if_pos (by omega), w64 (by omega) (by omega)]
      rfl
    · obtain ⟨e1, e2⟩ := fin j (by omega) h2 (fun _ => by omega)
      rw [e1, e2]
      refine Ev.step (f := fun q => (ploverref01_Same.f q (T.take j) (T.take j)).bind fun t => (if t = true then ((ploverlaw04_awake.f q).bind fun t => some t) else some false)) (fun q => ?_) (Ev.bind (same_ev _ (by rw [List.length_take]; omega)) (Ev.congr (fun _ => if_pos rfl) thenAwake))
      simp only [ploverlaw04_FrameCuts.l2]
      rw [if_pos (by rw [ends_len]; omega), if_pos (by omega), ends_at T T.length j (by omega), if_neg (by omega), if_pos trivial, if_pos (by omega), Int.toNat_natCast]
theorem P_le (T : List ByteArray) (hT : ∀ t ∈ T, t.size ≤ 2048) : ∀ i, i ≤ T.length → P T i ≤ i * 2062
  | 0, _ => by simp [P, cat]
  | i + 1, h => by
    have h1 := P_le T hT i (by omega)
    have h2 := P_step T i (by omega)
    have h3 := hT T[i] (List.getElem_mem (by omega))
    omega
theorem l1_ev (T : List ByteArray) (a : Int) (hn : T.length ≤ 16) (hT : ∀ t ∈ T, t.size ≤ 2048) :
    ∀ (d i : Nat) (all : ByteArray), i + d = T.length → all.data.toList = cat (T.take i) → Ev (fun q => ploverlaw04_FrameCuts.l1 q T a all (endsOf T i) (i : Int)) true := by
  have hT' : ∀ t ∈ T, t.size ≤ 262144 := fun t h => Nat.le_trans (hT t h) (by decide)
  have hm := and_mask_i64 a 20 (by decide)
  have e2 : (((2 ^ 20 - 1 : Nat)) : Int) = 1048575 := by decide +kernel
  have e3 : (((2 ^ 20 : Nat)) : Int) = 1048576 := by decide +kernel
  rw [e2, e3] at hm
  have hb0 := Int.emod_nonneg a (show (1048576 : Int) ≠ 0 by decide)
  intro d
  induction d with
  | zero =>
    intro i all h1 h2
    obtain rfl : i = T.length := by omega
    rw [List.take_length] at h2
    have hsz : all.size = (cat T).length := by rw [← list_size, h2]
    have hP := P_le T hT T.length (by omega)
    rw [P_all, ← hsz] at hP
    obtain ⟨z, hz⟩ : ∃ z : Nat, a % 1048576 = z := ⟨(a % 1048576).toNat, by omega⟩
    have hk : Int.tmod (Go.bits .and .i64 a 1048575) (wrap64 ((all.size : Int) + 1)) = ((z % (all.size + 1) : Nat) : Int) := by
      rw [hm, hz, w64 (by omega) (by omega)]
      rfl
    have hlt : z % (all.size + 1) ≤ all.size := by have := Nat.mod_lt z (show 0 < all.size + 1 by omega); omega
    generalize z % (all.size + 1) = k at *
    have hs : (all.extract 0 k).data.toList = (cat T).take k := by rw [data_extract, List.drop_zero, h2]
    refine Ev.step (fun q => ?_) (l2_ev T hn hT' (all.extract 0 k) k hs (by omega) T.length 0 (by omega) (by show P T 0 ≤ k; exact Nat.zero_le _))
    simp only [ploverlaw04_FrameCuts.l1]
    rw [if_neg (by omega), if_neg (by rw [w64 (by omega) (by omega)]; omega), hk, if_pos (by omega), if_pos (by omega), Int.toNat_natCast, all_yes (by rw [ByteArray.size_extract]; omega)]
    rfl
  | succ d ih =>
    intro i all h1 h2
    have hi : i < T.length := by omega
    have hsz : all.size = P T i := by rw [← list_size, h2]; rfl
    have hP := P_le T hT i (by omega)
    have hst := P_step T i hi
    have ht := hT T[i] (List.getElem_mem hi)
    have hc : (all ++ putF T[i]).data.toList = cat (T.take (i + 1)) := by rw [data_app, h2, take_one T i hi, cat_append, cat_one]
    have hz : (all ++ putF T[i]).size = P T (i + 1) := by rw [← list_size, hc]; rfl
    refine Ev.step (fun q => ?_) (ih (i + 1) (all ++ putF T[i]) (by omega) hc)
    simp only [ploverlaw04_FrameCuts.l1]
    rw [if_pos (by omega), if_pos (by omega), rdOf_at T i hi, put_yes (by omega), Option.bind_some]
    dsimp only
    rw [if_pos rfl, if_pos (by rw [putF_size]; omega), if_pos (by rw [ends_len]; omega), hz, ends_step, w64 (by omega) (by omega)]
    rfl
theorem mn_eq (x y : Int) : mn x y = min x y := by unfold mn; split <;> omega
theorem l0_ev (T : List ByteArray) (a : Int) : ∀ (d i : Nat) (x : Int), 16 - i ≤ d → i ≤ 16 → i ≤ T.length → 0 ≤ x → x ≤ i * 4096 → (∀ j t, j < i → T[j]? = some t → min (t.size : Int) 4096 ≤ x) → Ev (fun q => ploverlaw04_FrameCuts.l0 q T a x (i : Int)) true := by
  have fin : ∀ (i : Nat) (x : Int), i ≤ T.length → (i = 16 ∨ i = T.length) → 0 ≤ x → (∀ j t, j < i → T[j]? = some t → min (t.size : Int) 4096 ≤ x) → Ev (fun q => ploverlaw04_FrameCuts.j1 q T a x) true := by
    intro i x h1 h2 h3 h4
    have yes : Ev (fun q => ploverlaw04_FrameCuts.j2 q T a true) true := Ev.step (f := fun k => (ploverlaw04_awake.f k).bind fun t => some t) (fun k => by simp only [ploverlaw04_FrameCuts.j2]; rw [if_pos trivial]) thenAwake
    by_cases c : x > 2048
    · exact Ev.step (fun k => by simp only [ploverlaw04_FrameCuts.j1]; rw [if_pos c]) yes
    · by_cases c2 : (T.length : Int) > 16
      · exact Ev.step (fun k => by simp only [ploverlaw04_FrameCuts.j1]; rw [if_neg c, decide_eq_true c2]) yes
      · have hT : ∀ t ∈ T, t.size ≤ 2048 := by
          intro t ht
          obtain ⟨j, hj, e⟩ := List.getElem_of_mem ht
          have := h4 j t (by omega) (by rw [List.getElem?_eq_getElem hj, e])
          omega
        refine Ev.step (f := fun q => ploverlaw04_FrameCuts.j2 q T a false) (fun k => by simp only [ploverlaw04_FrameCuts.j1]; rw [if_neg c, decide_eq_false c2]) ?_
        exact Ev.step (fun k => by simp only [ploverlaw04_FrameCuts.j2]; rw [if_neg (by decide)]; rfl) (l1_ev T a (by omega) hT T.length 0 (⟨#[]⟩ : ByteArray) (by omega) rfl)
  intro d
  induction d with
  | zero =>
    intro i x h1 h2 h3 h4 h5 h6
    obtain rfl : i = 16 := by omega
    refine Ev.step (fun k => ?_) (fin 16 x h3 (.inl rfl) h4 h6)
    simp only [ploverlaw04_FrameCuts.l0]
    by_cases c : ((16 : Nat) : Int) < (T.length : Int)
    · rw [if_pos c, if_neg (by omega)]
    · rw [if_neg c]
  | succ d ih =>
    intro i x h1 h2 h3 h4 h5 h6
    by_cases c : i < T.length
    · by_cases c2 : i < 16
      · have hmn := mn_eq ((T[i]).size : Int) 4096
        refine Ev.step (f := fun q => ploverlaw04_FrameCuts.l0 q T a (x + mn ((T[i]).size : Int) 4096) ((i + 1 : Nat) : Int)) (fun k => ?_) (ih (i + 1) (x + mn ((T[i]).size : Int) 4096) (by omega) (by omega) (by omega) (by omega) (by omega) (fun j t hj e => ?_))
        · simp only [ploverlaw04_FrameCuts.l0]
          rw [if_pos (by omega), if_pos (by omega), if_pos (by omega), rdOf_at T i c, w64 (by omega) (by omega), w64 (by omega) (by omega)]
          rfl
        · by_cases hji : j = i
          · subst hji
            rw [List.getElem?_eq_getElem c] at e
            obtain rfl := Option.some.inj e
            omega
          · have := h6 j t (by omega) e
            omega
      · obtain rfl : i = 16 := by omega
        refine Ev.step (fun k => ?_) (fin 16 x h3 (.inl rfl) h4 h6)
        simp only [ploverlaw04_FrameCuts.l0]
        rw [if_pos (by omega), if_neg (by omega)]
    · obtain rfl : i = T.length := by omega
      refine Ev.step (fun k => ?_) (fin T.length x h3 (.inr rfl) h4 h6)
      simp only [ploverlaw04_FrameCuts.l0]
      rw [if_neg (by omega)]
theorem FrameCuts (T : List ByteArray) (a : Int) : ∃ k, ploverlaw04_FrameCuts.f k T a = some true := by
  refine Ev.rounds (g := fun k => ploverlaw04_FrameCuts.f k T a) ?_
  unfold ploverlaw04_FrameCuts.f
  exact l0_ev T a 16 0 0 (by omega) (by omega) (by omega) (by omega) (by omega) (fun j t h _ => by omega)
end Go.Proofs.YtifbpchakoljaaaDoor.PureC
