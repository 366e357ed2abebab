/- Texts put together by prune.py: BncH, BncJ, Aid, BncX, Opn, BncZ, LayB. -/
import Derived.WalkKit
import Derived.Deep.Quiet
import Derived.BigQuiet
import Derived.ChangeArms
import Derived.DataReads
import Derived.SizedLaws
import Derived.Test.YtcdfedbecgfanaaDoorRows
import Derived.Lib.LaidIn
import Derived.Lib.LaidU8T
import Derived.Deep.DeepHandedRow
import Derived.Deep.DeepWitnessRowRef
import Derived.ProofKit
import Derived.Test.YtcdfedbecgfanaaDoorQb9
namespace Go.Proofs.YtcdfedbecgfanaaDoor.Pure
open Go.RowKit Go.Lib Go.Proofs.YtcdfedbecgfanaaDoor.Giv Go.Proofs.YtcdfedbecgfanaaDoor.P Go.Proofs.YtcdfedbecgfanaaDoorW.PrintWords Go.Proofs.YtcdfedbecgfanaaDoorW.PrintLast Go.Proofs.YtcdfedbecgfanaaDoorW.PrintMore
set_option linter.unusedVariables false
set_option linter.unusedSimpArgs false
def nm (l : List UInt8) : List Int := l.map fun c => (c.toNat : Int)
theorem nm_app (a b : List UInt8) : nm (a ++ b) = nm a ++ nm b := by simp [nm]
theorem nm_len (a : List UInt8) : (nm a).length = a.length := by simp [nm]
theorem str_nm (l : List UInt8) : strOfNums (nm l) = ⟨l.toArray⟩ := by
  unfold strOfNums nm
  rw [List.map_map]
  congr 1
  congr 1
  have : (fun n : Int => UInt8.ofNat n.toNat) ∘ (fun c : UInt8 => (c.toNat : Int)) = id := by
    funext c
    simp
  rw [this, List.map_id]
theorem bytesOf_nm (s : ByteArray) : bytesOf s = nm s.data.toList := rfl
theorem digit_byte {d : Nat} (h : d < 10) : ((UInt8.ofNat (48 + d)).toNat : Int) = 48 + (d : Int) := by rw [digit_of h]; omega
theorem rev_ev (low : List UInt8) (hl : low.length ≤ 1000) : ∀ (d i : Nat), i ≤ d → i ≤ low.length → ∀ out : List UInt8, out.length + i ≤ 1000 → Ev (fun k => ploverref02_digits.l1 k (nm low) (nm out) ((i : Int) - 1)) (⟨(out ++ (low.take i).reverse).toArray⟩ : ByteArray) := by
  intro d
  induction d with
  | zero =>
    intro i h1 h2 out h3
    obtain rfl : i = 0 := by omega
    refine Ev.step (f := fun _ => some (strOfNums (nm out))) (fun k => ?_) ?_
    · simp only [ploverref02_digits.l1]; rw [if_neg (by omega)]
    · rw [str_nm]; simp; exact Ev.now _
  | succ d ih =>
    intro i h1 h2 out h3
    cases i with
    | zero =>
      refine Ev.step (f := fun _ => some (strOfNums (nm out))) (fun k => ?_) ?_
      · simp only [ploverref02_digits.l1]; rw [if_neg (by omega)]
      · rw [str_nm]; simp; exact Ev.now _
    | succ i =>
      have hlt : i < low.length := by omega
      have hr : rd (nm low) (((i + 1 : Nat) : Int) - 1) = (low[i].toNat : Int) := by
        unfold rd nm
        rw [show (((i + 1 : Nat) : Int) - 1).toNat = i by omega, List.getD_eq_getElem?_getD, List.getElem?_map, List.getElem?_eq_getElem hlt]
        rfl
      have e : nm out ++ [(low[i].toNat : Int)] = nm (out ++ [low[i]]) := by rw [nm_app]; rfl
      refine Ev.step (f := fun k => ploverref02_digits.l1 k (nm low) (nm (out ++ [low[i]])) ((i : Int) - 1)) (fun k => ?_) ?_
      · simp only [ploverref02_digits.l1]
        rw [if_pos (by omega), if_pos (by omega), if_pos (by rw [nm_len]; omega), if_pos (by rw [nm_len]; omega), hr, e, w64 (by omega) (by omega), show ((i + 1 : Nat) : Int) - 1 - 1 = (i : Int) - 1 by omega]
      · have := ih i (by omega) (by omega) (out ++ [low[i]]) (by simp; omega)
        refine Ev.to this ?_
        have e2 : low.take (i + 1) = low.take i ++ [low[i]] := List.take_succ_eq_append_getElem hlt
        rw [e2, List.reverse_append, List.append_assoc]
        rfl
theorem fin_ev (low : List UInt8) (hl : low.length ≤ 1000) : Ev (fun k => ploverref02_digits.j1 k (nm low)) (⟨low.reverse.toArray⟩ : ByteArray) := by
  refine Ev.step (f := fun k => ploverref02_digits.l1 k (nm low) (nm []) ((low.length : Int) - 1)) (fun k => ?_) ?_
  · simp only [ploverref02_digits.j1]
    rw [nm_len, w64 (by omega) (by omega)]
    rfl
  · have := rev_ev low hl low.length low.length (Nat.le_refl _) (Nat.le_refl _) [] (by simpa using hl)
    rw [List.take_length, List.nil_append] at this
    exact this
theorem low_ev (x : Int) : ∀ (f : Nat) (u : Nat) (neg : Bool) (low : List UInt8), u ≤ 9223372036854775808 → (neg = false → u ≤ 9223372036854775807) → (x < 0 ↔ neg = true) → u < 10 ^ f → low.length + f ≤ 500 →
    Ev (fun k => ploverref02_digits.l0 k x (nm low) (sgn neg u)) (⟨((low ++ (if u = 0 then [] else (decDigits u).reverse) ++ (if neg = true then [45] else []) : List UInt8).reverse).toArray⟩ : ByteArray) := by
  intro f
  induction f with
  | zero =>
    intro u neg low h1 h1' h2 h3 h4
    have hu : u = 0 := by simpa using h3
    subst hu
    have hs : sgn neg 0 = 0 := by unfold sgn; split <;> rfl
    rw [hs, if_pos rfl, List.append_nil]
    by_cases hn : neg = true
    · rw [if_pos hn]
      refine Ev.step (f := fun k => ploverref02_digits.j1 k (nm (low ++ [45]))) (fun k => ?_) (fin_ev _ (by simp; omega))
      simp only [ploverref02_digits.l0]
      rw [if_pos trivial, if_pos (h2.2 hn), if_pos (by rw [nm_len]; omega), nm_app]
      rfl
    · rw [if_neg hn, List.append_nil]
      refine Ev.step (f := fun k => ploverref02_digits.j1 k (nm low)) (fun k => ?_) (fin_ev _ (by omega))
      simp only [ploverref02_digits.l0]
      rw [if_pos trivial, if_neg (fun h => hn (h2.1 h))]
  | succ f ih =>
    intro u neg low h1 h1' h2 h3 h4
    by_cases hu : u = 0
    · subst hu
      have hs : sgn neg 0 = 0 := by unfold sgn; split <;> rfl
      rw [hs, if_pos rfl, List.append_nil]
      by_cases hn : neg = true
      · rw [if_pos hn]
        refine Ev.step (f := fun k => ploverref02_digits.j1 k (nm (low ++ [45]))) (fun k => ?_) (fin_ev _ (by simp; omega))
        simp only [ploverref02_digits.l0]
        rw [if_pos trivial, if_pos (h2.2 hn), if_pos (by rw [nm_len]; omega), nm_app]
        rfl
      · rw [if_neg hn, List.append_nil]
        refine Ev.step (f := fun k => ploverref02_digits.j1 k (nm low)) (fun k => ?_) (fin_ev _ (by omega))
        simp only [ploverref02_digits.l0]
        rw [if_pos trivial, if_neg (fun h => hn (h2.1 h))]
    · have hd := ih (u / 10) neg (low ++ [UInt8.ofNat (48 + u % 10)]) (by omega) (fun h => by have := h1' h; omega) h2 (by rw [Nat.pow_succ] at h3; omega) (by simp; omega)
      have hb : nm (low ++ [UInt8.ofNat (48 + u % 10)]) = nm low ++ [48 + ((u % 10 : Nat) : Int)] := by
        rw [nm_app]
        congr 1
        show [((UInt8.ofNat (48 + u % 10)).toNat : Int)] = _
        rw [digit_byte (by omega)]
      have hdd : (if u = 0 then [] else (decDigits u).reverse) = [UInt8.ofNat (48 + u % 10)] ++ (if u / 10 = 0 then [] else (decDigits (u / 10)).reverse) := by
        rw [if_neg hu]
        by_cases hs : u < 10
        · rw [dd_small hs, if_pos (by omega), show u % 10 = u by omega]; rfl
        · rw [dd_big hs, if_neg (by omega), List.reverse_append]; rfl
      rw [hdd]
      refine Ev.step (f := fun k => ploverref02_digits.l0 k x (nm (low ++ [UInt8.ofNat (48 + u % 10)])) (sgn neg (u / 10))) (fun k => ?_) (Ev.to hd (by simp))
      rw [hb]
      simp only [ploverref02_digits.l0]
      have hne : ¬ sgn neg u = 0 := by unfold sgn; split <;> omega
      rw [if_neg hne]
      cases neg with
      | true =>
        have em : Int.tmod (sgn true u) 10 = -((u % 10 : Nat) : Int) := by unfold sgn; rw [if_pos rfl, Int.neg_tmod, Int.tmod_eq_emod_of_nonneg (by omega)]; omega
        have ed : Int.tdiv (sgn true u) 10 = sgn true (u / 10) := by unfold sgn; rw [if_pos rfl, if_pos rfl, Int.neg_tdiv, Int.tdiv_eq_ediv_of_nonneg (by omega)]; omega
        have eb : -9223372036854775808 ≤ sgn true (u / 10) ∧ sgn true (u / 10) ≤ 9223372036854775807 := by unfold sgn; rw [if_pos rfl]; omega
        rw [em, ed, w64 eb.1 eb.2]
        by_cases hz : u % 10 = 0
        · have e0 : (wrap64 (48 + -((0 : Nat) : Int))) % 256 = 48 + ((0 : Nat) : Int) := by unfold wrap64; omega
          rw [if_neg (by omega), if_pos (by rw [nm_len]; omega), hz, e0]
        · rw [if_pos (by omega), if_pos (by rw [nm_len]; omega), w64 (n := - -((u % 10 : Nat) : Int)) (by omega) (by omega), w64 (n := 48 + - -((u % 10 : Nat) : Int)) (by omega) (by omega), show (48 + - -((u % 10 : Nat) : Int)) % 256 = 48 + ((u % 10 : Nat) : Int) by omega]
      | false =>
        have em : Int.tmod (sgn false u) 10 = ((u % 10 : Nat) : Int) := by unfold sgn; rw [if_neg (by decide), Int.tmod_eq_emod_of_nonneg (by omega)]; omega
        have ed : Int.tdiv (sgn false u) 10 = sgn false (u / 10) := by unfold sgn; rw [if_neg (by decide), if_neg (by decide), Int.tdiv_eq_ediv_of_nonneg (by omega)]; omega
        have h1f := h1' rfl
        have eb : -9223372036854775808 ≤ sgn false (u / 10) ∧ sgn false (u / 10) ≤ 9223372036854775807 := by unfold sgn; rw [if_neg (by decide)]; omega
        rw [em, ed, w64 eb.1 eb.2, if_neg (by omega), if_pos (by rw [nm_len]; omega), w64 (n := 48 + ((u % 10 : Nat) : Int)) (by omega) (by omega), show (48 + ((u % 10 : Nat) : Int)) % 256 = 48 + ((u % 10 : Nat) : Int) by omega]
theorem digits_ev (n : Int) (h0 : -9223372036854775808 ≤ n) (h1 : n ≤ 9223372036854775807) : Ev (fun k => ploverref02_digits.f k n) (⟨(itoa n).toArray⟩ : ByteArray) := by
  unfold ploverref02_digits.f
  by_cases hz : n = 0
  · subst hz
    refine Ev.congr (fun k => if_pos rfl) ?_
    rw [itoa_pos (by decide)]
    rw [show (0 : Int).toNat = 0 from rfl, dd_small (by decide)]
    exact Ev.now _
  · refine Ev.congr (fun k => if_neg hz) ?_
    by_cases hn : n < 0
    · have := low_ev n 20 n.natAbs true [] (by omega) (fun h => by cases h) (by simp [hn]) (Nat.lt_of_le_of_lt (show n.natAbs ≤ 9223372036854775808 by omega) (by decide)) (by simp)
      have e : sgn true n.natAbs = n := by unfold sgn; rw [if_pos rfl]; omega
      rw [e] at this
      refine Ev.to this ?_
      rw [itoa_neg hn, if_neg (by omega), if_pos rfl]
      simp
    · have := low_ev n 20 n.toNat false [] (by omega) (fun _ => by omega) (by simp [hn]) (Nat.lt_of_le_of_lt (show n.toNat ≤ 9223372036854775807 by omega) (by decide)) (by simp)
      have e : sgn false n.toNat = n := by unfold sgn; rw [if_neg (by decide)]; omega
      rw [e] at this
      refine Ev.to this ?_
      rw [itoa_pos hn, if_neg (by omega), if_neg (by decide)]
      simp
theorem data_ext {a b : ByteArray} (h : a.data.toList = b.data.toList) : a = b := by
  cases a; cases b
  simp at h
  rw [h]
theorem ba_app (a b : List UInt8) : (⟨a.toArray⟩ : ByteArray) ++ ⟨b.toArray⟩ = ⟨(a ++ b).toArray⟩ := data_ext (by rw [Giv.data_app])
theorem bytes_ev (n : Nat) : ∀ (v : V), wt v ≤ n → n ≤ 1099511627776 → okV v = true → ∃ b : List UInt8, Ev (fun k => ploverref02_bytes.f k v.f0 v.f1 v.f2 v.f3) (⟨b.toArray⟩ : ByteArray) ∧ ((enc v).length ≤ 65536 → b = enc v) ∧ (65536 < (enc v).length → 65536 < b.length) ∧ b.length ≤ wt v := by
  induction n with
  | zero => intro v h; have := wt_eq v; omega
  | succ n ih =>
    intro v hw hb ho
    have hz := wt_eq v
    have hll := wts_len v.f3
    obtain ⟨o1, o2, o3⟩ := (okV_iff v).1 ho
    have hds := data_size v.f2
    rw [enc_eq]
    by_cases c1 : v.f0 = 1
    · rw [if_pos c1]
      have hl := itoa_len o1 o2
      refine ⟨105 :: (itoa v.f1 ++ [101]), Ev.step (f := fun k => (ploverref02_digits.f k v.f1).bind fun t => if 1 + t.size ≤ 9223372036854775807 then (if ((⟨#[105]⟩ : ByteArray) ++ t).size + 1 ≤ 9223372036854775807 then some (((⟨#[105]⟩ : ByteArray) ++ t) ++ (⟨#[101]⟩ : ByteArray)) else none) else none) (fun k => ?_) (Ev.bind (digits_ev _ o1 o2) ?_), fun _ => rfl, fun h => h, by simp; omega⟩
      · simp only [ploverref02_bytes.f]; rw [if_pos c1]
      · have hsz : (⟨(itoa v.f1).toArray⟩ : ByteArray).size = (itoa v.f1).length := by show ((itoa v.f1).toArray).size = _; simp
        refine Ev.congr (fun k => ?_) (Ev.now _)
        rw [if_pos (by rw [hsz]; omega), if_pos (by rw [ByteArray.size_append, hsz]; show 1 + _ + 1 ≤ _; omega)]
        rw [show (⟨#[105]⟩ : ByteArray) = ⟨[105].toArray⟩ from rfl, show (⟨#[101]⟩ : ByteArray) = ⟨[101].toArray⟩ from rfl, ba_app, ba_app]
        rfl
    · rw [if_neg c1]
      by_cases c2 : v.f0 = 2
      · rw [if_pos c2]
        have hd := dd_any v.f2.size
        have hit : itoa (v.f2.size : Int) = decDigits v.f2.size := by rw [itoa_pos (by omega), Int.toNat_natCast]
        refine ⟨itoa (v.f2.size : Int) ++ (58 :: v.f2.data.toList), Ev.step (f := fun k => (ploverref02_digits.f k (v.f2.size : Int)).bind fun t => if t.size + 1 ≤ 9223372036854775807 then (if (t ++ (⟨#[58]⟩ : ByteArray)).size + v.f2.size ≤ 9223372036854775807 then some ((t ++ (⟨#[58]⟩ : ByteArray)) ++ v.f2) else none) else none) (fun k => ?_) (Ev.bind (digits_ev _ (by omega) (by omega)) ?_), fun _ => rfl, fun h => h, by rw [hit]; simp only [List.length_append, List.length_cons, hds]; omega⟩
        · simp only [ploverref02_bytes.f]; rw [if_neg c1, if_pos c2]
        · have hsz : (⟨(itoa (v.f2.size : Int)).toArray⟩ : ByteArray).size = (decDigits v.f2.size).length := by rw [hit]; show ((decDigits v.f2.size).toArray).size = _; simp
          refine Ev.congr (fun k => ?_) (Ev.now _)
          rw [if_pos (by rw [hsz]; omega), if_pos (by rw [ByteArray.size_append, hsz]; show _ + 1 + _ ≤ _; omega)]
          refine congrArg some (data_ext ?_)
          rw [Giv.data_app, Giv.data_app]
          simp
      · rw [if_neg c2]
        have loop : ∀ (d i : Nat) (out : List UInt8), v.f3.length - i ≤ d → i ≤ v.f3.length → out.length + wts (v.f3.drop i) ≤ wt v - 1 → 1 ≤ out.length →
            ∃ b : List UInt8, Ev (fun k => ploverref02_bytes.l0 k (nm out) (i : Int) v.f0 v.f1 v.f2 v.f3) (⟨b.toArray⟩ : ByteArray) ∧ ((out ++ encs (v.f3.drop i) ++ [101]).length ≤ 65536 → b = out ++ encs (v.f3.drop i) ++ [101]) ∧ (65536 < (out ++ encs (v.f3.drop i) ++ [101]).length → 65536 < b.length) ∧ b.length ≤ wt v := by
          intro d
          have fin : ∀ (i : Nat) (out : List UInt8), out.length + wts (v.f3.drop i) ≤ wt v - 1 → (∀ k, ploverref02_bytes.l0 (k + 1) (nm out) (i : Int) v.f0 v.f1 v.f2 v.f3 = if (nm out).length < 140737488355328 then some (strOfNums (nm out ++ [101])) else none) → Ev (fun k => ploverref02_bytes.l0 k (nm out) (i : Int) v.f0 v.f1 v.f2 v.f3) (⟨(out ++ [101]).toArray⟩ : ByteArray) := by
            intro i out h1 h2
            refine Ev.step (f := fun _ => some (⟨(out ++ [101]).toArray⟩ : ByteArray)) (fun k => ?_) (Ev.now _)
            rw [h2 k, if_pos (by rw [nm_len]; omega), ← str_nm, nm_app]
            rfl
          induction d with
          | zero =>
            intro i out h1 h2 h3 h4
            refine ⟨out ++ [101], fin i out h3 (fun k => ?_), ?_, ?_, by simp; omega⟩
            · simp only [ploverref02_bytes.l0]; rw [if_neg (by omega)]
            all_goals rw [List.drop_of_length_le (by omega), encs_nil, List.append_nil]
            · exact fun _ => rfl
            · exact fun h => h
          | succ d ihd =>
            intro i out h1 h2 h3 h4
            by_cases hlt : i < v.f3.length
            · by_cases hm : out.length ≤ 65536
              · have hmem : v.f3[i] ∈ v.f3 := List.getElem_mem hlt
                have hwm := wt_mem hmem
                rw [List.drop_eq_getElem_cons hlt, wts_cons] at h3
                obtain ⟨x, hx, x1, x2, x3⟩ := ih v.f3[i] (by omega) (by omega) (okV_mem hmem o3)
                obtain ⟨b, hb', b1, b2, b3⟩ := ihd (i + 1) (out ++ x) (by omega) (by omega) (by simp; omega) (by simp; omega)
                refine ⟨b, Ev.step (f := fun k => (ploverref02_bytes.f k v.f3[i].f0 v.f3[i].f1 v.f3[i].f2 v.f3[i].f3).bind fun t => if (nm out).length + t.size < 140737488355328 then ploverref02_bytes.l0 k (nm out ++ bytesOf t) ((i + 1 : Nat) : Int) v.f0 v.f1 v.f2 v.f3 else none) (fun k => ?_) (Ev.bind hx ?_), ?_, ?_, b3⟩
                · simp only [ploverref02_bytes.l0]
                  rw [if_pos (by omega), if_pos (by rw [nm_len]; omega), if_pos (by omega), rd_at _ _ hlt, w64 (n := (i : Int) + 1) (by omega) (by omega)]
                  rfl
                · have hsz : (⟨x.toArray⟩ : ByteArray).size = x.length := by show (x.toArray).size = _; simp
                  refine Ev.congr (fun k => if_pos (by rw [nm_len, hsz]; omega)) ?_
                  rw [bytesOf_nm, ← nm_app]
                  simpa using hb'
                · rw [List.drop_eq_getElem_cons hlt, encs_cons]
                  intro h
                  simp only [List.length_append, List.length_singleton] at h b1
                  have e := x1 (by omega)
                  subst e
                  rw [b1 (by omega)]
                  simp
                · rw [List.drop_eq_getElem_cons hlt, encs_cons]
                  intro h
                  simp only [List.length_append, List.length_singleton] at h b1 b2
                  by_cases hl : (enc v.f3[i]).length ≤ 65536
                  · have e := x1 hl
                    subst e
                    exact b2 (by omega)
                  · have := x2 (by omega)
                    exact b2 (by omega)
              · refine ⟨out ++ [101], fin i out h3 (fun k => ?_), ?_, ?_, by simp; omega⟩
                · simp only [ploverref02_bytes.l0]; rw [if_pos (by omega), if_neg (by rw [nm_len]; omega)]
                · intro h; simp only [List.length_append] at h; omega
                · intro _; simp; omega
            · refine ⟨out ++ [101], fin i out h3 (fun k => ?_), ?_, ?_, by simp; omega⟩
              · simp only [ploverref02_bytes.l0]; rw [if_neg (by omega)]
              all_goals rw [List.drop_of_length_le (by omega), encs_nil, List.append_nil]
              · exact fun _ => rfl
              · exact fun h => h
        obtain ⟨b, b0, b1, b2, b3⟩ := loop v.f3.length 0 [108] (by omega) (by omega) (by rw [List.drop_zero]; simp; omega) (by simp)
        rw [List.drop_zero] at b1 b2
        refine ⟨b, Ev.step (f := fun k => ploverref02_bytes.l0 k (nm [108]) ((0 : Nat) : Int) v.f0 v.f1 v.f2 v.f3) (fun k => ?_) b0, b1, b2, b3⟩
        simp only [ploverref02_bytes.f]
        rw [if_neg c1, if_neg c2]
        rfl
theorem refPut_ev (v : V) (hw : wt v ≤ 1000000000) (ho : okV v = true) : Ev (fun k => ploverref02_Put.f k v.f0 v.f1 v.f2 v.f3) (putM v) := by
  unfold ploverref02_Put.f
  refine Ev.bind (kinds_ev _ v (Nat.le_refl _) (by omega)) ?_
  unfold putM
  rw [chk_top]
  by_cases hk : kin v = true
  · rw [if_pos hk]
    refine Ev.congr (fun k => if_pos hk) ?_
    refine Ev.bind (deep_ev _ v (Nat.le_refl _) (by omega)) ?_
    by_cases hd : 8 < dep v
    · rw [if_pos hd, if_neg (by decide)]
      exact Ev.congr (fun k => if_pos (by omega)) (Ev.now _)
    · rw [if_neg hd, if_pos rfl]
      refine Ev.congr (fun k => if_neg (by omega)) ?_
      obtain ⟨b, b0, b1, b2, b3⟩ := bytes_ev _ v (Nat.le_refl _) (by omega) ho
      refine Ev.bind b0 ?_
      have hsz : (⟨b.toArray⟩ : ByteArray).size = b.length := by show (b.toArray).size = _; simp
      by_cases hl : (enc v).length ≤ 65536
      · rw [if_pos hl]
        have e := b1 hl
        refine Ev.congr (fun k => if_neg (by rw [hsz, e]; omega)) ?_
        rw [e]
        exact Ev.now _
      · rw [if_neg hl]
        have := b2 (by omega)
        exact Ev.congr (fun k => if_pos (by rw [hsz]; omega)) (Ev.now _)
  · rw [if_neg hk, if_neg (by decide)]
    exact Ev.congr (fun k => if_neg hk) (Ev.now _)
end Go.Proofs.YtcdfedbecgfanaaDoor.Pure
namespace Go.Proofs.YtcdfedbecgfanaaDoor.Pure
open Go.RowKit Go.Lib Go.Proofs.YtcdfedbecgfanaaDoor.Giv Go.Proofs.YtcdfedbecgfanaaDoor.P Go.Proofs.YtcdfedbecgfanaaDoorW.PrintWords Go.Proofs.YtcdfedbecgfanaaDoorW.PrintLast Go.Proofs.YtcdfedbecgfanaaDoorW.PrintMore
set_option linter.unusedVariables false
set_option linter.unusedSimpArgs false
theorem V_eta (x : V) : (⟨x.f0, x.f1, x.f2, x.f3⟩ : V) = x := by cases x; rfl
abbrev Q6 := Int × Int × ByteArray × List V × Int × Int
def RdR (g : Nat → Option Q6) (R : Int × V × Nat) : Prop := ∃ q : Q6, Ev g q ∧ (R.1 = 0 → q = (R.2.1.f0, R.2.1.f1, R.2.1.f2, R.2.1.f3, (R.2.2 : Int), 0)) ∧ (R.1 ≠ 0 → q.2.2.2.2.2 = R.1)
theorem RdR.step {g f : Nat → Option Q6} {R : Int × V × Nat} (h : ∀ k, g (k + 1) = f k) (hf : RdR f R) : RdR g R := by
  obtain ⟨q, hq, h1, h2⟩ := hf
  exact ⟨q, Ev.step h hq, h1, h2⟩
theorem take_yes {s : ByteArray} (h : s.size ≤ 1099511627776) : benc_Take.f s = some (flat (takeM s)) := by unfold benc_Take.f; rw [if_pos h]
theorem put_yes {v : V} (h : fitV v = true) : benc_Put.f v.f0 v.f1 v.f2 v.f3 = some (putM v) := by unfold benc_Put.f; rw [V_eta]; exact if_pos h
mutual
def sam : V → V → Bool
  | ⟨k, n, s, L⟩, b => if k = b.f0 then (if k = 1 then n == b.f1 else if k = 2 then s.toList == b.f2.toList else sams L b.f3) else false
def sams : List V → List V → Bool
  | [], [] => true
  | x :: xs, y :: ys => sam x y && sams xs ys
  | _, _ => false
end
theorem sam_eq (a b : V) : sam a b = if a.f0 = b.f0 then (if a.f0 = 1 then a.f1 == b.f1 else if a.f0 = 2 then a.f2.toList == b.f2.toList else sams a.f3 b.f3) else false := by obtain ⟨k, n, s, L⟩ := a; rw [sam]
theorem sams_cons (x y : V) (xs ys : List V) : sams (x :: xs) (y :: ys) = (sam x y && sams xs ys) := by rw [sams]
theorem sams_nil : sams [] [] = true := by rw [sams]
theorem sams_len : ∀ (a b : List V), sams a b = true → a.length = b.length
  | [], [], _ => rfl
  | x :: xs, y :: ys, h => by
    rw [sams_cons, Bool.and_eq_true] at h
    simp [sams_len xs ys h.2]
  | [], y :: ys, h => by rw [sams] at h; cases h; simp; simp
  | x :: xs, [], h => by rw [sams] at h; cases h; simp; simp
theorem same_ev (n : Nat) : ∀ (a b : V), wt a ≤ n → n ≤ 4611686018427387904 → wt b ≤ 4611686018427387904 → Ev (fun k => ploverref02_Same.f k a.f0 a.f1 a.f2 a.f3 b.f0 b.f1 b.f2 b.f3) (sam a b) := by
  induction n with
  | zero => intro v _ h; have := wt_eq v; omega
  | succ n ih =>
    intro v u hw hb hub
    have hz := wt_eq v
    have hll := wts_len v.f3
    rw [sam_eq]
    by_cases c0 : v.f0 = u.f0
    · rw [if_pos c0]
      by_cases c1 : v.f0 = 1
      · rw [if_pos c1]
        refine Ev.step (f := fun _ => some (v.f1 == u.f1)) (fun k => ?_) (Ev.now _)
        simp only [ploverref02_Same.f]; rw [if_pos c0, if_pos c1]
      · rw [if_neg c1]
        by_cases c2 : v.f0 = 2
        · rw [if_pos c2]
          refine Ev.step (f := fun _ => some (v.f2.toList == u.f2.toList)) (fun k => ?_) (Ev.now _)
          simp only [ploverref02_Same.f]; rw [if_pos c0, if_neg c1, if_pos c2]
        · rw [if_neg c2]
          by_cases c3 : v.f3.length = u.f3.length
          · have hlu := wts_len u.f3
            have hzu := wt_eq u
            have loop : ∀ (d i : Nat), v.f3.length - i ≤ d → i ≤ v.f3.length → Ev (fun k => ploverref02_Same.l0 k (i : Int) v.f0 v.f1 v.f2 v.f3 u.f0 u.f1 u.f2 u.f3) (sams (v.f3.drop i) (u.f3.drop i)) := by
              intro d
              have fin : ∀ i : Nat, i = v.f3.length → Ev (fun k => ploverref02_Same.l0 k (i : Int) v.f0 v.f1 v.f2 v.f3 u.f0 u.f1 u.f2 u.f3) (sams (v.f3.drop i) (u.f3.drop i)) := by
                intro i hi
                rw [List.drop_of_length_le (by omega), List.drop_of_length_le (by omega), sams_nil]
                refine Ev.step (f := fun _ => some true) (fun k => ?_) (Ev.now _)
                simp only [ploverref02_Same.l0]
                rw [if_neg (by omega)]
              induction d with
              | zero =>
                intro i h1 h2
                exact fin i (by omega)
              | succ d ihd =>
                intro i h1 h2
                by_cases hlt : i < v.f3.length
                · have hlt2 : i < u.f3.length := by omega
                  have hm1 := wt_mem (List.getElem_mem hlt)
                  have hm2 := wt_mem (List.getElem_mem hlt2)
                  have hx := ih v.f3[i] u.f3[i] (by omega) (by omega) (by omega)
                  have hn := ihd (i + 1) (by omega) (by omega)
                  rw [List.drop_eq_getElem_cons hlt, List.drop_eq_getElem_cons hlt2, sams_cons]
                  refine Ev.step (f := fun k => (ploverref02_Same.f k v.f3[i].f0 v.f3[i].f1 v.f3[i].f2 v.f3[i].f3 u.f3[i].f0 u.f3[i].f1 u.f3[i].f2 u.f3[i].f3).bind fun q => if q = true then ploverref02_Same.l0 k ((i + 1 : Nat) : Int) v.f0 v.f1 v.f2 v.f3 u.f0 u.f1 u.f2 u.f3 else some false) (fun k => ?_) (Ev.bind hx ?_)
                  · simp only [ploverref02_Same.l0]
                    rw [if_pos (by omega), if_pos (by omega), if_pos (by omega), rd_at _ _ hlt, rd_at _ _ hlt2, w64 (n := (i : Int) + 1) (by omega) (by omega)]
                    rfl
                  · cases sam v.f3[i] u.f3[i] with
                    | true => rw [Bool.true_and]; exact Ev.congr (fun k => if_pos rfl) hn
                    | false => rw [Bool.false_and]; exact Ev.congr (fun k => if_neg (by decide)) (Ev.now _)
                · exact fin i (by omega)
            have := loop v.f3.length 0 (by omega) (by omega)
            rw [List.drop_zero, List.drop_zero] at this
            refine Ev.step (f := fun k => ploverref02_Same.l0 k ((0 : Nat) : Int) v.f0 v.f1 v.f2 v.f3 u.f0 u.f1 u.f2 u.f3) (fun k => ?_) this
            simp only [ploverref02_Same.f]; rw [if_pos c0, if_neg c1, if_neg c2, if_pos (by omega)]
            rfl
          · have hf : sams v.f3 u.f3 = false := by
              rw [Bool.eq_false_iff]
              exact fun h => c3 (sams_len _ _ h)
            rw [hf]
            refine Ev.step (f := fun _ => some false) (fun k => ?_) (Ev.now _)
            simp only [ploverref02_Same.f]; rw [if_pos c0, if_neg c1, if_neg c2, if_neg (by omega)]
    · rw [if_neg c0]
      refine Ev.step (f := fun _ => some false) (fun k => ?_) (Ev.now _)
      simp only [ploverref02_Same.f]; rw [if_neg c0]
theorem toList0 : (⟨#[]⟩ : ByteArray).toList = [] := by rw [toList_data]
mutual
theorem sam_enc : ∀ (a b : V), sam a b = true → enc a = enc b
  | ⟨k, n, s, L⟩, b, h => by
    rw [sam] at h
    rw [enc, enc_eq b]
    by_cases c0 : k = b.f0
    · rw [if_pos c0] at h
      by_cases c1 : k = 1
      · rw [if_pos c1, beq_iff_eq] at h
        rw [if_pos c1, if_pos (by omega), h]
      · rw [if_neg c1] at h
        rw [if_neg c1, if_neg (show ¬ b.f0 = 1 by omega)]
        by_cases c2 : k = 2
        · rw [if_pos c2, beq_iff_eq, toList_data, toList_data] at h
          have hs : s = b.f2 := data_ext h
          rw [if_pos c2, if_pos (show b.f0 = 2 by omega), hs]
        · rw [if_neg c2] at h
          rw [if_neg c2, if_neg (show ¬ b.f0 = 2 by omega), sams_enc L b.f3 h]
    · rw [if_neg c0] at h
      cases h
theorem sams_enc : ∀ (a b : List V), sams a b = true → encs a = encs b
  | [], [], _ => rfl
  | x :: xs, y :: ys, h => by
    rw [sams_cons, Bool.and_eq_true] at h
    rw [encs_cons, encs_cons, sam_enc x y h.1, sams_enc xs ys h.2]
  | [], y :: ys, h => by rw [sams] at h; cases h; simp; simp
  | x :: xs, [], h => by rw [sams] at h; cases h; simp; simp
end
mutual
theorem sam_nrm : ∀ (a b : V), kin a = true → kin b = true → nrm a = nrm b → sam a b = true
  | ⟨k, n, s, L⟩, b, ha, hb, h => by
    rw [kin] at ha
    rw [kin_eq] at hb
    rw [nrm, nrm_eq b] at h
    rw [sam]
    by_cases c1 : k = 1
    · rw [if_pos c1] at ha h
      by_cases d1 : b.f0 = 1
      · rw [if_pos d1] at h
        rw [if_pos (by omega), if_pos c1]
        have := congrArg (·.f1) h
        exact beq_iff_eq.2 this
      · rw [if_neg d1] at h
        have := congrArg (·.f0) h
        split at this <;> cases this
    · rw [if_neg c1] at ha h
      by_cases c2 : k = 2
      · rw [if_pos c2] at ha h
        by_cases d1 : b.f0 = 1
        · rw [if_pos d1] at h; have := congrArg (·.f0) h; cases this
        · rw [if_neg d1] at h
          by_cases d2 : b.f0 = 2
          · rw [if_pos d2] at h
            rw [if_pos (by omega), if_neg c1, if_pos c2]
            have := congrArg (·.f2) h
            exact beq_iff_eq.2 (congrArg ByteArray.toList this)
          · rw [if_neg d2] at h; have := congrArg (·.f0) h; cases this
      · rw [if_neg c2] at ha h
        by_cases d1 : b.f0 = 1
        · rw [if_pos d1] at h; have := congrArg (·.f0) h; cases this
        · rw [if_neg d1] at h hb
          by_cases d2 : b.f0 = 2
          · rw [if_pos d2] at h; have := congrArg (·.f0) h; cases this
          · rw [if_neg d2] at h hb
            by_cases c3 : k = 3
            · rw [if_pos c3] at ha
              by_cases d3 : b.f0 = 3
              · rw [if_pos d3] at hb
                rw [if_pos (by omega), if_neg c1, if_neg c2]
                exact sams_nrm L b.f3 ha hb (congrArg (·.f3) h)
              · rw [if_neg d3] at hb; cases hb
            · rw [if_neg c3] at ha; cases ha
theorem sams_nrm : ∀ (a b : List V), kins a = true → kins b = true → nrms a = nrms b → sams a b = true
  | [], [], _, _, _ => sams_nil
  | x :: xs, y :: ys, ha, hb, h => by
    rw [kins_cons, Bool.and_eq_true] at ha hb
    rw [nrms_cons, nrms_cons] at h
    injection h with h1 h2
    rw [sams_cons, sam_nrm x y ha.1 hb.1 h1, sams_nrm xs ys ha.2 hb.2 h2]
    rfl
  | [], y :: ys, _, _, h => by rw [nrms_nil, nrms_cons] at h; cases h
  | x :: xs, [], _, _, h => by rw [nrms_nil, nrms_cons] at h; cases h
end
mutual
theorem sam_self : ∀ (a : V), sam a (nrm a) = kin a ∨ kin a = false
  | ⟨k, n, s, L⟩ => by
    rw [sam, nrm, kin]
    by_cases c1 : k = 1
    · subst c1; simp [intV]
    · by_cases c2 : k = 2
      · subst c2; simp [strV]
      · by_cases c3 : k = 3
        · subst c3
          have := sams_self L
          simpa [lisV] using this
        · right; rw [if_neg c1, if_neg c2, if_neg c3]
theorem sams_self : ∀ (a : List V), sams a (nrms a) = kins a ∨ kins a = false
  | [] => by left; rw [nrms_nil, sams_nil, kins_nil]
  | x :: xs => by
    rw [nrms_cons, sams_cons, kins_cons]
    rcases sam_self x with h | h
    · rcases sams_self xs with h2 | h2
      · left; rw [h, h2]
      · right; rw [h2, Bool.and_false]
    · right; rw [h, Bool.false_and]
end
theorem sam_back {v : V} (h : kin v = true) : sam v (nrm v) = true := by
  rcases sam_self v with h2 | h2
  · rw [h2, h]
  · rw [h2] at h; cases h
end Go.Proofs.YtcdfedbecgfanaaDoor.Pure
namespace Go.Proofs.YtcdfedbecgfanaaDoor
open Go.RowKit
def Veil (p : Prop) : Prop := Unit → p
theorem Veil.out {p : Prop} (h : Veil p) : p := h ()
theorem i64_in {n : Int} (h0 : -9223372036854775808 ≤ n) (h1 : n ≤ 9223372036854775807) : IntKind.i64.wrap n = n := by rw [IntKind.wrap_i64]; omega
theorem and_mask_i64 (x : Int) (i : Nat) (hi : i ≤ 62) : bits .and .i64 x ((2 ^ i - 1 : Nat) : Int) = x % ((2 ^ i : Nat) : Int) := by
  have hp : 0 < 2 ^ i := Nat.two_pow_pos i
  have hle : 2 ^ i ≤ 2 ^ 62 := Nat.pow_le_pow_right (by decide) hi
  show IntKind.i64.wrap ((BitVec.ofInt 64 x &&& BitVec.ofInt 64 ((2 ^ i - 1 : Nat) : Int)).toNat : Int) = _
  rw [BitVec.toNat_and, BitVec.ofInt_natCast, BitVec.toNat_ofNat, Nat.mod_eq_of_lt (by omega), BitVec.toNat_ofInt, Nat.and_two_pow_sub_one_eq_mod]
  have hm := Int.emod_nonneg x (show (18446744073709551616 : Int) ≠ 0 by decide)
  have hd : ((2 ^ i : Nat) : Int) ∣ 18446744073709551616 := by
    have : (2 ^ i : Nat) ∣ 2 ^ 64 := Nat.pow_dvd_pow 2 (by omega)
    exact Int.natCast_dvd_natCast.2 this
  have e : (((x % 18446744073709551616).toNat % 2 ^ i : Nat) : Int) = x % ((2 ^ i : Nat) : Int) := by
    rw [Int.natCast_emod, Int.toNat_of_nonneg hm]
    exact Int.emod_emod_of_dvd x hd
  have e' : (((x % ((2 ^ 64 : Nat) : Int)).toNat % 2 ^ i : Nat) : Int) = x % ((2 ^ i : Nat) : Int) := e
  rw [e']
  have h0 := Int.emod_nonneg x (show ((2 ^ i : Nat) : Int) ≠ 0 by omega)
  have h1 := Int.emod_lt_of_pos x (show (0 : Int) < ((2 ^ i : Nat) : Int) by omega)
  exact i64_in (by omega) (by omega)
def Blk (w : World) (b : Nat) (c : Array Value) (t : TypeId) : Prop := w.heap[b]? = some (.cells c t (0, 0))
theorem Blk.lt {w : World} {b : Nat} {c : Array Value} {t : TypeId} (h : Blk w b c t) : b < w.heap.size := (Array.getElem?_eq_some_iff.1 h).1
theorem Blk.cell {w : World} {b : Nat} {c : Array Value} {t : TypeId} (h : Blk w b c t) (i : Nat) : w.cell? ⟨b, i, none⟩ = c[i]? := by
  unfold Blk at h
  simp [World.cell?, h]
theorem Blk.free {w : World} {b : Nat} {c : Array Value} {t : TypeId} (h : Blk w b c t) (i : Nat) : w.frozen? ⟨b, i, none⟩ = false := by
  unfold Blk at h
  simp [World.frozen?, h]
theorem Blk.new (w : World) (c : Array Value) (t : TypeId) : Blk (w.alloc (.cells c t)) w.heap.size c t := by
  show (w.heap.push _)[w.heap.size]? = _
  rw [Array.getElem?_push, if_pos rfl]
theorem Blk.alloc {w : World} {b : Nat} {c : Array Value} {t : TypeId} (h : Blk w b c t) (o : Obj) : Blk (w.alloc o) b c t := by
  have := h.lt
  unfold Blk at *
  rw [Below.heap_alloc _ _ _ this]; exact h
theorem Blk.drew {w : World} {b : Nat} {c : Array Value} {t : TypeId} (h : Blk w b c t) : Blk w.drew b c t := h
theorem Blk.set {w : World} {b : Nat} {c : Array Value} {t : TypeId} (h : Blk w b c t) (i : Nat) (v : Value) : Blk (w.setCell ⟨b, i, none⟩ v) b (c.setIfInBounds i v) t := by
  unfold Blk at *
  simp [World.setCell, Array.getElem?_modify, h]
theorem Blk.below {w w' : World} {B b : Nat} {c : Array Value} {t : TypeId} (h : Blk w b c t) (hb : Below B w w') (hB : b < B) : Blk w' b c t := by
  unfold Blk at *
  rw [hb.block b hB]; exact h
def BlkM (w : World) (b : Nat) (c : Array Value) (t : TypeId) (f : Nat × Nat) : Prop := w.heap[b]? = some (.cells c t f)
theorem BlkM.lt {w : World} {b : Nat} {c : Array Value} {t : TypeId} {f : Nat × Nat} (h : BlkM w b c t f) : b < w.heap.size := (Array.getElem?_eq_some_iff.1 h).1
theorem BlkM.cell {w : World} {b : Nat} {c : Array Value} {t : TypeId} {f : Nat × Nat} (h : BlkM w b c t f) (i : Nat) : w.cell? ⟨b, i, none⟩ = c[i]? := by
  unfold BlkM at h
  simp [World.cell?, h]
theorem BlkM.free {w : World} {b : Nat} {c : Array Value} {t : TypeId} {f : Nat × Nat} (h : BlkM w b c t f) {i : Nat} (hi : i < f.1) : w.frozen? ⟨b, i, none⟩ = false := by
  unfold BlkM at h
  simp [World.frozen?, h]
  omega
theorem BlkM.new (w : World) (c : Array Value) (t : TypeId) (f : Nat × Nat) : BlkM (w.alloc (.cells c t f)) w.heap.size c t f := by
  show (w.heap.push _)[w.heap.size]? = _
  rw [Array.getElem?_push, if_pos rfl]
theorem BlkM.alloc {w : World} {b : Nat} {c : Array Value} {t : TypeId} {f : Nat × Nat} (h : BlkM w b c t f) (o : Obj) : BlkM (w.alloc o) b c t f := by
  have := h.lt
  unfold BlkM at *
  rw [Below.heap_alloc _ _ _ this]; exact h
theorem BlkM.drew {w : World} {b : Nat} {c : Array Value} {t : TypeId} {f : Nat × Nat} (h : BlkM w b c t f) : BlkM w.drew b c t f := h
theorem BlkM.set {w : World} {b : Nat} {c : Array Value} {t : TypeId} {f : Nat × Nat} (h : BlkM w b c t f) (i : Nat) (v : Value) : BlkM (w.setCell ⟨b, i, none⟩ v) b (c.setIfInBounds i v) t f := by
  unfold BlkM at *
  simp [World.setCell, Array.getElem?_modify, h]
theorem BlkM.below {w w' : World} {B b : Nat} {c : Array Value} {t : TypeId} {f : Nat × Nat} (h : BlkM w b c t f) (hb : Below B w w') (hB : b < B) : BlkM w' b c t f := by
  unfold BlkM at *
  rw [hb.block b hB]; exact h
def Later (w : World) : Type := { v : World // Below w.heap.size w v }
instance (w : World) : Nonempty (Later w) := ⟨⟨w, Below.refl _ _⟩⟩
theorem Later.call {P : Program} {f : FuncId} {args : Array Value} {w : World} {v : Value} {x : Later w}
    (h : Calls P f args x.1 fun e w' => e = .returned v ∧ Below x.1.heap.size x.1 w') : Calls P f args x.1 fun e w' => e = .returned v ∧ ∃ y : Later w, w' = y.1 :=
  h.mono fun _ w' ⟨he, hb⟩ => ⟨he, ⟨w', x.2.trans (hb.mono x.2.size)⟩, rfl⟩
theorem Later.cell {w : World} (x : Later w) {p : Addr} (hp : p.block < w.heap.size) : x.1.cell? p = w.cell? p := x.2.cell hp
end Go.Proofs.YtcdfedbecgfanaaDoor
namespace Go.Proofs.YtcdfedbecgfanaaDoor.Pure
open Go.RowKit Go.Lib Go.Proofs.YtcdfedbecgfanaaDoor.Giv Go.Proofs.YtcdfedbecgfanaaDoor.P Go.Proofs.YtcdfedbecgfanaaDoorW.PrintWords Go.Proofs.YtcdfedbecgfanaaDoorW.PrintLast Go.Proofs.YtcdfedbecgfanaaDoorW.PrintMore
set_option linter.unusedVariables false
set_option linter.unusedSimpArgs false
theorem fit_of {v : V} (ho : okV v = true) (hw : wt v ≤ 70368744177664) : fitV v = true := by unfold fitV; rw [ho, decide_eq_true hw]; rfl
theorem bytes_lit (l : List UInt8) : (⟨l.toArray⟩ : ByteArray).data.toList = l := by simp
theorem putM_ok {v : V} (h : (putM v).2 = 0) : kin v = true ∧ dep v ≤ 8 ∧ (enc v).length ≤ 65536 ∧ (putM v).1 = ⟨(enc v).toArray⟩ := by
  unfold putM at h ⊢
  rw [chk_top] at h ⊢
  by_cases hk : kin v = true
  · rw [if_pos hk] at h ⊢
    by_cases hd : 8 < dep v
    · rw [if_pos hd, if_neg (by decide)] at h; cases h
    · rw [if_neg hd, if_pos rfl] at h ⊢
      by_cases hl : (enc v).length ≤ 65536
      · rw [if_pos hl]; exact ⟨hk, by omega, hl, rfl⟩
      · rw [if_neg hl] at h; cases h
  · rw [if_neg hk, if_neg (by decide)] at h; cases h
theorem putM_of {v : V} (hk : kin v = true) (hd : dep v ≤ 8) (hl : (enc v).length ≤ 65536) : putM v = (⟨(enc v).toArray⟩, 0) := by
  have e : chk v 0 = 0 := by rw [chk_top, if_pos hk, if_neg (show ¬ 8 < dep v by omega)]
  unfold putM
  rw [if_pos e, if_pos hl]
theorem putM_bad {v : V} (h : (putM v).2 ≠ 0) : (putM v).1 = ⟨#[]⟩ := by
  unfold putM at h ⊢
  by_cases c : chk v 0 = 0
  · rw [if_pos c] at h ⊢
    by_cases hl : (enc v).length ≤ 65536
    · rw [if_pos hl] at h; exact absurd rfl h
    · rw [if_neg hl]
  · rw [if_neg c]
theorem takeM_back {v : V} (hk : kin v = true) (ho : okV v = true) (hd : dep v ≤ 8) (hl : (enc v).length ≤ 65536) (rest : List UInt8) : takeM ⟨(enc v ++ rest).toArray⟩ = (nrm v, ((enc v).length : Int), 0) := by
  have hb := back (wt v) v (Nat.le_refl _) hk ho (tok_of_len v (by omega)) 8 hd rest
  unfold takeM
  rw [bytes_lit, hb]
  simp only [if_true]
  rw [if_pos hl]
theorem enc_len2 (v : V) : 2 ≤ (enc v).length := by
  rw [enc_eq]
  split
  · simp
  · split
    · have := dd_pos ((v.f2.size : Int)).toNat
      rw [itoa_pos (by omega)]
      simp only [List.length_append, List.length_cons]
      omega
    · simp
def v0 : V := lisV [intV 12, strV ⟨#[97, 98]⟩]
theorem enc_v0 : enc v0 = [108, 105, 49, 50, 101, 50, 58, 97, 98, 101] := by
  unfold v0
  have h12 : itoa 12 = [49, 50] := by
    rw [itoa_pos (by decide), show (12 : Int).toNat = 12 from rfl, dd_big (by decide), dd_small (by decide)]
    rfl
  have h2 : itoa (((⟨#[97, 98]⟩ : ByteArray).size : Nat) : Int) = [50] := by
    rw [itoa_pos (by decide)]
    show decDigits 2 = _
    rw [dd_small (by decide)]
    rfl
  rw [enc_lis, encs_cons, encs_cons, encs_nil, enc_int, enc_str, h12, h2]
  rfl
theorem v0_facts : kin v0 = true ∧ okV v0 = true ∧ dep v0 ≤ 8 ∧ wt v0 ≤ 1000 := by
  unfold v0
  refine ⟨?_, ?_, ?_, ?_⟩
  · rw [kin_lis, kins_cons, kins_cons, kins_nil, kin_int, kin_str]; rfl
  · refine ok_lis ((okVs_cons _ _).2 ⟨ok_int (by decide) (by decide), (okVs_cons _ _).2 ⟨ok_str _, okVs_nil⟩⟩)
  · rw [dep_lis, deps_cons, deps_cons, deps_nil, dep_int, dep_str]; omega
  · rw [wt_eq]
    unfold lisV
    rw [wts_cons, wts_cons, wts_nil, wt_eq, wt_eq]
    unfold intV strV
    rw [wts_nil]
    decide
theorem awake_ev : Ev (fun k => ploverlaw02_awake.f k) true := by
  obtain ⟨hk, ho, hd, hw⟩ := v0_facts
  unfold ploverlaw02_awake.f
  have hput : benc_Put.f 3 0 (⟨#[]⟩ : ByteArray) [(⟨1, 12, (⟨#[]⟩ : ByteArray), ([] : List V)⟩ : V), (⟨2, 0, (⟨#[97, 98]⟩ : ByteArray), ([] : List V)⟩ : V)] = some (⟨#[108, 105, 49, 50, 101, 50, 58, 97, 98, 101]⟩, 0) := by
    have h := put_yes (fit_of ho (by omega))
    rw [putM_of hk hd (by rw [enc_v0]; decide), enc_v0] at h
    exact h
  have htake : benc_Take.f (⟨#[108, 105, 49, 50, 101, 50, 58, 97, 98, 101, 120]⟩ : ByteArray) = some (flat (nrm v0, 10, 0)) := by
    have h := takeM_back hk ho hd (by rw [enc_v0]; decide) [120]
    rw [enc_v0] at h
    rw [take_yes (by decide)]
    exact congrArg (fun x => some (flat x)) h
  have hs := same_ev (wt v0) v0 (nrm v0) (Nat.le_refl _) (by omega) (by
    unfold v0
    rw [nrm_eq]
    show wt (lisV (nrms [intV 12, strV ⟨#[97, 98]⟩])) ≤ _
    rw [nrms_cons, nrms_cons, nrms_nil, nrm_eq, nrm_eq]
    show wt (lisV [intV 12, strV ⟨#[97, 98]⟩]) ≤ _
    have := v0_facts.2.2.2
    unfold v0 at this
    omega)
  rw [sam_back hk] at hs
  refine Ev.congr (fun k => Option.bind_some _ _) ?_
  refine Ev.congr (fun k => by rw [hput, Option.bind_some, htake, Option.bind_some]) ?_
  refine Ev.congr (fun k => if_pos (by rw [toList_data])) ?_
  refine Ev.congr (fun k => if_pos rfl) ?_
  exact Ev.bind hs (Ev.congr (fun k => by rw [if_pos rfl]; exact if_pos rfl) (Ev.now _))
theorem BencPuts_pure (v : V) (hr : rdy v = true) : ∃ k, ploverlaw02_BencPuts.f k v.f0 v.f1 v.f2 v.f3 = some true := by
  refine Ev.rounds ?_
  obtain ⟨b, hb, hb2⟩ := small_ev v hr
  unfold ploverlaw02_BencPuts.f
  refine Ev.bind hb ?_
  cases b with
  | false => exact Ev.congr (fun k => if_neg (by decide)) (Ev.bind awake_ev (Ev.now _))
  | true =>
    have hw := hb2 rfl
    refine Ev.congr (fun k => if_pos rfl) ?_
    rw [put_yes (fit_of (rdy_ok v hr) (by omega))]
    refine Ev.congr (fun k => Option.bind_some _ _) ?_
    refine Ev.bind (refPut_ev v (by omega) (rdy_ok v hr)) ?_
    exact Ev.congr (fun k => by rw [if_pos rfl, if_pos rfl]) (Ev.bind awake_ev (Ev.now _))
theorem wt_nrm : ∀ (n : Nat) (v : V), wt v ≤ n → wt (nrm v) ≤ wt v := by
  intro n
  induction n with
  | zero => intro v h; have := wt_eq v; omega
  | succ n ih =>
    intro v hw
    have hz := wt_eq v
    rw [nrm_eq]
    have hI : ∀ n, wt (intV n) = 30 := fun n => by rw [wt_eq]; unfold intV; rw [wts_nil]; rfl
    have hS : ∀ s, wt (strV s) = 30 + 2 * s.size := fun s => by rw [wt_eq]; unfold strV; simp [wts_nil]
    have hL : ∀ l, wt (lisV l) = 30 + wts l := fun l => by rw [wt_eq]; unfold lisV; show 30 + 2 * 0 + wts l = _; omega
    split
    · rw [hI]; omega
    · split
      · rw [hS]; omega
      · rw [hL]
        have : ∀ L : List V, wts L ≤ n → wts (nrms L) ≤ wts L := by
          intro L
          induction L with
          | nil => intro _; rw [nrms_nil]; omega
          | cons x xs ihx =>
            intro h
            rw [wts_cons] at h
            rw [nrms_cons, wts_cons, wts_cons]
            have := ih x (by omega)
            have := ihx (by omega)
            omega
        have := this v.f3 (by omega)
        omega
theorem takeM_zero {s : ByteArray} (h : (takeM s).2.2 ≠ 0) : (takeM s).1 = zV ∧ (takeM s).2.1 = 0 := by
  unfold takeM at h ⊢
  by_cases c : (valL 8 s.data.toList).1 = 0
  · rw [if_pos c] at h ⊢
    by_cases c2 : (valL 8 s.data.toList).2.2 ≤ 65536
    · rw [if_pos c2] at h; exact absurd rfl h
    · rw [if_neg c2]; exact ⟨rfl, rfl⟩
  · rw [if_neg c]; exact ⟨rfl, rfl⟩
theorem takeM_fore {s : ByteArray} (h : (takeM s).2.2 = 0) : ∃ n : Nat, (takeM s).2.1 = (n : Int) ∧ 2 ≤ n ∧ n ≤ s.size ∧ enc (takeM s).1 = s.data.toList.take n ∧ kin (takeM s).1 = true ∧ dep (takeM s).1 ≤ 8 ∧ okV (takeM s).1 = true ∧ n ≤ 65536 ∧ wt (takeM s).1 ≤ 15 * n ∧ gud (takeM s).1 = true := by
  unfold takeM at h ⊢
  by_cases c : (valL 8 s.data.toList).1 = 0
  · rw [if_pos c] at h ⊢
    by_cases c2 : (valL 8 s.data.toList).2.2 ≤ 65536
    · rw [if_pos c2]
      obtain ⟨f1, f2, f3, f4⟩ := fore 8 _ c
      obtain ⟨u1, u2⟩ := valL_used 8 _ c
      rw [data_size] at u2
      exact ⟨_, rfl, u1, u2, f1, f2, f3, f4, c2, valL_wt 8 _ c, valL_gud 8 _ c⟩
    · rw [if_neg c2] at h; cases h
  · rw [if_neg c] at h; exact absurd h c
theorem ext_zero (s : ByteArray) (n : Nat) : (s.extract 0 n).data.toList = s.data.toList.take n := by rw [extract_list, List.drop_zero, Nat.sub_zero]
theorem BencBack_pure (v : V) (s : ByteArray) (hr : rdy v = true) (hs : s.size ≤ 140737488351232) : ∃ k, ploverlaw02_BencBack.f k v.f0 v.f1 v.f2 v.f3 s = some true := by
  refine Ev.rounds ?_
  have ho := rdy_ok v hr
  have j1 : Ev (fun k => ploverlaw02_BencBack.j1 k s) true := by
    by_cases hl : (s.size : Int) > 8192
    · exact Ev.step (f := fun k => (ploverlaw02_awake.f k).bind fun t => some t) (fun k => by simp only [ploverlaw02_BencBack.j1]; rw [if_pos hl]) (Ev.bind awake_ev (Ev.now _))
    · by_cases he : (takeM s).2.2 = 0
      · obtain ⟨n, e1, e2, e3, e4, e5, e6, e7, e8, e9, _⟩ := takeM_fore he
        have hp := putM_of e5 e6 (by rw [e4, List.length_take]; omega)
        refine Ev.step (f := fun k => (ploverlaw02_awake.f k).bind fun t => some t) (fun k => ?_) (Ev.bind awake_ev (Ev.now _))
        simp only [ploverlaw02_BencBack.j1]
        rw [if_neg hl, take_yes (by omega), Option.bind_some]
        unfold flat
        simp only
        rw [if_pos he, put_yes (fit_of e7 (by omega)), Option.bind_some, hp]
        simp only
        rw [if_pos trivial, e1, if_pos (by omega), if_pos (by omega), if_pos (by omega), if_pos]
        rw [toList_data, toList_data, Int.toNat_natCast, ext_zero, e4]
      · have hz := takeM_zero he
        refine Ev.step (f := fun k => (ploverlaw02_awake.f k).bind fun t => some t) (fun k => ?_) (Ev.bind awake_ev (Ev.now _))
        simp only [ploverlaw02_BencBack.j1]
        rw [if_neg hl, take_yes (by omega), Option.bind_some]
        unfold flat
        simp only
        rw [if_neg he, if_pos hz.2]
  have j0n : Ev (fun k => ploverlaw02_BencBack.j0 k s false v.f0 v.f1 v.f2 v.f3) true := Ev.step (fun k => by simp only [ploverlaw02_BencBack.j0]; exact if_neg (by decide)) j1
  obtain ⟨b, hb, hb2⟩ := small_ev v hr
  unfold ploverlaw02_BencBack.f
  refine Ev.bind hb ?_
  cases b with
  | false => exact Ev.congr (fun k => if_neg (by decide)) j0n
  | true =>
    have hw := hb2 rfl
    refine Ev.congr (fun k => if_pos rfl) ?_
    by_cases hl : (s.size : Int) ≤ 8192
    · rw [decide_eq_true hl]
      by_cases he : (putM v).2 = 0
      · obtain ⟨hk, hd, hlen, hpm⟩ := putM_ok he
        have hsz : (putM v).1.size = (enc v).length := by rw [hpm]; show ((enc v).toArray).size = _; simp
        have htk : takeM ((putM v).1 ++ s) = (nrm v, ((enc v).length : Int), 0) := by
          have := takeM_back hk ho hd hlen s.data.toList
          rw [← this]
          refine congrArg takeM (data_ext ?_)
          rw [Giv.data_app, hpm, bytes_lit, bytes_lit]
        have hsm := same_ev (wt v) v (nrm v) (Nat.le_refl _) (by omega) (by have := wt_nrm _ v (Nat.le_refl _); omega)
        rw [sam_back hk] at hsm
        refine Ev.step (f := fun k => (ploverref02_Same.f k v.f0 v.f1 v.f2 v.f3 (nrm v).f0 (nrm v).f1 (nrm v).f2 (nrm v).f3).bind fun t => if t = true then ploverlaw02_BencBack.j1 k s else some false) (fun k => ?_) (Ev.bind hsm (Ev.congr (fun k => if_pos rfl) j1))
        simp only [ploverlaw02_BencBack.j0]
        rw [if_pos trivial, put_yes (fit_of ho (by omega)), Option.bind_some, if_pos he, if_pos (by rw [hsz]; omega), take_yes (by rw [ByteArray.size_append, hsz]; omega), Option.bind_some, htk, hsz]
        unfold flat
        simp only
        rw [if_pos trivial, if_pos trivial]
      · refine Ev.step (fun k => ?_) j1
        simp only [ploverlaw02_BencBack.j0]
        rw [if_pos trivial, put_yes (fit_of ho (by omega)), Option.bind_some, if_neg he]
    · rw [decide_eq_false hl]
      exact j0n
theorem BencApart_pure (v u : V) (hv : rdy v = true) (hu : rdy u = true) : ∃ k, ploverlaw02_BencApart.f k v.f0 v.f1 v.f2 v.f3 u.f0 u.f1 u.f2 u.f3 = some true := by
  refine Ev.rounds ?_
  have ov := rdy_ok v hv
  have ou := rdy_ok u hu
  have jT : Ev (fun k => ploverlaw02_BencApart.j0 k true v.f0 v.f1 v.f2 v.f3 u.f0 u.f1 u.f2 u.f3) true := Ev.step (f := fun k => (ploverlaw02_awake.f k).bind fun t => some t) (fun k => by simp only [ploverlaw02_BencApart.j0]; exact if_pos trivial) (Ev.bind awake_ev (Ev.now _))
  obtain ⟨b, hb, hb2⟩ := small_ev v hv
  obtain ⟨c, hc, hc2⟩ := small_ev u hu
  unfold ploverlaw02_BencApart.f
  refine Ev.bind hb ?_
  cases b with
  | false => exact Ev.congr (fun k => if_neg (by decide)) jT
  | true =>
    refine Ev.congr (fun k => if_pos rfl) (Ev.bind hc ?_)
    cases c with
    | false => exact jT
    | true =>
      have hw := hb2 rfl
      have hw2 := hc2 rfl
      have j1T : ∀ x y, Ev (fun k => ploverlaw02_BencApart.j1 k x y true v.f0 v.f1 v.f2 v.f3 u.f0 u.f1 u.f2 u.f3) true := fun x y => Ev.step (f := fun k => (ploverlaw02_awake.f k).bind fun t => some t) (fun k => by simp only [ploverlaw02_BencApart.j1]; exact if_pos trivial) (Ev.bind awake_ev (Ev.now _))
      have go : ∀ x, Ev (fun k => ploverlaw02_BencApart.j1 k (putM v).1 (putM u).1 x v.f0 v.f1 v.f2 v.f3 u.f0 u.f1 u.f2 u.f3) true → ((putM v).2 = 0 ∧ x = ((putM u).2 != 0) ∨ (putM v).2 ≠ 0 ∧ x = true) → Ev (fun k => ploverlaw02_BencApart.j0 k (!true) v.f0 v.f1 v.f2 v.f3 u.f0 u.f1 u.f2 u.f3) true := by
        intro x h hx
        refine Ev.step (fun k => ?_) h
        simp only [ploverlaw02_BencApart.j0]
        rw [if_neg (by decide), put_yes (fit_of ov (by omega)), put_yes (fit_of ou (by omega)), Option.bind_some, Option.bind_some]
        rcases hx with ⟨h1, rfl⟩ | ⟨h1, rfl⟩
        · rw [if_pos h1]
        · rw [if_neg h1]
      by_cases he : (putM v).2 = 0
      · by_cases he2 : (putM u).2 = 0
        · refine go false ?_ (.inl ⟨he, (bne_eq_false_iff_eq.2 he2).symm⟩)
          obtain ⟨hk, hd, hlen, hpm⟩ := putM_ok he
          obtain ⟨hk2, hd2, hlen2, hpm2⟩ := putM_ok he2
          have hsm := same_ev (wt v) v u (Nat.le_refl _) (by omega) (by omega)
          have heq : ((putM v).1.toList == (putM u).1.toList) = sam v u := by
            rw [toList_data, toList_data, hpm, hpm2, bytes_lit, bytes_lit, Bool.eq_iff_iff, beq_iff_eq]
            constructor
            · intro h
              have b1 := takeM_back hk ov hd hlen []
              have b2 := takeM_back hk2 ou hd2 hlen2 []
              rw [h, b2] at b1
              exact sam_nrm v u hk hk2 (congrArg (·.1) b1).symm
            · exact sam_enc v u
          refine Ev.step (f := fun k => (ploverref02_Same.f k v.f0 v.f1 v.f2 v.f3 u.f0 u.f1 u.f2 u.f3).bind fun t => if (((putM v).1.toList == (putM u).1.toList) == t) = true then (ploverlaw02_awake.f k).bind fun t => some t else some false) (fun k => ?_) (Ev.bind hsm ?_)
          · simp only [ploverlaw02_BencApart.j1]
            rfl
          · rw [heq]
            exact Ev.congr (fun k => if_pos (by simp)) (Ev.bind awake_ev (Ev.now _))
        · exact go true (j1T _ _) (.inl ⟨he, (bne_iff_ne.2 he2).symm⟩)
      · exact go true (j1T _ _) (.inr ⟨he, rfl⟩)
theorem numL_cut (neg : Bool) : ∀ (ds : List UInt8) (m : Nat), (∀ c ∈ ds, isD c) → fits neg (foldN m ds) → (numL neg false true (sgn neg m) ds).1 = 21
  | [], m, _, _ => by rw [numL]
  | c :: t, m, hD, hf => by
    rw [foldN_cons] at hf
    rw [numL_digit neg false true m c t (hD c (by simp)) (fun _ => rfl) (fun h => by cases h), if_pos (fits_le hf (foldN_ge t _)), if_pos rfl]
    exact numL_cut neg t _ (fun x hx => hD x (by simp [hx])) hf
theorem foldN_take (ds : List UInt8) (a j : Nat) : foldN a (ds.take j) ≤ foldN a ds := by
  have h : foldN a ds = foldN (foldN a (ds.take j)) (ds.drop j) := by rw [← foldN_app, List.take_append_drop]
  rw [h]
  exact foldN_ge _ _
theorem numL_cut0 (neg : Bool) (m j : Nat) (hf : fits neg m) (h0 : neg = true → m ≠ 0) : (numL neg false false 0 ((decDigits m).take j)).1 = 21 := by
  obtain ⟨c, t, e, h48⟩ := dd_head m
  have hD := dd_isD m
  have hF := dd_fold m
  have hT := foldN_take (decDigits m) 0 j
  cases j with
  | zero => rw [List.take_zero, numL]
  | succ j =>
    rw [e] at hD hF hT ⊢
    rw [List.take_succ_cons] at hT ⊢
    have hs : sgn neg 0 = 0 := by unfold sgn; split <;> rfl
    have hc48 : c.toNat = 48 → neg = false := fun h => by
      cases hn : neg with
      | false => rfl
      | true => exact absurd (h48 h).1 (h0 hn)
    have key := numL_digit neg false false 0 c (t.take j) (hD c (by simp)) (fun h => by cases h) (fun _ => hc48)
    rw [hs] at key
    rw [foldN_cons] at hT
    have hf1 : fits neg (foldN (10 * 0 + dv c) (t.take j)) := fits_le hf (by rw [← hF]; exact hT)
    rw [key, if_pos (fits_le hf1 (foldN_ge _ _)), if_neg (by decide)]
    by_cases hz : c.toNat = 48
    · obtain ⟨_, ht⟩ := h48 hz
      subst ht
      rw [List.take_nil, numL]
    · have hzz : (c == 48) = false := beq_eq_false_iff_ne.2 (u8_ne (by show c.toNat ≠ 48; exact hz))
      rw [hzz]
      exact numL_cut neg (t.take j) _ (fun x hx => hD x (by simp [List.mem_of_mem_take hx])) hf1
theorem lenL_cut : ∀ (ds : List UInt8) (m : Nat), (∀ c ∈ ds, isD c) → foldN m ds ≤ 65536 → (lenL false true m ds).1 = 21
  | [], m, _, _ => by rw [lenL]
  | c :: t, m, hD, hf => by
    rw [foldN_cons] at hf
    have := foldN_ge t (10 * m + dv c)
    rw [lenL_digit false true m c t (hD c (by simp)) (fun _ => rfl), if_neg (by omega), if_pos rfl]
    exact lenL_cut t _ (fun x hx => hD x (by simp [hx])) hf
theorem lenL_cut0 (m j : Nat) (hf : m ≤ 65536) : (lenL false false 0 ((decDigits m).take j)).1 = 21 := by
  obtain ⟨c, t, e, h48⟩ := dd_head m
  have hD := dd_isD m
  have hF := dd_fold m
  have hT := foldN_take (decDigits m) 0 j
  cases j with
  | zero => rw [List.take_zero, lenL]
  | succ j =>
    rw [e] at hD hF hT ⊢
    rw [List.take_succ_cons] at hT ⊢
    rw [foldN_cons] at hT
    have hf1 : foldN (10 * 0 + dv c) (t.take j) ≤ 65536 := by omega
    have := foldN_ge (t.take j) (10 * 0 + dv c)
    rw [lenL_digit false false 0 c (t.take j) (hD c (by simp)) (fun h => by cases h), if_neg (by omega), if_neg (by decide)]
    by_cases hz : c.toNat = 48
    · obtain ⟨_, ht⟩ := h48 hz
      subst ht
      rw [List.take_nil, lenL]
    · have hzz : (c == 48) = false := beq_eq_false_iff_ne.2 (u8_ne (by show c.toNat ≠ 48; exact hz))
      rw [hzz]
      exact lenL_cut (t.take j) _ (fun x hx => hD x (by simp [List.mem_of_mem_take hx])) hf1
theorem intL_cut (n : Int) (h0 : -9223372036854775808 ≤ n) (h1 : n ≤ 9223372036854775807) (j : Nat) : (intL ((itoa n).take j)).1 = 21 := by
  by_cases c : n < 0
  · rw [itoa_neg c]
    cases j with
    | zero => rw [List.take_zero]; unfold intL; rw [if_neg (by simp), numL]
    | succ j =>
      rw [List.take_succ_cons]
      unfold intL
      rw [if_pos (by rfl), List.tail_cons]
      exact numL_cut0 true n.natAbs j (by unfold fits; rw [if_pos rfl]; omega) (fun _ => by omega)
  · rw [itoa_pos c]
    have hh : ((decDigits n.toNat).take j).head? ≠ some 45 := by
      cases j with
      | zero => rw [List.take_zero]; simp
      | succ j =>
        have := dd_head45 n.toNat []
        rw [List.append_nil] at this
        obtain ⟨c, t, e, _⟩ := dd_head n.toNat
        rw [e] at this ⊢
        rw [List.take_succ_cons]
        exact this
    unfold intL
    rw [if_neg hh]
    exact numL_cut0 false n.toNat j (by unfold fits; omega) (fun h => by cases h)
theorem listL_cut (d : Nat) : ∀ (L : List V), (∀ x ∈ L, kin x = true ∧ Back x d ∧ ∀ j, j < (enc x).length → (valL d ((enc x).take j)).1 = 21) → ∀ k j, j < (encs L ++ [101]).length → j ≤ k → (listL (valL d) k ((encs L ++ [101]).take j)).1 = 21
  | [], _, k, j, hj, _ => by
    rw [encs_nil] at hj ⊢
    obtain rfl : j = 0 := by simp at hj; exact hj
    rw [List.take_zero, listL]
  | x :: xs, h, k, j, hj, hk => by
    obtain ⟨hk1, hb, hc⟩ := h x (by simp)
    rw [encs_cons, List.append_assoc] at hj ⊢
    cases j with
    | zero => rw [List.take_zero, listL]
    | succ j =>
      obtain ⟨k, rfl⟩ : ∃ q, k = q + 1 := ⟨k - 1, by omega⟩
      obtain ⟨c, t, e, hc101⟩ := enc_head x hk1
      have hlen : (enc x).length = t.length + 1 := by rw [e]; simp
      have hhead : (enc x ++ (encs xs ++ [101])).take (j + 1) = c :: (t ++ (encs xs ++ [101])).take j := by rw [e]; rfl
      by_cases hin : j + 1 < (enc x).length
      · have hv := hc (j + 1) hin
        have e2 : (enc x ++ (encs xs ++ [101])).take (j + 1) = (enc x).take (j + 1) := by rw [List.take_append_of_le_length (by omega)]
        have e3 : (enc x).take (j + 1) = c :: (t ++ (encs xs ++ [101])).take j := by rw [← e2]; exact hhead
        rw [hhead, listL, if_neg hc101, ← e3, if_neg (by rw [hv]; decide), hv]
      · have e2 : (enc x ++ (encs xs ++ [101])).take (j + 1) = enc x ++ (encs xs ++ [101]).take (j + 1 - (enc x).length) := by
          rw [List.take_append, List.take_of_length_le (by omega)]
        have hv := hb ((encs xs ++ [101]).take (j + 1 - (enc x).length))
        have ih := listL_cut d xs (fun y hy => h y (by simp [hy])) k (j + 1 - (enc x).length) (by rw [List.length_append] at hj; omega) (by omega)
        have e3 : enc x ++ (encs xs ++ [101]).take (j + 1 - (enc x).length) = c :: (t ++ (encs xs ++ [101])).take j := by rw [← e2]; exact hhead
        have e4 : (enc x ++ (encs xs ++ [101]).take (j + 1 - (enc x).length)).drop (enc x).length = (encs xs ++ [101]).take (j + 1 - (enc x).length) := List.drop_left
        rw [hhead, listL, if_neg hc101, ← e3, hv]
        simp only [if_true]
        rw [e4, if_neg (by rw [ih]; decide), ih]
theorem valL_cut : ∀ (n : Nat) (v : V), wt v ≤ n → kin v = true → okV v = true → tok v = true → ∀ d, dep v ≤ d → ∀ j, j < (enc v).length → (valL d ((enc v).take j)).1 = 21 := by
  intro n
  induction n with
  | zero => intro v h; have := wt_eq v; omega
  | succ n ih =>
    intro v hw hk ho ht d hd j hj
    cases j with
    | zero => rw [List.take_zero, valL_nil]
    | succ j =>
      rw [enc_eq] at hj ⊢
      rw [kin_eq] at hk
      rw [tok_eq] at ht
      obtain ⟨o1, o2, o3⟩ := (okV_iff v).1 ho
      by_cases c1 : v.f0 = 1
      · rw [if_pos c1] at hj ⊢
        rw [List.take_succ_cons, valL_cons, if_pos rfl]
        have hl : j ≤ (itoa v.f1).length := by simp at hj; omega
        rw [List.take_append_of_le_length hl]
        have := intL_cut v.f1 o1 o2 j
        rw [if_neg (by rw [this]; decide), this]
      · rw [if_neg c1] at hk ht hj ⊢
        by_cases c2 : v.f0 = 2
        · rw [if_pos c2] at hk ht hj ⊢
          rw [itoa_pos (by omega), Int.toNat_natCast] at hj ⊢
          have hs := of_decide_eq_true ht
          have hz := data_size v.f2
          obtain ⟨c, t, e, _⟩ := dd_head v.f2.size
          have hc := dd_isD _ c (by rw [e]; simp)
          obtain ⟨k1, k2, k3, k4⟩ := isD_not hc
          have h105 : ¬ c = 105 := u8_ne (by unfold isD at hc; show c.toNat ≠ 105; omega)
          have hdig : 48 ≤ c ∧ c ≤ 57 := ⟨UInt8.not_lt.1 k3, UInt8.not_lt.1 k4⟩
          have hhead : (decDigits v.f2.size ++ 58 :: v.f2.data.toList).take (j + 1) = c :: (t ++ 58 :: v.f2.data.toList).take j := by rw [e]; rfl
          by_cases hin : j + 1 ≤ (decDigits v.f2.size).length
          · have e2 : (decDigits v.f2.size ++ 58 :: v.f2.data.toList).take (j + 1) = (decDigits v.f2.size).take (j + 1) := List.take_append_of_le_length hin
            have hl := lenL_cut0 v.f2.size (j + 1) hs
            rw [hhead, valL_cons, if_neg h105, if_pos hdig, ← hhead, e2, if_neg (by rw [hl]; decide), hl]
          · have e2 : (decDigits v.f2.size ++ 58 :: v.f2.data.toList).take (j + 1) = decDigits v.f2.size ++ 58 :: (v.f2.data.toList.take (j - (decDigits v.f2.size).length)) := by
              rw [List.take_append, List.take_of_length_le (by omega), show j + 1 - (decDigits v.f2.size).length = (j - (decDigits v.f2.size).length) + 1 by omega, List.take_succ_cons]
            have hl := lenL_dd v.f2.size (v.f2.data.toList.take (j - (decDigits v.f2.size).length)) hs
            rw [hhead, valL_cons, if_neg h105, if_pos hdig, ← hhead, e2, hl]
            simp only [if_true]
            rw [if_pos]
            simp only [List.length_append, List.length_cons, List.length_take, hz] at hj ⊢
            omega
        · rw [if_neg c2] at hk ht hj ⊢
          by_cases c3 : v.f0 = 3
          · rw [if_pos c3] at hk
            rw [dep_eq, if_pos c3] at hd
            obtain ⟨d, rfl⟩ : ∃ j, d = j + 1 := ⟨d - 1, by omega⟩
            rw [wt_eq] at hw
            have hall : ∀ x ∈ v.f3, kin x = true ∧ Back x d ∧ ∀ j, j < (enc x).length → (valL d ((enc x).take j)).1 = 21 := fun x hx => by
              have h1 := kins_mem hx hk
              have hw1 := wt_mem hx
              have hd1 := deps_mem hx
              exact ⟨h1, back n x (by omega) h1 (okV_mem hx o3) (toks_mem hx ht) d (by omega), ih x (by omega) h1 (okV_mem hx o3) (toks_mem hx ht) d (by omega)⟩
            rw [List.length_cons] at hj
            rw [List.take_succ_cons, valL_cons, if_neg (by decide), if_neg (by decide), if_neg (by decide)]
            have hlen : ((encs v.f3 ++ [101]).take j).length = j := by rw [List.length_take]; omega
            have := listL_cut d v.f3 hall j j (by omega) (Nat.le_refl _)
            dsimp only
            rw [hlen, if_neg (by rw [this]; decide), this]
          · rw [if_neg c3] at hk
            cases hk
theorem takeM_cut {v : V} (hk : kin v = true) (ho : okV v = true) (hd : dep v ≤ 8) (hl : (enc v).length ≤ 65536) (j : Nat) (hj : j < (enc v).length) : takeM ⟨((enc v).take j).toArray⟩ = (zV, 0, 21) := by
  have h := valL_cut _ v (Nat.le_refl _) hk ho (tok_of_len v (by omega)) 8 hd j hj
  unfold takeM
  rw [bytes_lit, h, if_neg (by decide)]
theorem and_nonneg (x : Int) : 0 ≤ Go.bits .and .i64 x 65535 := by
  have h := and_mask_i64 x 16 (by decide)
  have e : (((2 ^ 16 - 1 : Nat)) : Int) = 65535 := by decide +kernel
  rw [e] at h
  rw [h]
  exact Int.emod_nonneg _ (by decide +kernel)
theorem BencCuts_pure (v : V) (cut : Int) (hr : rdy v = true) (hc : (Lit.int .i64 cut).wf = true) : ∃ k, ploverlaw02_BencCuts.f k v.f0 v.f1 v.f2 v.f3 cut = some true := by
  refine Ev.rounds ?_
  have ho := rdy_ok v hr
  obtain ⟨b, hb, hb2⟩ := small_ev v hr
  unfold ploverlaw02_BencCuts.f
  refine Ev.bind hb ?_
  cases b with
  | false => exact Ev.congr (fun k => if_neg (by decide)) (Ev.bind awake_ev (Ev.now _))
  | true =>
    have hw := hb2 rfl
    refine Ev.congr (fun k => if_pos rfl) ?_
    rw [put_yes (fit_of ho (by omega))]
    refine Ev.congr (fun k => Option.bind_some _ _) ?_
    by_cases he : (putM v).2 = 0
    · obtain ⟨hk, hd, hlen, hpm⟩ := putM_ok he
      have h2 := enc_len2 v
      have hsz : (putM v).1.size = (enc v).length := by rw [hpm]; show ((enc v).toArray).size = _; simp
      have hand : 0 ≤ Go.bits .and .i64 cut 65535 := and_nonneg cut
      obtain ⟨j, hjj⟩ : ∃ j : Nat, Int.tmod (Go.bits .and .i64 cut 65535) ((putM v).1.size : Int) = (j : Int) ∧ j < (enc v).length := by
        rw [Int.tmod_eq_emod_of_nonneg hand, hsz]
        have h1 := Int.emod_nonneg (Go.bits .and .i64 cut 65535) (show ((enc v).length : Int) ≠ 0 by omega)
        have h3 := Int.emod_lt_of_pos (Go.bits .and .i64 cut 65535) (show 0 < ((enc v).length : Int) by omega)
        exact ⟨(Go.bits .and .i64 cut 65535 % ((enc v).length : Int)).toNat, by omega, by omega⟩
      obtain ⟨hj, hlt⟩ := hjj
      have hext : (putM v).1.extract 0 j = ⟨((enc v).take j).toArray⟩ := by
        refine data_ext ?_
        rw [ext_zero, hpm, bytes_lit, bytes_lit]
      refine Ev.congr (fun k => ?_) (Ev.bind awake_ev (Ev.now true))
      rw [if_pos he, if_neg (by rw [hsz]; omega), hj, if_pos (by omega), if_pos (by rw [hsz]; omega), Int.toNat_natCast, hext, take_yes (by show (((enc v).take j).toArray).size ≤ _; rw [List.size_toArray, List.length_take]; omega), Option.bind_some, takeM_cut hk ho hd hlen j hlt]
      unfold flat
      simp only
      rw [if_pos (show zV.f0 = 0 from rfl), if_pos trivial, if_pos trivial]
    · refine Ev.congr (fun k => ?_) (Ev.bind awake_ev (Ev.now true))
      rw [if_neg he, putM_bad he, if_pos toList0]
end Go.Proofs.YtcdfedbecgfanaaDoor.Pure
namespace Go.Proofs.YtcdfedbecgfanaaDoor.Opn
open Go.RowKit Go.Proofs.YtcdfedbecgfanaaDoorW.PrintWords
set_option linter.unusedVariables false
def OpensAt {α : Type} (P : Program) (n : Nat) (t : TypeId) (d : Kd α) (G : α → Prop) : Prop :=
  ∀ {H : Type} {enc : TypeId × Value → H} {w : World} {base : Nat} {spare : Nat → Bool} {held : Bool} {cs : List Value} {dd : DataW H} {ps : List MemPlace},
    DataW.trod enc P w base spare held n t cs = some (dd, ps) → (∀ x ∈ dd.weights P t, x ≤ reachBytes) → ∃ a, d.K w a cs ∧ G a
def FieldsAt {α : Type} (P : Program) (n : Nat) (fs : List Field) (start : Nat) (d : Kd α) (G : α → Prop) : Prop :=
  ∀ {H : Type} {enc : TypeId × Value → H} {w : World} {base : Nat} {spare : Nat → Bool} {held : Bool} {cs : List Value} {xs : List (DataW H × List MemPlace)},
    xs.length = fs.length → (∀ (i : Nat) (f : Field), fs[i]? = some f → DataW.trod enc P w base spare held n f.type ((cs.drop f.offset).take (P.cellsOf f.type)) = xs[i]?) →
    (∀ x ∈ DataW.weightsEach P (fs.map Field.type) (xs.map (·.1)), x ≤ reachBytes) → cs.length = start + d.sz → ∃ a, d.K w a (cs.drop start) ∧ G a
section
variable {α β : Type} {P : Program} {n : Nat} {t e : TypeId} {d : Kd α} {G : α → Prop}
theorem OpensAt.map {d' : Kd β} {G' : β → Prop} (g : α → β) (h : OpensAt P n t d G) (hg : ∀ w a cs, d.K w a cs → G a → d'.K w (g a) cs ∧ G' (g a)) : OpensAt P n t d' G' := by
  intro H enc w base spare held cs dd ps ht hw
  obtain ⟨a, h1, h2⟩ := h ht hw
  exact ⟨g a, (hg _ _ _ h1 h2).1, (hg _ _ _ h1 h2).2⟩
theorem opens_int {k : IntKind} (hu : P.underlying t = some (.int k)) : OpensAt P n t (Kd.int k) (fun z => (Lit.int k z).wf = true) := by
  intro H enc w base spare held cs dd ps ht hw
  obtain ⟨z, rfl, _, hz⟩ := DataW.trod_int hu ht
  exact ⟨z, rfl, hz⟩
theorem opens_string (hu : P.underlying t = some .string) : OpensAt P n t Kd.string (fun s => s.size ≤ 140737488351232) := by
  intro H enc w base spare held cs dd ps ht hw
  obtain ⟨z, rfl, hx, _⟩ := DataW.trod_string hu ht
  obtain ⟨rfl, _⟩ := Prod.mk.inj hx
  refine ⟨z, rfl, ?_⟩
  have h1 : z.data.toList.length ≤ reachBytes := hw z.data.toList.length (by rw [DataW.weights]; exact List.mem_singleton_self _)
  rw [Array.length_toList] at h1
  exact h1
theorem mem_weightsAll {H : Type} {P : Program} {e : TypeId} : ∀ {l : List (DataW H)} {x : DataW H}, x ∈ l → ∀ y ∈ x.weights P e, y ∈ DataW.weightsAll P e l
  | [], _, h, _, _ => absurd h (List.not_mem_nil)
  | a :: l, x, h, y, hy => by
    rw [DataW.weightsAll]
    rcases List.mem_cons.1 h with rfl | h
    · exact List.mem_append_left _ hy
    · exact List.mem_append_right _ (mem_weightsAll h y hy)
theorem choose_list {γ : Type} (L : Nat) (Q : Nat → γ → Prop) (h : ∀ i, i < L → ∃ a, Q i a) : ∃ l : List γ, l.length = L ∧ ∀ i a, l[i]? = some a → Q i a := by
  induction L with
  | zero => exact ⟨[], rfl, fun i a hi => by simp at hi⟩
  | succ L ih =>
    obtain ⟨l, h1, h2⟩ := ih (fun i hi => h i (by omega))
    obtain ⟨a, ha⟩ := h L (by omega)
    refine ⟨l ++ [a], by simp [h1], fun i b hi => ?_⟩
    by_cases hl : i < l.length
    · rw [List.getElem?_append_left hl] at hi
      exact h2 i b hi
    · rw [List.getElem?_append_right (by omega)] at hi
      have : i - l.length = 0 := by
        cases hq : i - l.length with
        | zero => rfl
        | succ m => rw [hq] at hi; simp at hi
      rw [this] at hi
      simp at hi
      subst hi
      obtain rfl : i = L := by omega
      exact ha
theorem addr_add_add (a : Addr) (i j : Nat) : (a.add i).add j = a.add (i + j) := by
  unfold Addr.add
  by_cases h1 : i = 0
  · subst h1; simp
  · by_cases h2 : j = 0
    · subst h2; simp
    · have h3 : ¬ i + j = 0 := by omega
      simp [h1, h2, Nat.add_assoc]
theorem cells_all {w : World} {base : Nat} {a : Addr} {m : Nat} {cs : List Value} (h : w.cells? base a m = some cs) : cs.length = m ∧ ∀ i u, cs[i]? = some u → w.cell? (a.add i) = some u := by
  obtain ⟨_, h1, h2⟩ := World.cells?_some h
  refine ⟨h1, fun i u hu => ?_⟩
  have hi : i < m := by rw [← h1]; exact (List.getElem?_eq_some_iff.1 hu).1
  rw [h2 i hi]
  exact hu
theorem opens_slice (hu : P.underlying t = some (.slice e)) (hc : P.cellsOf e = d.sz) (B : Nat) (hB : P.bytesOf e = B) (h : ∀ m, m < n → OpensAt P m e d G) :
    OpensAt P n t (Kd.slice e d) (fun l => (∀ x ∈ l, G x) ∧ l.length * B ≤ 140737488351232) := by
  intro H enc w base spare held cs dd ps ht hw
  rcases DataW.trod_slice hu ht with ⟨rfl, hx⟩ | ⟨a, len, cap, elems, rest, m, rfl, rfl, hx, _, hl, hm, hlen, hel, _, _⟩
  · exact ⟨[], ⟨none, 0, rfl, Nat.le_refl _, rfl, by simp, fun h => absurd h (Nat.lt_irrefl 0)⟩, by simp, by simp⟩
  · obtain ⟨rfl, _⟩ := Prod.mk.inj hx
    rw [DataW.weights, hu] at hw
    dsimp only at hw
    have hB' := hw _ List.mem_cons_self
    rw [hB] at hB'
    simp only [List.length_map, hlen] at hB'
    have hb : len * B ≤ 140737488351232 := Nat.le_trans (Nat.mul_le_mul_right _ (Nat.le_add_right _ _)) hB'
    obtain ⟨l, h1, h2⟩ := choose_list (γ := α) len (fun i y => ∃ c, c.length = d.sz ∧ d.K w y c ∧ (∀ q u, c[q]? = some u → w.cell? (a.add (i * d.sz + q)) = some u) ∧ G y) (fun i hi => by
      have hi' := hel i hi
      rw [List.getElem?_eq_getElem (by omega)] at hi'
      obtain ⟨c, hc1, hc2⟩ := Option.bind_eq_some_iff.1 hi'
      obtain ⟨k1, k2⟩ := cells_all hc1
      obtain ⟨y, y1, y2⟩ := h m (Nat.lt_succ_self _) hc2 (fun x hx => hw x (List.mem_cons_of_mem _ (List.mem_append_left _ (mem_weightsAll (List.mem_map_of_mem (List.getElem_mem (by omega))) x hx))))
      refine ⟨y, c, by rw [k1, hc], y1, fun q u hq => ?_, y2⟩
      have := k2 q u hq
      rw [hc] at this
      rw [← addr_add_add]
      exact this)
    refine ⟨l, ⟨some a, cap, by rw [h1], by omega, rfl, by unfold maxLen at hm; omega, fun _ => ⟨a, rfl, fun j p hp => ?_⟩⟩, fun x hx => ?_, by rw [h1]; exact hb⟩
    · obtain ⟨c, c1, c2, c3, _⟩ := h2 j p hp
      exact ⟨c, c1, c2, c3⟩
    · obtain ⟨i, hi, rfl⟩ := List.getElem_of_mem hx
      obtain ⟨_, _, _, _, g⟩ := h2 i _ (List.getElem?_eq_getElem hi)
      exact g
theorem fields_one {f : Field} {start : Nat} (ho : f.offset = start) (hc : P.cellsOf f.type = d.sz) (h : OpensAt P n f.type d G) : FieldsAt P n [f] start d G := by
  intro H enc w base spare held cs xs hl ht hw hlen
  match xs, hl with
  | [x], _ =>
    have h0 := ht 0 f rfl
    rw [ho, hc, List.take_of_length_le (by rw [List.length_drop]; omega)] at h0
    exact h (dd := x.1) (ps := x.2) h0 (fun y hy => hw y (by simpa [DataW.weightsEach] using hy))
theorem fields_cons {f : Field} {fs : List Field} {start : Nat} {d2 : Kd β} {G2 : β → Prop} (ho : f.offset = start) (hc : P.cellsOf f.type = d.sz) (h : OpensAt P n f.type d G) (h2 : FieldsAt P n fs (start + d.sz) d2 G2) :
    FieldsAt P n (f :: fs) start (Kd.pair d d2) (fun a => G a.1 ∧ G2 a.2) := by
  intro H enc w base spare held cs xs hl ht hw hlen
  match xs, hl with
  | x :: xs, hl =>
    have hs : (Kd.pair d d2).sz = d.sz + d2.sz := rfl
    rw [hs] at hlen
    have h0 := ht 0 f rfl
    rw [ho, hc] at h0
    have hw' : ∀ y ∈ DataW.weights P f.type x.1 ++ DataW.weightsEach P (fs.map Field.type) (xs.map (·.1)), y ≤ reachBytes := by
      intro y hy
      exact hw y (by simpa [DataW.weightsEach] using hy)
    obtain ⟨a, a1, a2⟩ := h (dd := x.1) (ps := x.2) h0 (fun y hy => hw' y (List.mem_append_left _ hy))
    obtain ⟨b, b1, b2⟩ := h2 (cs := cs) (xs := xs) (by simpa using hl) (fun i g hg => ht (i + 1) g hg) (fun y hy => hw' y (List.mem_append_right _ hy)) (by omega)
    refine ⟨(a, b), ⟨(cs.drop start).take d.sz, cs.drop (start + d.sz), ?_, a1, b1⟩, a2, b2⟩
    rw [← List.drop_drop, List.take_append_drop]
theorem opens_struct {fs : Array Field} (hu : P.underlying t = some (.struct fs)) (hc : P.cellsOf t = d.sz) (h : ∀ m, m < n → FieldsAt P m fs.toList 0 d G) : OpensAt P n t d G := by
  intro H enc w base spare held cs dd ps ht hw
  obtain ⟨xs, m, rfl, hx, hl, hxs, hf⟩ := DataW.trod_struct hu ht
  obtain ⟨rfl, _⟩ := Prod.mk.inj hx
  rw [DataW.weights, hu] at hw
  obtain ⟨a, a1, a2⟩ := h m (Nat.lt_succ_self _) (cs := cs) (xs := xs) (by simpa using hxs) (fun i f hi => hf i f (by simpa using hi)) hw (by rw [hl, hc]; omega)
  exact ⟨a, by simpa using a1, a2⟩
end
theorem weights_of {H : Type} {P : Program} {ts : List TypeId} {ds : List (DataW H)} {j : Nat} {t : TypeId} {d : DataW H} (hsz : (DataW.weightsEach P ts ds).all (· ≤ reachBytes) = true) (ht : ts[j]? = some t) (hd : ds[j]? = some d) : ∀ x ∈ d.weights P t, x ≤ reachBytes := by
  intro x hx
  have := List.all_eq_true.1 hsz x (DataW.weights_mem_each ht hd x hx)
  simpa using this
end Go.Proofs.YtcdfedbecgfanaaDoor.Opn
namespace Go.Proofs.YtcdfedbecgfanaaDoor.Opn
open Go.RowKit Go.Proofs.YtcdfedbecgfanaaDoorW.PrintWords Go.Proofs.YtcdfedbecgfanaaDoor.P Go.Proofs.YtcdfedbecgfanaaDoor.Giv Go.Proofs.YtcdfedbecgfanaaDoor.Pure
set_option linter.unusedVariables false
theorem rdys_all : ∀ l : List V, (∀ x ∈ l, rdy x = true) → rdys l = true
  | [], _ => rdys_nil
  | x :: l, h => by
    rw [rdys_cons, h x List.mem_cons_self, rdys_all l (fun y hy => h y (List.mem_cons_of_mem _ hy))]
    rfl
theorem opens24 : ∀ n, OpensAt Tryd.prog n 24 k24 (fun v => rdy v = true) := by
  intro n
  induction n using Nat.strongRecOn with
  | ind n ih =>
    refine OpensAt.map (d := Kd.pair (Kd.int .i64) (Kd.pair (Kd.int .i64) (Kd.pair Kd.string (Kd.slice 24 k24)))) (fun a => (⟨a.1, a.2.1, a.2.2.1, a.2.2.2⟩ : S24))
      (opens_struct Tryd.underlying24 (by kernel_rfl) (fun m hm => fields_cons rfl (by kernel_rfl) (opens_int (by kernel_rfl)) (fields_cons rfl (by kernel_rfl) (opens_int (by kernel_rfl)) (fields_cons rfl (by kernel_rfl) (opens_string (by kernel_rfl)) (fields_one rfl (by kernel_rfl) (opens_slice (e := 24) (by kernel_rfl) (by kernel_rfl) 56 (by kernel_rfl) (fun q hq => ih q (by omega)))))))) ?_
    rintro w ⟨a0, a1, a2, a3⟩ cs ⟨_, _, rfl, rfl, ⟨_, _, rfl, rfl, ⟨_, _, rfl, rfl, ⟨A3, c3, rfl, l3, g3⟩⟩⟩⟩ ⟨h0, h1, h2, h3, h4⟩
    refine ⟨k24_mk w ⟨a0, a1, a2, a3⟩ l3 g3, (rdy_iff _).2 ⟨?_, ?_, h2, ?_, rdys_all _ h3⟩⟩
    · exact (bounds_i64 h1).1
    · exact (bounds_i64 h1).2
    · dsimp only at h4 ⊢; omega
theorem open24 {H : Type} {enc : TypeId × Value → H} {W : World} {base : Nat} {spare : Nat → Bool} {held : Bool} {v : Value} {d : DataW H} {ps : List MemPlace} {r : Reach} {b0 : Nat}
    (hval : Value.okWide Tryd.prog W r b0 24 v) (hd : DataW.Trod enc Tryd.prog W base spare held 24 v d ps) (hw : ∀ x ∈ d.weights Tryd.prog 24, x ≤ reachBytes) :
    ∃ (x : S24) (A3 : Option Addr) (c3 : Nat), v = .agg #[.int .i64 x.f0, .int .i64 x.f1, .string x.f2, .slice A3 x.f3.length c3] ∧ x.f3.length ≤ c3 ∧ k24.C W A3 x.f3.length x.f3 ∧ rdy x = true := by
  obtain ⟨cs, rfl, _⟩ := Go.WideShapes.okWide_struct Tryd.underlying24 hval
  obtain ⟨n, hn⟩ := hd
  obtain ⟨x, hK, hx⟩ := opens24 n hn hw
  obtain ⟨A3, c3, he, hl, hC⟩ := k24_open hK
  refine ⟨x, A3, c3, ?_, hl, hC, hx⟩
  have : cs.toList = [.int .i64 x.f0, .int .i64 x.f1, .string x.f2, .slice A3 x.f3.length c3] := he
  congr 1
  exact Array.toList_inj.1 this
end Go.Proofs.YtcdfedbecgfanaaDoor.Opn
namespace Go.Proofs.YtcdfedbecgfanaaDoor.Lay
open Go.RowKit Go.Lib
def LL : List (String × DataW Unit) := [("math/bits.deBruijn32tab", Rows.laid_math_bits_deBruijn32tab), ("math/bits.deBruijn64tab", Rows.laid_math_bits_deBruijn64tab), ("internal/strconv.uint64pow10", Rows.laid_internal_strconv_uint64pow10)]
def cellsOf : DataW Unit → List Value
  | .agg l => l.map fun | .lit (.int k z) => .int k z | _ => .nilIface
  | _ => []
noncomputable def laidWorld (os : Os) : World :=
  let w0 := World.holding Tryd.prog os ⟨#[], #[], []⟩
  let put (h : Array Obj) (g : Nat) (cs : Array Value) : Array Obj := h.modify g fun
    | .cells _ t frozen => .cells cs t frozen
    | o => o
  let h1 := put w0.heap 1 (cellsOf Rows.laid_math_bits_deBruijn32tab).toArray
  let h2 := put h1 2 (cellsOf Rows.laid_math_bits_deBruijn64tab).toArray
  let h3 := put h2 0 (cellsOf Rows.laid_internal_strconv_uint64pow10).toArray
  { w0 with heap := h3 }
theorem laid_met (os : Os) (args : Array Value) : laidMet Tryd.prog LL ((laidWorld os).forCall (fun _ _ => 0) ⟨#[], args, []⟩).memory :=
  (LaidIn.of_run (l := LL) [1, 2, 0] 8 (by kernel_rfl) (by kernel_rfl) (by kernel_rfl) (by kernel_rfl)).met
theorem eqP : (Rows.laid_internal_strconv_uint64pow10 : DataW Unit) = Lib.tabData .u64 Lib.pow10Tab := by kernel_rfl
theorem tabIs_of_reads {name : String} {k : IntKind} {zs : List Int} {W : World} {g : Nat} {t e : TypeId} {n : Nat} (hg : Tryd.prog.globalNamed name = some g) (hty : (Tryd.prog.globals[g]?).map (·.type) = some t) (ht : Tryd.prog.underlying t = some (.array n e)) (he : Tryd.prog.underlying e = some (.int k)) (hce : Tryd.prog.cellsOf e = 1) (hct : Tryd.prog.cellsOf t = n)
    (h : VarReads Tryd.prog W name (tabData k zs)) : Lib.TabIs Tryd.prog W name k zs := by
  obtain ⟨g', t', cs, fuel, p, h1, h2, h3, h4⟩ := h
  obtain rfl : g' = g := by rw [hg] at h1; exact (Option.some.inj h1).symm
  obtain rfl : t' = t := by rw [hty] at h2; exact (Option.some.inj h2).symm
  have := cells_of_tab ht he hce hct h4
  unfold Lib.TabIs
  rw [h3]
  congr 1
  apply Array.toList_inj.1
  rw [this]
theorem laidW_of {W : World} (hL : laidMetH Tryd.prog LL W) : Giv.LaidW W := by
  have h1 := Lib.laidMet.reads hL (.tail _ (.tail _ (.head _)))
  rw [eqP] at h1
  exact tabIs_of_reads (t := 83) (e := 76) (n := 20) Giv.pow10_named (by kernel_rfl) Tryd.underlying83 Tryd.underlying76 (by kernel_rfl) (by kernel_rfl) h1
theorem own : ownKnob Tryd.prog.godebug = none := by kernel_rfl
theorem laidOut : laidOutB Tryd.prog = true := by kernel_rfl
end Go.Proofs.YtcdfedbecgfanaaDoor.Lay
