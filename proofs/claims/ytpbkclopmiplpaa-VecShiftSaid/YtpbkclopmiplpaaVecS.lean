/- The walk of the law on vectors that are moved alike, and turned about. -/
import Derived.Test.YtpbkclopmiplpaaVecF
import Derived.Test.YtpbkclopmiplpaaOwned
import Derived.Handy
import Derived.Test.YtpbkclopmiplpaaLeaf
namespace Go.Proofs.Ytpbkclopmiplpaa
open Go.RowKit

/-! THE PLAIN LAW -/
def sumR (g : Nat → Int) (n : Nat) : Int := ((List.range n).map g).sum
theorem sumR_succ (g : Nat → Int) (n : Nat) : sumR g (n + 1) = sumR g n + g n := by simp [sumR, List.range_succ]
theorem sumR_front (g : Nat → Int) : ∀ n, sumR g (n + 1) = g 0 + sumR (fun i => g (i + 1)) n
  | 0 => by simp [sumR]
  | n + 1 => by rw [sumR_succ, sumR_front g n, sumR_succ]; omega
theorem sumR_congr {g h : Nat → Int} : ∀ n, (∀ i, i < n → g i = h i) → sumR g n = sumR h n
  | 0, _ => rfl
  | n + 1, e => by rw [sumR_succ, sumR_succ, sumR_congr n (fun i hi => e i (by omega)), e n (by omega)]
theorem sumR_turn1 (g : Nat → Int) (n : Nat) : sumR (fun i => g ((i + 1) % n)) n = sumR g n := by
  cases n with
  | zero => rfl
  | succ n =>
    rw [sumR_succ, Nat.mod_self, sumR_front g n]
    have : sumR (fun i => g ((i + 1) % (n + 1))) n = sumR (fun i => g (i + 1)) n := sumR_congr n (fun i hi => by rw [Nat.mod_eq_of_lt (by omega)])
    rw [this]; omega
theorem sumR_turn (g : Nat → Int) (n t : Nat) : sumR (fun i => g ((i + t) % n)) n = sumR g n := by
  induction t with
  | zero => exact sumR_congr n (fun i hi => by rw [Nat.add_zero, Nat.mod_eq_of_lt hi])
  | succ t ih =>
    rw [← ih, ← sumR_turn1 (fun i => g ((i + t) % n)) n]
    refine sumR_congr n (fun i hi => ?_)
    show g ((i + (t + 1)) % n) = g (((i + 1) % n + t) % n)
    rw [Nat.mod_add_mod]
    congr 2; omega
def absd (x y : Int) : Int := if y < x then x - y else y - x
theorem distL_range (x y : Nat → Int) (n : Nat) : distL ((List.range n).map x) ((List.range n).map y) = sumR (fun i => absd (x i) (y i)) n := by
  induction n with
  | zero => rfl
  | succ n ih =>
    have h := distL_snoc ((List.range (n + 1)).map x) ((List.range (n + 1)).map y) n (by simp) (by simp)
    rw [← List.map_take, ← List.map_take, List.take_range, ← List.map_take, ← List.map_take, List.take_range] at h
    rw [Nat.min_self, Nat.min_eq_left (by omega)] at h
    rw [h, ih, sumR_succ]
    congr 1
    simp [List.getD_eq_getElem?_getD, absd]

def small (l : Nat → Int) (n : Nat) : Prop := ∀ i, i < n → 0 ≤ l i ∧ l i ≤ 2097150
theorem isV_range {l : Nat → Int} {n : Nat} (h : small l n) (h0 : 0 < n) (h8 : n ≤ 8) : isV ((List.range n).map l) = true := by
  have h1 : ((List.range n).map l).any oddN = false := by
    rw [List.any_eq_false]
    intro x hx
    obtain ⟨i, hi, rfl⟩ := List.mem_map.1 hx
    have := h i (by simpa using hi)
    simp [oddN]; omega
  rw [isV_some (by simpa using h0) (by simp; omega), h1]; rfl
theorem distV_range {x y : Nat → Int} {n : Nat} (hx : small x n) (hy : small y n) (h0 : 0 < n) (h8 : n ≤ 8) : distV ((List.range n).map x) ((List.range n).map y) = (sumR (fun i => absd (x i) (y i)) n, 0) := by
  unfold distV
  rw [if_pos ⟨isV_range hx h0 h8, isV_range hy h0 h8, by simp⟩, distL_range]
theorem fits_range {l : Nat → Int} {n : Nat} (h : small l n) : ∀ x ∈ (List.range n).map l, -9223372036854775808 ≤ x ∧ x ≤ 9223372036854775807 := by
  intro x hx
  obtain ⟨i, hi, rfl⟩ := List.mem_map.1 hx
  have := h i (by simpa using hi)
  omega
theorem range_snoc (l : Nat → Int) (k : Nat) : (List.range (k + 1)).map l = (List.range k).map l ++ [l k] := by simp [List.range_succ]
theorem small_mask (z : Int) : 0 ≤ bits .and .i64 z 1048575 ∧ bits .and .i64 z 1048575 ≤ 1048575 := by
  have hm := and_mask_i64 z 20 (by decide)
  have e2 : (((2 ^ 20 - 1 : Nat)) : Int) = 1048575 := by decide +kernel
  have e3 : (((2 ^ 20 : Nat)) : Int) = 1048576 := by decide +kernel
  rw [e2, e3] at hm
  rw [hm]
  have h0 := Int.emod_nonneg z (show (1048576 : Int) ≠ 0 by decide)
  have h1 := Int.emod_lt_of_pos z (show (0 : Int) < 1048576 by decide)
  omega
theorem mask_255 (z : Int) : ∃ t : Nat, bits .and .i64 z 255 = (t : Int) ∧ t ≤ 255 := by
  have hm := and_mask_i64 z 8 (by decide)
  have e2 : (((2 ^ 8 - 1 : Nat)) : Int) = 255 := by decide +kernel
  have e3 : (((2 ^ 8 : Nat)) : Int) = 256 := by decide +kernel
  rw [e2, e3] at hm
  rw [hm]
  have h0 := Int.emod_nonneg z (show (256 : Int) ≠ 0 by decide)
  have h1 := Int.emod_lt_of_pos z (show (0 : Int) < 256 by decide)
  exact ⟨(z % 256).toNat, by omega, by omega⟩

/-! THE WALK -/
def xf (z : Nat → Int) (j i : Nat) : Int := bits .and .i64 (z (i * 3 + j)) 1048575


theorem row_at (f : Nat → Int) {j k : Nat} (h : j < k) : some (Value.int .i64 (((List.range k).map f).getD j 0)) = some (Value.int .i64 (f j)) := by simp [List.getD_eq_getElem?_getD, h]
theorem Owned.rowAt {w : World} {B g n cap : Nat} {xs : List Int} (h : Owned w B (.slice (some ⟨g, 0, none⟩) n cap) xs) (hn : n = xs.length) (h1 : xs.length * 8 ≤ 140737488351232) (h2 : ∀ x ∈ xs, -9223372036854775808 ≤ x ∧ x ≤ 9223372036854775807) :
    IntRow w (some ⟨g, 0, none⟩) xs := by
  obtain ⟨ao, c, e, r⟩ := h.row h1 h2
  injection e with e1 e2 e3
  rw [e1]; exact r
theorem dist_len (ao bo : Option Addr) (a b : List Int) (na nb ca cb : Nat) (w : World) (hna : a.length = na) (hnb : b.length = nb) (ha : IntRow w ao a) (hb : IntRow w bo b) (d c : Int) (hd : distV a b = (d, c)) :
    Calls Try.prog 18 #[.slice ao na ca, .slice bo nb cb] w fun e w' => e = .returned (.tuple #[.int .i64 d, .int .i64 c]) ∧ Below w.heap.size w w' := by
  subst hna hnb
  exact dist_any ao bo a b ca cb w ha hb d c hd

set_option maxRecDepth 100000 in
set_option maxHeartbeats 2000000 in
theorem VecShift_core (lb loff n cap : Nat) (z : Nat → Int) (turn : Int) (w : World) (hlb : lb < w.heap.size)
    (hz : ∀ i j, i < n → j < 3 → w.cell? ⟨lb, loff + (i * 3 + j), none⟩ = some (.int .i64 (z (i * 3 + j)))) (h0 : 0 < n) :
    Calls Try.prog 8 #[.slice (some ⟨lb, loff, none⟩) n cap, .int .i64 turn] w fun e w' => e = .returned (.bool true) ∧ Below w.heap.size w w' := by
  by_cases h8 : 8 < n
  · have Hz := veil hz
    clear hz
    have h00 : ((n : Int) == 0) = false := by rw [beq_eq_false_iff_ne]; omega
    go_enter Try.func8, Try.ntmps8
    go_wp2_with fail
    refine (vecAwake_any _).mono ?_
    rintro e w6 ⟨rfl, hb6⟩
    go_wp2
    go_ret
    exact ⟨rfl, hb6⟩
  · have h8' : n ≤ 8 := by omega
    have Hz := veil hz
    clear hz h8
    have h00 : ((n : Int) == 0) = false := by rw [beq_eq_false_iff_ne]; omega
    go_enter Try.func8, Try.ntmps8
    go_wp2_with fail
    clear h00
    go_loopw [6, 7, 8, 9, 12] (fun va vb vc vd i wr => ∃ k : Nat, k ≤ n ∧ i = .int .i64 k ∧ Below w.heap.size w wr ∧
        Rows wr w.heap.size [(va, (List.range k).map (xf z 0)), (vb, (List.range k).map (xf z 1)), (vc, (List.range k).map (fun i => xf z 0 i + xf z 2 i)), (vd, (List.range k).map (fun i => xf z 1 i + xf z 2 i)), (.slice none 0 0, []), (.slice none 0 0, [])])
      (fun _ _ _ _ i _ => n - (intOf i).toNat)
    case atStart => exact ⟨0, by omega, rfl, Below.refl _ _, Rows.nils w w.heap.size 6⟩
    case round =>
      obtain ⟨k, hk, rfl, hbel, hrows⟩ := hrel
      have Hbel := veil hbel
      have Hrows := veil hrows
      clear hrows hbel
      by_cases hlt : k < n
      · have hc0 : ∀ x : Later wr, x.1.cell? ⟨lb, loff + k * 3, none⟩ = some (.int .i64 (z (k * 3))) := fun x => by rw [x.cell (Nat.lt_of_lt_of_le hlb Hbel.out.size), Hbel.out.cell hlb]; exact Hz.out k 0 hlt (by omega)
        have hc1 : ∀ x : Later wr, x.1.cell? ⟨lb, loff + k * 3 + 1, none⟩ = some (.int .i64 (z (k * 3 + 1))) := fun x => by rw [x.cell (Nat.lt_of_lt_of_le hlb Hbel.out.size), Hbel.out.cell hlb]; exact Hz.out k 1 hlt (by omega)
        have hc2 : ∀ x : Later wr, x.1.cell? ⟨lb, loff + k * 3 + 2, none⟩ = some (.int .i64 (z (k * 3 + 2))) := fun x => by rw [x.cell (Nat.lt_of_lt_of_le hlb Hbel.out.size), Hbel.out.cell hlb]; exact Hz.out k 2 hlt (by omega)
        have hi1 : (k : Int) < (n : Int) := by omega
        have hi00 : (0 : Int) ≤ (k : Int) := by omega
        have s0 := small_mask (z (k * 3))
        have s1 := small_mask (z (k * 3 + 1))
        have s2 := small_mask (z (k * 3 + 2))
        obtain ⟨s00, s01⟩ := s0
        obtain ⟨s10, s11⟩ := s1
        obtain ⟨s20, s21⟩ := s2
        have hkl : k ≤ 1000000 := by omega
        have hB := Hbel.out.size
        go_wp2
        refine wp_region_later (by kernel_rfl) (by kernel_rfl) ?_
        repeat go_big_quiet_step (fail)
        refine wpQuiet_nil ?_
        rintro w' ⟨y, rfl⟩
        have R0 := veil (Hrows.out.below y.2)
        have B0 := veil (Hbel.out.trans (y.2.mono Hbel.out.size))
        generalize y.1 = w0 at *
        have hB0 := B0.out.size
        go_wp2_with (first
          | (at_builtin; refine wpList_app_int rfl (.tmp 58) (.tmp 60) rfl R0.out 0 rfl rfl rfl rfl (by simpa using hkl) hB0 ?_; intro v1 w1 R1 C1)
          | (at_builtin; refine wpList_app_int rfl (.tmp 62) (.tmp 64) rfl R1.out 1 rfl rfl rfl rfl (by simpa using hkl) (Nat.le_trans hB0 C1.out.size) ?_; intro v2 w2 R2 C2)
          | (at_builtin; refine wpList_app_int rfl (.tmp 66) (.tmp 70) rfl R2.out 2 rfl rfl rfl rfl (by simpa using hkl) (Nat.le_trans hB0 (Nat.le_trans C1.out.size C2.out.size)) ?_; intro v3 w3 R3 C3)
          | (at_builtin; refine wpList_app_int rfl (.tmp 72) (.tmp 76) rfl R3.out 3 rfl rfl rfl rfl (by simpa using hkl) (Nat.le_trans hB0 (Nat.le_trans C1.out.size (Nat.le_trans C2.out.size C3.out.size))) ?_; intro v4 w4 R4 C4))
        refine ⟨⟨k + 1, by omega, by go_num, B0.out.trans ((((C1.out.trans C2.out).trans C3.out).trans C4.out)), ?_⟩, by simp [intOf]; omega⟩
        have := R4.out
        rw [range_snoc, range_snoc, range_snoc, range_snoc]
        exact this
      · obtain rfl : k = n := by omega
        obtain ⟨t, ht, ht255⟩ := mask_255 turn
        have hla : ∀ f : Nat → Int, ((List.range k).map f).length = k := fun f => by simp
        obtain ⟨ga, capa, hva⟩ := (Hrows.out.at 0 rfl).form (by rw [hla]; omega)
        obtain ⟨gb, capb, hvb⟩ := (Hrows.out.at 1 rfl).form (by rw [hla]; omega)
        rw [hla] at hva hvb
        subst hva hvb
        have hn0 : (0 : Int) < (k : Int) := by omega
        go_wp2_with fail
        go_loopw [10, 11, 16] (fun ve vf i wx => ∃ m : Nat, m ≤ k ∧ i = .int .i64 m ∧ Below w.heap.size w wx ∧
            Rows wx w.heap.size [(.slice (some ⟨ga, 0, none⟩) k capa, (List.range k).map (xf z 0)), (.slice (some ⟨gb, 0, none⟩) k capb, (List.range k).map (xf z 1)), (u8, (List.range k).map (fun i => xf z 0 i + xf z 2 i)), (u9, (List.range k).map (fun i => xf z 1 i + xf z 2 i)),
              (ve, (List.range m).map (fun i => xf z 0 ((i + t) % k))), (vf, (List.range m).map (fun i => xf z 1 ((i + t) % k)))])
          (fun _ _ i _ => k - (intOf i).toNat)
        case atStart => exact ⟨0, by omega, rfl, Hbel.out, Hrows.out⟩
        case round =>
          obtain ⟨m, hm, rfl, hbel2, hrows2⟩ := hrel
          have Hbel2 := veil hbel2
          have Hrows2 := veil hrows2
          clear hrows2 hbel2
          by_cases hlt2 : m < k
          · obtain ⟨j, hj, hjk, Hj⟩ : ∃ j : Nat, ((m : Int) + (t : Int)) % (k : Int) = (j : Int) ∧ j < k ∧ Veil (j = (m + t) % k) :=
              ⟨(m + t) % k, by rw [Int.natCast_emod, Int.natCast_add], Nat.mod_lt _ h0, veil rfl⟩
            have hca : wr.cell? ⟨ga, j, none⟩ = some (.int .i64 (xf z 0 j)) := by
              have := (Hrows2.out.at 0 rfl).cellAt (by rw [hla]) j (by rw [hla]; exact hjk)
              rw [this]; simp [List.getD_eq_getElem?_getD, hjk]
            have hcb : wr.cell? ⟨gb, j, none⟩ = some (.int .i64 (xf z 1 j)) := by
              have := (Hrows2.out.at 1 rfl).cellAt (by rw [hla]) j (by rw [hla]; exact hjk)
              rw [this]; simp [List.getD_eq_getElem?_getD, hjk]
            have hkl : m ≤ 1000000 := by omega
            have hB := Hbel2.out.size
            go_wp2_with (first
              | (at_builtin; refine wpList_app_int rfl (.tmp 89) (.tmp 94) rfl Hrows2.out 4 rfl rfl rfl rfl (by simpa using hkl) hB ?_; intro v1 w1 R1 C1; have hcb1 := ((R1.out.at 1 rfl).cellAt (by rw [hla]) j (by rw [hla]; exact hjk)).trans (row_at (xf z 1) hjk))
              | (at_builtin; refine wpList_app_int rfl (.tmp 96) (.tmp 101) rfl R1.out 5 rfl rfl rfl rfl (by simpa using hkl) (Nat.le_trans hB C1.out.size) ?_; intro v2 w2 R2 C2))
            refine ⟨⟨m + 1, by omega, by go_num, Hbel2.out.trans (C1.out.trans C2.out), ?_⟩, by simp [intOf]; omega⟩
            have := R2.out
            rw [Hj.out] at this
            rw [range_snoc _ m, range_snoc _ m]
            exact this
          · obtain rfl : m = k := by omega
            have sm : ∀ j, small (xf z j) m := fun j i hi => by have := small_mask (z (i * 3 + j)); unfold xf; omega
            have smt : ∀ j, small (fun i => xf z j ((i + t) % m)) m := fun j i hi => sm j _ (Nat.mod_lt _ h0)
            have sms : ∀ j, small (fun i => xf z j i + xf z 2 i) m := fun j i hi => by
              have h1 := small_mask (z (i * 3 + j))
              have h2 := small_mask (z (i * 3 + 2))
              show 0 ≤ xf z j i + xf z 2 i ∧ xf z j i + xf z 2 i ≤ 2097150
              unfold xf; omega
            have len8 : ∀ f : Nat → Int, ((List.range m).map f).length * 8 ≤ 140737488351232 := fun f => by simp; omega
            obtain ⟨gc, capc, hvc⟩ := (Hrows2.out.at 2 rfl).form (by rw [hla]; omega)
            obtain ⟨gd, capd, hvd⟩ := (Hrows2.out.at 3 rfl).form (by rw [hla]; omega)
            obtain ⟨ge, cape, hve⟩ := (Hrows2.out.at 4 rfl).form (by rw [hla]; omega)
            obtain ⟨gf, capf, hvf⟩ := (Hrows2.out.at 5 rfl).form (by rw [hla]; omega)
            rw [hla] at hvc hvd hve hvf
            subst hvc hvd hve hvf
            have Ra := veil ((Hrows2.out.at 0 rfl).rowAt (by rw [hla]) (len8 _) (fits_range (sm 0)))
            have Rb := veil ((Hrows2.out.at 1 rfl).rowAt (by rw [hla]) (len8 _) (fits_range (sm 1)))
            have Rc := veil ((Hrows2.out.at 2 rfl).rowAt (by rw [hla]) (len8 _) (fits_range (sms 0)))
            have Rd := veil ((Hrows2.out.at 3 rfl).rowAt (by rw [hla]) (len8 _) (fits_range (sms 1)))
            have Re := veil ((Hrows2.out.at 4 rfl).rowAt (by rw [hla]) (len8 _) (fits_range (smt 0)))
            have Rf := veil ((Hrows2.out.at 5 rfl).rowAt (by rw [hla]) (len8 _) (fits_range (smt 1)))
            have d1 := distV_range (sm 0) (sm 1) h0 h8'
            have d2 := distV_range (sms 0) (sms 1) h0 h8'
            have d3 := distV_range (smt 0) (smt 1) h0 h8'
            have e2 : sumR (fun i => absd (xf z 0 i + xf z 2 i) (xf z 1 i + xf z 2 i)) m = sumR (fun i => absd (xf z 0 i) (xf z 1 i)) m := sumR_congr m fun i _ => by unfold absd; split <;> split <;> omega
            have e3 : sumR (fun i => absd (xf z 0 ((i + t) % m)) (xf z 1 ((i + t) % m))) m = sumR (fun i => absd (xf z 0 i) (xf z 1 i)) m := sumR_turn (fun i => absd (xf z 0 i) (xf z 1 i)) m t
            rw [e2] at d2
            rw [e3] at d3
            generalize sumR (fun i => absd (xf z 0 i) (xf z 1 i)) m = d at *
            have D1 := veil d1
            have D2 := veil d2
            have D3 := veil d3
            have Hla := veil hla
            clear d1 d2 d3 e2 e3 sm smt sms len8 hla ht
            go_wp2_with fail
            refine (dist_len _ _ _ _ m m _ _ _ (Hla.out _) (Hla.out _) Ra.out Rb.out d 0 D1.out).mono ?_
            rintro e w1 ⟨rfl, hb1⟩
            have B1 := veil hb1
            clear hb1
            go_wp2_with fail
            refine (dist_len _ _ _ _ m m _ _ _ (Hla.out _) (Hla.out _) (Rc.out.below B1.out) (Rd.out.below B1.out) d 0 D2.out).mono ?_
            rintro e w2 ⟨rfl, hb2⟩
            have B2 := veil (B1.out.trans (hb2.mono B1.out.size))
            clear hb2
            go_wp2_with fail
            refine (dist_len _ _ _ _ m m _ _ _ (Hla.out _) (Hla.out _) (Re.out.below B2.out) (Rf.out.below B2.out) d 0 D3.out).mono ?_
            rintro e w3 ⟨rfl, hb3⟩
            have B3 := veil (B2.out.trans (hb3.mono B2.out.size))
            clear hb3
            go_wp2_with fail
            refine (vecAwake_any _).mono ?_
            rintro e w4 ⟨rfl, hb4⟩
            go_wp2
            go_ret
            exact ⟨rfl, Hbel2.out.trans ((B3.out.trans (hb4.mono B3.out.size)).mono Hbel2.out.size)⟩

set_option maxHeartbeats 400000 in
theorem VecShift_nil (a : Option Addr) (cap : Nat) (turn : Int) (w : World) :
    Calls Try.prog 8 #[.slice a 0 cap, .int .i64 turn] w fun e w' => e = .returned (.bool true) ∧ Below w.heap.size w w' := by
  go_enter Try.func8, Try.ntmps8
  go_wp2_with fail
  refine (vecAwake_any _).mono ?_
  rintro e w6 ⟨rfl, hb6⟩
  go_wp2
  go_ret
  exact ⟨rfl, hb6⟩

theorem VecShift_walk (a : Option Addr) (len cap : Nat) (turn : Int) (w : World) (h : IsRows Try.prog 37 3 w a len cap) (_ht : (Lit.int .i64 turn).wf = true) :
    Calls Try.prog 8 #[.slice a len cap, .int .i64 turn] w fun e w' => e = .returned (.bool true) ∧ Below w.heap.size w w' := by
  obtain ⟨_, _, h⟩ := h
  by_cases h0 : len = 0
  · subst h0; exact VecShift_nil a cap turn w
  · rcases h with h | ⟨b, off, rfl, hb, hc⟩
    · exact absurd h h0
    · have l0 : leafOf Try.prog 8 37 0 = some 3 := by kernel_rfl
      have l1 : leafOf Try.prog 8 37 1 = some 3 := by kernel_rfl
      have l2 : leafOf Try.prog 8 37 2 = some 3 := by kernel_rfl
      have each : ∀ i j, i < len → j < 3 → ∃ n : Int, w.cell? ⟨b, off + (i * 3 + j), none⟩ = some (.int .i64 n) := by
        intro i j hi hj
        have hl : leafOf Try.prog 8 37 j = some 3 := by
          match j, hj with
          | 0, _ => exact l0
          | 1, _ => exact l1
          | 2, _ => exact l2
        obtain ⟨v, hv, hk⟩ := hc i j _ hi hj hl
        obtain ⟨n, rfl, _⟩ := hk.int Try.underlying3
        exact ⟨n, hv⟩
      refine VecShift_core b off len cap (fun q => intOf ((w.cell? ⟨b, off + q, none⟩).getD undef)) turn w hb (fun i j hi hj => ?_) (by omega)
      obtain ⟨n, hn⟩ := each i j hi hj
      rw [hn]; rfl
end Go.Proofs.Ytpbkclopmiplpaa
