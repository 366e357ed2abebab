/- The walk of the law on three vectors. -/
import Derived.Test.YtpbkclopmiplpaaVecL
namespace Go.Proofs.Ytpbkclopmiplpaa
open Go.RowKit

theorem distL_comm : ∀ (a b : List Int), distL a b = distL b a
  | [], [] => rfl
  | [], _ :: _ => rfl
  | _ :: _, [] => rfl
  | x :: a, y :: b => by
    simp only [distL]
    rw [distL_comm a b]
    split <;> split <;> omega
theorem distL_zero : ∀ (a b : List Int), a.length = b.length → (distL a b = 0 ↔ a = b)
  | [], [], _ => by simp [distL]
  | [], _ :: _, h => by simp at h
  | _ :: _, [], h => by simp at h
  | x :: a, y :: b, h => by
    have ih := distL_zero a b (by simpa using h)
    have h0 := distL_nonneg a b
    simp only [distL, List.cons.injEq]
    constructor
    · intro he
      have h1 : distL a b = 0 := by split at he <;> omega
      refine ⟨by split at he <;> omega, ih.1 h1⟩
    · rintro ⟨rfl, rfl⟩
      rw [ih.2 rfl]
      split <;> omega
theorem distL_far : ∀ (a b c : List Int), a.length = b.length → b.length = c.length → distL a c ≤ distL a b + distL b c
  | [], [], [], _, _ => by simp [distL]
  | [], _ :: _, _, h, _ => by simp at h
  | _ :: _, [], _, h, _ => by simp at h
  | [], [], _ :: _, _, h => by simp at h
  | _ :: _, _ :: _, [], _, h => by simp at h
  | x :: a, y :: b, z :: c, h1, h2 => by
    have ih := distL_far a b c (by simpa using h1) (by simpa using h2)
    simp only [distL]
    split <;> split <;> split <;> omega
theorem distV_comm (a b : List Int) : distV a b = distV b a := by
  unfold distV
  by_cases h : isV a = true ∧ isV b = true ∧ a.length = b.length
  · rw [if_pos h, if_pos ⟨h.2.1, h.1, h.2.2.symm⟩, distL_comm]
  · rw [if_neg h, if_neg (fun g => h ⟨g.2.1, g.1, g.2.2.symm⟩)]

set_option maxHeartbeats 1000000 in
theorem sameInts_any (ao bo : Option Addr) (a b : List Int) (ca cb : Nat) (r : Bool) (w : World) (ha : IntRow w ao a) (hb : IntRow w bo b) (hr : decide (a = b) = r) :
    Calls Try.prog 23 #[.slice ao a.length ca, .slice bo b.length cb] w fun e w' => e = .returned (.bool r) ∧ Below w.heap.size w w' := by
  have h8 := ha.1
  by_cases hl : a.length = b.length
  · have hl' : ((a.length : Int) != (b.length : Int)) = false := by simp [hl]
    have Hl := veil hl
    have Hr := veil hr
    have Ha := veil ha
    have Hb := veil hb
    clear hl hr ha hb
    go_enter Try.func23, Try.ntmps23
    go_wp2
    go_loopw [5] (fun i wr => ∃ k : Nat, k ≤ a.length ∧ i = .int .i64 k ∧ Veil (∀ i, i < k → a.getD i 0 = b.getD i 0) ∧ Below w.heap.size w wr) (fun i _ => a.length - (intOf i).toNat)
    case atStart => exact ⟨0, Nat.zero_le _, rfl, veil (fun i hi => by omega), Below.refl _ _⟩
    case round =>
      obtain ⟨k, hk, rfl, Hk, hbel⟩ := hrel
      by_cases hlt : k < a.length
      · have hkb : k < b.length := by have := Hl.out; omega
        obtain ⟨ab, aoff, rfl, hab, hac⟩ := Ha.out.open (by omega)
        obtain ⟨bb, boff, rfl, hbb, hbc⟩ := Hb.out.open (by omega)
        have hcx : ∀ x : Later wr, x.1.cell? ⟨ab, aoff + k, none⟩ = some (.int .i64 (a.getD k 0)) := fun x => by rw [x.cell (Nat.lt_of_lt_of_le hab hbel.size), hbel.cell hab]; exact hac k hlt
        have hcy : ∀ x : Later wr, x.1.cell? ⟨bb, boff + k, none⟩ = some (.int .i64 (b.getD k 0)) := fun x => by rw [x.cell (Nat.lt_of_lt_of_le hbb hbel.size), hbel.cell hbb]; exact hbc k hkb
        clear hac hbc
        have hi : (k : Int) < (b.length : Int) := by omega
        have hi2 : (k : Int) < (a.length : Int) := by omega
        have hi0 : (0 : Int) ≤ (k : Int) := by omega
        have Hbel := veil hbel
        clear hbel
        generalize hx : a.getD k 0 = x at *
        generalize hy : b.getD k 0 = y at *
        have Hx := veil hx
        have Hy := veil hy
        clear hx hy
        by_cases hxy : x = y
        · have hxy' : (x != y) = false := by simp [hxy]
          have Hxy := veil hxy
          clear hxy
          go_wp2
          refine wp_region_later (by kernel_rfl) (by kernel_rfl) ?_
          repeat go_big_quiet_step (fail)
          refine wpQuiet_nil ?_
          rintro w' ⟨z, rfl⟩
          go_wp2
          go_roundw
          case rel =>
            refine ⟨k + 1, by omega, by go_num, veil fun i hi => ?_, Hbel.out.trans (z.2.mono Hbel.out.size)⟩
            by_cases e : i = k
            · subst e; rw [Hx.out, Hy.out]; exact Hxy.out
            · exact Hk.out i (by omega)
          case measure => simp [intOf]; omega
        · have hxy' : (x != y) = true := by simp [hxy]
          obtain rfl : r = false := by
            rw [← Hr.out]
            refine decide_eq_false fun h => hxy ?_
            rw [← Hx.out, ← Hy.out, h]
          clear hxy
          go_wp2
          refine wp_region_later (by kernel_rfl) (by kernel_rfl) ?_
          repeat go_big_quiet_step (fail)
          refine wpQuiet_nil ?_
          rintro w' ⟨z, rfl⟩
          go_wp2
          go_ret
          exact ⟨rfl, Hbel.out.trans (z.2.mono Hbel.out.size)⟩
      · obtain rfl : k = a.length := by omega
        obtain rfl : r = true := by
          rw [← Hr.out]
          refine decide_eq_true (List.ext_getElem Hl.out fun i h1 h2 => ?_)
          have := Hk.out i h1
          rw [List.getD_eq_getElem?_getD, List.getElem?_eq_getElem h1, List.getD_eq_getElem?_getD, List.getElem?_eq_getElem h2] at this
          exact this
        go_wp2
        go_ret
        exact ⟨rfl, hbel⟩
  · have hl' : ((a.length : Int) != (b.length : Int)) = true := by rw [bne_iff_ne]; omega
    obtain rfl : r = false := by rw [← hr]; exact decide_eq_false fun h => hl (by rw [h])
    clear hl hr ha hb
    go_enter Try.func23, Try.ntmps23
    go_wp2
    go_ret
    exact ⟨rfl, Below.refl _ _⟩

theorem ok_code {a b : List Int} {p q : Int} (h : distV a b = (p, q)) : (q = 0 ∧ p = distL a b ∧ isV a = true ∧ isV b = true ∧ a.length = b.length) ∨ q = 50 := by
  unfold distV at h
  split at h
  · rename_i g
    obtain ⟨rfl, rfl⟩ := Prod.mk.inj h
    exact .inl ⟨rfl, rfl, g⟩
  · obtain ⟨rfl, rfl⟩ := Prod.mk.inj h
    exact .inr rfl

set_option maxHeartbeats 1000000 in
theorem VecFar_core (ao bo co : Option Addr) (a b c : List Int) (ca cb cc : Nat) (w : World) (ha : IntRow w ao a) (hb : IntRow w bo b) (hc : IntRow w co c) :
    Calls Try.prog 7 #[.slice ao a.length ca, .slice bo b.length cb, .slice co c.length cc] w fun e w' => e = .returned (.bool true) ∧ Below w.heap.size w w' := by
  obtain ⟨p, q, hpq⟩ : ∃ p q, distV a b = (p, q) := ⟨_, _, rfl⟩
  obtain ⟨p2, q2, hpq2⟩ : ∃ p q, distV b c = (p, q) := ⟨_, _, rfl⟩
  obtain ⟨p3, q3, hpq3⟩ : ∃ p q, distV a c = (p, q) := ⟨_, _, rfl⟩
  have Ha := veil ha
  have Hb := veil hb
  have Hc := veil hc
  have Hpq := veil hpq
  have Hqp := veil ((distV_comm b a).trans hpq)
  have Hpq2 := veil hpq2
  have Hpq3 := veil hpq3
  clear ha hb hc
  have first4 : ∀ (R : Ending → World → Prop), True := fun _ => trivial
  clear first4
  rcases ok_code hpq with ⟨rfl, hp, va, vb, hl⟩ | rfl
  · rcases ok_code hpq2 with ⟨rfl, hp2, _, vc, hl2⟩ | rfl
    · have h3 : q3 = 0 ∧ p3 = distL a c := by
        have : distV a c = (distL a c, 0) := by unfold distV; rw [if_pos ⟨va, vc, hl.trans hl2⟩]
        rw [hpq3] at this
        obtain ⟨h1, h2⟩ := Prod.mk.inj this
        exact ⟨h2, h1⟩
      obtain ⟨rfl, hp3⟩ := h3
      have hp0 : 0 ≤ p := by rw [hp]; exact distL_nonneg a b
      have hp20 : 0 ≤ p2 := by rw [hp2]; exact distL_nonneg b c
      have hfar : p3 ≤ p + p2 := by rw [hp, hp2, hp3]; exact distL_far a b c hl hl2
      have hle : p ≤ 68719476720 := by
        have := distL_le a b va vb hl a.length (Nat.le_refl _)
        rw [List.take_length, hl, List.take_length] at this
        have := (isV_spec vb).2.1
        rw [hp]; omega
      have hle2 : p2 ≤ 68719476720 := by
        have := distL_le b c vb vc hl2 b.length (Nat.le_refl _)
        rw [List.take_length, hl2, List.take_length] at this
        have := (isV_spec vc).2.1
        rw [hp2]; omega
      have Hs : Veil (decide (a = b) = (p == 0)) := veil (by
        rw [hp]
        have := distL_zero a b hl
        by_cases e : a = b
        · rw [decide_eq_true e, this.2 e]; rfl
        · rw [decide_eq_false e]
          have h0 : ¬ distL a b = 0 := fun h => e (this.1 h)
          exact (beq_eq_false_iff_ne.2 h0).symm)
      clear hp hp2 hp3 va vb vc hl hl2 hpq hpq2 hpq3
      go_enter Try.func7, Try.ntmps7
      go_wp2_with fail
      refine (dist_any _ _ _ _ _ _ _ Ha.out Hb.out p 0 Hpq.out).mono ?_
      rintro e w1 ⟨rfl, hb1⟩
      have Hb1 := veil hb1
      clear hb1
      go_wp2_with fail
      refine (dist_any _ _ _ _ _ _ _ (Hb.out.below Hb1.out) (Ha.out.below Hb1.out) p 0 Hqp.out).mono ?_
      rintro e w2 ⟨rfl, hb2⟩
      have Hb2 : Veil (Below w.heap.size w w2) := veil (Hb1.out.trans (hb2.mono Hb1.out.size))
      clear hb2
      go_wp2_with fail
      refine (dist_any _ _ _ _ _ _ _ (Hb.out.below Hb2.out) (Hc.out.below Hb2.out) p2 0 Hpq2.out).mono ?_
      rintro e w3 ⟨rfl, hb3⟩
      have Hb3 : Veil (Below w.heap.size w w3) := veil (Hb2.out.trans (hb3.mono Hb2.out.size))
      clear hb3
      go_wp2_with fail
      refine (dist_any _ _ _ _ _ _ _ (Ha.out.below Hb3.out) (Hc.out.below Hb3.out) p3 0 Hpq3.out).mono ?_
      rintro e w4 ⟨rfl, hb4⟩
      have Hb4 : Veil (Below w.heap.size w w4) := veil (Hb3.out.trans (hb4.mono Hb3.out.size))
      clear hb4
      go_wp2_with fail
      refine (sameInts_any _ _ _ _ _ _ (p == 0) _ (Ha.out.below Hb4.out) (Hb.out.below Hb4.out) Hs.out).mono ?_
      rintro e w5 ⟨rfl, hb5⟩
      have Hb5 : Veil (Below w.heap.size w w5) := veil (Hb4.out.trans (hb5.mono Hb4.out.size))
      clear hb5
      go_wp2_with fail
      refine (vecAwake_any _).mono ?_
      rintro e w6 ⟨rfl, hb6⟩
      go_wp2
      go_ret
      exact ⟨rfl, Hb5.out.trans (hb6.mono Hb5.out.size)⟩
    · clear hp va vb hl hpq hpq2 hpq3
      go_enter Try.func7, Try.ntmps7
      go_wp2_with fail
      refine (dist_any _ _ _ _ _ _ _ Ha.out Hb.out p 0 Hpq.out).mono ?_
      rintro e w1 ⟨rfl, hb1⟩
      have Hb1 := veil hb1
      clear hb1
      go_wp2_with fail
      refine (dist_any _ _ _ _ _ _ _ (Hb.out.below Hb1.out) (Ha.out.below Hb1.out) p 0 Hqp.out).mono ?_
      rintro e w2 ⟨rfl, hb2⟩
      have Hb2 : Veil (Below w.heap.size w w2) := veil (Hb1.out.trans (hb2.mono Hb1.out.size))
      clear hb2
      go_wp2_with fail
      refine (dist_any _ _ _ _ _ _ _ (Hb.out.below Hb2.out) (Hc.out.below Hb2.out) p2 50 Hpq2.out).mono ?_
      rintro e w3 ⟨rfl, hb3⟩
      have Hb3 : Veil (Below w.heap.size w w3) := veil (Hb2.out.trans (hb3.mono Hb2.out.size))
      clear hb3
      go_wp2_with fail
      refine (dist_any _ _ _ _ _ _ _ (Ha.out.below Hb3.out) (Hc.out.below Hb3.out) p3 q3 Hpq3.out).mono ?_
      rintro e w4 ⟨rfl, hb4⟩
      have Hb4 : Veil (Below w.heap.size w w4) := veil (Hb3.out.trans (hb4.mono Hb3.out.size))
      clear hb4
      go_wp2_with fail
      refine (vecAwake_any _).mono ?_
      rintro e w6 ⟨rfl, hb6⟩
      go_wp2
      go_ret
      exact ⟨rfl, Hb4.out.trans (hb6.mono Hb4.out.size)⟩
  · clear hpq hpq2 hpq3
    go_enter Try.func7, Try.ntmps7
    go_wp2_with fail
    refine (dist_any _ _ _ _ _ _ _ Ha.out Hb.out p 50 Hpq.out).mono ?_
    rintro e w1 ⟨rfl, hb1⟩
    have Hb1 := veil hb1
    clear hb1
    go_wp2_with fail
    refine (dist_any _ _ _ _ _ _ _ (Hb.out.below Hb1.out) (Ha.out.below Hb1.out) p 50 Hqp.out).mono ?_
    rintro e w2 ⟨rfl, hb2⟩
    have Hb2 : Veil (Below w.heap.size w w2) := veil (Hb1.out.trans (hb2.mono Hb1.out.size))
    clear hb2
    go_wp2_with fail
    refine (dist_any _ _ _ _ _ _ _ (Hb.out.below Hb2.out) (Hc.out.below Hb2.out) p2 q2 Hpq2.out).mono ?_
    rintro e w3 ⟨rfl, hb3⟩
    have Hb3 : Veil (Below w.heap.size w w3) := veil (Hb2.out.trans (hb3.mono Hb2.out.size))
    clear hb3
    go_wp2_with fail
    refine (dist_any _ _ _ _ _ _ _ (Ha.out.below Hb3.out) (Hc.out.below Hb3.out) p3 q3 Hpq3.out).mono ?_
    rintro e w4 ⟨rfl, hb4⟩
    have Hb4 : Veil (Below w.heap.size w w4) := veil (Hb3.out.trans (hb4.mono Hb3.out.size))
    clear hb4
    go_wp2_with fail
    refine (vecAwake_any _).mono ?_
    rintro e w6 ⟨rfl, hb6⟩
    go_wp2
    go_ret
    exact ⟨rfl, Hb4.out.trans (hb6.mono Hb4.out.size)⟩

theorem VecFar_walk (ao : Option Addr) (al ac : Nat) (az : List Int) (bo : Option Addr) (bl bc : Nat) (bz : List Int) (co : Option Addr) (cl cc : Nat) (cz : List Int) (w : World) (ha : IsRow .i64 w ao al ac az) (hb : IsRow .i64 w bo bl bc bz) (hc : IsRow .i64 w co cl cc cz) :
    Calls Try.prog 7 #[.slice ao al ac, .slice bo bl bc, .slice co cl cc] w fun e w' => e = .returned (.bool true) ∧ Below w.heap.size w w' := by
  obtain ⟨a, rfl, ra⟩ := ha.row
  obtain ⟨b, rfl, rb⟩ := hb.row
  obtain ⟨c, rfl, rc⟩ := hc.row
  exact VecFar_core ao bo co a b c ac bc cc w ra rb rc
end Go.Proofs.Ytpbkclopmiplpaa
