/- Texts put together by prune.py: BncI, BncJ, Aid, BncX, BncU, LayB. -/
import Derived.WalkKit
import Derived.Deep.Quiet
import Derived.BigQuiet
import Derived.Test.YtcdfedbecgfanaaDoorRows
import Derived.Lib.LaidIn
import Derived.Lib.LaidU8T
import Derived.Deep.DeepHandedRow
import Derived.Deep.DeepWitnessRowRef
import Derived.ProofKit
import Derived.SizedLaws
import Derived.Test.YtcdfedbecgfanaaDoorQc7
namespace Go.Proofs.YtcdfedbecgfanaaDoor.Pure
open Go.RowKit Go.Lib Go.Proofs.YtcdfedbecgfanaaDoor.Giv Go.Proofs.YtcdfedbecgfanaaDoor.P Go.Proofs.YtcdfedbecgfanaaDoorW.PrintWords Go.Proofs.YtcdfedbecgfanaaDoorW.PrintLast Go.Proofs.YtcdfedbecgfanaaDoorW.PrintMore
set_option linter.unusedVariables false
set_option linter.unusedSimpArgs false
section
variable (s : ByteArray) (hs : s.size ≤ 1000000)
include hs
theorem rnum_l0 (neg : Bool) (f : Nat) : ∀ (d a : Nat) (n : Int) (z st : Bool), s.size - a ≤ d → f ≤ a → a ≤ s.size → st = decide (f < a) → (st = true → z = (bt s (f : Int) == 48)) → -9223372036854775808 ≤ n → n ≤ 9223372036854775807 → (neg = true ∧ n ≤ 0 ∨ neg = false ∧ 0 ≤ n) →
    Ev (fun k => ploverref02_number.l0 k s (a : Int) (if neg = true then -1 else 1) (f : Int) n) (if (numL neg z st n (s.data.toList.drop a)).1 = 0 then ((numL neg z st n (s.data.toList.drop a)).2.1, ((a + (numL neg z st n (s.data.toList.drop a)).2.2 : Nat) : Int), 0) else (0, 0, (numL neg z st n (s.data.toList.drop a)).1)) := by
  intro d
  have short : ∀ (n : Int) (a : Nat), a = s.size → Ev (fun k => ploverref02_number.l0 k s (a : Int) (if neg = true then -1 else 1) (f : Int) n) (0, 0, 21) := by
    intro n a ha
    refine Ev.step (f := fun _ => some (0, 0, 21)) (fun k => ?_) (Ev.now _)
    simp only [ploverref02_number.l0]
    rw [if_pos (by omega)]
  induction d with
  | zero =>
    intro a n z st h1 h2 h3 h4 h5 h6 h7 h8
    rw [List.drop_of_length_le (by rw [data_size]; omega), numL]
    exact short n a (by omega)
  | succ d ih =>
    intro a n z st h1 h2 h3 h4 h5 h6 h7 h8
    by_cases hlt : a < s.size
    · obtain ⟨c, hd, hc⟩ := bt_drop s a hlt
      have hcr := c.toNat_lt
      rw [hd, numL]
      have toj3 : ∀ r x, Ev (fun k => ploverref02_number.j3 k s (a : Int) (if neg = true then -1 else 1) (f : Int) n (bt s (a : Int)) x) r → x = decide (c = 101 ∧ st = true) → Ev (fun k => ploverref02_number.l0 k s (a : Int) (if neg = true then -1 else 1) (f : Int) n) r := by
        intro r x h hx
        refine Ev.step (fun k => ?_) h
        simp only [ploverref02_number.l0]
        rw [if_neg (by omega), if_pos (by omega), if_pos (by omega)]
        by_cases c101 : bt s (a : Int) = 101
        · have e : c = 101 := (u8_eq _ _).2 (by rw [← hc, c101]; rfl)
          have hxx : x = decide ((a : Int) > (f : Int)) := by
            rw [hx, h4, Bool.eq_iff_iff, decide_eq_true_eq, decide_eq_true_eq, decide_eq_true_eq]
            exact ⟨fun h => by omega, fun h => ⟨e, by omega⟩⟩
          rw [if_pos c101, hxx]
        · have hxx : x = false := by
            rw [hx]
            exact decide_eq_false (fun h => c101 (by rw [hc, h.1]; rfl))
          rw [if_neg c101, hxx]
      by_cases c1 : c = 101 ∧ st = true
      · rw [if_pos c1]
        refine toj3 _ true (Ev.step (f := fun _ => some (n, ((a + 1 : Nat) : Int), 0)) (fun k => ?_) (Ev.now _)) (decide_eq_true c1).symm
        simp only [ploverref02_number.j3]
        rw [if_pos trivial, w64 (by omega) (by omega)]
        rfl
      · rw [if_neg c1]
        have hfa : st = false → a = f := fun e => by rw [e] at h4; have := of_decide_eq_false h4.symm; omega
        have hsf : st = true → f < a := fun e => by rw [e] at h4; exact of_decide_eq_true h4.symm
        have toj4 : ∀ r x, Ev (fun k => ploverref02_number.j4 k s (a : Int) (if neg = true then -1 else 1) (f : Int) n (bt s (a : Int)) x) r → (x = true ↔ (c < 48 ∨ 57 < c ∨ (st = true ∧ z = true) ∨ (st = false ∧ c = 48 ∧ neg = true))) → Ev (fun k => ploverref02_number.l0 k s (a : Int) (if neg = true then -1 else 1) (f : Int) n) r := by
          intro r x h hx
          refine toj3 r false (Ev.step (fun k => ?_) h) (decide_eq_false c1).symm
          simp only [ploverref02_number.j3]
          rw [if_neg (by decide)]
          by_cases b1 : bt s (a : Int) < 48
          · rw [if_pos b1, hx.2 (.inl ((u8_lt _ _).2 (by rw [← hc]; exact b1)))]
          · rw [if_neg b1]
            by_cases b2 : bt s (a : Int) > 57
            · rw [if_pos b2, hx.2 (.inr (.inl ((u8_lt _ _).2 (by rw [← hc]; exact b2))))]
            · rw [if_neg b2]
              have nb1 : ¬ c < 48 := fun h => b1 (by rw [hc]; exact (u8_lt _ _).1 h)
              have nb2 : ¬ 57 < c := fun h => b2 (by rw [hc]; exact (u8_lt _ _).1 h)
              cases st with
              | false =>
                have e := hfa rfl
                have tail : (if (a : Int) > (f : Int) then (if 0 ≤ (f : Int) then (if (f : Int) < (s.size : Int) then (ploverref02_number.j4 k s (a : Int) (if neg = true then -1 else 1) (f : Int) n (bt s (a : Int)) ((bt s (f : Int)) == 48)) else none) else none) else (ploverref02_number.j4 k s (a : Int) (if neg = true then -1 else 1) (f : Int) n (bt s (a : Int)) false)) = ploverref02_number.j4 k s (a : Int) (if neg = true then -1 else 1) (f : Int) n (bt s (a : Int)) false := if_neg (by omega)
                rw [if_pos (by omega)]
                by_cases b3 : bt s (a : Int) = 48
                · rw [if_pos b3]
                  have ec : c = 48 := (u8_eq _ _).2 (by rw [← hc, b3]; rfl)
                  cases neg with
                  | true => rw [if_pos rfl, if_pos (by decide), hx.2 (.inr (.inr (.inr ⟨rfl, ec, rfl⟩)))]
                  | false =>
                    have hxf : x = false := by
                      rw [Bool.eq_false_iff]
                      intro h
                      rcases hx.1 h with h | h | ⟨h, _⟩ | ⟨_, _, h⟩
                      · exact nb1 h
                      · exact nb2 h
                      · cases h
                      · cases h
                    have e1 : ¬ ((if false = true then (-1 : Int) else 1) < 0) := by decide
                    rw [if_neg e1, hxf]
                    exact tail
                · rw [if_neg b3]
                  have hxf : x = false := by
                    rw [Bool.eq_false_iff]
                    intro h
                    rcases hx.1 h with h | h | ⟨h, _⟩ | ⟨_, h, _⟩
                    · exact nb1 h
                    · exact nb2 h
                    · cases h
                    · exact b3 (by rw [hc, h]; rfl)
                  rw [hxf]
                  exact tail
              | true =>
                have e := hsf rfl
                rw [if_neg (by omega), if_pos (by omega), if_pos (by omega), if_pos (by omega)]
                have hxx : x = (bt s (f : Int) == 48) := by
                  rw [← h5 rfl]
                  rw [Bool.eq_iff_iff, hx]
                  constructor
                  · rintro (h | h | ⟨_, h⟩ | ⟨h, _⟩)
                    · exact absurd h nb1
                    · exact absurd h nb2
                    · exact h
                    · cases h
                  · exact fun h => .inr (.inr (.inl ⟨rfl, h⟩))
                rw [hxx]
        by_cases c2 : c < 48 ∨ 57 < c ∨ (st = true ∧ z = true) ∨ (st = false ∧ c = 48 ∧ neg = true)
        · rw [if_pos c2]
          refine toj4 _ true (Ev.step (f := fun _ => some (0, 0, 20)) (fun k => ?_) (Ev.now _)) ⟨fun _ => c2, fun _ => rfl⟩
          simp only [ploverref02_number.j4]
          rw [if_pos trivial]
        · rw [if_neg c2]
          have toj4' : ∀ r, Ev (fun k => ploverref02_number.j4 k s (a : Int) (if neg = true then -1 else 1) (f : Int) n (bt s (a : Int)) false) r → Ev (fun k => ploverref02_number.l0 k s (a : Int) (if neg = true then -1 else 1) (f : Int) n) r := fun r h => toj4 r false h ⟨(fun h => by cases h), fun h => absurd h c2⟩
          have d1 : 48 ≤ c.toNat ∧ c.toNat ≤ 57 := by
            have n1 : ¬ c < 48 := fun h => c2 (.inl h)
            have n2 : ¬ 57 < c := fun h => c2 (.inr (.inl h))
            rw [UInt8.lt_iff_toNat_lt] at n1 n2
            exact ⟨Nat.not_lt.1 n1, Nat.not_lt.1 n2⟩
          have dx : (bt s (a : Int) - 48) % 256 = (c.toNat : Int) - 48 := by rw [hc]; omega
          have hz : (if st = true then z else c == 48) = (bt s (f : Int) == 48) := by
            cases st with
            | true => rw [if_pos rfl]; exact h5 rfl
            | false =>
              rw [if_neg (by decide)]
              have e := hfa rfl
              rw [← e, hc, Bool.eq_iff_iff, beq_iff_eq, beq_iff_eq, u8_eq]
              rfl
          cases neg with
          | true =>
            rw [if_pos rfl] at toj4' ⊢
            rw [if_pos rfl]
            have hn0 : n ≤ 0 := by rcases h8 with ⟨_, h⟩ | ⟨h, _⟩; exact h; cases h
            by_cases c3 : 10 * n - ((c.toNat : Int) - 48) < -9223372036854775808
            · rw [if_pos c3]
              refine toj4' _ (Ev.step (f := fun _ => some (0, 0, 20)) (fun k => ?_) (Ev.now _))
              simp only [ploverref02_number.j4]
              rw [if_neg (by decide), if_neg (by omega)]
              by_cases c4 : n < (-922337203685477580)
              · rw [if_pos c4]
              · rw [if_neg c4, if_neg (by omega), if_pos (by omega), dx, w64 (n := 10 * n) (by omega) (by omega), w64 (n := -1 * ((c.toNat : Int) - 48)) (by omega) (by omega), w64 (n := -9223372036854775808 - -1 * ((c.toNat : Int) - 48)) (by omega) (by omega), if_pos (by omega)]
            · rw [if_neg c3]
              have hev := ih (a + 1) (10 * n - ((c.toNat : Int) - 48)) (if st = true then z else c == 48) true (by omega) (by omega) (by omega) (decide_eq_true (by omega)).symm (fun _ => hz) (by omega) (by omega) (.inl ⟨rfl, by omega⟩)
              rw [if_pos rfl] at hev
              refine toj4' _ (Ev.step (f := fun k => ploverref02_number.l0 k s ((a + 1 : Nat) : Int) (-1) (f : Int) (10 * n - ((c.toNat : Int) - 48))) (fun k => ?_) ?_)
              · simp only [ploverref02_number.j4]
                rw [if_neg (by decide), if_neg (by omega), if_neg (by omega), if_neg (by omega), if_pos (by omega), dx, w64 (n := 10 * n) (by omega) (by omega), w64 (n := -1 * ((c.toNat : Int) - 48)) (by omega) (by omega), w64 (n := -9223372036854775808 - -1 * ((c.toNat : Int) - 48)) (by omega) (by omega), if_neg (by omega), w64 (n := 10 * n + -1 * ((c.toNat : Int) - 48)) (by omega) (by omega), w64 (n := (a : Int) + 1) (by omega) (by omega), show 10 * n + -1 * ((c.toNat : Int) - 48) = 10 * n - ((c.toNat : Int) - 48) by omega]
                rfl
              · refine Ev.to hev ?_
                generalize numL _ _ true _ _ = r
                rw [show a + 1 + r.2.2 = a + (r.2.2 + 1) by omega]
          | false =>
            simp only [Bool.false_eq_true, if_false] at toj4' ⊢
            have hn0 : 0 ≤ n := by rcases h8 with ⟨h, _⟩ | ⟨_, h⟩; cases h; exact h
            by_cases c3 : 9223372036854775807 < 10 * n + ((c.toNat : Int) - 48)
            · rw [if_pos c3]
              refine toj4' _ (Ev.step (f := fun _ => some (0, 0, 20)) (fun k => ?_) (Ev.now _))
              simp only [ploverref02_number.j4]
              rw [if_neg (by decide)]
              by_cases c4 : n > 922337203685477580
              · rw [if_pos c4]
              · rw [if_neg c4, if_neg (by omega), if_pos (by omega), dx, w64 (n := 10 * n) (by omega) (by omega), w64 (n := 1 * ((c.toNat : Int) - 48)) (by omega) (by omega), w64 (n := 9223372036854775807 - 1 * ((c.toNat : Int) - 48)) (by omega) (by omega), if_pos (by omega)]
            · rw [if_neg c3]
              have hev := ih (a + 1) (10 * n + ((c.toNat : Int) - 48)) (if st = true then z else c == 48) true (by omega) (by omega) (by omega) (decide_eq_true (by omega)).symm (fun _ => hz) (by omega) (by omega) (.inr ⟨rfl, by omega⟩)
              simp only [Bool.false_eq_true, if_false] at hev
              refine toj4' _ (Ev.step (f := fun k => ploverref02_number.l0 k s ((a + 1 : Nat) : Int) 1 (f : Int) (10 * n + ((c.toNat : Int) - 48))) (fun k => ?_) ?_)
              · simp only [ploverref02_number.j4]
                rw [if_neg (by decide), if_neg (by omega), if_neg (by omega), if_pos (by omega), dx, w64 (n := 10 * n) (by omega) (by omega), w64 (n := 1 * ((c.toNat : Int) - 48)) (by omega) (by omega), w64 (n := 9223372036854775807 - 1 * ((c.toNat : Int) - 48)) (by omega) (by omega), if_neg (by omega), if_neg (by omega), w64 (n := 10 * n + 1 * ((c.toNat : Int) - 48)) (by omega) (by omega), w64 (n := (a : Int) + 1) (by omega) (by omega), show 10 * n + 1 * ((c.toNat : Int) - 48) = 10 * n + ((c.toNat : Int) - 48) by omega]
                rfl
              · refine Ev.to hev ?_
                generalize numL _ _ true _ _ = r
                rw [show a + 1 + r.2.2 = a + (r.2.2 + 1) by omega]
    · rw [List.drop_of_length_le (by rw [data_size]; omega), numL]
      exact short n a (by omega)
theorem rnum_ev : Ev (fun k => ploverref02_number.f k s) (if (intL s.data.toList).1 = 0 then ((intL s.data.toList).2.1, ((intL s.data.toList).2.2 : Int), 0) else (0, 0, (intL s.data.toList).1)) := by
  unfold ploverref02_number.f
  have tail : ∀ (neg : Bool) (f : Nat) (x : Bool), f ≤ s.size → (x = true ∧ neg = true ∧ f = 1 ∨ x = false ∧ neg = false ∧ f = 0) → Ev (fun k => ploverref02_number.j0 k s 0 1 x) (if (numL neg false false 0 (s.data.toList.drop f)).1 = 0 then ((numL neg false false 0 (s.data.toList.drop f)).2.1, ((f + (numL neg false false 0 (s.data.toList.drop f)).2.2 : Nat) : Int), 0) else (0, 0, (numL neg false false 0 (s.data.toList.drop f)).1)) := by
    intro neg f x hf hx
    have h := rnum_l0 s hs neg f (s.size - f) f 0 false false (Nat.le_refl _) (Nat.le_refl _) hf (decide_eq_false (Nat.lt_irrefl _)).symm (fun h => by cases h) (by decide) (by decide) (by cases neg <;> simp)
    rcases hx with ⟨rfl, rfl, rfl⟩ | ⟨rfl, rfl, rfl⟩
    · rw [if_pos rfl] at h
      refine Ev.step (f := fun k => ploverref02_number.j1 k s 1 (-1)) (fun k => ?_) (Ev.step (fun k => ?_) h)
      · simp only [ploverref02_number.j0]; rw [if_pos trivial]
      · simp only [ploverref02_number.j1]; rfl
    · rw [if_neg (by decide)] at h
      refine Ev.step (f := fun k => ploverref02_number.j1 k s 0 1) (fun k => ?_) (Ev.step (fun k => ?_) h)
      · simp only [ploverref02_number.j0]; rw [if_neg (by decide)]
      · simp only [ploverref02_number.j1]; rfl
  by_cases h0 : (s.size : Int) > 0
  · refine Ev.congr (fun k => by rw [if_pos h0, if_pos (by omega)]) ?_
    obtain ⟨c, hd, hc⟩ := bt_drop s 0 (by omega)
    rw [List.drop_zero] at hd
    have hc' : bt s 0 = (c.toNat : Int) := hc
    by_cases h45 : c = 45
    · have hx : (bt s 0 == 45) = true := beq_iff_eq.2 (by rw [hc', h45]; rfl)
      rw [hx]
      have h := tail true 1 true (by omega) (.inl ⟨rfl, rfl, rfl⟩)
      have hi : intL s.data.toList = ((numL true false false 0 (s.data.toList.drop 1)).1, (numL true false false 0 (s.data.toList.drop 1)).2.1, (numL true false false 0 (s.data.toList.drop 1)).2.2 + 1) := by
        unfold intL
        rw [if_pos (by rw [hd, h45]; rfl), ← List.drop_one]
      rw [hi]
      refine Ev.to h ?_
      simp only
      rw [Nat.add_comm]
    · have hx : (bt s 0 == 45) = false := beq_eq_false_iff_ne.2 (fun h => h45 ((u8_eq _ _).2 (by rw [← hc', h]; rfl)))
      rw [hx]
      have h := tail false 0 false (by omega) (.inr ⟨rfl, rfl, rfl⟩)
      rw [List.drop_zero] at h
      have hi : intL s.data.toList = numL false false false 0 s.data.toList := by
        unfold intL
        rw [if_neg (by rw [hd]; simpa using h45)]
      rw [hi]
      refine Ev.to h ?_
      rw [Nat.zero_add]
  · refine Ev.congr (fun k => if_neg h0) ?_
    have h := tail false 0 false (by omega) (.inr ⟨rfl, rfl, rfl⟩)
    rw [List.drop_zero] at h
    have hi : intL s.data.toList = numL false false false 0 s.data.toList := by
      unfold intL
      rw [if_neg]
      have : s.data.toList = [] := List.eq_nil_of_length_eq_zero (by rw [data_size]; omega)
      rw [this]
      simp
    rw [hi]
    refine Ev.to h ?_
    rw [Nat.zero_add]
theorem rlen_ev : Ev (fun k => ploverref02_length.f k s) (if (lenL false false 0 s.data.toList).1 = 0 then (((lenL false false 0 s.data.toList).2.1 : Int), ((lenL false false 0 s.data.toList).2.2 : Int), 0) else (0, 0, (lenL false false 0 s.data.toList).1)) := by
  have loop : ∀ (d a n : Nat) (z st : Bool), s.size - a ≤ d → a ≤ s.size → st = decide (0 < a) → (st = true → z = (bt s 0 == 48)) → n ≤ 65536 → Ev (fun k => ploverref02_length.l0 k s (n : Int) (a : Int)) (if (lenL z st n (s.data.toList.drop a)).1 = 0 then (((lenL z st n (s.data.toList.drop a)).2.1 : Int), ((a + (lenL z st n (s.data.toList.drop a)).2.2 : Nat) : Int), 0) else (0, 0, (lenL z st n (s.data.toList.drop a)).1)) := by
    intro d
    have short : ∀ (n : Int) (a : Nat), a = s.size → Ev (fun k => ploverref02_length.l0 k s n (a : Int)) (0, 0, 21) := by
      intro n a ha
      refine Ev.step (f := fun _ => some (0, 0, 21)) (fun k => ?_) (Ev.now _)
      simp only [ploverref02_length.l0]
      rw [if_neg (by omega)]
    induction d with
    | zero =>
      intro a n z st h1 h3 h4 h5 h6
      rw [List.drop_of_length_le (by rw [data_size]; omega), lenL]
      exact short n a (by omega)
    | succ d ih =>
      intro a n z st h1 h3 h4 h5 h6
      by_cases hlt : a < s.size
      · obtain ⟨c, hd, hc⟩ := bt_drop s a hlt
        have hcr := c.toNat_lt
        rw [hd, lenL]
        have toj1 : ∀ r x, Ev (fun k => ploverref02_length.j1 k s (n : Int) (a : Int) (bt s (a : Int)) x) r → x = decide (c = 58 ∧ st = true) → Ev (fun k => ploverref02_length.l0 k s (n : Int) (a : Int)) r := by
          intro r x h hx
          refine Ev.step (fun k => ?_) h
          simp only [ploverref02_length.l0]
          rw [if_pos (by omega), if_pos (by omega)]
          by_cases c58 : bt s (a : Int) = 58
          · have e : c = 58 := (u8_eq _ _).2 (by rw [← hc, c58]; rfl)
            have hxx : x = decide ((a : Int) > 0) := by
              rw [hx, h4, Bool.eq_iff_iff, decide_eq_true_eq, decide_eq_true_eq, decide_eq_true_eq]
              exact ⟨fun h => by omega, fun h => ⟨e, by omega⟩⟩
            rw [if_pos c58, hxx]
          · have hxx : x = false := by
              rw [hx]
              exact decide_eq_false (fun h => c58 (by rw [hc, h.1]; rfl))
            rw [if_neg c58, hxx]
        by_cases c1 : c = 58 ∧ st = true
        · rw [if_pos c1]
          refine toj1 _ true (Ev.step (f := fun _ => some ((n : Int), ((a + 1 : Nat) : Int), 0)) (fun k => ?_) (Ev.now _)) (decide_eq_true c1).symm
          simp only [ploverref02_length.j1]
          rw [if_pos trivial, w64 (by omega) (by omega)]
          rfl
        · rw [if_neg c1]
          have toj2 : ∀ r x, Ev (fun k => ploverref02_length.j2 k s (n : Int) (a : Int) (bt s (a : Int)) x) r → (x = true ↔ (c < 48 ∨ 57 < c ∨ (st = true ∧ z = true))) → Ev (fun k => ploverref02_length.l0 k s (n : Int) (a : Int)) r := by
            intro r x h hx
            refine toj1 r false (Ev.step (fun k => ?_) h) (decide_eq_false c1).symm
            simp only [ploverref02_length.j1]
            rw [if_neg (by decide)]
            by_cases b1 : bt s (a : Int) < 48
            · rw [if_pos b1, hx.2 (.inl ((u8_lt _ _).2 (by rw [← hc]; exact b1)))]
            · rw [if_neg b1]
              by_cases b2 : bt s (a : Int) > 57
              · rw [if_pos b2, hx.2 (.inr (.inl ((u8_lt _ _).2 (by rw [← hc]; exact b2))))]
              · rw [if_neg b2]
                have nb1 : ¬ c < 48 := fun h => b1 (by rw [hc]; exact (u8_lt _ _).1 h)
                have nb2 : ¬ 57 < c := fun h => b2 (by rw [hc]; exact (u8_lt _ _).1 h)
                cases st with
                | false =>
                  have e : a = 0 := by have := of_decide_eq_false h4.symm; omega
                  have hxf : x = false := by
                    rw [Bool.eq_false_iff]
                    intro h
                    rcases hx.1 h with h | h | ⟨h, _⟩
                    · exact nb1 h
                    · exact nb2 h
                    · cases h
                  rw [if_neg (by omega), hxf]
                | true =>
                  have e : 0 < a := of_decide_eq_true h4.symm
                  rw [if_pos (by omega), if_pos (by omega)]
                  have hxx : x = (bt s 0 == 48) := by
                    rw [← h5 rfl, Bool.eq_iff_iff, hx]
                    constructor
                    · rintro (h | h | ⟨_, h⟩)
                      · exact absurd h nb1
                      · exact absurd h nb2
                      · exact h
                    · exact fun h => .inr (.inr ⟨rfl, h⟩)
                  rw [hxx]
          by_cases c2 : c < 48 ∨ 57 < c ∨ (st = true ∧ z = true)
          · rw [if_pos c2]
            refine toj2 _ true (Ev.step (f := fun _ => some (0, 0, 20)) (fun k => ?_) (Ev.now _)) ⟨fun _ => c2, fun _ => rfl⟩
            simp only [ploverref02_length.j2]
            rw [if_pos trivial]
          · rw [if_neg c2]
            have d1 : 48 ≤ c.toNat ∧ c.toNat ≤ 57 := by
              have n1 : ¬ c < 48 := fun h => c2 (.inl h)
              have n2 : ¬ 57 < c := fun h => c2 (.inr (.inl h))
              rw [UInt8.lt_iff_toNat_lt] at n1 n2
              exact ⟨Nat.not_lt.1 n1, Nat.not_lt.1 n2⟩
            have dx : (bt s (a : Int) - 48) % 256 = (c.toNat : Int) - 48 := by rw [hc]; omega
            have hz : (if st = true then z else c == 48) = (bt s 0 == 48) := by
              cases st with
              | true => rw [if_pos rfl]; exact h5 rfl
              | false =>
                rw [if_neg (by decide)]
                have e : a = 0 := by have := of_decide_eq_false h4.symm; omega
                have hc0 : bt s 0 = (c.toNat : Int) := by rw [← hc, e]; rfl
                rw [hc0, Bool.eq_iff_iff, beq_iff_eq, beq_iff_eq, u8_eq]
                rfl
            by_cases c3 : 65536 < 10 * n + (c.toNat - 48)
            · rw [if_pos c3]
              refine toj2 _ false (Ev.step (f := fun _ => some (0, 0, 23)) (fun k => ?_) (Ev.now _)) ⟨(fun h => by cases h), fun h => absurd h c2⟩
              simp only [ploverref02_length.j2]
              rw [if_neg (by decide), dx, w64 (n := 10 * (n : Int)) (by omega) (by omega), w64 (n := 10 * (n : Int) + ((c.toNat : Int) - 48)) (by omega) (by omega), if_pos (by omega)]
            · rw [if_neg c3]
              have hev := ih (a + 1) (10 * n + (c.toNat - 48)) (if st = true then z else c == 48) true (by omega) (by omega) (decide_eq_true (by omega)).symm (fun _ => hz) (by omega)
              refine toj2 _ false (Ev.step (f := fun k => ploverref02_length.l0 k s ((10 * n + (c.toNat - 48) : Nat) : Int) ((a + 1 : Nat) : Int)) (fun k => ?_) ?_) ⟨(fun h => by cases h), fun h => absurd h c2⟩
              · simp only [ploverref02_length.j2]
                rw [if_neg (by decide), dx, w64 (n := 10 * (n : Int)) (by omega) (by omega), w64 (n := 10 * (n : Int) + ((c.toNat : Int) - 48)) (by omega) (by omega), if_neg (by omega), w64 (n := (a : Int) + 1) (by omega) (by omega), show 10 * (n : Int) + ((c.toNat : Int) - 48) = ((10 * n + (c.toNat - 48) : Nat) : Int) by omega]
                rfl
              · refine Ev.to hev ?_
                generalize lenL _ true _ _ = r
                rw [show a + 1 + r.2.2 = a + (r.2.2 + 1) by omega]
      · rw [List.drop_of_length_le (by rw [data_size]; omega), lenL]
        exact short n a (by omega)
  have h := loop s.size 0 0 false false (by omega) (by omega) (by decide) (fun h => by cases h) (by decide)
  unfold ploverref02_length.f
  rw [List.drop_zero] at h
  refine Ev.to h ?_
  rw [Nat.zero_add]
end
end Go.Proofs.YtcdfedbecgfanaaDoor.Pure
namespace Go.Proofs.YtcdfedbecgfanaaDoor.Pure
open Go.RowKit Go.Lib Go.Proofs.YtcdfedbecgfanaaDoor.Giv Go.Proofs.YtcdfedbecgfanaaDoor.P Go.Proofs.YtcdfedbecgfanaaDoorW.PrintWords Go.Proofs.YtcdfedbecgfanaaDoorW.PrintLast Go.Proofs.YtcdfedbecgfanaaDoorW.PrintMore
set_option linter.unusedVariables false
set_option linter.unusedSimpArgs false
theorem V_eta (x : V) : (⟨x.f0, x.f1, x.f2, x.f3⟩ : V) = x := by cases x; rfl
abbrev Q6 := Int × Int × ByteArray × List V × Int × Int
def RdR (g : Nat → Option Q6) (R : Int × V × Nat) : Prop := ∃ q : Q6, Ev g q ∧ (R.1 = 0 → q = (R.2.1.f0, R.2.1.f1, R.2.1.f2, R.2.1.f3, (R.2.2 : Int), 0)) ∧ (R.1 ≠ 0 → q.2.2.2.2.2 = R.1)
theorem RdR.step {g f : Nat → Option Q6} {R : Int × V × Nat} (h : ∀ k, g (k + 1) = f k) (hf : RdR f R) : RdR g R := by
  obtain ⟨q, hq, h1, h2⟩ := hf
  exact ⟨q, Ev.step h hq, h1, h2⟩
theorem RdR.bad (e : Int) (h : e ≠ 0) (R : Int × V × Nat) (hR : R.1 = e) (a b : Int) (c : ByteArray) (l : List V) (u : Int) : RdR (fun _ => some (a, b, c, l, u, e)) R :=
  ⟨_, Ev.now _, fun h2 => absurd (hR ▸ h2) h, fun _ => hR.symm⟩
theorem ext_tail (s : ByteArray) (a : Nat) : (s.extract a s.size).data.toList = s.data.toList.drop a := by
  rw [extract_list, List.take_of_length_le (by rw [drop_length]; omega)]
theorem ext_size (s : ByteArray) (a : Nat) (h : a ≤ s.size) : (s.extract a s.size).size = s.size - a := by rw [ByteArray.size_extract]; omega
theorem read_ev (d : Nat) : ∀ (w : Nat), w + d = 8 → ∀ (s : ByteArray), s.size ≤ 1000000 → RdR (fun k => ploverref02_read.f k s (w : Int)) (valL d s.data.toList) := by
  have gen : ∀ (d w : Nat), w ≤ 8 → ∀ (s : ByteArray), s.size ≤ 1000000 → (∀ t, s.data.toList = 108 :: t → RdR (fun k => ploverref02_read.j1 k s (w : Int) 108 (decide ((w : Int) ≥ 8))) (valL d s.data.toList)) → RdR (fun k => ploverref02_read.f k s (w : Int)) (valL d s.data.toList) := by
    intro d w hw s hs hlist
    cases hsz : s.size with
    | zero =>
      have hn : s.data.toList = [] := List.eq_nil_of_length_eq_zero (by rw [data_size]; exact hsz)
      rw [hn, valL_nil]
      refine RdR.step (f := fun _ => some (0, 0, (⟨#[]⟩ : ByteArray), ([] : List V), 0, 21)) (fun k => ?_) (RdR.bad 21 (by decide) _ rfl _ _ _ _ _)
      simp only [ploverref02_read.f]
      rw [if_pos (by omega)]
    | succ m =>
      obtain ⟨c, hd, hc⟩ := bt_drop s 0 (by omega)
      rw [List.drop_zero] at hd
      have hc' : bt s 0 = (c.toNat : Int) := hc
      have hcr := c.toNat_lt
      have head : ∀ k, ploverref02_read.f (k + 1) s (w : Int) = if bt s 0 = 105 then (ploverref02_number.f k (s.extract 1 s.size)).bind fun bt259 => (some (1, bt259.1, (⟨#[]⟩ : ByteArray), ([] : List V), wrap64 (bt259.2.1 + 1), bt259.2.2)) else (if (bt s 0) ≥ 48 then (ploverref02_read.j0 k s (w : Int) (bt s 0) (decide ((bt s 0) ≤ 57))) else (ploverref02_read.j0 k s (w : Int) (bt s 0) false)) := by
        intro k
        simp only [ploverref02_read.f]
        rw [if_neg (by omega), if_pos (by omega), if_pos (show 1 ≤ (s.size : Int) by omega)]
      by_cases c1 : c = 105
      · have hb : bt s 0 = 105 := by rw [hc', c1]; rfl
        rw [hd, valL_cons, if_pos c1]
        have hn := rnum_ev (s.extract 1 s.size) (by rw [ext_size s 1 (by omega)]; omega)
        rw [ext_tail] at hn
        have hI := intL_used (s.data.toList.drop 1)
        rw [drop_length] at hI
        rw [show (0 : Nat) + 1 = 1 from rfl]
        generalize intL (s.data.toList.drop 1) = I at *
        by_cases hz : I.1 = 0
        · rw [if_pos hz] at hn
          rw [if_pos hz]
          have := hI hz
          refine ⟨_, Ev.step (fun k => (head k).trans (if_pos hb)) (Ev.bind hn (Ev.now _)), fun _ => ?_, fun h => absurd rfl h⟩
          simp only
          rw [w64 (by omega) (by omega)]
          rfl
        · rw [if_neg hz] at hn
          rw [if_neg hz]
          exact ⟨_, Ev.step (fun k => (head k).trans (if_pos hb)) (Ev.bind hn (Ev.now _)), fun h => absurd h hz, fun _ => rfl⟩
      · have hb : ¬ bt s 0 = 105 := fun h => c1 ((u8_eq _ _).2 (by rw [← hc', h]; rfl))
        have toj0 : ∀ x, RdR (fun k => ploverref02_read.j0 k s (w : Int) (bt s 0) x) (valL d s.data.toList) → x = decide (48 ≤ c ∧ c ≤ 57) → RdR (fun k => ploverref02_read.f k s (w : Int)) (valL d s.data.toList) := by
          intro x h hx
          refine RdR.step (fun k => ?_) h
          rw [head k, if_neg hb]
          have hdg := u8_digit c _ hc'
          by_cases h48 : bt s 0 ≥ 48
          · rw [if_pos h48]
            have : x = decide (bt s 0 ≤ 57) := by
              rw [hx, Bool.eq_iff_iff, decide_eq_true_eq, decide_eq_true_eq, hdg]
              exact ⟨fun h => h.2, fun h => ⟨h48, h⟩⟩
            rw [this]
          · rw [if_neg h48]
            have : x = false := by rw [hx]; exact decide_eq_false (fun h => h48 (hdg.1 h).1)
            rw [this]
        by_cases c2 : 48 ≤ c ∧ c ≤ 57
        · refine toj0 true ?_ (decide_eq_true c2).symm
          have hL := rlen_ev s hs
          have hu := lenL_used s.data.toList false false 0
          rw [data_size] at hu
          have hv : valL d s.data.toList = (if (lenL false false 0 s.data.toList).1 = 0 then (if s.data.toList.length < (lenL false false 0 s.data.toList).2.2 + (lenL false false 0 s.data.toList).2.1 then (21, zV, 0) else (0, strV ⟨((s.data.toList.drop (lenL false false 0 s.data.toList).2.2).take (lenL false false 0 s.data.toList).2.1).toArray⟩, (lenL false false 0 s.data.toList).2.2 + (lenL false false 0 s.data.toList).2.1)) else ((lenL false false 0 s.data.toList).1, zV, 0)) := by
            conv => lhs; rw [hd, valL_cons, if_neg c1, if_pos c2, ← hd]
          rw [hv, data_size]
          generalize lenL false false 0 s.data.toList = R at *
          by_cases hz : R.1 = 0
          · rw [if_pos hz] at hL
            rw [if_pos hz]
            obtain ⟨u1, u2, _, u4⟩ := hu hz
            have u5 := u4 (by omega)
            by_cases hcut : s.size < R.2.2 + R.2.1
            · rw [if_pos hcut]
              refine ⟨(0, 0, (⟨#[]⟩ : ByteArray), ([] : List V), 0, 21), Ev.step (fun k => by simp only [ploverref02_read.j0]; rw [if_pos trivial]) (Ev.bind hL ?_), (fun h => by cases h), fun _ => rfl⟩
              refine Ev.congr (fun k => ?_) (Ev.now _)
              simp only
              rw [if_pos trivial, w64 (by omega) (by omega), if_pos (by omega)]
            · rw [if_neg hcut]
              refine ⟨(2, 0, s.extract R.2.2 (R.2.2 + R.2.1), ([] : List V), ((R.2.2 + R.2.1 : Nat) : Int), 0), Ev.step (fun k => by simp only [ploverref02_read.j0]; rw [if_pos trivial]) (Ev.bind hL ?_), fun _ => ?_, fun h => absurd rfl h⟩
              · refine Ev.congr (fun k => ?_) (Ev.now _)
                simp only
                rw [if_pos trivial, w64 (by omega) (by omega), if_neg (by omega), w64 (by omega) (by omega), if_pos (by omega), if_pos (by omega), if_pos (by omega)]
                refine congrArg some ?_
                rw [show ((R.2.2 : Int)).toNat = R.2.2 by omega, show ((R.2.2 : Int) + (R.2.1 : Int)).toNat = R.2.2 + R.2.1 by omega]
                rfl
              · rw [extract_mk]
                rfl
          · rw [if_neg hz] at hL
            rw [if_neg hz]
            refine ⟨(0, 0, (⟨#[]⟩ : ByteArray), ([] : List V), 0, R.1), Ev.step (fun k => by simp only [ploverref02_read.j0]; rw [if_pos trivial]) (Ev.bind hL ?_), fun h => absurd h hz, fun _ => rfl⟩
            exact Ev.congr (fun k => if_neg hz) (Ev.now _)
        · refine toj0 false ?_ (decide_eq_false c2).symm
          by_cases c3 : c = 108
          · have hb3 : bt s 0 = 108 := by rw [hc', c3]; rfl
            refine RdR.step (f := fun k => ploverref02_read.j1 k s (w : Int) 108 (decide ((w : Int) ≥ 8))) (fun k => ?_) (hlist _ (by rw [hd, c3]))
            simp only [ploverref02_read.j0]
            rw [if_neg (by decide), if_pos hb3, hb3]
          · have hb3 : ¬ bt s 0 = 108 := fun h => c3 ((u8_eq _ _).2 (by rw [← hc', h]; rfl))
            refine RdR.step (f := fun k => ploverref02_read.j1 k s (w : Int) (bt s 0) false) (fun k => ?_) (RdR.step (f := fun _ => some (0, 0, (⟨#[]⟩ : ByteArray), ([] : List V), 0, 20)) (fun k => ?_) (RdR.bad 20 (by decide) _ ?_ _ _ _ _ _))
            · simp only [ploverref02_read.j0]
              rw [if_neg (by decide), if_neg hb3]
            · simp only [ploverref02_read.j1]
              rw [if_neg (by decide), if_neg hb3]
            · rw [hd, valL_cons, if_neg c1, if_neg c2, if_pos c3]
  induction d with
  | zero =>
    intro w hw s hs
    refine gen 0 w (by omega) s hs (fun t ht => ?_)
    refine RdR.step (f := fun _ => some (0, 0, (⟨#[]⟩ : ByteArray), ([] : List V), 0, 22)) (fun k => ?_) (RdR.bad 22 (by decide) _ ?_ _ _ _ _ _)
    · simp only [ploverref02_read.j1]
      rw [decide_eq_true (show (w : Int) ≥ 8 by omega), if_pos rfl]
    · rw [ht, valL_cons, if_neg (by decide), if_neg (by decide), if_neg (by decide)]
  | succ d ih =>
    intro w hw s hs
    refine gen (d + 1) w (by omega) s hs (fun t ht => ?_)
    have hlen : s.size = t.length + 1 := by rw [← data_size, ht]; simp
    have hv : valL (d + 1) s.data.toList = if (listL (valL d) t.length t).1 = 0 then (0, lisV (listL (valL d) t.length t).2.1, (listL (valL d) t.length t).2.2 + 1) else ((listL (valL d) t.length t).1, zV, 0) := by
      rw [ht, valL_cons, if_neg (by decide), if_neg (by decide), if_neg (by decide)]
    have hLI := LInv_start d s 0 (by omega)
    have htd : s.data.toList.drop (0 + 1) = t := by rw [ht]; rfl
    rw [htd] at hLI
    rw [hv]
    generalize listL (valL d) t.length t = LR at *
    have loop : ∀ (m a' : Nat) (xs : List V), s.size - a' ≤ m → LInv d s 0 a' xs LR → RdR (fun k => ploverref02_read.l0 k s (w : Int) (a' : Int) 3 0 (⟨#[]⟩ : ByteArray) xs) (if LR.1 = 0 then (0, lisV LR.2.1, LR.2.2 + 1) else (LR.1, zV, 0)) := by
      have atEnd : ∀ (xs : List V), LInv d s 0 s.size xs LR → RdR (fun k => ploverref02_read.l0 k s (w : Int) (s.size : Int) 3 0 (⟨#[]⟩ : ByteArray) xs) (if LR.1 = 0 then (0, lisV LR.2.1, LR.2.2 + 1) else (LR.1, zV, 0)) := by
        intro xs hinv
        have he := LInv_end hinv
        rw [he, if_neg (by decide)]
        obtain ⟨q, hq, q1, q2⟩ := ih (w + 1) (by omega) (s.extract s.size s.size) (by rw [ext_size s _ (Nat.le_refl _)]; omega)
        rw [ext_tail, List.drop_of_length_le (by rw [data_size]; omega), valL_nil] at q1 q2
        have hq2 := q2 (by decide)
        refine RdR.step (f := fun k => ploverref02_read.j3 k s (w : Int) (s.size : Int) false 3 0 (⟨#[]⟩ : ByteArray) xs) (fun k => ?_) (RdR.step (f := fun k => (ploverref02_read.f k (s.extract s.size s.size) ((w + 1 : Nat) : Int)).bind fun bt266 => if bt266.2.2.2.2.2 = 0 then (if xs.length < 2513169434916 then ploverref02_read.l0 k s (w : Int) (wrap64 ((s.size : Int) + bt266.2.2.2.2.1)) 3 0 (⟨#[]⟩ : ByteArray) (xs ++ [(⟨bt266.1, bt266.2.1, bt266.2.2.1, bt266.2.2.2.1⟩ : V)]) else none) else some (0, 0, (⟨#[]⟩ : ByteArray), ([] : List V), 0, bt266.2.2.2.2.2)) (fun k => ?_) ⟨_, Ev.bind hq (Ev.congr (fun k => if_neg (by rw [hq2]; decide)) (Ev.now _)), (fun h => by cases h), fun _ => hq2⟩)
        · simp only [ploverref02_read.l0]
          rw [if_neg (by omega)]
        · simp only [ploverref02_read.j3]
          rw [if_neg (by decide), if_pos (by omega), if_pos (by omega), w64 (n := (w : Int) + 1) (by omega) (by omega), Int.toNat_natCast]
          rfl
      intro m
      induction m with
      | zero =>
        intro a' xs hm hinv
        obtain ⟨i1, i2, i3, -⟩ := id hinv
        obtain rfl : a' = s.size := by omega
        exact atEnd xs hinv
      | succ m ihm =>
        intro a' xs hm hinv
        obtain ⟨i1, i2, i3, -⟩ := id hinv
        by_cases he : a' = s.size
        · subst he; exact atEnd xs hinv
        · have hlt : a' < s.size := by omega
          by_cases h101 : bt s (a' : Int) = 101
          · rw [LInv_stop hinv hlt h101, if_pos rfl]
            refine RdR.step (f := fun k => ploverref02_read.j3 k s (w : Int) (a' : Int) true 3 0 (⟨#[]⟩ : ByteArray) xs) (fun k => ?_) (RdR.step (f := fun _ => some (3, 0, (⟨#[]⟩ : ByteArray), xs, ((a' + 1 : Nat) : Int), 0)) (fun k => ?_) ⟨_, Ev.now _, fun _ => ?_, fun h => absurd rfl h⟩)
            · simp only [ploverref02_read.l0]
              rw [if_pos (by omega), if_pos (by omega), beq_iff_eq.2 h101]
            · simp only [ploverref02_read.j3]
              rw [if_pos trivial, w64 (by omega) (by omega)]
              rfl
            · simp only
              rw [show a' - (0 + 1) + 1 + 1 = a' + 1 by omega]
              rfl
          · have hst := LInv_step hinv hlt h101
            obtain ⟨q, hq, q1, q2⟩ := ih (w + 1) (by omega) (s.extract a' s.size) (by rw [ext_size s _ (by omega)]; omega)
            rw [ext_tail] at q1 q2
            have hus := valL_used d (s.data.toList.drop a')
            rw [drop_length] at hus
            generalize valL d (s.data.toList.drop a') = R at *
            refine RdR.step (f := fun k => ploverref02_read.j3 k s (w : Int) (a' : Int) false 3 0 (⟨#[]⟩ : ByteArray) xs) (fun k => ?_) (RdR.step (f := fun k => (ploverref02_read.f k (s.extract a' s.size) ((w + 1 : Nat) : Int)).bind fun bt266 => if bt266.2.2.2.2.2 = 0 then (if xs.length < 2513169434916 then ploverref02_read.l0 k s (w : Int) (wrap64 ((a' : Int) + bt266.2.2.2.2.1)) 3 0 (⟨#[]⟩ : ByteArray) (xs ++ [(⟨bt266.1, bt266.2.1, bt266.2.2.1, bt266.2.2.2.1⟩ : V)]) else none) else some (0, 0, (⟨#[]⟩ : ByteArray), ([] : List V), 0, bt266.2.2.2.2.2)) (fun k => ?_) ?_)
            · simp only [ploverref02_read.l0]
              rw [if_pos (by omega), if_pos (by omega), beq_eq_false_iff_ne.2 h101]
            · simp only [ploverref02_read.j3]
              rw [if_neg (by decide), if_pos (by omega), if_pos (by omega), w64 (n := (w : Int) + 1) (by omega) (by omega), Int.toNat_natCast]
              rfl
            · by_cases hz : R.1 = 0
              · obtain ⟨u1, u2⟩ := hus hz
                rw [q1 hz] at hq
                obtain ⟨q', hq', r1, r2⟩ := ihm (a' + R.2.2) (xs ++ [R.2.1]) (by omega) (hst.1 hz)
                refine ⟨q', Ev.bind hq (Ev.congr (fun k => ?_) hq'), r1, r2⟩
                simp only
                rw [if_pos trivial, if_pos (by omega), w64 (by omega) (by omega), show (a' : Int) + (R.2.2 : Int) = ((a' + R.2.2 : Nat) : Int) by omega, V_eta]
              · have hq2 := q2 hz
                have hLe := hst.2 hz
                have hLz : ¬ LR.1 = 0 := by rw [hLe]; exact hz
                rw [if_neg hLz]
                exact ⟨_, Ev.bind hq (Ev.congr (fun k => if_neg (by rw [hq2]; exact hz)) (Ev.now _)), fun h => absurd h hLz, fun _ => by simp only; rw [hq2, hLe]⟩
    refine RdR.step (f := fun k => ploverref02_read.l0 k s (w : Int) ((0 + 1 : Nat) : Int) 3 0 (⟨#[]⟩ : ByteArray) ([] : List V)) (fun k => ?_) (loop s.size 1 [] (by omega) hLI)
    simp only [ploverref02_read.j1]
    rw [decide_eq_false (show ¬ (w : Int) ≥ 8 by omega), if_neg (by decide), if_pos trivial]
    rfl
theorem refTake_ev (s : ByteArray) (hs : s.size ≤ 1000000) : Ev (fun k => ploverref02_Take.f k s) (flat (takeM s)) := by
  obtain ⟨q, hq, q1, q2⟩ := read_ev 8 0 (by decide) s hs
  unfold ploverref02_Take.f takeM
  refine Ev.bind hq ?_
  by_cases hz : (valL 8 s.data.toList).1 = 0
  · rw [if_pos hz, q1 hz]
    refine Ev.congr (fun k => if_pos rfl) ?_
    by_cases hl : (valL 8 s.data.toList).2.2 ≤ 65536
    · rw [if_pos hl]
      exact Ev.congr (fun k => if_neg (by simp only; omega)) (Ev.now _)
    · rw [if_neg hl]
      exact Ev.congr (fun k => if_pos (by simp only; omega)) (Ev.now _)
  · have h2 := q2 hz
    rw [if_neg hz]
    refine Ev.congr (fun k => if_neg (by rw [h2]; exact hz)) ?_
    rw [h2]
    exact Ev.now _
theorem take_yes {s : ByteArray} (h : s.size ≤ 1099511627776) : benc_Take.f s = some (flat (takeM s)) := by unfold benc_Take.f; rw [if_pos h]
theorem put_yes {v : V} (h : fitV v = true) : benc_Put.f v.f0 v.f1 v.f2 v.f3 = some (putM v) := by unfold benc_Put.f; rw [V_eta]; exact if_pos h
def onlyM (s : ByteArray) : V × Int := if (takeM s).2.2 = 0 then (if (takeM s).2.1 < (s.size : Int) then (zV, 20) else ((takeM s).1, 0)) else (zV, (takeM s).2.2)
def flat5 (T : V × Int) : Int × Int × ByteArray × List V × Int := (T.1.f0, T.1.f1, T.1.f2, T.1.f3, T.2)
theorem only_yes {s : ByteArray} (h : s.size ≤ 1099511627776) : benc_Only.f s = some (flat5 (onlyM s)) := by
  unfold benc_Only.f onlyM
  rw [take_yes h]
  generalize takeM s = T
  obtain ⟨v, n, e⟩ := T
  simp only [flat, Option.bind_some]
  by_cases c : e = 0
  · rw [if_pos c, if_pos c]
    by_cases c2 : n < (s.size : Int)
    · rw [if_pos c2, if_pos c2]; rfl
    · rw [if_neg c2, if_neg c2]; rfl
  · rw [if_neg c, if_neg c]; rfl
theorem refOnly_ev (s : ByteArray) (hs : s.size ≤ 1000000) : Ev (fun k => ploverref02_Only.f k s) (flat5 (onlyM s)) := by
  unfold ploverref02_Only.f onlyM
  refine Ev.bind (refTake_ev s hs) ?_
  generalize takeM s = T
  obtain ⟨v, n, e⟩ := T
  by_cases c : e = 0
  · rw [if_pos c]
    refine Ev.congr (fun k => if_pos c) ?_
    by_cases c2 : n < (s.size : Int)
    · rw [if_pos c2]; exact Ev.congr (fun k => if_pos c2) (Ev.now _)
    · rw [if_neg c2]; exact Ev.congr (fun k => if_neg c2) (Ev.now _)
  · rw [if_neg c]
    exact Ev.congr (fun k => if_neg c) (Ev.now _)
mutual
def sam : V → V → Bool
  | ⟨k, n, s, L⟩, b => if k = b.f0 then (if k = 1 then n == b.f1 else if k = 2 then s.toList == b.f2.toList else sams L b.f3) else false
def sams : List V → List V → Bool
  | [], [] => true
  | x :: xs, y :: ys => sam x y && sams xs ys
  | _, _ => false
end
theorem sam_eq (a b : V) : sam a b = if a.f0 = b.f0 then (if a.f0 = 1 then a.f1 == b.f1 else if a.f0 = 2 then a.f2.toList == b.f2.toList else sams a.f3 b.f3) else false := by obtain ⟨k, n, s, L⟩ := a; rw [sam]
theorem sams_cons (x y : V) (xs ys : List V) : sams (x :: xs) (y :: ys) = (sam x y && sams xs ys) := by rw [sams]
theorem sams_nil : sams [] [] = true := by rw [sams]
theorem sams_len : ∀ (a b : List V), sams a b = true → a.length = b.length
  | [], [], _ => rfl
  | x :: xs, y :: ys, h => by
    rw [sams_cons, Bool.and_eq_true] at h
    simp [sams_len xs ys h.2]
  | [], y :: ys, h => by rw [sams] at h; cases h; simp; simp
  | x :: xs, [], h => by rw [sams] at h; cases h; simp; simp
theorem same_ev (n : Nat) : ∀ (a b : V), wt a ≤ n → n ≤ 4611686018427387904 → wt b ≤ 4611686018427387904 → Ev (fun k => ploverref02_Same.f k a.f0 a.f1 a.f2 a.f3 b.f0 b.f1 b.f2 b.f3) (sam a b) := by
  induction n with
  | zero => intro v _ h; have := wt_eq v; omega
  | succ n ih =>
    intro v u hw hb hub
    have hz := wt_eq v
    have hll := wts_len v.f3
    rw [sam_eq]
    by_cases c0 : v.f0 = u.f0
    · rw [if_pos c0]
      by_cases c1 : v.f0 = 1
      · rw [if_pos c1]
        refine Ev.step (f := fun _ => some (v.f1 == u.f1)) (fun k => ?_) (Ev.now _)
        simp only [ploverref02_Same.f]; rw [if_pos c0, if_pos c1]
      · rw [if_neg c1]
        by_cases c2 : v.f0 = 2
        · rw [if_pos c2]
          refine Ev.step (f := fun _ => some (v.f2.toList == u.f2.toList)) (fun k => ?_) (Ev.now _)
          simp only [ploverref02_Same.f]; rw [if_pos c0, if_neg c1, if_pos c2]
        · rw [if_neg c2]
          by_cases c3 : v.f3.length = u.f3.length
          · have hlu := wts_len u.f3
            have hzu := wt_eq u
            have loop : ∀ (d i : Nat), v.f3.length - i ≤ d → i ≤ v.f3.length → Ev (fun k => ploverref02_Same.l0 k (i : Int) v.f0 v.f1 v.f2 v.f3 u.f0 u.f1 u.f2 u.f3) (sams (v.f3.drop i) (u.f3.drop i)) := by
              intro d
              have fin : ∀ i : Nat, i = v.f3.length → Ev (fun k => ploverref02_Same.l0 k (i : Int) v.f0 v.f1 v.f2 v.f3 u.f0 u.f1 u.f2 u.f3) (sams (v.f3.drop i) (u.f3.drop i)) := by
                intro i hi
                rw [List.drop_of_length_le (by omega), List.drop_of_length_le (by omega), sams_nil]
                refine Ev.step (f := fun _ => some true) (fun k => ?_) (Ev.now _)
                simp only [ploverref02_Same.l0]
                rw [if_neg (by omega)]
              induction d with
              | zero =>
                intro i h1 h2
                exact fin i (by omega)
              | succ d ihd =>
                intro i h1 h2
                by_cases hlt : i < v.f3.length
                · have hlt2 : i < u.f3.length := by omega
                  have hm1 := wt_mem (List.getElem_mem hlt)
                  have hm2 := wt_mem (List.getElem_mem hlt2)
                  have hx := ih v.f3[i] u.f3[i] (by omega) (by omega) (by omega)
                  have hn := ihd (i + 1) (by omega) (by omega)
                  rw [List.drop_eq_getElem_cons hlt, List.drop_eq_getElem_cons hlt2, sams_cons]
                  refine Ev.step (f := fun k => (ploverref02_Same.f k v.f3[i].f0 v.f3[i].f1 v.f3[i].f2 v.f3[i].f3 u.f3[i].f0 u.f3[i].f1 u.f3[i].f2 u.f3[i].f3).bind fun q => if q = true then ploverref02_Same.l0 k ((i + 1 : Nat) : Int) v.f0 v.f1 v.f2 v.f3 u.f0 u.f1 u.f2 u.f3 else some false) (fun k => ?_) (Ev.bind hx ?_)
                  · simp only [ploverref02_Same.l0]
                    rw [if_pos (by omega), if_pos (by omega), if_pos (by omega), rd_at _ _ hlt, rd_at _ _ hlt2, w64 (n := (i : Int) + 1) (by omega) (by omega)]
                    rfl
                  · cases sam v.f3[i] u.f3[i] with
                    | true => rw [Bool.true_and]; exact Ev.congr (fun k => if_pos rfl) hn
                    | false => rw [Bool.false_and]; exact Ev.congr (fun k => if_neg (by decide)) (Ev.now _)
                · exact fin i (by omega)
            have := loop v.f3.length 0 (by omega) (by omega)
            rw [List.drop_zero, List.drop_zero] at this
            refine Ev.step (f := fun k => ploverref02_Same.l0 k ((0 : Nat) : Int) v.f0 v.f1 v.f2 v.f3 u.f0 u.f1 u.f2 u.f3) (fun k => ?_) this
            simp only [ploverref02_Same.f]; rw [if_pos c0, if_neg c1, if_neg c2, if_pos (by omega)]
            rfl
          · have hf : sams v.f3 u.f3 = false := by
              rw [Bool.eq_false_iff]
              exact fun h => c3 (sams_len _ _ h)
            rw [hf]
            refine Ev.step (f := fun _ => some false) (fun k => ?_) (Ev.now _)
            simp only [ploverref02_Same.f]; rw [if_pos c0, if_neg c1, if_neg c2, if_neg (by omega)]
    · rw [if_neg c0]
      refine Ev.step (f := fun _ => some false) (fun k => ?_) (Ev.now _)
      simp only [ploverref02_Same.f]; rw [if_neg c0]
theorem gud_eq (v : V) : gud v = if v.f0 = 1 then v.f2.size == 0 && v.f3.isEmpty else if v.f0 = 2 then v.f1 == 0 && v.f3.isEmpty else if v.f0 = 3 then v.f1 == 0 && v.f2.size == 0 && guds v.f3 else false := by obtain ⟨k, n, s, L⟩ := v; rw [gud]
theorem size0 {s : ByteArray} (h : s.size = 0) : s = ⟨#[]⟩ := by
  cases s with
  | mk d => cases d with
    | mk l => cases l with
      | nil => rfl
      | cons a b => cases h
theorem toList0 : (⟨#[]⟩ : ByteArray).toList = [] := by rw [toList_data]
theorem clean_go (a : Int) (b : Int) (c : ByteArray) (l : List V) (h1 : a ≠ 1 → b = 0) (h2 : a ≠ 2 → c = ⟨#[]⟩) (h3 : a ≠ 3 → l = []) {r : Bool} (h : Ev (fun k => ploverref02_Clean.l0 k 0 a b c l) r) : Ev (fun k => ploverref02_Clean.f k a b c l) r := by
  have j : Ev (fun k => ploverref02_Clean.j0 k false a b c l) r := by
    refine Ev.step (fun k => ?_) h
    simp only [ploverref02_Clean.j0]
    rfl
  refine Ev.step (fun k => ?_) j
  simp only [ploverref02_Clean.f]
  by_cases c1 : a = 1
  · rw [if_pos c1, if_neg (by omega), h2 (by omega), if_pos toList0, if_neg (by omega), h3 (by omega)]
    rfl
  · rw [if_neg c1, if_pos (h1 c1)]
    by_cases c2 : a = 2
    · rw [if_pos c2, if_neg (by omega), h3 (by omega)]
      rfl
    · rw [if_neg c2, h2 c2, if_pos toList0]
      by_cases c3 : a = 3
      · rw [if_pos c3]
      · rw [if_neg c3, h3 c3]
        rfl
theorem clean_ev (n : Nat) : ∀ (v : V), wt v ≤ n → n ≤ 4611686018427387904 → gud v = true → Ev (fun k => ploverref02_Clean.f k v.f0 v.f1 v.f2 v.f3) true := by
  induction n with
  | zero => intro v h; have := wt_eq v; omega
  | succ n ih =>
    intro v hw hb hg
    have hz := wt_eq v
    have hll := wts_len v.f3
    have hgs : guds v.f3 = true ∧ (v.f0 ≠ 1 → v.f1 = 0) ∧ (v.f0 ≠ 2 → v.f2 = ⟨#[]⟩) ∧ (v.f0 ≠ 3 → v.f3 = []) := by
      rw [gud_eq] at hg
      by_cases c1 : v.f0 = 1
      · rw [if_pos c1, Bool.and_eq_true, beq_iff_eq, List.isEmpty_iff] at hg
        exact ⟨by rw [hg.2]; exact guds_nil, fun h => absurd c1 h, fun _ => size0 hg.1, fun _ => hg.2⟩
      · rw [if_neg c1] at hg
        by_cases c2 : v.f0 = 2
        · rw [if_pos c2, Bool.and_eq_true, beq_iff_eq, List.isEmpty_iff] at hg
          exact ⟨by rw [hg.2]; exact guds_nil, fun _ => hg.1, fun h => absurd c2 h, fun _ => hg.2⟩
        · rw [if_neg c2] at hg
          by_cases c3 : v.f0 = 3
          · rw [if_pos c3, Bool.and_eq_true, Bool.and_eq_true, beq_iff_eq, beq_iff_eq] at hg
            exact ⟨hg.2, fun _ => hg.1.1, fun _ => size0 hg.1.2, fun h => absurd c3 h⟩
          · rw [if_neg c3] at hg
            cases hg
    have loop : ∀ (d i : Nat), v.f3.length - i ≤ d → i ≤ v.f3.length → Ev (fun k => ploverref02_Clean.l0 k (i : Int) v.f0 v.f1 v.f2 v.f3) true := by
      intro d
      have fin : ∀ i : Nat, i = v.f3.length → Ev (fun k => ploverref02_Clean.l0 k (i : Int) v.f0 v.f1 v.f2 v.f3) true := by
        intro i hi
        refine Ev.step (f := fun _ => some true) (fun k => ?_) (Ev.now _)
        simp only [ploverref02_Clean.l0]
        rw [if_neg (by omega)]
      induction d with
      | zero => intro i h1 h2; exact fin i (by omega)
      | succ d ihd =>
        intro i h1 h2
        by_cases hlt : i < v.f3.length
        · have hmem := List.getElem_mem hlt
          have hx := ih v.f3[i] (by have := wt_mem hmem; omega) (by omega) (gud_mem hmem hgs.1)
          have hn := ihd (i + 1) (by omega) (by omega)
          refine Ev.step (f := fun k => (ploverref02_Clean.f k v.f3[i].f0 v.f3[i].f1 v.f3[i].f2 v.f3[i].f3).bind fun q => if q = true then ploverref02_Clean.l0 k ((i + 1 : Nat) : Int) v.f0 v.f1 v.f2 v.f3 else some false) (fun k => ?_) (Ev.bind hx (Ev.congr (fun k => if_pos rfl) hn))
          simp only [ploverref02_Clean.l0]
          rw [if_pos (by omega), if_pos (by omega), rd_at _ _ hlt, w64 (n := (i : Int) + 1) (by omega) (by omega)]
          rfl
        · exact fin i (by omega)
    exact clean_go _ _ _ _ hgs.2.1 hgs.2.2.1 hgs.2.2.2 (loop v.f3.length 0 (by omega) (by omega))
mutual
theorem sam_nrm : ∀ (a b : V), kin a = true → kin b = true → nrm a = nrm b → sam a b = true
  | ⟨k, n, s, L⟩, b, ha, hb, h => by
    rw [kin] at ha
    rw [kin_eq] at hb
    rw [nrm, nrm_eq b] at h
    rw [sam]
    by_cases c1 : k = 1
    · rw [if_pos c1] at ha h
      by_cases d1 : b.f0 = 1
      · rw [if_pos d1] at h
        rw [if_pos (by omega), if_pos c1]
        have := congrArg (·.f1) h
        exact beq_iff_eq.2 this
      · rw [if_neg d1] at h
        have := congrArg (·.f0) h
        split at this <;> cases this
    · rw [if_neg c1] at ha h
      by_cases c2 : k = 2
      · rw [if_pos c2] at ha h
        by_cases d1 : b.f0 = 1
        · rw [if_pos d1] at h; have := congrArg (·.f0) h; cases this
        · rw [if_neg d1] at h
          by_cases d2 : b.f0 = 2
          · rw [if_pos d2] at h
            rw [if_pos (by omega), if_neg c1, if_pos c2]
            have := congrArg (·.f2) h
            exact beq_iff_eq.2 (congrArg ByteArray.toList this)
          · rw [if_neg d2] at h; have := congrArg (·.f0) h; cases this
      · rw [if_neg c2] at ha h
        by_cases d1 : b.f0 = 1
        · rw [if_pos d1] at h; have := congrArg (·.f0) h; cases this
        · rw [if_neg d1] at h hb
          by_cases d2 : b.f0 = 2
          · rw [if_pos d2] at h; have := congrArg (·.f0) h; cases this
          · rw [if_neg d2] at h hb
            by_cases c3 : k = 3
            · rw [if_pos c3] at ha
              by_cases d3 : b.f0 = 3
              · rw [if_pos d3] at hb
                rw [if_pos (by omega), if_neg c1, if_neg c2]
                exact sams_nrm L b.f3 ha hb (congrArg (·.f3) h)
              · rw [if_neg d3] at hb; cases hb
            · rw [if_neg c3] at ha; cases ha
theorem sams_nrm : ∀ (a b : List V), kins a = true → kins b = true → nrms a = nrms b → sams a b = true
  | [], [], _, _, _ => sams_nil
  | x :: xs, y :: ys, ha, hb, h => by
    rw [kins_cons, Bool.and_eq_true] at ha hb
    rw [nrms_cons, nrms_cons] at h
    injection h with h1 h2
    rw [sams_cons, sam_nrm x y ha.1 hb.1 h1, sams_nrm xs ys ha.2 hb.2 h2]
    rfl
  | [], y :: ys, _, _, h => by rw [nrms_nil, nrms_cons] at h; cases h
  | x :: xs, [], _, _, h => by rw [nrms_nil, nrms_cons] at h; cases h
end
mutual
theorem sam_self : ∀ (a : V), sam a (nrm a) = kin a ∨ kin a = false
  | ⟨k, n, s, L⟩ => by
    rw [sam, nrm, kin]
    by_cases c1 : k = 1
    · subst c1; simp [intV]
    · by_cases c2 : k = 2
      · subst c2; simp [strV]
      · by_cases c3 : k = 3
        · subst c3
          have := sams_self L
          simpa [lisV] using this
        · right; rw [if_neg c1, if_neg c2, if_neg c3]
theorem sams_self : ∀ (a : List V), sams a (nrms a) = kins a ∨ kins a = false
  | [] => by left; rw [nrms_nil, sams_nil, kins_nil]
  | x :: xs => by
    rw [nrms_cons, sams_cons, kins_cons]
    rcases sam_self x with h | h
    · rcases sams_self xs with h2 | h2
      · left; rw [h, h2]
      · right; rw [h2, Bool.and_false]
    · right; rw [h, Bool.false_and]
end
theorem sam_back {v : V} (h : kin v = true) : sam v (nrm v) = true := by
  rcases sam_self v with h2 | h2
  · rw [h2, h]
  · rw [h2] at h; cases h
end Go.Proofs.YtcdfedbecgfanaaDoor.Pure
namespace Go.Proofs.YtcdfedbecgfanaaDoor
open Go.RowKit
def Veil (p : Prop) : Prop := Unit → p
theorem Veil.out {p : Prop} (h : Veil p) : p := h ()
def Blk (w : World) (b : Nat) (c : Array Value) (t : TypeId) : Prop := w.heap[b]? = some (.cells c t (0, 0))
theorem Blk.lt {w : World} {b : Nat} {c : Array Value} {t : TypeId} (h : Blk w b c t) : b < w.heap.size := (Array.getElem?_eq_some_iff.1 h).1
theorem Blk.cell {w : World} {b : Nat} {c : Array Value} {t : TypeId} (h : Blk w b c t) (i : Nat) : w.cell? ⟨b, i, none⟩ = c[i]? := by
  unfold Blk at h
  simp [World.cell?, h]
theorem Blk.free {w : World} {b : Nat} {c : Array Value} {t : TypeId} (h : Blk w b c t) (i : Nat) : w.frozen? ⟨b, i, none⟩ = false := by
  unfold Blk at h
  simp [World.frozen?, h]
theorem Blk.new (w : World) (c : Array Value) (t : TypeId) : Blk (w.alloc (.cells c t)) w.heap.size c t := by
  show (w.heap.push _)[w.heap.size]? = _
  rw [Array.getElem?_push, if_pos rfl]
theorem Blk.alloc {w : World} {b : Nat} {c : Array Value} {t : TypeId} (h : Blk w b c t) (o : Obj) : Blk (w.alloc o) b c t := by
  have := h.lt
  unfold Blk at *
  rw [Below.heap_alloc _ _ _ this]; exact h
theorem Blk.drew {w : World} {b : Nat} {c : Array Value} {t : TypeId} (h : Blk w b c t) : Blk w.drew b c t := h
theorem Blk.set {w : World} {b : Nat} {c : Array Value} {t : TypeId} (h : Blk w b c t) (i : Nat) (v : Value) : Blk (w.setCell ⟨b, i, none⟩ v) b (c.setIfInBounds i v) t := by
  unfold Blk at *
  simp [World.setCell, Array.getElem?_modify, h]
theorem Blk.below {w w' : World} {B b : Nat} {c : Array Value} {t : TypeId} (h : Blk w b c t) (hb : Below B w w') (hB : b < B) : Blk w' b c t := by
  unfold Blk at *
  rw [hb.block b hB]; exact h
def BlkM (w : World) (b : Nat) (c : Array Value) (t : TypeId) (f : Nat × Nat) : Prop := w.heap[b]? = some (.cells c t f)
theorem BlkM.lt {w : World} {b : Nat} {c : Array Value} {t : TypeId} {f : Nat × Nat} (h : BlkM w b c t f) : b < w.heap.size := (Array.getElem?_eq_some_iff.1 h).1
theorem BlkM.cell {w : World} {b : Nat} {c : Array Value} {t : TypeId} {f : Nat × Nat} (h : BlkM w b c t f) (i : Nat) : w.cell? ⟨b, i, none⟩ = c[i]? := by
  unfold BlkM at h
  simp [World.cell?, h]
theorem BlkM.free {w : World} {b : Nat} {c : Array Value} {t : TypeId} {f : Nat × Nat} (h : BlkM w b c t f) {i : Nat} (hi : i < f.1) : w.frozen? ⟨b, i, none⟩ = false := by
  unfold BlkM at h
  simp [World.frozen?, h]
  omega
theorem BlkM.new (w : World) (c : Array Value) (t : TypeId) (f : Nat × Nat) : BlkM (w.alloc (.cells c t f)) w.heap.size c t f := by
  show (w.heap.push _)[w.heap.size]? = _
  rw [Array.getElem?_push, if_pos rfl]
theorem BlkM.alloc {w : World} {b : Nat} {c : Array Value} {t : TypeId} {f : Nat × Nat} (h : BlkM w b c t f) (o : Obj) : BlkM (w.alloc o) b c t f := by
  have := h.lt
  unfold BlkM at *
  rw [Below.heap_alloc _ _ _ this]; exact h
theorem BlkM.drew {w : World} {b : Nat} {c : Array Value} {t : TypeId} {f : Nat × Nat} (h : BlkM w b c t f) : BlkM w.drew b c t f := h
theorem BlkM.set {w : World} {b : Nat} {c : Array Value} {t : TypeId} {f : Nat × Nat} (h : BlkM w b c t f) (i : Nat) (v : Value) : BlkM (w.setCell ⟨b, i, none⟩ v) b (c.setIfInBounds i v) t f := by
  unfold BlkM at *
  simp [World.setCell, Array.getElem?_modify, h]
theorem BlkM.below {w w' : World} {B b : Nat} {c : Array Value} {t : TypeId} {f : Nat × Nat} (h : BlkM w b c t f) (hb : Below B w w') (hB : b < B) : BlkM w' b c t f := by
  unfold BlkM at *
  rw [hb.block b hB]; exact h
def Later (w : World) : Type := { v : World // Below w.heap.size w v }
instance (w : World) : Nonempty (Later w) := ⟨⟨w, Below.refl _ _⟩⟩
theorem Later.call {P : Program} {f : FuncId} {args : Array Value} {w : World} {v : Value} {x : Later w}
    (h : Calls P f args x.1 fun e w' => e = .returned v ∧ Below x.1.heap.size x.1 w') : Calls P f args x.1 fun e w' => e = .returned v ∧ ∃ y : Later w, w' = y.1 :=
  h.mono fun _ w' ⟨he, hb⟩ => ⟨he, ⟨w', x.2.trans (hb.mono x.2.size)⟩, rfl⟩
theorem Later.cell {w : World} (x : Later w) {p : Addr} (hp : p.block < w.heap.size) : x.1.cell? p = w.cell? p := x.2.cell hp
end Go.Proofs.YtcdfedbecgfanaaDoor
namespace Go.Proofs.YtcdfedbecgfanaaDoor.Pure
open Go.RowKit Go.Lib Go.Proofs.YtcdfedbecgfanaaDoor.Giv Go.Proofs.YtcdfedbecgfanaaDoor.P Go.Proofs.YtcdfedbecgfanaaDoorW.PrintWords Go.Proofs.YtcdfedbecgfanaaDoorW.PrintLast Go.Proofs.YtcdfedbecgfanaaDoorW.PrintMore
set_option linter.unusedVariables false
set_option linter.unusedSimpArgs false
theorem fit_of {v : V} (ho : okV v = true) (hw : wt v ≤ 70368744177664) : fitV v = true := by unfold fitV; rw [ho, decide_eq_true hw]; rfl
theorem bytes_lit (l : List UInt8) : (⟨l.toArray⟩ : ByteArray).data.toList = l := by simp
theorem putM_of {v : V} (hk : kin v = true) (hd : dep v ≤ 8) (hl : (enc v).length ≤ 65536) : putM v = (⟨(enc v).toArray⟩, 0) := by
  have e : chk v 0 = 0 := by rw [chk_top, if_pos hk, if_neg (show ¬ 8 < dep v by omega)]
  unfold putM
  rw [if_pos e, if_pos hl]
theorem takeM_back {v : V} (hk : kin v = true) (ho : okV v = true) (hd : dep v ≤ 8) (hl : (enc v).length ≤ 65536) (rest : List UInt8) : takeM ⟨(enc v ++ rest).toArray⟩ = (nrm v, ((enc v).length : Int), 0) := by
  have hb := back (wt v) v (Nat.le_refl _) hk ho (tok_of_len v (by omega)) 8 hd rest
  unfold takeM
  rw [bytes_lit, hb]
  simp only [if_true]
  rw [if_pos hl]
def v0 : V := lisV [intV 12, strV ⟨#[97, 98]⟩]
theorem enc_v0 : enc v0 = [108, 105, 49, 50, 101, 50, 58, 97, 98, 101] := by
  unfold v0
  have h12 : itoa 12 = [49, 50] := by
    rw [itoa_pos (by decide), show (12 : Int).toNat = 12 from rfl, dd_big (by decide), dd_small (by decide)]
    rfl
  have h2 : itoa (((⟨#[97, 98]⟩ : ByteArray).size : Nat) : Int) = [50] := by
    rw [itoa_pos (by decide)]
    show decDigits 2 = _
    rw [dd_small (by decide)]
    rfl
  rw [enc_lis, encs_cons, encs_cons, encs_nil, enc_int, enc_str, h12, h2]
  rfl
theorem v0_facts : kin v0 = true ∧ okV v0 = true ∧ dep v0 ≤ 8 ∧ wt v0 ≤ 1000 := by
  unfold v0
  refine ⟨?_, ?_, ?_, ?_⟩
  · rw [kin_lis, kins_cons, kins_cons, kins_nil, kin_int, kin_str]; rfl
  · refine ok_lis ((okVs_cons _ _).2 ⟨ok_int (by decide) (by decide), (okVs_cons _ _).2 ⟨ok_str _, okVs_nil⟩⟩)
  · rw [dep_lis, deps_cons, deps_cons, deps_nil, dep_int, dep_str]; omega
  · rw [wt_eq]
    unfold lisV
    rw [wts_cons, wts_cons, wts_nil, wt_eq, wt_eq]
    unfold intV strV
    rw [wts_nil]
    decide
theorem awake_ev : Ev (fun k => ploverlaw02_awake.f k) true := by
  obtain ⟨hk, ho, hd, hw⟩ := v0_facts
  unfold ploverlaw02_awake.f
  have hput : benc_Put.f 3 0 (⟨#[]⟩ : ByteArray) [(⟨1, 12, (⟨#[]⟩ : ByteArray), ([] : List V)⟩ : V), (⟨2, 0, (⟨#[97, 98]⟩ : ByteArray), ([] : List V)⟩ : V)] = some (⟨#[108, 105, 49, 50, 101, 50, 58, 97, 98, 101]⟩, 0) := by
    have h := put_yes (fit_of ho (by omega))
    rw [putM_of hk hd (by rw [enc_v0]; decide), enc_v0] at h
    exact h
  have htake : benc_Take.f (⟨#[108, 105, 49, 50, 101, 50, 58, 97, 98, 101, 120]⟩ : ByteArray) = some (flat (nrm v0, 10, 0)) := by
    have h := takeM_back hk ho hd (by rw [enc_v0]; decide) [120]
    rw [enc_v0] at h
    rw [take_yes (by decide)]
    exact congrArg (fun x => some (flat x)) h
  have hs := same_ev (wt v0) v0 (nrm v0) (Nat.le_refl _) (by omega) (by
    unfold v0
    rw [nrm_eq]
    show wt (lisV (nrms [intV 12, strV ⟨#[97, 98]⟩])) ≤ _
    rw [nrms_cons, nrms_cons, nrms_nil, nrm_eq, nrm_eq]
    show wt (lisV [intV 12, strV ⟨#[97, 98]⟩]) ≤ _
    have := v0_facts.2.2.2
    unfold v0 at this
    omega)
  rw [sam_back hk] at hs
  refine Ev.congr (fun k => Option.bind_some _ _) ?_
  refine Ev.congr (fun k => by rw [hput, Option.bind_some, htake, Option.bind_some]) ?_
  refine Ev.congr (fun k => if_pos (by rw [toList_data])) ?_
  refine Ev.congr (fun k => if_pos rfl) ?_
  exact Ev.bind hs (Ev.congr (fun k => by rw [if_pos rfl]; exact if_pos rfl) (Ev.now _))
theorem takeM_zero {s : ByteArray} (h : (takeM s).2.2 ≠ 0) : (takeM s).1 = zV ∧ (takeM s).2.1 = 0 := by
  unfold takeM at h ⊢
  by_cases c : (valL 8 s.data.toList).1 = 0
  · rw [if_pos c] at h ⊢
    by_cases c2 : (valL 8 s.data.toList).2.2 ≤ 65536
    · rw [if_pos c2] at h; exact absurd rfl h
    · rw [if_neg c2]; exact ⟨rfl, rfl⟩
  · rw [if_neg c]; exact ⟨rfl, rfl⟩
theorem takeM_fore {s : ByteArray} (h : (takeM s).2.2 = 0) : ∃ n : Nat, (takeM s).2.1 = (n : Int) ∧ 2 ≤ n ∧ n ≤ s.size ∧ enc (takeM s).1 = s.data.toList.take n ∧ kin (takeM s).1 = true ∧ dep (takeM s).1 ≤ 8 ∧ okV (takeM s).1 = true ∧ n ≤ 65536 ∧ wt (takeM s).1 ≤ 15 * n ∧ gud (takeM s).1 = true := by
  unfold takeM at h ⊢
  by_cases c : (valL 8 s.data.toList).1 = 0
  · rw [if_pos c] at h ⊢
    by_cases c2 : (valL 8 s.data.toList).2.2 ≤ 65536
    · rw [if_pos c2]
      obtain ⟨f1, f2, f3, f4⟩ := fore 8 _ c
      obtain ⟨u1, u2⟩ := valL_used 8 _ c
      rw [data_size] at u2
      exact ⟨_, rfl, u1, u2, f1, f2, f3, f4, c2, valL_wt 8 _ c, valL_gud 8 _ c⟩
    · rw [if_neg c2] at h; cases h
  · rw [if_neg c] at h; exact absurd h c
end Go.Proofs.YtcdfedbecgfanaaDoor.Pure
namespace Go.Proofs.YtcdfedbecgfanaaDoor.Pure
open Go.RowKit Go.Lib Go.Proofs.YtcdfedbecgfanaaDoor.Giv Go.Proofs.YtcdfedbecgfanaaDoor.P Go.Proofs.YtcdfedbecgfanaaDoorW.PrintWords Go.Proofs.YtcdfedbecgfanaaDoorW.PrintLast Go.Proofs.YtcdfedbecgfanaaDoorW.PrintMore
set_option linter.unusedVariables false
set_option linter.unusedSimpArgs false
theorem clean_zero : Ev (fun k => ploverref02_Clean.f k zV.f0 zV.f1 zV.f2 zV.f3) true := by
  refine clean_go _ _ _ _ (fun _ => rfl) (fun _ => rfl) (fun _ => rfl) ?_
  refine Ev.step (f := fun _ => some true) (fun k => ?_) (Ev.now _)
  simp only [ploverref02_Clean.l0]
  rw [if_neg (by decide)]
theorem wt_zV : wt zV = 30 := by
  rw [wt_eq]
  unfold zV
  rw [wts_nil]
  rfl
theorem took {s : ByteArray} (h : s.size ≤ 8192) (x : V) (hx : x = zV ∨ x = (takeM s).1) : wt x ≤ 122880 ∧ sam x x = true ∧ Ev (fun k => ploverref02_Clean.f k x.f0 x.f1 x.f2 x.f3) true := by
  have z : x = zV → wt x ≤ 122880 ∧ sam x x = true ∧ Ev (fun k => ploverref02_Clean.f k x.f0 x.f1 x.f2 x.f3) true := by
    rintro rfl
    refine ⟨by rw [wt_zV]; omega, ?_, clean_zero⟩
    rw [sam_eq]
    unfold zV
    rfl
  rcases hx with hx | hx
  · exact z hx
  · by_cases he : (takeM s).2.2 = 0
    · obtain ⟨n, e1, e2, e3, e4, e5, e6, e7, e8, e9, e10⟩ := takeM_fore he
      rw [← hx] at e5 e9 e10
      exact ⟨by omega, sam_nrm x x e5 e5 rfl, clean_ev (wt x) x (Nat.le_refl _) (by omega) e10⟩
    · exact z (hx.trans (takeM_zero he).1)
theorem BencTakes : ploverlaw02_BencTakes.Pure := by
  intro s hs
  refine Ev.rounds ?_
  unfold ploverlaw02_BencTakes.f
  by_cases hl : (s.size : Int) > 8192
  · exact Ev.congr (fun k => if_pos hl) (Ev.bind awake_ev (Ev.now _))
  · refine Ev.congr (fun k => if_neg hl) ?_
    obtain ⟨a1, a2, a3⟩ := took (s := s) (by omega) (takeM s).1 (.inr rfl)
    obtain ⟨b1, b2, b3⟩ := took (s := s) (by omega) (onlyM s).1 (by unfold onlyM; split <;> first | (split <;> first | exact .inl rfl | exact .inr rfl) | exact .inl rfl)
    have r1 := refTake_ev s (by omega)
    have r2 := refOnly_ev s (by omega)
    have s1 := same_ev _ (takeM s).1 (takeM s).1 (Nat.le_refl _) (by omega) (by omega)
    have s2 := same_ev _ (onlyM s).1 (onlyM s).1 (Nat.le_refl _) (by omega) (by omega)
    rw [a2] at s1
    rw [b2] at s2
    rw [take_yes (by omega), only_yes (by omega)]
    revert r1 r2 s1 s2 a3 b3
    generalize takeM s = T
    generalize onlyM s = O
    obtain ⟨x, n, e⟩ := T
    obtain ⟨y, g⟩ := O
    intro a3 b3 r1 r2 s1 s2
    unfold flat flat5 at *
    simp only [Option.bind_some]
    refine Ev.bind r1 ?_
    refine Ev.bind r2 ?_
    refine Ev.bind s1 (Ev.congr (fun k => if_pos rfl) ?_)
    refine Ev.bind a3 (Ev.congr (fun k => if_pos rfl) (Ev.congr (fun k => if_pos rfl) (Ev.congr (fun k => if_pos rfl) ?_)))
    refine Ev.bind s2 (Ev.congr (fun k => if_pos rfl) ?_)
    refine Ev.bind b3 (Ev.congr (fun k => if_pos rfl) (Ev.congr (fun k => if_pos rfl) ?_))
    exact Ev.bind awake_ev (Ev.now _)
end Go.Proofs.YtcdfedbecgfanaaDoor.Pure
namespace Go.Proofs.YtcdfedbecgfanaaDoor.Lay
open Go.RowKit Go.Lib
def LL : List (String × DataW Unit) := [("math/bits.deBruijn32tab", Rows.laid_math_bits_deBruijn32tab), ("math/bits.deBruijn64tab", Rows.laid_math_bits_deBruijn64tab), ("internal/strconv.uint64pow10", Rows.laid_internal_strconv_uint64pow10)]
def cellsOf : DataW Unit → List Value
  | .agg l => l.map fun | .lit (.int k z) => .int k z | _ => .nilIface
  | _ => []
noncomputable def laidWorld (os : Os) : World :=
  let w0 := World.holding Tryd.prog os ⟨#[], #[], []⟩
  let put (h : Array Obj) (g : Nat) (cs : Array Value) : Array Obj := h.modify g fun
    | .cells _ t frozen => .cells cs t frozen
    | o => o
  let h1 := put w0.heap 1 (cellsOf Rows.laid_math_bits_deBruijn32tab).toArray
  let h2 := put h1 2 (cellsOf Rows.laid_math_bits_deBruijn64tab).toArray
  let h3 := put h2 0 (cellsOf Rows.laid_internal_strconv_uint64pow10).toArray
  { w0 with heap := h3 }
theorem laid_met (os : Os) (args : Array Value) : laidMet Tryd.prog LL ((laidWorld os).forCall (fun _ _ => 0) ⟨#[], args, []⟩).memory :=
  (LaidIn.of_run (l := LL) [1, 2, 0] 8 (by kernel_rfl) (by kernel_rfl) (by kernel_rfl) (by kernel_rfl)).met
theorem eqP : (Rows.laid_internal_strconv_uint64pow10 : DataW Unit) = Lib.tabData .u64 Lib.pow10Tab := by kernel_rfl
theorem tabIs_of_reads {name : String} {k : IntKind} {zs : List Int} {W : World} {g : Nat} {t e : TypeId} {n : Nat} (hg : Tryd.prog.globalNamed name = some g) (hty : (Tryd.prog.globals[g]?).map (·.type) = some t) (ht : Tryd.prog.underlying t = some (.array n e)) (he : Tryd.prog.underlying e = some (.int k)) (hce : Tryd.prog.cellsOf e = 1) (hct : Tryd.prog.cellsOf t = n)
    (h : VarReads Tryd.prog W name (tabData k zs)) : Lib.TabIs Tryd.prog W name k zs := by
  obtain ⟨g', t', cs, fuel, p, h1, h2, h3, h4⟩ := h
  obtain rfl : g' = g := by rw [hg] at h1; exact (Option.some.inj h1).symm
  obtain rfl : t' = t := by rw [hty] at h2; exact (Option.some.inj h2).symm
  have := cells_of_tab ht he hce hct h4
  unfold Lib.TabIs
  rw [h3]
  congr 1
  apply Array.toList_inj.1
  rw [this]
theorem laidW_of {W : World} (hL : laidMetH Tryd.prog LL W) : Giv.LaidW W := by
  have h1 := Lib.laidMet.reads hL (.tail _ (.tail _ (.head _)))
  rw [eqP] at h1
  exact tabIs_of_reads (t := 83) (e := 76) (n := 20) Giv.pow10_named (by kernel_rfl) Tryd.underlying83 Tryd.underlying76 (by kernel_rfl) (by kernel_rfl) h1
theorem own : ownKnob Tryd.prog.godebug = none := by kernel_rfl
theorem laidOut : laidOutB Tryd.prog = true := by kernel_rfl
end Go.Proofs.YtcdfedbecgfanaaDoor.Lay
