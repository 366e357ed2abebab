/- A move is made, or may not be: the code, and the reference. -/
import Derived.Test.YtjamhceghciboaaMvW
namespace Go.Proofs.Ytjamhceghciboaa
open Go.RowKit

def okNew (n e sh fr to : Int) : Prop := 1 ≤ n ∧ n ≤ 1099511627776 ∧ 1 ≤ e ∧ e ≤ 1099511627776 ∧ 0 ≤ sh ∧ sh < 16 ∧ 0 ≤ fr ∧ fr < 8 ∧ 0 ≤ to ∧ to < 8 ∧ fr ≠ to

set_option maxHeartbeats 400000 in
theorem node_any (n : Int) (w : World) (r : Bool) (hr : decide (0 ≤ n ∧ n < 8) = r) :
    Calls Try.prog 21 #[.int .i64 n] w fun e w' => e = .returned (.bool r) ∧ w = w' := by
  by_cases h1 : 0 ≤ n
  · by_cases h2 : n < 8
    · obtain rfl : r = true := by rw [← hr]; simp [h1, h2]
      clear hr
      go_enter Try.func21, Try.ntmps21
      go_wp2
      go_ret
      exact ⟨rfl, rfl⟩
    · obtain rfl : r = false := by rw [← hr]; simp [h1, h2]
      clear hr
      have h2' : 8 ≤ n := by omega
      go_enter Try.func21, Try.ntmps21
      go_wp2
      go_ret
      exact ⟨rfl, rfl⟩
  · obtain rfl : r = false := by rw [← hr]; simp [h1]
    clear hr
    have h1' : n < 0 := by omega
    go_enter Try.func21, Try.ntmps21
    go_wp2
    go_ret
    exact ⟨rfl, rfl⟩

def newMove (n e sh fr to : Int) : MoveS := { num := n, epo := e, sh := sh, fr := fr, to := to, ph := 1, ver := 0, txt := ⟨#[]⟩ }

set_option maxHeartbeats 1000000 in
theorem new_yes (n e sh fr to : Int) (w : World) (h : okNew n e sh fr to) :
    Calls Try.prog 8 #[.int .i64 n, .int .i64 e, .agg #[.int .i64 sh, .int .i64 fr, .int .i64 to]] w fun en w' => ∃ b, en = .returned (.tuple #[.pointer (some ⟨b, 0, none⟩), .int .i64 0]) ∧ w.heap.size ≤ b ∧ MoveAt w' b (newMove n e sh fr to) ∧ Below w.heap.size w w' := by
  obtain ⟨h1, h2, h3, h4, h5, h6, h7, h8, h9, h10, h11⟩ := h
  obtain ⟨mn, hmn, hmn1⟩ : ∃ mn, (if e < n then e else n) = mn ∧ 1 ≤ mn := ⟨_, rfl, by split <;> omega⟩
  obtain ⟨mx, hmx, hmx1⟩ : ∃ mx, (if n < e then e else n) = mx ∧ mx ≤ 1099511627776 := ⟨_, rfl, by split <;> omega⟩
  have h11' : (fr == to) = false := beq_eq_false_iff_ne.2 h11
  have N1 : Veil (decide (0 ≤ fr ∧ fr < 8) = true) := veil (decide_eq_true ⟨h7, h8⟩)
  have N2 : Veil (decide (0 ≤ to ∧ to < 8) = true) := veil (decide_eq_true ⟨h9, h10⟩)
  clear h1 h2 h3 h4 h7 h8 h9 h10 h11
  go_enter Try.func8, Try.ntmps8
  go_wp2_with fail
  refine (node_any _ _ true N1.out).mono ?_
  rintro en w1 ⟨rfl, rfl⟩
  go_wp2_with fail
  refine (node_any _ _ true N2.out).mono ?_
  rintro en w1 ⟨rfl, rfl⟩
  go_wp2
  go_ret2
  exact ⟨w.heap.size + 1, rfl, by omega, by simpa [MoveAt, newMove, MoveS.cells] using Blk.new (w.alloc (.cells #[.int .i64 sh, .int .i64 fr, .int .i64 to] 24)) (newMove n e sh fr to).cells 62, by go_grown⟩

set_option maxHeartbeats 1000000 in
theorem new_no (n e sh fr to : Int) (w : World) (h : ¬ okNew n e sh fr to) :
    Calls Try.prog 8 #[.int .i64 n, .int .i64 e, .agg #[.int .i64 sh, .int .i64 fr, .int .i64 to]] w fun en w' => en = .returned (.tuple #[.pointer none, .int .i64 1]) ∧ Below w.heap.size w w' := by
  obtain ⟨mn, hmn⟩ : ∃ mn, (if e < n then e else n) = mn := ⟨_, rfl⟩
  by_cases c1 : mn < 1
  · clear h
    go_enter Try.func8, Try.ntmps8
    go_wp2
    go_ret2
    exact ⟨rfl, by go_grown⟩
  · have c1' : 1 ≤ mn := by omega
    have g1 : 1 ≤ e ∧ 1 ≤ n := by split at hmn <;> omega
    clear c1
    obtain ⟨mx, hmx⟩ : ∃ mx, (if n < e then e else n) = mx := ⟨_, rfl⟩
    by_cases c2 : 1099511627776 < mx
    · clear h g1
      go_enter Try.func8, Try.ntmps8
      go_wp2
      go_ret2
      exact ⟨rfl, by go_grown⟩
    · have c2' : mx ≤ 1099511627776 := by omega
      have g2 : e ≤ 1099511627776 ∧ n ≤ 1099511627776 := by split at hmx <;> omega
      clear c2
      by_cases c3 : sh < 0
      · clear h g1 g2
        go_enter Try.func8, Try.ntmps8
        go_wp2
        go_ret2
        exact ⟨rfl, by go_grown⟩
      · have c3' : 0 ≤ sh := by omega
        by_cases c4 : 16 ≤ sh
        · clear h g1 g2
          go_enter Try.func8, Try.ntmps8
          go_wp2
          go_ret2
          exact ⟨rfl, by go_grown⟩
        · have c4' : sh < 16 := by omega
          clear c3 c4
          by_cases c5 : 0 ≤ fr ∧ fr < 8
          · by_cases c6 : 0 ≤ to ∧ to < 8
            · have c7 : fr = to := by
                by_cases e7 : fr = to
                · exact e7
                · exact absurd ⟨g1.2, g2.2, g1.1, g2.1, c3', c4', c5.1, c5.2, c6.1, c6.2, e7⟩ h
              subst c7
              have N1 : Veil (decide (0 ≤ fr ∧ fr < 8) = true) := veil (decide_eq_true c5)
              clear h g1 g2 c5 c6
              go_enter Try.func8, Try.ntmps8
              go_wp2_with fail
              refine (node_any _ _ true N1.out).mono ?_
              rintro en w1 ⟨rfl, rfl⟩
              go_wp2_with fail
              refine (node_any _ _ true N1.out).mono ?_
              rintro en w1 ⟨rfl, rfl⟩
              go_wp2
              go_ret2
              exact ⟨rfl, by go_grown⟩
            · have N1 : Veil (decide (0 ≤ fr ∧ fr < 8) = true) := veil (decide_eq_true c5)
              have N2 : Veil (decide (0 ≤ to ∧ to < 8) = false) := veil (decide_eq_false c6)
              clear h g1 g2 c5 c6
              go_enter Try.func8, Try.ntmps8
              go_wp2_with fail
              refine (node_any _ _ true N1.out).mono ?_
              rintro en w1 ⟨rfl, rfl⟩
              go_wp2_with fail
              refine (node_any _ _ false N2.out).mono ?_
              rintro en w1 ⟨rfl, rfl⟩
              go_wp2
              go_ret2
              exact ⟨rfl, by go_grown⟩
          · have N1 : Veil (decide (0 ≤ fr ∧ fr < 8) = false) := veil (decide_eq_false c5)
            clear h g1 g2 c5
            go_enter Try.func8, Try.ntmps8
            go_wp2_with fail
            refine (node_any _ _ false N1.out).mono ?_
            rintro en w1 ⟨rfl, rfl⟩
            go_wp2
            go_ret2
            exact ⟨rfl, by go_grown⟩
end Go.Proofs.Ytjamhceghciboaa
