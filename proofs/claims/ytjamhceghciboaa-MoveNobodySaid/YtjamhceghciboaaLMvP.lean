/- MoveNobody, for every input. -/
import Derived.Test.YtjamhceghciboaaMvP
import Derived.Test.YtjamhceghciboaaLeaf
namespace Go.Proofs.Ytjamhceghciboaa
open Go.RowKit

theorem agg16 {c : Array Value} (h : c.size = 16) : ∃ v0 v1 v2 v3 v4 v5 v6 v7 v8 v9 v10 v11 v12 v13 v14 v15, c = #[v0, v1, v2, v3, v4, v5, v6, v7, v8, v9, v10, v11, v12, v13, v14, v15] :=
  ⟨c[0], c[1], c[2], c[3], c[4], c[5], c[6], c[7], c[8], c[9], c[10], c[11], c[12], c[13], c[14], c[15], by
    apply Array.ext (by simp [h])
    intro i h1 h2
    have : i < 16 := by omega
    rcases i with _ | _ | _ | _ | _ | _ | _ | _ | _ | _ | _ | _ | _ | _ | _ | _ | i <;> first | rfl | omega⟩

/-- what the row hands on of a message by value -/
theorem msg_open {c : Array Value} (h : IsAgg Try.prog 42 c) (hs : c.size = Try.prog.cellsOf 42) :
    ∃ (k s n ver : Int) (t : ByteArray) (v2 v3 v4 v7 v8 v9 v10 v11 v12 v13 v14 : Value), c = msgAny k s n ver t v2 v3 v4 v7 v8 v9 v10 v11 v12 v13 v14
      ∧ (-9223372036854775808 ≤ k ∧ k ≤ 9223372036854775807) ∧ (-9223372036854775808 ≤ s ∧ s ≤ 9223372036854775807) ∧ (-9223372036854775808 ≤ n ∧ n ≤ 9223372036854775807) ∧ (-9223372036854775808 ≤ ver ∧ ver ≤ 9223372036854775807) ∧ t.size ≤ maxLen := by
  have hsz : Try.prog.cellsOf 42 = 16 := by kernel_rfl
  obtain ⟨v0, v1, v2, v3, v4, v5, v6, v7, v8, v9, v10, v11, v12, v13, v14, v15, rfl⟩ := agg16 (hs.trans hsz)
  obtain ⟨x, hx, h0⟩ := h 0 3 (by kernel_rfl)
  obtain rfl : v0 = x := by simpa using hx
  obtain ⟨k, rfl, hk⟩ := h0.int Try.underlying3
  obtain ⟨x, hx, h0⟩ := h 1 3 (by kernel_rfl)
  obtain rfl : v1 = x := by simpa using hx
  obtain ⟨s, rfl, hs1⟩ := h0.int Try.underlying3
  obtain ⟨x, hx, h0⟩ := h 5 3 (by kernel_rfl)
  obtain rfl : v5 = x := by simpa using hx
  obtain ⟨n, rfl, hn⟩ := h0.int Try.underlying3
  obtain ⟨x, hx, h0⟩ := h 6 3 (by kernel_rfl)
  obtain rfl : v6 = x := by simpa using hx
  obtain ⟨ver, rfl, hv⟩ := h0.int Try.underlying3
  obtain ⟨x, hx, h0⟩ := h 15 9 (by kernel_rfl)
  obtain rfl : v15 = x := by simpa using hx
  obtain ⟨t, rfl, ht⟩ := h0.string Try.underlying9
  exact ⟨k, s, n, ver, t, _, _, _, _, _, _, _, _, _, _, _, rfl, hk, hs1, hn, hv, ht⟩

theorem MoveNobody_walk (fr : Int) (c : Array Value) (w : World) (_ : (Lit.int .i64 fr).wf = true) (h : IsAgg Try.prog 42 c) (hs : c.size = Try.prog.cellsOf 42) :
    Calls Try.prog 6 #[.int .i64 fr, .agg c] w fun e w' => e = .returned (.bool true) ∧ Below w.heap.size w w' := by
  obtain ⟨k, s, n, ver, t, v2, v3, v4, v7, v8, v9, v10, v11, v12, v13, v14, rfl, -⟩ := msg_open h hs
  exact MoveNobody_core fr k s n ver t v2 v3 v4 v7 v8 v9 v10 v11 v12 v13 v14 w
end Go.Proofs.Ytjamhceghciboaa
