/- The walk of the law on cuts, over a row of strings. -/
import Derived.Test.YtifbpchakoljaaaDoorFrmC
namespace Go.Proofs.YtifbpchakoljaaaDoor.CutsW
open Go.RowKit Go.Lib Go.Proofs.YtifbpchakoljaaaDoor.Giv Go.Proofs.YtifbpchakoljaaaDoor.C Go.Proofs.YtifbpchakoljaaaDoorW.PrintWords Go.Proofs.YtifbpchakoljaaaDoorW.PrintLast Go.Proofs.YtifbpchakoljaaaDoorW.PrintMore
set_option linter.unusedVariables false

def IsRowS (w : World) (a : Option Addr) (len cap : Nat) (zs : List ByteArray) : Prop :=
  (a = none ∧ len = 0 ∧ cap = 0 ∧ zs = []) ∨ ∃ x, a = some x ∧ len ≤ cap ∧ cap ≤ maxLen ∧ zs.length = cap ∧ ∀ i, i < zs.length → w.cell? (x.add i) = some (.string (zs.getD i ByteArray.empty))
theorem walk (a0 : Option Addr) (len0 cap0 : Nat) (z0 : List ByteArray) (a1 : Int) (w : World) (hL : LaidW w) (w0 : IsRowS w a0 len0 cap0 z0) :
    Calls Tryd.prog 5 #[.slice a0 len0 cap0, .int .i64 a1] w fun e w' => e = .returned (.bool true) ∧ Below w.heap.size w w' := by
  have key : ∃ l0 : List ByteArray, l0.length = len0 ∧ ReadsOf Value.string ByteArray.empty w a0 l0.length l0 ∧ len0 ≤ cap0 := by
    rcases w0 with ⟨rfl, rfl, rfl, rfl⟩ | ⟨x, rfl, h1, h2, h3, h4⟩
    · exact ⟨[], rfl, ⟨rfl, by simp, fun h => absurd h (Nat.lt_irrefl 0)⟩, Nat.le_refl _⟩
    · have hm : maxLen = 9223372036854775807 := rfl
      refine ⟨z0.take len0, by rw [List.length_take]; omega, ⟨rfl, by rw [List.length_take]; omega, fun h => ⟨x, rfl, fun i hi => ?_⟩⟩, h1⟩
      rw [List.length_take] at hi
      rw [h4 i (by omega)]
      simp [List.getD_eq_getElem?_getD, List.getElem?_take_of_lt (show i < len0 by omega)]
  obtain ⟨l0, rfl, hr0, hc0⟩ := key
  obtain ⟨k, h⟩ := PureC.FrameCuts l0 a1
  exact ploverlaw04_FrameCuts.calls k a0 cap0 l0 a1 true w hL (Kd.C_of_reads (d := ByteArray.empty) (h1 := fun _ => rfl) hr0) hc0 h
end Go.Proofs.YtifbpchakoljaaaDoor.CutsW
