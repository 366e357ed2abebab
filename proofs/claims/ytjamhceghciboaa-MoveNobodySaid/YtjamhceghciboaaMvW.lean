/- The walks of a move's code. -/
import Derived.Test.YtjamhceghciboaaProg
import Derived.Test.YtjamhceghciboaaMvM
import Derived.WalkSpells
import Derived.WalkLawsBesides
import Derived.Handy
namespace Go.Proofs.Ytjamhceghciboaa
open Go.RowKit

def MoveAt (w : World) (b : Nat) (m : MoveS) : Prop := Blk w b m.cells 62

set_option maxHeartbeats 400000 in
theorem phase_any (b : Nat) (m : MoveS) (w : World) (h : MoveAt w b m) :
    Calls Try.prog 18 #[.pointer (some ⟨b, 0, none⟩)] w fun e w' => e = .returned (.int .i64 m.ph) ∧ w = w' := by
  have h5 : w.cell? ⟨b, 5, none⟩ = some (.int .i64 m.ph) := by rw [h.cell]; rfl
  clear h
  go_enter Try.func18, Try.ntmps18
  go_wp2
  go_ret
  exact ⟨rfl, rfl⟩

theorem MoveAt.all {w : World} {b : Nat} {m : MoveS} (h : MoveAt w b m) : w.cell? ⟨b, 0, none⟩ = some (.int .i64 m.num) ∧ w.cell? ⟨b, 1, none⟩ = some (.int .i64 m.epo) ∧ w.cell? ⟨b, 2, none⟩ = some (.int .i64 m.sh) ∧
    w.cell? ⟨b, 3, none⟩ = some (.int .i64 m.fr) ∧ w.cell? ⟨b, 4, none⟩ = some (.int .i64 m.to) ∧ w.cell? ⟨b, 5, none⟩ = some (.int .i64 m.ph) ∧ w.cell? ⟨b, 6, none⟩ = some (.int .i64 m.ver) ∧ w.cell? ⟨b, 7, none⟩ = some (.string m.txt) ∧ ¬ b = w.heap.size ∧ b < w.heap.size :=
  ⟨by rw [h.cell]; rfl, by rw [h.cell]; rfl, by rw [h.cell]; rfl, by rw [h.cell]; rfl, by rw [h.cell]; rfl, by rw [h.cell]; rfl, by rw [h.cell]; rfl, by rw [h.cell]; rfl, by have := h.lt; omega, h.lt⟩
end Go.Proofs.Ytjamhceghciboaa
