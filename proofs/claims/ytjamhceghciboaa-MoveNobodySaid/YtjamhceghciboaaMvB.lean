/- The walks: that two messages are the same; what must come. -/
import Derived.Test.YtjamhceghciboaaMvA
namespace Go.Proofs.Ytjamhceghciboaa
open Go.RowKit

set_option maxHeartbeats 1000000 in
theorem same_msg (k s ep n v : Int) (t : ByteArray) (w : World) :
    Calls Try.prog 20 #[.agg (msgOf k s ep n v t), .agg (msgOf k s ep n v t)] w fun e w' => e = .returned (.bool true) ∧ Below w.heap.size w w' := by
  have X := veil (Blk.alloc (Blk.new w (msgOf k s ep n v t) 42) (.cells (msgOf k s ep n v t) 42))
  have Y := veil (Blk.new (w.alloc (.cells (msgOf k s ep n v t) 42)) (msgOf k s ep n v t) 42)
  go_enter Try.func20, Try.ntmps20
  unfold msgOf
  go_wp2_with fail
  refine (sameOp_nil _).mono ?_
  rintro e w1 ⟨rfl, hb1⟩
  have X1 := X.out.below hb1 X.out.lt
  have Y1 := Y.out.below hb1 Y.out.lt
  simp only [World.size_alloc] at Y1
  have HB : Veil (Below w.heap.size w w1) := veil ((((Below.refl _ _).alloc (Nat.le_refl _) _).alloc (by simp) _).trans (hb1.mono (by simp; omega)))
  have x11 : w1.cell? ⟨w.heap.size, 12, none⟩ = some (.int .i64 0) := X1.cell 12
  have x12 : w1.cell? ⟨w.heap.size, 13, none⟩ = some (.bool false) := X1.cell 13
  have x13 : w1.cell? ⟨w.heap.size, 14, none⟩ = some (.slice none 0 0) := X1.cell 14
  have x15 : w1.cell? ⟨w.heap.size, 15, none⟩ = some (.string t) := X1.cell 15
  have y11 : w1.cell? ⟨w.heap.size + 1, 12, none⟩ = some (.int .i64 0) := Y1.cell 12
  have y12 : w1.cell? ⟨w.heap.size + 1, 13, none⟩ = some (.bool false) := Y1.cell 13
  have y13 : w1.cell? ⟨w.heap.size + 1, 14, none⟩ = some (.slice none 0 0) := Y1.cell 14
  have y15 : w1.cell? ⟨w.heap.size + 1, 15, none⟩ = some (.string t) := Y1.cell 15
  clear hb1 X1 Y1
  go_wp2_with fail
  refine (sameHits_nil _).mono ?_
  rintro e w2 ⟨rfl, rfl⟩
  go_wp2
  go_ret
  exact ⟨rfl, HB.out⟩

theorem Move.keep {w w1 w2 : World} {b : Nat} (h : Below w.heap.size w w1) (hb : w.heap.size ≤ b) (hg : w1.grownBy w2 (some b)) : Below w.heap.size w w2 :=
  h.grown hg h.size (fun k hk => by obtain rfl := Option.some.inj hk; exact hb)

set_option maxHeartbeats 1000000 in
theorem mvAwake_any (w : World) :
    Calls Try.prog 10 #[] w fun e w' => e = .returned (.bool true) ∧ Below w.heap.size w w' := by
  go_enter Try.func10, Try.ntmps10
  go_wp2_with fail
  refine (new_yes 3 9 2 1 0 _ (by unfold okNew; omega)).mono ?_
  rintro e w1 ⟨b, rfl, hb, hm, hbel⟩
  have Hm := veil hm
  have Hb := veil hb
  have HB := veil hbel
  clear hm hb hbel
  go_wp2_with fail
  refine (phase_any b _ _ Hm.out).mono ?_
  rintro e w2 ⟨rfl, rfl⟩
  rw [show (newMove 3 9 2 1 0).ph = 1 from rfl]
  go_wp2_with fail
  refine (says_any b _ _ Hm.out).mono ?_
  rintro e w2 ⟨rfl, hb2⟩
  have B2 := veil (HB.out.trans (hb2.mono HB.out.size))
  have Hm2 := veil (Hm.out.below hb2 Hm.out.lt)
  clear hb2
  rw [show (newMove 3 9 2 1 0).saysTo = 1 from rfl, show (newMove 3 9 2 1 0).saysMsg = msgOf 7 2 0 3 0 ⟨#[]⟩ from rfl, show (newMove 3 9 2 1 0).saysOk = true from rfl]
  unfold msgOf
  go_wp2_with fail
  have B3 := veil (B2.out.alloc B2.out.size (.cells (msgOf 7 2 0 3 0 ⟨#[]⟩) 42))
  have Hm3 := veil (Hm2.out.alloc (.cells (msgOf 7 2 0 3 0 ⟨#[]⟩) 42))
  refine (hears_any b _ _ Hm3.out 1 8 2 3 0 ⟨#[116]⟩ _ _ _ _ _ _ _ _ _ _ _ { num := 3, epo := 9, sh := 2, fr := 1, to := 0, ph := 2, ver := 0, txt := ⟨#[116]⟩ } true rfl).mono ?_
  rintro e w4 ⟨rfl, hm4, hg4⟩
  have B4 := veil (Move.keep B3.out Hb.out hg4)
  have Hm4 := veil hm4
  clear hm4 hg4
  go_wp2_with fail
  refine (phase_any b _ _ Hm4.out).mono ?_
  rintro e w5 ⟨rfl, rfl⟩
  go_wp2_with fail
  refine (abort_any b _ _ Hm4.out _ 0 rfl).mono ?_
  rintro e w6 ⟨rfl, hm6, hg6⟩
  have B6 := veil (Move.keep B4.out Hb.out hg6)
  clear hm6 hg6
  go_wp2
  go_ret
  exact ⟨rfl, B6.out⟩
end Go.Proofs.Ytjamhceghciboaa
