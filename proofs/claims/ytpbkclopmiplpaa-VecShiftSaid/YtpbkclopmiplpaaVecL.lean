/- The walks of two laws of layer 5. -/
import Derived.Test.YtpbkclopmiplpaaVecR
namespace Go.Proofs.Ytpbkclopmiplpaa
open Go.RowKit

set_option maxHeartbeats 400000 in
theorem vecAwake_any (w : World) :
    Calls Try.prog 22 #[] w fun e w' => e = .returned (.bool true) ∧ Below w.heap.size w w' := by
  go_enter Try.func22, Try.ntmps22
  go_wp2_with fail
  have b1 := Blk.new w #[.int .i64 1, .int .i64 2] 3
  have b2 := Blk.new (w.alloc (.cells #[.int .i64 1, .int .i64 2] 3)) #[.int .i64 (-1), .int .i64 5] 3
  have r1 : IntRow ((w.alloc (.cells #[.int .i64 1, .int .i64 2] 3)).alloc (.cells #[.int .i64 (-1), .int .i64 5] 3)) (some ⟨w.heap.size, 0, none⟩) [1, 2] :=
    IntRow.blk (b1.alloc _) (fun i hi => by match i, hi with | 0, _ => rfl | 1, _ => rfl) (by decide) (by decide)
  have r2 : IntRow ((w.alloc (.cells #[.int .i64 1, .int .i64 2] 3)).alloc (.cells #[.int .i64 (-1), .int .i64 5] 3)) (some ⟨w.heap.size + 1, 0, none⟩) [-1, 5] := by
    have := IntRow.blk (xs := [-1, 5]) b2 (fun i hi => by match i, hi with | 0, _ => rfl | 1, _ => rfl) (by decide) (by decide)
    simpa using this
  have R1 := veil r1
  have R2 := veil r2
  clear b1 b2 r1 r2
  refine (dist_any _ _ [1, 2] [-1, 5] _ _ _ R1.out R2.out 5 0 (by decide)).mono ?_
  rintro e w1 ⟨rfl, hb1⟩
  have hsz := hb1.size
  simp only [World.size_alloc] at hsz
  have Hb1 : Veil (Below w.heap.size w w1) := veil ((((Below.refl _ _).alloc (Nat.le_refl _) _).alloc (by simp) _).trans (hb1.mono (by simp; omega)))
  clear hb1 R1 R2
  go_wp2_with fail
  have b3 := Blk.new w1 #[.int .i64 1] 3
  have R3 : Veil (IntRow (w1.alloc (.cells #[.int .i64 1] 3)) (some ⟨w1.heap.size, 0, none⟩) [1]) :=
    veil (IntRow.blk b3 (fun i hi => by match i, hi with | 0, _ => rfl) (by decide) (by decide))
  clear b3
  refine (check_any _ [1] _ 2 _ 50 R3.out (by decide)).mono ?_
  rintro e w2 ⟨rfl, rfl⟩
  go_wp2
  go_ret
  exact ⟨rfl, Hb1.out.alloc (by omega) _⟩

set_option maxHeartbeats 1000000 in
theorem VecDists_core (ao bo : Option Addr) (a b : List Int) (ca cb : Nat) (d : Int) (w : World) (ha : IntRow w ao a) (hb : IntRow w bo b) :
    Calls Try.prog 6 #[.slice ao a.length ca, .slice bo b.length cb, .int .i64 d] w fun e w' => e = .returned (.bool true) ∧ Below w.heap.size w w' := by
  obtain ⟨p, q, hpq⟩ : ∃ p q, distV a b = (p, q) := ⟨_, _, rfl⟩
  obtain ⟨c, hc⟩ : ∃ c : Int, (if isV a = true ∧ (a.length : Int) = d then 0 else 50) = c := ⟨_, rfl⟩
  have Ha := veil ha
  have Hb := veil hb
  have Hpq := veil hpq
  have Hc := veil hc
  clear ha hb hpq hc
  go_enter Try.func6, Try.ntmps6
  go_wp2_with fail
  refine (dist_any _ _ _ _ _ _ _ Ha.out Hb.out p q Hpq.out).mono ?_
  rintro e w1 ⟨rfl, hb1⟩
  have Hb1 := veil hb1
  clear hb1
  go_wp2_with fail
  refine (refDist_any _ _ _ _ _ _ _ (Ha.out.below Hb1.out) (Hb.out.below Hb1.out) p q Hpq.out).mono ?_
  rintro e w2 ⟨rfl, hb2⟩
  have Hb2 : Veil (Below w.heap.size w w2) := veil (Hb1.out.trans (hb2.mono Hb1.out.size))
  clear hb2
  go_wp2_with fail
  refine (check_any _ _ _ _ _ c (Ha.out.below Hb2.out) Hc.out).mono ?_
  rintro e w3 ⟨rfl, rfl⟩
  go_wp2_with fail
  refine (refCheck_any _ _ _ _ _ c (Ha.out.below Hb2.out) Hc.out).mono ?_
  rintro e w3 ⟨rfl, rfl⟩
  go_wp2_with fail
  refine (vecAwake_any _).mono ?_
  rintro e w3 ⟨rfl, hb3⟩
  go_wp2
  go_ret
  exact ⟨rfl, Hb2.out.trans (hb3.mono Hb2.out.size)⟩

theorem VecDists_walk (ao : Option Addr) (al ac : Nat) (az : List Int) (bo : Option Addr) (bl bc : Nat) (bz : List Int) (d : Int) (w : World) (ha : IsRow .i64 w ao al ac az) (hb : IsRow .i64 w bo bl bc bz) (_hd : (Lit.int .i64 d).wf = true) :
    Calls Try.prog 6 #[.slice ao al ac, .slice bo bl bc, .int .i64 d] w fun e w' => e = .returned (.bool true) ∧ Below w.heap.size w w' := by
  obtain ⟨a, rfl, ra⟩ := ha.row
  obtain ⟨b, rfl, rb⟩ := hb.row
  exact VecDists_core ao bo a b ac bc d w ra rb
end Go.Proofs.Ytpbkclopmiplpaa
