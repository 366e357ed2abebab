/- The walk of the law on a move that nobody made. -/
import Derived.Test.YtjamhceghciboaaMvB
namespace Go.Proofs.Ytjamhceghciboaa
open Go.RowKit

theorem Later.bel {w : World} (x : Later w) : Below w.heap.size w x.1 := x.2
def zeroMove : MoveS := { num := 0, epo := 0, sh := 0, fr := 0, to := 0, ph := 0, ver := 0, txt := ⟨#[]⟩ }
theorem zero_deaf (fr s n : Int) : zeroMove.takes fr s n = false := by simp [MoveS.takes, MoveS.saysOk, zeroMove]

theorem phase_zero (b : Nat) (w : World) (h : MoveAt w b zeroMove) :
    Calls Try.prog 18 #[.pointer (some ⟨b, 0, none⟩)] w fun e w' => e = .returned (.int .i64 0) ∧ w = w' := phase_any b zeroMove w h

set_option maxRecDepth 100000 in
set_option maxHeartbeats 4000000 in
theorem MoveNobody_core (fr k s n ver : Int) (t : ByteArray) (v2 v3 v4 v7 v8 v9 v10 v11 v12 v13 v14 : Value) (w : World) :
    Calls Try.prog 6 #[.int .i64 fr, .agg (msgAny k s n ver t v2 v3 v4 v7 v8 v9 v10 v11 v12 v13 v14)] w fun e w' => e = .returned (.bool true) ∧ Below w.heap.size w w' := by
  have X := veil (Blk.new w (msgAny k s n ver t v2 v3 v4 v7 v8 v9 v10 v11 v12 v13 v14) 42)
  have Z := veil (Blk.new (w.alloc (.cells (msgAny k s n ver t v2 v3 v4 v7 v8 v9 v10 v11 v12 v13 v14) 42)) zeroMove.cells 62)
  have L := veil (Blk.new ((w.alloc (.cells (msgAny k s n ver t v2 v3 v4 v7 v8 v9 v10 v11 v12 v13 v14) 42)).alloc (.cells zeroMove.cells 62)) #[.pointer none, .pointer (some ⟨w.heap.size + 1, 0, none⟩)] 26)
  go_enter Try.func6, Try.ntmps6
  unfold msgAny at *
  go_wp2_with fail
  go_loopw [6] (fun i wr => ∃ j : Nat, j ≤ 2 ∧ i = .int .i64 j ∧ Below w.heap.size w wr ∧ Blk wr w.heap.size #[.int .i64 k, .int .i64 s, v2, v3, v4, .int .i64 n, .int .i64 ver, v7, v8, v9, v10, v11, v12, v13, v14, .string t] 42 ∧ MoveAt wr (w.heap.size + 1) zeroMove ∧ Blk wr (w.heap.size + 2) #[.pointer none, .pointer (some ⟨w.heap.size + 1, 0, none⟩)] 26) (fun i _ => 2 - (intOf i).toNat)
  case atStart =>
    refine ⟨0, by omega, rfl, by go_grown, ?_, ?_, ?_⟩
    · exact (X.out.alloc _).alloc _
    · have := Z.out.alloc (.cells #[.pointer none, .pointer (some ⟨w.heap.size + 1, 0, none⟩)] 26)
      simpa [MoveAt, zeroMove, MoveS.cells] using this
    · have := L.out
      simpa [zeroMove, MoveS.cells] using this
  case round =>
    obtain ⟨j, hj, rfl, hbel, hx, hz, hl⟩ := hrel
    have HB := veil hbel
    have HX := veil hx
    have HZ := veil hz
    have HL := veil hl
    have hlt1 := hx.lt
    clear X Z L hbel hx hz hl
    by_cases c0 : j = 0
    · subst c0
      as_aux_lemma =>
        have l0 : wr.cell? ⟨w.heap.size + 2, 0, none⟩ = some (.pointer none) := HL.out.cell 0
        go_wp2_with fail
        refine (says_nil _).mono ?_
        rintro e w1 ⟨rfl, hb1⟩
        have HX1 := HX.out.below hb1 HX.out.lt
        have HZ1 := HZ.out.below hb1 HZ.out.lt
        have HL1 := HL.out.below hb1 HL.out.lt
        have hsz1 := HB.out.size
        have HB1 := veil (HB.out.trans (hb1.mono HB.out.size))
        unfold msgOf
        have NX := veil (Blk.alloc HX1 (.cells #[.int .i64 0, .int .i64 0, .int .i64 0, .int .i64 0, .int .i64 0, .int .i64 0, .int .i64 0, .int .i64 0, .int .i64 0, .int .i64 0, .slice none 0 0, .int .i64 0, .int .i64 0, .bool false, .slice none 0 0, .string ⟨#[]⟩] 42))
        have NZ : Veil (MoveAt (w1.alloc (.cells #[.int .i64 0, .int .i64 0, .int .i64 0, .int .i64 0, .int .i64 0, .int .i64 0, .int .i64 0, .int .i64 0, .int .i64 0, .int .i64 0, .slice none 0 0, .int .i64 0, .int .i64 0, .bool false, .slice none 0 0, .string ⟨#[]⟩] 42)) (w.heap.size + 1) zeroMove) := veil (Blk.alloc HZ1 _)
        have NL := veil (Blk.alloc HL1 (.cells #[.int .i64 0, .int .i64 0, .int .i64 0, .int .i64 0, .int .i64 0, .int .i64 0, .int .i64 0, .int .i64 0, .int .i64 0, .int .i64 0, .slice none 0 0, .int .i64 0, .int .i64 0, .bool false, .slice none 0 0, .string ⟨#[]⟩] 42))
        have NM := veil (Blk.new w1 #[.int .i64 0, .int .i64 0, .int .i64 0, .int .i64 0, .int .i64 0, .int .i64 0, .int .i64 0, .int .i64 0, .int .i64 0, .int .i64 0, .slice none 0 0, .int .i64 0, .int .i64 0, .bool false, .slice none 0 0, .string ⟨#[]⟩] 42)
        have NB := veil (HB1.out.alloc HB1.out.size (.cells #[.int .i64 0, .int .i64 0, .int .i64 0, .int .i64 0, .int .i64 0, .int .i64 0, .int .i64 0, .int .i64 0, .int .i64 0, .int .i64 0, .slice none 0 0, .int .i64 0, .int .i64 0, .bool false, .slice none 0 0, .string ⟨#[]⟩] 42))
        clear hb1 HX1 HZ1 HL1 l0
        go_wp2_with fail
        generalize w1.alloc (.cells #[.int .i64 0, .int .i64 0, .int .i64 0, .int .i64 0, .int .i64 0, .int .i64 0, .int .i64 0, .int .i64 0, .int .i64 0, .int .i64 0, .slice none 0 0, .int .i64 0, .int .i64 0, .bool false, .slice none 0 0, .string ⟨#[]⟩] 42) = W at *
        have x0 : ∀ x : Later W, x.1.cell? ⟨w.heap.size, 0, none⟩ = some (.int .i64 k) := fun x => (x.cell (p := ⟨w.heap.size, 0, none⟩) NX.out.lt).trans (NX.out.cell 0)
        have x1 : ∀ x : Later W, x.1.cell? ⟨w.heap.size, 1, none⟩ = some (.int .i64 s) := fun x => (x.cell (p := ⟨w.heap.size, 1, none⟩) NX.out.lt).trans (NX.out.cell 1)
        have x2 : ∀ x : Later W, x.1.cell? ⟨w.heap.size, 2, none⟩ = some (v2) := fun x => (x.cell (p := ⟨w.heap.size, 2, none⟩) NX.out.lt).trans (NX.out.cell 2)
        have x3 : ∀ x : Later W, x.1.cell? ⟨w.heap.size, 3, none⟩ = some (v3) := fun x => (x.cell (p := ⟨w.heap.size, 3, none⟩) NX.out.lt).trans (NX.out.cell 3)
        have x4 : ∀ x : Later W, x.1.cell? ⟨w.heap.size, 4, none⟩ = some (v4) := fun x => (x.cell (p := ⟨w.heap.size, 4, none⟩) NX.out.lt).trans (NX.out.cell 4)
        have x5 : ∀ x : Later W, x.1.cell? ⟨w.heap.size, 5, none⟩ = some (.int .i64 n) := fun x => (x.cell (p := ⟨w.heap.size, 5, none⟩) NX.out.lt).trans (NX.out.cell 5)
        have x6 : ∀ x : Later W, x.1.cell? ⟨w.heap.size, 6, none⟩ = some (.int .i64 ver) := fun x => (x.cell (p := ⟨w.heap.size, 6, none⟩) NX.out.lt).trans (NX.out.cell 6)
        have x7 : ∀ x : Later W, x.1.cell? ⟨w.heap.size, 7, none⟩ = some (v7) := fun x => (x.cell (p := ⟨w.heap.size, 7, none⟩) NX.out.lt).trans (NX.out.cell 7)
        have x8 : ∀ x : Later W, x.1.cell? ⟨w.heap.size, 8, none⟩ = some (v8) := fun x => (x.cell (p := ⟨w.heap.size, 8, none⟩) NX.out.lt).trans (NX.out.cell 8)
        have x9 : ∀ x : Later W, x.1.cell? ⟨w.heap.size, 9, none⟩ = some (v9) := fun x => (x.cell (p := ⟨w.heap.size, 9, none⟩) NX.out.lt).trans (NX.out.cell 9)
        have x10 : ∀ x : Later W, x.1.cell? ⟨w.heap.size, 10, none⟩ = some (v10) := fun x => (x.cell (p := ⟨w.heap.size, 10, none⟩) NX.out.lt).trans (NX.out.cell 10)
        have x11 : ∀ x : Later W, x.1.cell? ⟨w.heap.size, 11, none⟩ = some (v11) := fun x => (x.cell (p := ⟨w.heap.size, 11, none⟩) NX.out.lt).trans (NX.out.cell 11)
        have x12 : ∀ x : Later W, x.1.cell? ⟨w.heap.size, 12, none⟩ = some (v12) := fun x => (x.cell (p := ⟨w.heap.size, 12, none⟩) NX.out.lt).trans (NX.out.cell 12)
        have x13 : ∀ x : Later W, x.1.cell? ⟨w.heap.size, 13, none⟩ = some (v13) := fun x => (x.cell (p := ⟨w.heap.size, 13, none⟩) NX.out.lt).trans (NX.out.cell 13)
        have x14 : ∀ x : Later W, x.1.cell? ⟨w.heap.size, 14, none⟩ = some (v14) := fun x => (x.cell (p := ⟨w.heap.size, 14, none⟩) NX.out.lt).trans (NX.out.cell 14)
        have x15 : ∀ x : Later W, x.1.cell? ⟨w.heap.size, 15, none⟩ = some (.string t) := fun x => (x.cell (p := ⟨w.heap.size, 15, none⟩) NX.out.lt).trans (NX.out.cell 15)
        have y0 : ∀ x : Later W, x.1.cell? ⟨w1.heap.size, 0, none⟩ = some (.int .i64 0) := fun x => (x.cell (p := ⟨w1.heap.size, 0, none⟩) NM.out.lt).trans (NM.out.cell 0)
        have y1 : ∀ x : Later W, x.1.cell? ⟨w1.heap.size, 1, none⟩ = some (.int .i64 0) := fun x => (x.cell (p := ⟨w1.heap.size, 1, none⟩) NM.out.lt).trans (NM.out.cell 1)
        have y2 : ∀ x : Later W, x.1.cell? ⟨w1.heap.size, 2, none⟩ = some (.int .i64 0) := fun x => (x.cell (p := ⟨w1.heap.size, 2, none⟩) NM.out.lt).trans (NM.out.cell 2)
        have y3 : ∀ x : Later W, x.1.cell? ⟨w1.heap.size, 3, none⟩ = some (.int .i64 0) := fun x => (x.cell (p := ⟨w1.heap.size, 3, none⟩) NM.out.lt).trans (NM.out.cell 3)
        have y4 : ∀ x : Later W, x.1.cell? ⟨w1.heap.size, 4, none⟩ = some (.int .i64 0) := fun x => (x.cell (p := ⟨w1.heap.size, 4, none⟩) NM.out.lt).trans (NM.out.cell 4)
        have y5 : ∀ x : Later W, x.1.cell? ⟨w1.heap.size, 5, none⟩ = some (.int .i64 0) := fun x => (x.cell (p := ⟨w1.heap.size, 5, none⟩) NM.out.lt).trans (NM.out.cell 5)
        have y6 : ∀ x : Later W, x.1.cell? ⟨w1.heap.size, 6, none⟩ = some (.int .i64 0) := fun x => (x.cell (p := ⟨w1.heap.size, 6, none⟩) NM.out.lt).trans (NM.out.cell 6)
        have y7 : ∀ x : Later W, x.1.cell? ⟨w1.heap.size, 7, none⟩ = some (.int .i64 0) := fun x => (x.cell (p := ⟨w1.heap.size, 7, none⟩) NM.out.lt).trans (NM.out.cell 7)
        have y8 : ∀ x : Later W, x.1.cell? ⟨w1.heap.size, 8, none⟩ = some (.int .i64 0) := fun x => (x.cell (p := ⟨w1.heap.size, 8, none⟩) NM.out.lt).trans (NM.out.cell 8)
        have y9 : ∀ x : Later W, x.1.cell? ⟨w1.heap.size, 9, none⟩ = some (.int .i64 0) := fun x => (x.cell (p := ⟨w1.heap.size, 9, none⟩) NM.out.lt).trans (NM.out.cell 9)
        have y10 : ∀ x : Later W, x.1.cell? ⟨w1.heap.size, 10, none⟩ = some (.slice none 0 0) := fun x => (x.cell (p := ⟨w1.heap.size, 10, none⟩) NM.out.lt).trans (NM.out.cell 10)
        have y11 : ∀ x : Later W, x.1.cell? ⟨w1.heap.size, 11, none⟩ = some (.int .i64 0) := fun x => (x.cell (p := ⟨w1.heap.size, 11, none⟩) NM.out.lt).trans (NM.out.cell 11)
        have y12 : ∀ x : Later W, x.1.cell? ⟨w1.heap.size, 12, none⟩ = some (.int .i64 0) := fun x => (x.cell (p := ⟨w1.heap.size, 12, none⟩) NM.out.lt).trans (NM.out.cell 12)
        have y13 : ∀ x : Later W, x.1.cell? ⟨w1.heap.size, 13, none⟩ = some (.bool false) := fun x => (x.cell (p := ⟨w1.heap.size, 13, none⟩) NM.out.lt).trans (NM.out.cell 13)
        have y14 : ∀ x : Later W, x.1.cell? ⟨w1.heap.size, 14, none⟩ = some (.slice none 0 0) := fun x => (x.cell (p := ⟨w1.heap.size, 14, none⟩) NM.out.lt).trans (NM.out.cell 14)
        have y15 : ∀ x : Later W, x.1.cell? ⟨w1.heap.size, 15, none⟩ = some (.string ⟨#[]⟩) := fun x => (x.cell (p := ⟨w1.heap.size, 15, none⟩) NM.out.lt).trans (NM.out.cell 15)
        have l0 : ∀ x : Later W, x.1.cell? ⟨w.heap.size + 2, 0, none⟩ = some (.pointer none) := fun x => (x.cell (p := ⟨w.heap.size + 2, 0, none⟩) NL.out.lt).trans (NL.out.cell 0)
        refine wp_region_later (by kernel_rfl) (by kernel_rfl) ?_
        repeat go_big_quiet_step (fail)
        go_big_quiet_step ((exact Later.call (same_msg 0 0 0 0 0 ⟨#[]⟩ _)))
        repeat go_big_quiet_step (fail)
        go_big_quiet_step ((exact Later.call_same (phase_nil _)))
        repeat go_big_quiet_step (fail)
        go_big_quiet_step ((exact Later.call (hears_nil fr k s n ver t v2 v3 v4 v7 v8 v9 v10 v11 v12 v13 v14 _)))
        repeat go_big_quiet_step (fail)
        go_big_quiet_step ((exact Later.call_same (abort_nil _)))
        repeat go_big_quiet_step (fail)
        refine wpQuiet_nil ?_
        rintro w' ⟨z, rfl⟩
        go_wp2
        go_roundw
        case rel => exact ⟨1, by omega, by go_num, NB.out.trans (z.2.mono NB.out.size), NX.out.below z.2 NX.out.lt, Blk.below NZ.out z.2 NZ.out.lt, NL.out.below z.2 NL.out.lt⟩
        case measure => simp [intOf]
    · by_cases c1 : j = 1
      · subst c1
        as_aux_lemma =>
          have l1 : wr.cell? ⟨w.heap.size + 2, 1, none⟩ = some (.pointer (some ⟨w.heap.size + 1, 0, none⟩)) := HL.out.cell 1
          go_wp2_with fail
          refine (says_any _ zeroMove _ HZ.out).mono ?_
          rintro e w1 ⟨rfl, hb1⟩
          rw [show zeroMove.saysTo = -1 from rfl, show zeroMove.saysMsg = msgOf 0 0 0 0 0 ⟨#[]⟩ from rfl, show zeroMove.saysOk = false from rfl]
          have HX1 := HX.out.below hb1 HX.out.lt
          have HZ1 := HZ.out.below hb1 HZ.out.lt
          have HL1 := HL.out.below hb1 HL.out.lt
          have hsz1 := HB.out.size
          have HB1 := veil (HB.out.trans (hb1.mono HB.out.size))
          unfold msgOf
          have NX := veil (Blk.alloc HX1 (.cells #[.int .i64 0, .int .i64 0, .int .i64 0, .int .i64 0, .int .i64 0, .int .i64 0, .int .i64 0, .int .i64 0, .int .i64 0, .int .i64 0, .slice none 0 0, .int .i64 0, .int .i64 0, .bool false, .slice none 0 0, .string ⟨#[]⟩] 42))
          have NZ : Veil (MoveAt (w1.alloc (.cells #[.int .i64 0, .int .i64 0, .int .i64 0, .int .i64 0, .int .i64 0, .int .i64 0, .int .i64 0, .int .i64 0, .int .i64 0, .int .i64 0, .slice none 0 0, .int .i64 0, .int .i64 0, .bool false, .slice none 0 0, .string ⟨#[]⟩] 42)) (w.heap.size + 1) zeroMove) := veil (Blk.alloc HZ1 _)
          have NL := veil (Blk.alloc HL1 (.cells #[.int .i64 0, .int .i64 0, .int .i64 0, .int .i64 0, .int .i64 0, .int .i64 0, .int .i64 0, .int .i64 0, .int .i64 0, .int .i64 0, .slice none 0 0, .int .i64 0, .int .i64 0, .bool false, .slice none 0 0, .string ⟨#[]⟩] 42))
          have NM := veil (Blk.new w1 #[.int .i64 0, .int .i64 0, .int .i64 0, .int .i64 0, .int .i64 0, .int .i64 0, .int .i64 0, .int .i64 0, .int .i64 0, .int .i64 0, .slice none 0 0, .int .i64 0, .int .i64 0, .bool false, .slice none 0 0, .string ⟨#[]⟩] 42)
          have NB := veil (HB1.out.alloc HB1.out.size (.cells #[.int .i64 0, .int .i64 0, .int .i64 0, .int .i64 0, .int .i64 0, .int .i64 0, .int .i64 0, .int .i64 0, .int .i64 0, .int .i64 0, .slice none 0 0, .int .i64 0, .int .i64 0, .bool false, .slice none 0 0, .string ⟨#[]⟩] 42))
          clear hb1 HX1 HZ1 HL1 l1
          go_wp2_with fail
          generalize w1.alloc (.cells #[.int .i64 0, .int .i64 0, .int .i64 0, .int .i64 0, .int .i64 0, .int .i64 0, .int .i64 0, .int .i64 0, .int .i64 0, .int .i64 0, .slice none 0 0, .int .i64 0, .int .i64 0, .bool false, .slice none 0 0, .string ⟨#[]⟩] 42) = W at *
          have x0 : ∀ x : Later W, x.1.cell? ⟨w.heap.size, 0, none⟩ = some (.int .i64 k) := fun x => (x.cell (p := ⟨w.heap.size, 0, none⟩) NX.out.lt).trans (NX.out.cell 0)
          have x1 : ∀ x : Later W, x.1.cell? ⟨w.heap.size, 1, none⟩ = some (.int .i64 s) := fun x => (x.cell (p := ⟨w.heap.size, 1, none⟩) NX.out.lt).trans (NX.out.cell 1)
          have x2 : ∀ x : Later W, x.1.cell? ⟨w.heap.size, 2, none⟩ = some (v2) := fun x => (x.cell (p := ⟨w.heap.size, 2, none⟩) NX.out.lt).trans (NX.out.cell 2)
          have x3 : ∀ x : Later W, x.1.cell? ⟨w.heap.size, 3, none⟩ = some (v3) := fun x => (x.cell (p := ⟨w.heap.size, 3, none⟩) NX.out.lt).trans (NX.out.cell 3)
          have x4 : ∀ x : Later W, x.1.cell? ⟨w.heap.size, 4, none⟩ = some (v4) := fun x => (x.cell (p := ⟨w.heap.size, 4, none⟩) NX.out.lt).trans (NX.out.cell 4)
          have x5 : ∀ x : Later W, x.1.cell? ⟨w.heap.size, 5, none⟩ = some (.int .i64 n) := fun x => (x.cell (p := ⟨w.heap.size, 5, none⟩) NX.out.lt).trans (NX.out.cell 5)
          have x6 : ∀ x : Later W, x.1.cell? ⟨w.heap.size, 6, none⟩ = some (.int .i64 ver) := fun x => (x.cell (p := ⟨w.heap.size, 6, none⟩) NX.out.lt).trans (NX.out.cell 6)
          have x7 : ∀ x : Later W, x.1.cell? ⟨w.heap.size, 7, none⟩ = some (v7) := fun x => (x.cell (p := ⟨w.heap.size, 7, none⟩) NX.out.lt).trans (NX.out.cell 7)
          have x8 : ∀ x : Later W, x.1.cell? ⟨w.heap.size, 8, none⟩ = some (v8) := fun x => (x.cell (p := ⟨w.heap.size, 8, none⟩) NX.out.lt).trans (NX.out.cell 8)
          have x9 : ∀ x : Later W, x.1.cell? ⟨w.heap.size, 9, none⟩ = some (v9) := fun x => (x.cell (p := ⟨w.heap.size, 9, none⟩) NX.out.lt).trans (NX.out.cell 9)
          have x10 : ∀ x : Later W, x.1.cell? ⟨w.heap.size, 10, none⟩ = some (v10) := fun x => (x.cell (p := ⟨w.heap.size, 10, none⟩) NX.out.lt).trans (NX.out.cell 10)
          have x11 : ∀ x : Later W, x.1.cell? ⟨w.heap.size, 11, none⟩ = some (v11) := fun x => (x.cell (p := ⟨w.heap.size, 11, none⟩) NX.out.lt).trans (NX.out.cell 11)
          have x12 : ∀ x : Later W, x.1.cell? ⟨w.heap.size, 12, none⟩ = some (v12) := fun x => (x.cell (p := ⟨w.heap.size, 12, none⟩) NX.out.lt).trans (NX.out.cell 12)
          have x13 : ∀ x : Later W, x.1.cell? ⟨w.heap.size, 13, none⟩ = some (v13) := fun x => (x.cell (p := ⟨w.heap.size, 13, none⟩) NX.out.lt).trans (NX.out.cell 13)
          have x14 : ∀ x : Later W, x.1.cell? ⟨w.heap.size, 14, none⟩ = some (v14) := fun x => (x.cell (p := ⟨w.heap.size, 14, none⟩) NX.out.lt).trans (NX.out.cell 14)
          have x15 : ∀ x : Later W, x.1.cell? ⟨w.heap.size, 15, none⟩ = some (.string t) := fun x => (x.cell (p := ⟨w.heap.size, 15, none⟩) NX.out.lt).trans (NX.out.cell 15)
          have y0 : ∀ x : Later W, x.1.cell? ⟨w1.heap.size, 0, none⟩ = some (.int .i64 0) := fun x => (x.cell (p := ⟨w1.heap.size, 0, none⟩) NM.out.lt).trans (NM.out.cell 0)
          have y1 : ∀ x : Later W, x.1.cell? ⟨w1.heap.size, 1, none⟩ = some (.int .i64 0) := fun x => (x.cell (p := ⟨w1.heap.size, 1, none⟩) NM.out.lt).trans (NM.out.cell 1)
          have y2 : ∀ x : Later W, x.1.cell? ⟨w1.heap.size, 2, none⟩ = some (.int .i64 0) := fun x => (x.cell (p := ⟨w1.heap.size, 2, none⟩) NM.out.lt).trans (NM.out.cell 2)
          have y3 : ∀ x : Later W, x.1.cell? ⟨w1.heap.size, 3, none⟩ = some (.int .i64 0) := fun x => (x.cell (p := ⟨w1.heap.size, 3, none⟩) NM.out.lt).trans (NM.out.cell 3)
          have y4 : ∀ x : Later W, x.1.cell? ⟨w1.heap.size, 4, none⟩ = some (.int .i64 0) := fun x => (x.cell (p := ⟨w1.heap.size, 4, none⟩) NM.out.lt).trans (NM.out.cell 4)
          have y5 : ∀ x : Later W, x.1.cell? ⟨w1.heap.size, 5, none⟩ = some (.int .i64 0) := fun x => (x.cell (p := ⟨w1.heap.size, 5, none⟩) NM.out.lt).trans (NM.out.cell 5)
          have y6 : ∀ x : Later W, x.1.cell? ⟨w1.heap.size, 6, none⟩ = some (.int .i64 0) := fun x => (x.cell (p := ⟨w1.heap.size, 6, none⟩) NM.out.lt).trans (NM.out.cell 6)
          have y7 : ∀ x : Later W, x.1.cell? ⟨w1.heap.size, 7, none⟩ = some (.int .i64 0) := fun x => (x.cell (p := ⟨w1.heap.size, 7, none⟩) NM.out.lt).trans (NM.out.cell 7)
          have y8 : ∀ x : Later W, x.1.cell? ⟨w1.heap.size, 8, none⟩ = some (.int .i64 0) := fun x => (x.cell (p := ⟨w1.heap.size, 8, none⟩) NM.out.lt).trans (NM.out.cell 8)
          have y9 : ∀ x : Later W, x.1.cell? ⟨w1.heap.size, 9, none⟩ = some (.int .i64 0) := fun x => (x.cell (p := ⟨w1.heap.size, 9, none⟩) NM.out.lt).trans (NM.out.cell 9)
          have y10 : ∀ x : Later W, x.1.cell? ⟨w1.heap.size, 10, none⟩ = some (.slice none 0 0) := fun x => (x.cell (p := ⟨w1.heap.size, 10, none⟩) NM.out.lt).trans (NM.out.cell 10)
          have y11 : ∀ x : Later W, x.1.cell? ⟨w1.heap.size, 11, none⟩ = some (.int .i64 0) := fun x => (x.cell (p := ⟨w1.heap.size, 11, none⟩) NM.out.lt).trans (NM.out.cell 11)
          have y12 : ∀ x : Later W, x.1.cell? ⟨w1.heap.size, 12, none⟩ = some (.int .i64 0) := fun x => (x.cell (p := ⟨w1.heap.size, 12, none⟩) NM.out.lt).trans (NM.out.cell 12)
          have y13 : ∀ x : Later W, x.1.cell? ⟨w1.heap.size, 13, none⟩ = some (.bool false) := fun x => (x.cell (p := ⟨w1.heap.size, 13, none⟩) NM.out.lt).trans (NM.out.cell 13)
          have y14 : ∀ x : Later W, x.1.cell? ⟨w1.heap.size, 14, none⟩ = some (.slice none 0 0) := fun x => (x.cell (p := ⟨w1.heap.size, 14, none⟩) NM.out.lt).trans (NM.out.cell 14)
          have y15 : ∀ x : Later W, x.1.cell? ⟨w1.heap.size, 15, none⟩ = some (.string ⟨#[]⟩) := fun x => (x.cell (p := ⟨w1.heap.size, 15, none⟩) NM.out.lt).trans (NM.out.cell 15)
          have l1 : ∀ x : Later W, x.1.cell? ⟨w.heap.size + 2, 1, none⟩ = some (.pointer (some ⟨w.heap.size + 1, 0, none⟩)) := fun x => (x.cell (p := ⟨w.heap.size + 2, 1, none⟩) NL.out.lt).trans (NL.out.cell 1)
          refine wp_region_later (by kernel_rfl) (by kernel_rfl) ?_
          repeat go_big_quiet_step (fail)
          go_big_quiet_step ((exact Later.call (same_msg 0 0 0 0 0 ⟨#[]⟩ _)))
          repeat go_big_quiet_step (fail)
          go_big_quiet_step ((exact Later.call_same (phase_zero _ _ (Blk.below NZ.out (Later.bel _) NZ.out.lt))))
          repeat go_big_quiet_step (fail)
          go_big_quiet_step ((exact Later.call (hears_deaf _ zeroMove _ (Blk.below NZ.out (Later.bel _) NZ.out.lt) fr k s n ver t v2 v3 v4 v7 v8 v9 v10 v11 v12 v13 v14 (zero_deaf fr s n))))
          repeat go_big_quiet_step (fail)
          go_big_quiet_step ((exact Later.call_same (abort_zero _ zeroMove _ (Blk.below NZ.out (Later.bel _) NZ.out.lt) rfl)))
          repeat go_big_quiet_step (fail)
          refine wpQuiet_nil ?_
          rintro w' ⟨z, rfl⟩
          go_wp2
          go_roundw
          case rel => exact ⟨2, by omega, by go_num, NB.out.trans (z.2.mono NB.out.size), NX.out.below z.2 NX.out.lt, Blk.below NZ.out z.2 NZ.out.lt, NL.out.below z.2 NL.out.lt⟩
          case measure => simp [intOf]
      · obtain rfl : j = 2 := by omega
        go_wp2_with fail
        refine (mvAwake_any _).mono ?_
        rintro e w1 ⟨rfl, hb1⟩
        go_wp2
        go_ret
        exact ⟨rfl, HB.out.trans (hb1.mono HB.out.size)⟩
end Go.Proofs.Ytjamhceghciboaa
