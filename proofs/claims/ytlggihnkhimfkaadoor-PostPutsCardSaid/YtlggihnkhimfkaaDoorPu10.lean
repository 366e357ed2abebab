/- Texts put together by prune.py: PstS, PstT, PstX, PxS, PsB, PsH, PsS, PsU. -/
import Derived.Deep.RegionHeld3
import Derived.Test.YtlggihnkhimfkaaDoorPu9
namespace Go.Proofs.YtlggihnkhimfkaaDoor.Giv
open Go.RowKit Go.Lib Go.Proofs.YtlggihnkhimfkaaDoorW.PrintWords Go.Proofs.YtlggihnkhimfkaaDoorW.PrintLast Go.Proofs.YtlggihnkhimfkaaDoorW.PrintMore
set_option linter.unusedVariables false
set_option linter.unusedSimpArgs false
set_option maxRecDepth 100000 in
set_option maxHeartbeats 4000000 in
theorem take_short (s : ByteArray) (l : List ByteArray) (n : Int) (w : World) (hL : LaidW w) (hA : frame_All.f s = some (l, n)) (h2 : l.length ≠ 2 ∨ n ≠ (s.size : Int)) :
    Calls Tryd.prog 12 #[.string s] w fun e w' => e = .returned (.tuple #[.agg #[.int .i64 0, .int .i64 0, .int .i64 0, .int .i64 0, .int .i64 0, .int .i64 0, .int .i64 0, .int .i64 0, .int .i64 0, .int .i64 0, .slice none 0 0, .int .i64 0, .int .i64 0, .bool false, .slice none 0 0, .string ⟨#[]⟩], .int .i64 130]) ∧ Below w.heap.size w w' := by
  have HA := Aside0.mk hA
  have HL := Aside0.mk hL
  clear hA hL
  go_enter Tryd.func12, Tryd.ntmps12
  by_cases h : l.length = 2
  · have hn : n ≠ (s.size : Int) := by omega
    have b0 : ((l.length : Int) != 2) = false := by simp [h]
    have b1 : (n != (s.size : Int)) = true := by simp [hn]
    clear h2 h hn
    go_wp2_with (first | (go_at_call 30; refine (frame_All.calls s l n _ (LaidW.below HL.out ((Below.refl _ _).alloc (Nat.le_refl _) _)) HA.out).mono ?_; rintro e w1 ⟨v4, rfl, hr, hb⟩; have HB1 := Aside0.mk (below_step ((Below.refl _ _).alloc (Nat.le_refl _) _) hb); have BK1 := Aside0.mk (blk_below (MapKept.heap_alloc w (.cells #[.int .i64 0, .int .i64 0, .int .i64 0, .int .i64 0, .int .i64 0, .int .i64 0, .int .i64 0, .int .i64 0, .int .i64 0, .int .i64 0, .slice none 0 0, .int .i64 0, .int .i64 0, .bool false, .slice none 0 0, .string ⟨#[]⟩] 30 (0, 0))).1 hb); have HR1 := Aside0.mk (Kd.R_lower hr (below_size ((Below.refl w.heap.size w).alloc (Nat.le_refl _) _))); clear hr hb; obtain ⟨A4, c4, rfl⟩ := Kd.R_slice HR1.out) | ((with_reducible refine gate_store (ty := 30) (x := .tmp 2) rfl ?_); refine ev_store rfl rfl 30 (.tmp 2) _ rfl _ rfl w.heap.size 30 rfl [.int .i64 0, .int .i64 0, .int .i64 0, .int .i64 0, .int .i64 0, .int .i64 0, .int .i64 0, .int .i64 0, .int .i64 0, .int .i64 0, .slice none 0 0, .int .i64 0, .int .i64 0, .bool false, .slice none 0 0, .string ⟨#[]⟩] [.int .i64 0, .int .i64 0, .int .i64 0, .int .i64 0, .int .i64 0, .int .i64 0, .int .i64 0, .int .i64 0, .int .i64 0, .int .i64 0, .slice none 0 0, .int .i64 0, .int .i64 0, .bool false, .slice none 0 0, .string ⟨#[]⟩] rfl rfl (by decide) rfl BK1.out ?_; intro w9 a9 b9; have BK9 := Aside0.mk a9; have HB9 := Aside0.mk (b9.1 _ _ HB1.out (Nat.le_refl _)); clear a9 b9) | fail)
    refine bodyPost_ret (results_ct rfl _ _ w.heap.size 30 #[.int .i64 0, .int .i64 0, .int .i64 0, .int .i64 0, .int .i64 0, .int .i64 0, .int .i64 0, .int .i64 0, .int .i64 0, .int .i64 0, .slice none 0 0, .int .i64 0, .int .i64 0, .bool false, .slice none 0 0, .string ⟨#[]⟩] (0, 0) _ rfl BK9.out Tryd.underlying30 rfl (by kernel_rfl)) rfl ?_
    exact ⟨rfl, HB9.out⟩
  · have b0 : ((l.length : Int) != 2) = true := by simp; omega
    clear h2 h
    go_wp2_with (first | (go_at_call 30; refine (frame_All.calls s l n _ (LaidW.below HL.out ((Below.refl _ _).alloc (Nat.le_refl _) _)) HA.out).mono ?_; rintro e w1 ⟨v4, rfl, hr, hb⟩; have HB1 := Aside0.mk (below_step ((Below.refl _ _).alloc (Nat.le_refl _) _) hb); have BK1 := Aside0.mk (blk_below (MapKept.heap_alloc w (.cells #[.int .i64 0, .int .i64 0, .int .i64 0, .int .i64 0, .int .i64 0, .int .i64 0, .int .i64 0, .int .i64 0, .int .i64 0, .int .i64 0, .slice none 0 0, .int .i64 0, .int .i64 0, .bool false, .slice none 0 0, .string ⟨#[]⟩] 30 (0, 0))).1 hb); have HR1 := Aside0.mk (Kd.R_lower hr (below_size ((Below.refl w.heap.size w).alloc (Nat.le_refl _) _))); clear hr hb; obtain ⟨A4, c4, rfl⟩ := Kd.R_slice HR1.out) | ((with_reducible refine gate_store (ty := 30) (x := .tmp 2) rfl ?_); refine ev_store rfl rfl 30 (.tmp 2) _ rfl _ rfl w.heap.size 30 rfl [.int .i64 0, .int .i64 0, .int .i64 0, .int .i64 0, .int .i64 0, .int .i64 0, .int .i64 0, .int .i64 0, .int .i64 0, .int .i64 0, .slice none 0 0, .int .i64 0, .int .i64 0, .bool false, .slice none 0 0, .string ⟨#[]⟩] [.int .i64 0, .int .i64 0, .int .i64 0, .int .i64 0, .int .i64 0, .int .i64 0, .int .i64 0, .int .i64 0, .int .i64 0, .int .i64 0, .slice none 0 0, .int .i64 0, .int .i64 0, .bool false, .slice none 0 0, .string ⟨#[]⟩] rfl rfl (by decide) rfl BK1.out ?_; intro w9 a9 b9; have BK9 := Aside0.mk a9; have HB9 := Aside0.mk (b9.1 _ _ HB1.out (Nat.le_refl _)); clear a9 b9) | fail)
    refine bodyPost_ret (results_ct rfl _ _ w.heap.size 30 #[.int .i64 0, .int .i64 0, .int .i64 0, .int .i64 0, .int .i64 0, .int .i64 0, .int .i64 0, .int .i64 0, .int .i64 0, .int .i64 0, .slice none 0 0, .int .i64 0, .int .i64 0, .bool false, .slice none 0 0, .string ⟨#[]⟩] (0, 0) _ rfl BK9.out Tryd.underlying30 rfl (by kernel_rfl)) rfl ?_
    exact ⟨rfl, HB9.out⟩
theorem one_mz (y : ByteArray) : ∀ v ∈ ([.int .i64 0, .int .i64 0, .int .i64 0, .int .i64 0, .int .i64 0, .int .i64 0, .int .i64 0, .int .i64 0, .int .i64 0, .int .i64 0, .slice none 0 0, .int .i64 0, .int .i64 0, .bool false, .slice none 0 0, .string y] : List Value), v.oneCell' = true := by
  intro v hv
  simp only [List.mem_cons, List.not_mem_nil, or_false] at hv
  rcases hv with rfl | rfl | rfl | rfl | rfl | rfl | rfl | rfl | rfl | rfl | rfl | rfl | rfl | rfl | rfl | rfl <;> rfl
theorem blk_newn (w : World) (o : Obj) (n : Nat) (hn : w.heap.size = n) : (w.alloc o).heap[n]? = some o := by subst hn; exact blk_new w o
set_option maxRecDepth 100000 in
set_option maxHeartbeats 4000000 in
theorem take_odd (s x y : ByteArray) (q1 q2 : Int) (q3 : ByteArray) (L : List P.S49) (q5 : Int) (w : World) (hL : LaidW w) (hA : frame_All.f s = some ([x, y], (s.size : Int))) (hO : P.benc_Only.f x = some (q1, q2, q3, L, q5)) (h5 : q5 ≠ 0 ∨ L.length ≠ 15) :
    Calls Tryd.prog 12 #[.string s] w fun e w' => e = .returned (.tuple #[.agg #[.int .i64 0, .int .i64 0, .int .i64 0, .int .i64 0, .int .i64 0, .int .i64 0, .int .i64 0, .int .i64 0, .int .i64 0, .int .i64 0, .slice none 0 0, .int .i64 0, .int .i64 0, .bool false, .slice none 0 0, .string ⟨#[]⟩], .int .i64 130]) ∧ Below w.heap.size w w' := by
  have HA := Aside0.mk hA
  have HL := Aside0.mk hL
  have HO := Aside0.mk hO
  clear hA hL hO
  have b1 : (q5 != 0) = false → ((L.length : Int) != 15) = true := fun h => by
    rcases h5 with h5 | h5
    · simp [h5] at h
    · simp; omega
  clear h5
  go_enter Tryd.func12, Tryd.ntmps12
  cases hb0 : (q5 != 0) with
  | true =>
    clear b1
    go_wp2_with (first | (go_at_call 30; refine (frame_All.calls s [x, y] _ _ (LaidW.below HL.out ((Below.refl _ _).alloc (Nat.le_refl _) _)) HA.out).mono ?_; rintro e w1 ⟨v4, rfl, hr, hb⟩; have HB1 := Aside0.mk (below_step ((Below.refl _ _).alloc (Nat.le_refl _) _) hb); have BK1 := Aside0.mk (blk_below (MapKept.heap_alloc w (.cells #[.int .i64 0, .int .i64 0, .int .i64 0, .int .i64 0, .int .i64 0, .int .i64 0, .int .i64 0, .int .i64 0, .int .i64 0, .int .i64 0, .slice none 0 0, .int .i64 0, .int .i64 0, .bool false, .slice none 0 0, .string ⟨#[]⟩] 30 (0, 0))).1 hb); have HR1 := Aside0.mk (Kd.R_lower hr (below_size ((Below.refl w.heap.size w).alloc (Nat.le_refl _) _))); clear hr hb; obtain ⟨A4, c4, rfl⟩ := Kd.R_slice HR1.out; obtain ⟨ad4, rfl, s0⟩ := Kd.at_string (Kd.R_reads' HR1.out).2.2 0 (by decide) (by simp); replace s0 : w1.cell? ad4 = some (.string x) := s0) | (go_at_call 31; refine (P.benc_Only.calls x q1 q2 q3 L q5 _ (LaidW.below HL.out HB1.out) HO.out).mono ?_; rintro e w2 ⟨v3_, rfl, hr, hb⟩; have HB2 := Aside0.mk (below_step HB1.out hb); have BK2 := Aside0.mk (blk_below BK1.out hb); have HV2 := Aside0.mk (Kd.R_lower hr HB1.out.size); have HR2 := Aside0.mk (Kd.R_below HR1.out hb); clear hr hb; obtain ⟨Av, cv, rfl⟩ := Kd.R_slice HV2.out; obtain ⟨adx, hadx, s1⟩ := Kd.at_string (Kd.R_reads' HR2.out).2.2 1 (by decide) (by simp); rw [← Option.some.inj hadx] at s1; replace s1 : w2.cell? ⟨ad4.block, ad4.off + 1, none⟩ = some (.string y) := s1; have s1a := Lib.cell?_alloc_some (.cells #[.int .i64 q1, .int .i64 q2, .string q3, .slice Av L.length cv] 49) s1; clear hadx) | ((with_reducible refine gate_store (ty := 30) (x := .tmp 8) rfl ?_); refine ev_store rfl rfl 30 (.tmp 8) _ rfl _ rfl (w2.heap.size + 1) 30 rfl [.int .i64 0, .int .i64 0, .int .i64 0, .int .i64 0, .int .i64 0, .int .i64 0, .int .i64 0, .int .i64 0, .int .i64 0, .int .i64 0, .slice none 0 0, .int .i64 0, .int .i64 0, .bool false, .slice none 0 0, .string y] [.int .i64 0, .int .i64 0, .int .i64 0, .int .i64 0, .int .i64 0, .int .i64 0, .int .i64 0, .int .i64 0, .int .i64 0, .int .i64 0, .slice none 0 0, .int .i64 0, .int .i64 0, .bool false, .slice none 0 0, .string ⟨#[]⟩] rfl rfl (one_mz y) rfl (blk_newn (w2.alloc (.cells #[.int .i64 q1, .int .i64 q2, .string q3, .slice Av L.length cv] 49)) (.cells #[.int .i64 0, .int .i64 0, .int .i64 0, .int .i64 0, .int .i64 0, .int .i64 0, .int .i64 0, .int .i64 0, .int .i64 0, .int .i64 0, .slice none 0 0, .int .i64 0, .int .i64 0, .bool false, .slice none 0 0, .string ⟨#[]⟩] 30) (w2.heap.size + 1) (by simp)) ?_; intro w3 a9 b9; have hb := b9.1 _ _ (below_alloc ((Below.refl w2.heap.size w2).alloc (Nat.le_refl _) (.cells #[.int .i64 q1, .int .i64 q2, .string q3, .slice Av L.length cv] 49)) (.cells #[.int .i64 0, .int .i64 0, .int .i64 0, .int .i64 0, .int .i64 0, .int .i64 0, .int .i64 0, .int .i64 0, .int .i64 0, .int .i64 0, .slice none 0 0, .int .i64 0, .int .i64 0, .bool false, .slice none 0 0, .string ⟨#[]⟩] 30)) (by omega); have BM3 := Aside0.mk a9; have BV3 := Aside0.mk (b9.2 _ _ (by omega) (blk_alloc (blk_new w2 (.cells #[.int .i64 q1, .int .i64 q2, .string q3, .slice Av L.length cv] 49)) (.cells #[.int .i64 0, .int .i64 0, .int .i64 0, .int .i64 0, .int .i64 0, .int .i64 0, .int .i64 0, .int .i64 0, .int .i64 0, .int .i64 0, .slice none 0 0, .int .i64 0, .int .i64 0, .bool false, .slice none 0 0, .string ⟨#[]⟩] 30))); have HB3 := Aside0.mk (below_step HB2.out hb); have BK3 := Aside0.mk (blk_below BK2.out hb); have HV3 := Aside0.mk (Kd.R_below HV2.out hb); clear a9 b9 hb s0 s1 s1a) | (go_at_call 15; refine (numbers_calls _ _).mono ?_; rintro e w4 ⟨g, rfl, hg0, hgb, hb⟩; have HG := Aside0.mk (show w2.heap.size + 1 < g from Nat.lt_of_lt_of_le (blk_lt BM3.out) hg0); have BG4 := Aside0.mk hgb; have HB4 := Aside0.mk (below_step HB3.out hb); have BK4 := Aside0.mk (blk_below BK3.out hb); have BM4 := Aside0.mk (blk_below BM3.out hb); have BV4 := Aside0.mk (blk_below BV3.out hb); have HV4 := Aside0.mk (Kd.R_below HV3.out hb); have v3c := blk_cell BV4.out 3; clear hg0 hgb hb) | ((with_reducible refine gate_store (ty := 30) (x := .tmp 2) rfl ?_); refine ev_store rfl rfl 30 (.tmp 2) _ rfl _ rfl w.heap.size 30 rfl [.int .i64 0, .int .i64 0, .int .i64 0, .int .i64 0, .int .i64 0, .int .i64 0, .int .i64 0, .int .i64 0, .int .i64 0, .int .i64 0, .slice none 0 0, .int .i64 0, .int .i64 0, .bool false, .slice none 0 0, .string ⟨#[]⟩] [.int .i64 0, .int .i64 0, .int .i64 0, .int .i64 0, .int .i64 0, .int .i64 0, .int .i64 0, .int .i64 0, .int .i64 0, .int .i64 0, .slice none 0 0, .int .i64 0, .int .i64 0, .bool false, .slice none 0 0, .string ⟨#[]⟩] rfl rfl (by decide) rfl BK4.out ?_; intro w9 a9 b9; have BK9 := Aside0.mk a9; have HB9 := Aside0.mk (b9.1 _ _ HB4.out (Nat.le_refl _)); clear a9 b9) | fail)
    refine bodyPost_ret (results_ct rfl _ _ w.heap.size 30 #[.int .i64 0, .int .i64 0, .int .i64 0, .int .i64 0, .int .i64 0, .int .i64 0, .int .i64 0, .int .i64 0, .int .i64 0, .int .i64 0, .slice none 0 0, .int .i64 0, .int .i64 0, .bool false, .slice none 0 0, .string ⟨#[]⟩] (0, 0) _ rfl BK9.out Tryd.underlying30 rfl (by kernel_rfl)) rfl ?_
    exact ⟨rfl, HB9.out⟩
  | false =>
    have b2 := b1 hb0
    clear b1
    go_wp2_with (first | (go_at_call 30; refine (frame_All.calls s [x, y] _ _ (LaidW.below HL.out ((Below.refl _ _).alloc (Nat.le_refl _) _)) HA.out).mono ?_; rintro e w1 ⟨v4, rfl, hr, hb⟩; have HB1 := Aside0.mk (below_step ((Below.refl _ _).alloc (Nat.le_refl _) _) hb); have BK1 := Aside0.mk (blk_below (MapKept.heap_alloc w (.cells #[.int .i64 0, .int .i64 0, .int .i64 0, .int .i64 0, .int .i64 0, .int .i64 0, .int .i64 0, .int .i64 0, .int .i64 0, .int .i64 0, .slice none 0 0, .int .i64 0, .int .i64 0, .bool false, .slice none 0 0, .string ⟨#[]⟩] 30 (0, 0))).1 hb); have HR1 := Aside0.mk (Kd.R_lower hr (below_size ((Below.refl w.heap.size w).alloc (Nat.le_refl _) _))); clear hr hb; obtain ⟨A4, c4, rfl⟩ := Kd.R_slice HR1.out; obtain ⟨ad4, rfl, s0⟩ := Kd.at_string (Kd.R_reads' HR1.out).2.2 0 (by decide) (by simp); replace s0 : w1.cell? ad4 = some (.string x) := s0) | (go_at_call 31; refine (P.benc_Only.calls x q1 q2 q3 L q5 _ (LaidW.below HL.out HB1.out) HO.out).mono ?_; rintro e w2 ⟨v3_, rfl, hr, hb⟩; have HB2 := Aside0.mk (below_step HB1.out hb); have BK2 := Aside0.mk (blk_below BK1.out hb); have HV2 := Aside0.mk (Kd.R_lower hr HB1.out.size); have HR2 := Aside0.mk (Kd.R_below HR1.out hb); clear hr hb; obtain ⟨Av, cv, rfl⟩ := Kd.R_slice HV2.out; obtain ⟨adx, hadx, s1⟩ := Kd.at_string (Kd.R_reads' HR2.out).2.2 1 (by decide) (by simp); rw [← Option.some.inj hadx] at s1; replace s1 : w2.cell? ⟨ad4.block, ad4.off + 1, none⟩ = some (.string y) := s1; have s1a := Lib.cell?_alloc_some (.cells #[.int .i64 q1, .int .i64 q2, .string q3, .slice Av L.length cv] 49) s1; clear hadx) | ((with_reducible refine gate_store (ty := 30) (x := .tmp 8) rfl ?_); refine ev_store rfl rfl 30 (.tmp 8) _ rfl _ rfl (w2.heap.size + 1) 30 rfl [.int .i64 0, .int .i64 0, .int .i64 0, .int .i64 0, .int .i64 0, .int .i64 0, .int .i64 0, .int .i64 0, .int .i64 0, .int .i64 0, .slice none 0 0, .int .i64 0, .int .i64 0, .bool false, .slice none 0 0, .string y] [.int .i64 0, .int .i64 0, .int .i64 0, .int .i64 0, .int .i64 0, .int .i64 0, .int .i64 0, .int .i64 0, .int .i64 0, .int .i64 0, .slice none 0 0, .int .i64 0, .int .i64 0, .bool false, .slice none 0 0, .string ⟨#[]⟩] rfl rfl (one_mz y) rfl (blk_newn (w2.alloc (.cells #[.int .i64 q1, .int .i64 q2, .string q3, .slice Av L.length cv] 49)) (.cells #[.int .i64 0, .int .i64 0, .int .i64 0, .int .i64 0, .int .i64 0, .int .i64 0, .int .i64 0, .int .i64 0, .int .i64 0, .int .i64 0, .slice none 0 0, .int .i64 0, .int .i64 0, .bool false, .slice none 0 0, .string ⟨#[]⟩] 30) (w2.heap.size + 1) (by simp)) ?_; intro w3 a9 b9; have hb := b9.1 _ _ (below_alloc ((Below.refl w2.heap.size w2).alloc (Nat.le_refl _) (.cells #[.int .i64 q1, .int .i64 q2, .string q3, .slice Av L.length cv] 49)) (.cells #[.int .i64 0, .int .i64 0, .int .i64 0, .int .i64 0, .int .i64 0, .int .i64 0, .int .i64 0, .int .i64 0, .int .i64 0, .int .i64 0, .slice none 0 0, .int .i64 0, .int .i64 0, .bool false, .slice none 0 0, .string ⟨#[]⟩] 30)) (by omega); have BM3 := Aside0.mk a9; have BV3 := Aside0.mk (b9.2 _ _ (by omega) (blk_alloc (blk_new w2 (.cells #[.int .i64 q1, .int .i64 q2, .string q3, .slice Av L.length cv] 49)) (.cells #[.int .i64 0, .int .i64 0, .int .i64 0, .int .i64 0, .int .i64 0, .int .i64 0, .int .i64 0, .int .i64 0, .int .i64 0, .int .i64 0, .slice none 0 0, .int .i64 0, .int .i64 0, .bool false, .slice none 0 0, .string ⟨#[]⟩] 30))); have HB3 := Aside0.mk (below_step HB2.out hb); have BK3 := Aside0.mk (blk_below BK2.out hb); have HV3 := Aside0.mk (Kd.R_below HV2.out hb); clear a9 b9 hb s0 s1 s1a) | (go_at_call 15; refine (numbers_calls _ _).mono ?_; rintro e w4 ⟨g, rfl, hg0, hgb, hb⟩; have HG := Aside0.mk (show w2.heap.size + 1 < g from Nat.lt_of_lt_of_le (blk_lt BM3.out) hg0); have BG4 := Aside0.mk hgb; have HB4 := Aside0.mk (below_step HB3.out hb); have BK4 := Aside0.mk (blk_below BK3.out hb); have BM4 := Aside0.mk (blk_below BM3.out hb); have BV4 := Aside0.mk (blk_below BV3.out hb); have HV4 := Aside0.mk (Kd.R_below HV3.out hb); have v3c := blk_cell BV4.out 3; clear hg0 hgb hb) | ((with_reducible refine gate_store (ty := 30) (x := .tmp 2) rfl ?_); refine ev_store rfl rfl 30 (.tmp 2) _ rfl _ rfl w.heap.size 30 rfl [.int .i64 0, .int .i64 0, .int .i64 0, .int .i64 0, .int .i64 0, .int .i64 0, .int .i64 0, .int .i64 0, .int .i64 0, .int .i64 0, .slice none 0 0, .int .i64 0, .int .i64 0, .bool false, .slice none 0 0, .string ⟨#[]⟩] [.int .i64 0, .int .i64 0, .int .i64 0, .int .i64 0, .int .i64 0, .int .i64 0, .int .i64 0, .int .i64 0, .int .i64 0, .int .i64 0, .slice none 0 0, .int .i64 0, .int .i64 0, .bool false, .slice none 0 0, .string ⟨#[]⟩] rfl rfl (by decide) rfl BK4.out ?_; intro w9 a9 b9; have BK9 := Aside0.mk a9; have HB9 := Aside0.mk (b9.1 _ _ HB4.out (Nat.le_refl _)); clear a9 b9) | fail)
    refine bodyPost_ret (results_ct rfl _ _ w.heap.size 30 #[.int .i64 0, .int .i64 0, .int .i64 0, .int .i64 0, .int .i64 0, .int .i64 0, .int .i64 0, .int .i64 0, .int .i64 0, .int .i64 0, .slice none 0 0, .int .i64 0, .int .i64 0, .bool false, .slice none 0 0, .string ⟨#[]⟩] (0, 0) _ rfl BK9.out Tryd.underlying30 rfl (by kernel_rfl)) rfl ?_
    exact ⟨rfl, HB9.out⟩
def mB (n : List Int) (y : ByteArray) : Array Value := #[.int .i64 (n.getD 0 0), .int .i64 (n.getD 1 0), .int .i64 (n.getD 2 0), .int .i64 (n.getD 3 0), .int .i64 (n.getD 4 0), .int .i64 (n.getD 5 0), .int .i64 (n.getD 6 0), .int .i64 (n.getD 7 0), .int .i64 (n.getD 8 0), .int .i64 (n.getD 9 0), .slice none 0 0, .int .i64 (n.getD 10 0), .int .i64 0, .bool false, .slice none 0 0, .string y]
theorem mB_cell (n : List Int) (y : ByteArray) (k : Nat) (h : k < 11) : ∃ v, (mB n y)[offN k]? = some v := by
  have : k = 0 ∨ k = 1 ∨ k = 2 ∨ k = 3 ∨ k = 4 ∨ k = 5 ∨ k = 6 ∨ k = 7 ∨ k = 8 ∨ k = 9 ∨ k = 10 := by omega
  rcases this with rfl | rfl | rfl | rfl | rfl | rfl | rfl | rfl | rfl | rfl | rfl <;> exact ⟨_, rfl⟩
theorem list15 {α : Type} (L : List α) (h : L.length = 15) : ∃ y0 y1 y2 y3 y4 y5 y6 y7 y8 y9 y10 y11 y12 y13 y14, L = [y0, y1, y2, y3, y4, y5, y6, y7, y8, y9, y10, y11, y12, y13, y14] := by
  match L, h with
  | [y0, y1, y2, y3, y4, y5, y6, y7, y8, y9, y10, y11, y12, y13, y14], _ => exact ⟨y0, y1, y2, y3, y4, y5, y6, y7, y8, y9, y10, y11, y12, y13, y14, rfl⟩
theorem mB_step (L : List P.S49) (y : ByteArray) (h : L.length = 15) (k : Nat) (hk : k < 11) : (mB ((L.take k).map (·.f1)) y).setIfInBounds (offN k) (.int .i64 (P.rd_T49 L (k : Int)).f1) = mB ((L.take (k + 1)).map (·.f1)) y := by
  obtain ⟨y0, y1, y2, y3, y4, y5, y6, y7, y8, y9, y10, y11, y12, y13, y14, rfl⟩ := list15 L h
  have : k = 0 ∨ k = 1 ∨ k = 2 ∨ k = 3 ∨ k = 4 ∨ k = 5 ∨ k = 6 ∨ k = 7 ∨ k = 8 ∨ k = 9 ∨ k = 10 := by omega
  rcases this with rfl | rfl | rfl | rfl | rfl | rfl | rfl | rfl | rfl | rfl | rfl <;> rfl
theorem R_butg {α : Type} {d : Kd α} {e : Nat} {w w' : World} {base g : Nat} {ok : Nat → Prop} {v : Value} {xs : List α} (h : d.R e w base ok v xs) (hok : ∀ k, ok k → k ≠ g) (hb : But g w w') : d.R e w' base ok v xs :=
  Kd.R_step h (fun k ho hk => (hb.2 k _ (hok k ho) (Array.getElem?_eq_getElem hk)).trans (Array.getElem?_eq_getElem hk).symm)
def pairs : List P.S49 → List P.S52
  | a :: b :: t => ⟨a.f1, b.f1⟩ :: pairs t
  | _ => []
theorem pairs_len : ∀ l : List P.S49, (pairs l).length ≤ l.length
  | [] => by simp [pairs]
  | [a] => by simp [pairs]
  | a :: b :: t => by have := pairs_len t; simp [pairs]; omega
theorem rd_two (a b : P.S49) (t : List P.S49) (i : Nat) : P.rd_T49 (a :: b :: t) ((i + 2 : Nat) : Int) = P.rd_T49 t (i : Int) := by
  unfold P.rd_T49
  rw [Int.toNat_natCast, Int.toNat_natCast]
  rfl
theorem pairs_take : ∀ (l : List P.S49) (i : Nat), i % 2 = 0 → i + 1 < l.length → pairs (l.take (i + 2)) = pairs (l.take i) ++ [⟨(P.rd_T49 l (i : Int)).f1, (P.rd_T49 l ((i + 1 : Nat) : Int)).f1⟩]
  | a :: b :: t, 0, _, _ => by simp [pairs, P.rd_T49]
  | a :: b :: t, i + 2, hm, h => by
    have ih := pairs_take t i (by omega) (by simp at h; omega)
    simp only [List.take_succ_cons, pairs]
    rw [ih, rd_two, show i + 2 + 1 = (i + 1) + 2 by omega, rd_two]
    rfl
  | _, 1, hm, h => by omega
  | [a], i + 2, _, h => by simp at h
  | [a], 0, _, h => by simp at h
  | [], i, _, h => by simp at h
theorem pairs_end : ∀ (l : List P.S49) (i : Nat), i % 2 = 0 → l.length ≤ i + 1 → pairs (l.take i) = pairs l
  | a :: b :: t, 0, _, h => by simp at h
  | a :: b :: t, i + 2, hm, h => by
    have ih := pairs_end t i (by omega) (by simp at h; omega)
    simp only [List.take_succ_cons, pairs]
    rw [ih]
  | _, 1, hm, _ => by omega
  | [a], 0, _, _ => rfl
  | [a], i + 2, _, _ => rfl
  | [], i, _, _ => by simp [pairs]
theorem cells_all {w : World} {g : Nat} {vs : List Value} {t : TypeId} (h : w.heap[g]? = some (.cells vs.toArray t (0, 0))) : ∀ k v, vs[k]? = some v → w.cell? ⟨g, 0 + k, none⟩ = some v := by
  intro k v hv
  rw [Nat.zero_add, blk_cell h, List.getElem?_toArray]
  exact hv
theorem one_mn (n0 n1 n2 n3 n4 n5 n6 n7 n8 n9 n10 er : Int) (b : Bool) (Ao : Option Addr) (m co : Nat) (Ah : Option Addr) (mh ch : Nat) (y : ByteArray) : ∀ v ∈ ([.int .i64 n0, .int .i64 n1, .int .i64 n2, .int .i64 n3, .int .i64 n4, .int .i64 n5, .int .i64 n6, .int .i64 n7, .int .i64 n8, .int .i64 n9, .slice Ao m co, .int .i64 n10, .int .i64 er, .bool b, .slice Ah mh ch, .string y] : List Value), v.oneCell' = true := by
  intro v hv
  simp only [List.mem_cons, List.not_mem_nil, or_false] at hv
  rcases hv with rfl | rfl | rfl | rfl | rfl | rfl | rfl | rfl | rfl | rfl | rfl | rfl | rfl | rfl | rfl | rfl <;> rfl
set_option maxRecDepth 100000 in
set_option maxHeartbeats 8000000 in
theorem take_long (s x y : ByteArray) (q1 q2 : Int) (q3 : ByteArray) (L : List P.S49) (n0 n1 n2 n3 n4 n5 n6 n7 n8 n9 n10 : Int) (V : List P.S49) (er wa : Int) (H : List P.S49) (pt : ByteArray) (pe : Int) (w : World) (hL : LaidW w) (hA : frame_All.f s = some ([x, y], (s.size : Int))) (hO : P.benc_Only.f x = some (q1, q2, q3, L, 0)) (hq : L.length = 15) (hn : (L.take 11).map (·.f1) = [n0, n1, n2, n3, n4, n5, n6, n7, n8, n9, n10])
  (hV : (P.rd_T49 L 11).f3 = V) (hev : (P.rd_T49 L 12).f1 = er) (hwa : (P.rd_T49 L 13).f1 = wa) (hH : (P.rd_T49 L 14).f3 = H) (hVl : V.length ≤ 1000000) (hHl : H.length ≤ 1000000)
  (hP : post_Put.f n0 n1 n2 n3 n4 n5 n6 n7 n8 n9 (V.map (·.f1)) n10 er (wa == 1) (pairs H) y = some (pt, pe)) :
  Calls Tryd.prog 12 #[.string s] w fun e w' => if pe = 0 ∧ pt.toList = s.toList then ∃ v10 v14 : Value, e = .returned (.tuple #[.agg #[.int .i64 n0, .int .i64 n1, .int .i64 n2, .int .i64 n3, .int .i64 n4, .int .i64 n5, .int .i64 n6, .int .i64 n7, .int .i64 n8, .int .i64 n9, v10, .int .i64 n10, .int .i64 er, .bool (wa == 1), v14, .string y], .int .i64 0]) ∧ Kd.R (Kd.int .i64) 3 w' w.heap.size (fun _ => True) v10 (V.map (·.f1)) ∧ Kd.R P.k52 52 w' w.heap.size (fun _ => True) v14 (pairs H) ∧ Below w.heap.size w w' else e = .returned (.tuple #[.agg #[.int .i64 0, .int .i64 0, .int .i64 0, .int .i64 0, .int .i64 0, .int .i64 0, .int .i64 0, .int .i64 0, .int .i64 0, .int .i64 0, .slice none 0 0, .int .i64 0, .int .i64 0, .bool false, .slice none 0 0, .string ⟨#[]⟩], .int .i64 130]) ∧ Below w.heap.size w w' := by
 have HA := Aside0.mk hA
 have HL := Aside0.mk hL
 have HO := Aside0.mk hO
 have HQ := Aside0.mk hq
 have HN := Aside0.mk hn
 have HV := Aside0.mk hV
 have HE := Aside0.mk hev
 have HW := Aside0.mk hwa
 have HH := Aside0.mk hH
 have HVL := Aside0.mk hVl
 have HHL := Aside0.mk hHl
 have HP := Aside0.mk hP
 have b2 : ((L.length : Int) != 15) = false := by simp [hq]
 clear hA hL hO hq hn hV hev hwa hH hVl hHl hP
 go_enter Tryd.func12, Tryd.ntmps12
 go_wp2_with (first | (go_at_call 30; refine (frame_All.calls s [x, y] _ _ (LaidW.below HL.out ((Below.refl _ _).alloc (Nat.le_refl _) _)) HA.out).mono ?_; rintro e w1 ⟨v4, rfl, hr, hb⟩; have HB1 := Aside0.mk (below_step ((Below.refl _ _).alloc (Nat.le_refl _) _) hb); have BK1 := Aside0.mk (blk_below (MapKept.heap_alloc w (.cells #[.int .i64 0, .int .i64 0, .int .i64 0, .int .i64 0, .int .i64 0, .int .i64 0, .int .i64 0, .int .i64 0, .int .i64 0, .int .i64 0, .slice none 0 0, .int .i64 0, .int .i64 0, .bool false, .slice none 0 0, .string ⟨#[]⟩] 30 (0, 0))).1 hb); have HR1 := Aside0.mk (Kd.R_lower hr (below_size ((Below.refl w.heap.size w).alloc (Nat.le_refl _) _))); clear hr hb; obtain ⟨A4, c4, rfl⟩ := Kd.R_slice HR1.out; obtain ⟨ad4, rfl, s0⟩ := Kd.at_string (Kd.R_reads' HR1.out).2.2 0 (by decide) (by simp); replace s0 : w1.cell? ad4 = some (.string x) := s0) | (go_at_call 31; refine (P.benc_Only.calls x q1 q2 q3 L 0 _ (LaidW.below HL.out HB1.out) HO.out).mono ?_; rintro e w2 ⟨v3_, rfl, hr, hb⟩; have HB2 := Aside0.mk (below_step HB1.out hb); have BK2 := Aside0.mk (blk_below BK1.out hb); have HV2 := Aside0.mk (Kd.R_mono (ok' := fun k => k < w2.heap.size) (Kd.R_bound (Kd.R_lower hr HB1.out.size)) (fun k hk => hk.2.2.1)); have HR2 := Aside0.mk (Kd.R_below HR1.out hb); clear hr hb; obtain ⟨Av, cv, rfl⟩ := Kd.R_slice HV2.out; obtain ⟨adx, hadx, s1⟩ := Kd.at_string (Kd.R_reads' HR2.out).2.2 1 (by decide) (by simp); rw [← Option.some.inj hadx] at s1; replace s1 : w2.cell? ⟨ad4.block, ad4.off + 1, none⟩ = some (.string y) := s1; have s1a := Lib.cell?_alloc_some (.cells #[.int .i64 q1, .int .i64 q2, .string q3, .slice Av L.length cv] 49) s1; clear hadx) | ((with_reducible refine gate_store (ty := 30) (x := .tmp 8) rfl ?_); refine ev_store rfl rfl 30 (.tmp 8) _ rfl _ rfl (w2.heap.size + 1) 30 rfl [.int .i64 0, .int .i64 0, .int .i64 0, .int .i64 0, .int .i64 0, .int .i64 0, .int .i64 0, .int .i64 0, .int .i64 0, .int .i64 0, .slice none 0 0, .int .i64 0, .int .i64 0, .bool false, .slice none 0 0, .string y] [.int .i64 0, .int .i64 0, .int .i64 0, .int .i64 0, .int .i64 0, .int .i64 0, .int .i64 0, .int .i64 0, .int .i64 0, .int .i64 0, .slice none 0 0, .int .i64 0, .int .i64 0, .bool false, .slice none 0 0, .string ⟨#[]⟩] rfl rfl (one_mz y) rfl (blk_newn (w2.alloc (.cells #[.int .i64 q1, .int .i64 q2, .string q3, .slice Av L.length cv] 49)) (.cells #[.int .i64 0, .int .i64 0, .int .i64 0, .int .i64 0, .int .i64 0, .int .i64 0, .int .i64 0, .int .i64 0, .int .i64 0, .int .i64 0, .slice none 0 0, .int .i64 0, .int .i64 0, .bool false, .slice none 0 0, .string ⟨#[]⟩] 30) (w2.heap.size + 1) (by simp)) ?_; intro w3 a9 b9; have hb := b9.1 _ _ (below_alloc ((Below.refl w2.heap.size w2).alloc (Nat.le_refl _) (.cells #[.int .i64 q1, .int .i64 q2, .string q3, .slice Av L.length cv] 49)) (.cells #[.int .i64 0, .int .i64 0, .int .i64 0, .int .i64 0, .int .i64 0, .int .i64 0, .int .i64 0, .int .i64 0, .int .i64 0, .int .i64 0, .slice none 0 0, .int .i64 0, .int .i64 0, .bool false, .slice none 0 0, .string ⟨#[]⟩] 30)) (by omega); have BM3 := Aside0.mk a9; have BV3 := Aside0.mk (b9.2 _ _ (by omega) (blk_alloc (blk_new w2 (.cells #[.int .i64 q1, .int .i64 q2, .string q3, .slice Av L.length cv] 49)) (.cells #[.int .i64 0, .int .i64 0, .int .i64 0, .int .i64 0, .int .i64 0, .int .i64 0, .int .i64 0, .int .i64 0, .int .i64 0, .int .i64 0, .slice none 0 0, .int .i64 0, .int .i64 0, .bool false, .slice none 0 0, .string ⟨#[]⟩] 30))); have HX3 := Aside0.mk hb; clear a9 b9 hb s0 s1 s1a) | (go_at_call 15; refine (numbers_calls _ _).mono ?_; rintro e w4 ⟨g, rfl, hg0, hgb, hb⟩; have HG := Aside0.mk (show w2.heap.size + 1 < g from Nat.lt_of_lt_of_le (blk_lt BM3.out) hg0); have BG4 := Aside0.mk hgb; have HX4 := Aside0.mk (below_step HX3.out hb); have BM4 := Aside0.mk (blk_below BM3.out hb); have BV4 := Aside0.mk (blk_below BV3.out hb); have v3c := blk_cell BV4.out 3; clear hg0 hgb hb) | fail)
 have C0 := Kd.R_reads' HV2.out
 have hcv := Aside0.mk (show 15 ≤ cv from by have := C0.2.1; have := HQ.out; omega)
 obtain ⟨ad, A11, c11, rfl, -, -, -, e11, -, C11⟩ := P.at_T49 C0.2.2 11 (by decide) (by have := HQ.out; omega)
 obtain ⟨adx, A12, c12, hax, -, e12, -, -, -, -⟩ := P.at_T49 C0.2.2 12 (by decide) (by have := HQ.out; omega)
 rw [← Option.some.inj hax] at e12
 clear hax
 obtain ⟨ady, A13, c13, hay, -, e13, -, -, -, -⟩ := P.at_T49 C0.2.2 13 (by decide) (by have := HQ.out; omega)
 rw [← Option.some.inj hay] at e13
 clear hay
 obtain ⟨adz, A14, c14, haz, -, -, -, e14, -, C14⟩ := P.at_T49 C0.2.2 14 (by decide) (by have := HQ.out; omega)
 rw [← Option.some.inj haz] at e14
 clear haz adx ady adz C0
 rw [HV.out] at e11 C11
 rw [HE.out] at e12
 rw [HW.out] at e13
 rw [HH.out] at e14 C14
 have D11 := Aside0.mk (show w2.cell? ⟨ad.block, ad.off + 47, none⟩ = some (.slice A11 V.length c11) from e11)
 have D12 := Aside0.mk (show w2.cell? ⟨ad.block, ad.off + 49, none⟩ = some (.int .i64 er) from e12)
 have D13 := Aside0.mk (show w2.cell? ⟨ad.block, ad.off + 53, none⟩ = some (.int .i64 wa) from e13)
 have D14 := Aside0.mk (show w2.cell? ⟨ad.block, ad.off + 59, none⟩ = some (.slice A14 H.length c14) from e14)
 have HC11 := Aside0.mk C11
 have HC14 := Aside0.mk C14
 clear e11 e12 e13 e14 C11 C14
 go_loopw [59] (fun i wr => ∃ k : Nat, k ≤ 11 ∧ i = .int .i64 k ∧ Aside0 (Below w2.heap.size w2 wr) ∧ Aside0 (wr.heap[w2.heap.size]? = some (.cells #[.int .i64 q1, .int .i64 q2, .string q3, .slice (some ad) L.length cv] 49 (0, 0))) ∧ Aside0 (wr.heap[g]? = some (.cells (ptrs (w2.heap.size + 1)) 47 (0, 0))) ∧ Aside0 (wr.heap[w2.heap.size + 1]? = some (.cells (mB ((L.take k).map (·.f1)) y) 30 (0, 0)))) (fun i _ => 11 - (RowKit.intOf i).toNat)
 case atStart => exact ⟨0, by omega, rfl, HX4, BV4, BG4, BM4⟩
 case round =>
  obtain ⟨k, hk, rfl, HX, BV, BG, BM⟩ := hrel
  have v3c := blk_cell BV.out 3
  by_cases hlt : k < 11
  ·
   have c1 : wr.cell? ⟨g, k, none⟩ = some (.pointer (some ⟨w2.heap.size + 1, offN k, none⟩)) := (blk_cell BG.out k).trans (ptrs_at _ _ hlt)
   obtain ⟨v0, hv0⟩ := mB_cell ((L.take k).map (·.f1)) y k hlt
   have c2 := (blk_cell BM.out (offN k)).trans hv0
   have f2 := blk_frozen BM.out (offN k)
   have hlL : (k : Int) < (L.length : Int) := by have := HQ.out; omega
   obtain ⟨adk, A3, c3, hak, -, d1, -, -, -, -⟩ := P.at_T49 (Kd.R_reads' (Kd.R_below HV2.out HX.out)).2.2 (k : Int) (by omega) hlL
   rw [Int.toNat_natCast, ← Option.some.inj hak] at d1
   clear hak
   have HT := Aside0.mk (mB_step L y HQ.out k hlt)
   generalize (P.rd_T49 L (k : Int)).f1 = x1 at *
   clear hv0
   go_wp2_with fail
   go_roundw
   case rel => exact ⟨k + 1, by omega, by go_num, ⟨below_set HX.out (by omega)⟩, ⟨(But.set1 _ _ _ _).2 _ _ (by omega) BV.out⟩, ⟨(But.set1 _ _ _ _).2 _ _ (by have := HG.out; omega) BG.out⟩, ⟨blk_put BM.out _ _ HT.out⟩⟩
   case measure => simp [RowKit.intOf]; omega
  ·
   obtain rfl : k = 11 := by omega
   rw [HN.out] at BM
   replace BM : Aside0 (wr.heap[w2.heap.size + 1]? = some (.cells #[.int .i64 n0, .int .i64 n1, .int .i64 n2, .int .i64 n3, .int .i64 n4, .int .i64 n5, .int .i64 n6, .int .i64 n7, .int .i64 n8, .int .i64 n9, .slice none 0 0, .int .i64 n10, .int .i64 0, .bool false, .slice none 0 0, .string y] 30 (0, 0))) := BM
   clear BG
   have hq := HQ.out
   have hcne : ¬ cv = 11 := by have := hcv.out; omega
   have hcv1 := hcv.out
   have d11 := pw_cell_below HX.out D11.out
   go_wp2_with fail
   clear hq hcne hcv1 d11 v3c b2
   go_loopw [83] (fun i wr => ∃ (k : Nat) (v10 : Value), k ≤ V.length ∧ i = .int .i64 k ∧ Aside0 (Below w2.heap.size w2 wr) ∧ Aside0 (wr.heap[w2.heap.size + 1]? = some (.cells #[.int .i64 n0, .int .i64 n1, .int .i64 n2, .int .i64 n3, .int .i64 n4, .int .i64 n5, .int .i64 n6, .int .i64 n7, .int .i64 n8, .int .i64 n9, v10, .int .i64 n10, .int .i64 0, .bool false, .slice none 0 0, .string y] 30 (0, 0))) ∧ Aside0 (Kd.R (Kd.int .i64) 3 wr w2.heap.size (fun b => b ≠ w2.heap.size + 1) v10 ((V.take k).map (·.f1)))) (fun i _ => V.length - (RowKit.intOf i).toNat)
   case atStart => exact ⟨0, _, by omega, rfl, HX, BM, ⟨by simpa using Kd.R_nil (Kd.int .i64) 3 _ _ _⟩⟩
   case round =>
    clear HX BM BV
    obtain ⟨k, v10, hk, rfl, HX, BM, HR10⟩ := hrel
    by_cases hlt : k < V.length
    ·
     obtain ⟨adk, A3, c3, hak, d0, d1, d2, d3, -, -⟩ := P.at_T49 (Kd.C_below HC11.out HX.out) (k : Int) (by omega) (by omega)
     have exk : P.rd_T49 V (k : Int) = V[k] := by unfold P.rd_T49; simp [hlt]
     rw [Int.toNat_natCast, exk] at d0 d1 d2 d3
     have HT := Aside0.mk (len_take_map V (·.f1) k hlt)
     have HLK := Aside0.mk (show ((V.take k).map (·.f1)).length ≤ 1000000 from by rw [List.length_map, List.length_take]; have := HVL.out; omega)
     obtain ⟨xs, hxs⟩ : ∃ xs, xs = (V.take k).map (·.f1) := ⟨_, rfl⟩
     rw [← hxs] at HR10 HT HLK
     clear exk hxs
     generalize V[k] = p at *
     obtain ⟨x0, x1, x2, x3⟩ := p
     simp only at d0 d1 d2 d3 HT
     subst hak
     obtain ⟨Ao, co, rfl⟩ := Kd.R_slice HR10.out
     have m10 := Lib.cell?_alloc_some (.cells #[.int .i64 x0, .int .i64 x1, .string x2, .slice A3 x3.length c3] 49) (blk_cell BM.out 10)
     have hv_ := HVL.out
     go_wp2_with (at_builtin; refine Kd.R_append (Kd.int .i64) (w0 := w2) (W := wr.alloc (.cells #[.int .i64 x0, .int .i64 x1, .string x2, .slice A3 x3.length c3] 49)) w2.heap.size rfl (.tmp 89) (.tmp 92) 22 3 (.int .i64 0) 8 rfl Tryd.underlying22 info_int0 rfl (by decide) (by omega) (.slice Ao xs.length co) xs x1 [.int .i64 x1] (fun b => b ≠ w2.heap.size + 1) (fun _ => False) rfl ?ax ?aP (fun _ hk => hk.elim) ?aF ?aO ?aB ?aS ?aL ?_; (case ax => (rw [World.size_alloc]; rfl)); (case aP => exact rfl); (case aF => exact (fun k hk => by have := blk_lt BM.out; simp at hk; omega)); (case aO => exact Kd.R_alloc HR10.out _); (case aB => exact below_alloc HX.out _); (case aS => have := HX.out.size; simp; omega); (case aL => have := HLK.out; omega); intro v9 w9 ho hb hg hat; have HO9 := Aside0.mk ho; have HX9 := Aside0.mk hb; have BM9 := Aside0.mk (blk_grown (blk_alloc BM.out _) hg (fun e => HR10.out.1 _ e.symm rfl)); have m10n := blk_cell BM9.out 10; have f10n := blk_frozen BM9.out 10; obtain ⟨An, cn, rfl⟩ := Kd.R_slice ho; clear ho hb hg hat)
     go_roundw
     case rel => exact ⟨_, _, _, _, _, _, _, _, _, _, _, _, _, _, _, ⟨k + 1, _, by omega, by go_num, ⟨below_set HX9.out (by omega)⟩, ⟨blk_put BM9.out 10 _ rfl⟩, ⟨by rw [HT.out]; have h := Kd.R_far (p := ⟨w2.heap.size + 1, 10, none⟩) HO9.out (fun k hk => hk) (.slice An (xs.length + 1) cn); rw [show (xs ++ [x1]).length = xs.length + 1 from by simp] at h; exact h⟩⟩, rfl⟩
     case measure => simp [RowKit.intOf]; omega
    ·
     obtain rfl : k = V.length := by omega
     rw [List.take_length] at HR10
     go_wp2_with fail
     have d12 := pw_cell_below HX.out D12.out
     have d13 := pw_cell_below HX.out D13.out
     have m12 := blk_cell BM.out 12
     have m13 := blk_cell BM.out 13
     have m14 := blk_cell BM.out 14
     have f12 := blk_frozen BM.out 12
     have f13 := blk_frozen BM.out 13
     have f14 := blk_frozen BM.out 14
     refine Cut.wp_region_cut (S := (fun w' => w'.cell? ⟨ad.block, ad.off + 49, none⟩ = some (.int .i64 er) ∧ w'.cell? ⟨ad.block, ad.off + 53, none⟩ = some (.int .i64 wa))) (by kernel_rfl) rfl rfl (by kernel_rfl) (by kernel_rfl) ?_
     simp only [List.pop_toArray, List.dropLast, List.size_toArray, List.length_cons, List.length_nil]
     have HSW : (fun w' : World => w'.cell? ⟨ad.block, ad.off + 49, none⟩ = some (.int .i64 er) ∧ w'.cell? ⟨ad.block, ad.off + 53, none⟩ = some (.int .i64 wa)) _ := ⟨d12, d13⟩
     refine wpAnyH_take (i := 0) (v := ?vp0) rfl (by kernel_rfl) (by kernel_rfl) (by kernel_rfl) (fun _ _ _ h => h) (Or.inl ⟨by rfl, ?hyp0⟩) HSW ?restp0
     case hyp0 => (intro w hSw; (try dsimp only at hSw); go_simp; first | done | with_reducible rfl)
     try simp only [Act.put, List.getElem_toArray, List.getElem_cons_zero, List.getElem_cons_succ, List.setIfInBounds_toArray, List.set_cons_zero, List.set_cons_succ]
     refine wpAnyH_take (i := 1) (v := ?vp1) rfl (by kernel_rfl) (by kernel_rfl) (by kernel_rfl) (fun _ _ _ h => h) (Or.inl ⟨by rfl, ?hyp1⟩) HSW ?restp1
     case hyp1 => (intro w hSw; (try dsimp only at hSw); go_simp; first | done | with_reducible rfl)
     try simp only [Act.put, List.getElem_toArray, List.getElem_cons_zero, List.getElem_cons_succ, List.setIfInBounds_toArray, List.set_cons_zero, List.set_cons_succ]
     refine wpAnyH_take (i := 2) (v := ?vp2) rfl (by kernel_rfl) (by kernel_rfl) (by kernel_rfl) (fun _ _ _ h => h) (Or.inl ⟨by rfl, ?hyp2⟩) HSW ?restp2
     case hyp2 => (intro w hSw; (try dsimp only at hSw); go_simp; first | done | with_reducible rfl)
     try simp only [Act.put, List.getElem_toArray, List.getElem_cons_zero, List.getElem_cons_succ, List.setIfInBounds_toArray, List.set_cons_zero, List.set_cons_succ]
     refine wpAnyH_take (i := 3) (v := ?vp3) rfl (by kernel_rfl) (by kernel_rfl) (by kernel_rfl) (fun _ _ _ h => h) (Or.inl ⟨by rfl, ?hyp3⟩) HSW ?restp3
     case hyp3 => (intro w hSw; (try dsimp only at hSw); go_simp; first | done | with_reducible rfl)
     try simp only [Act.put, List.getElem_toArray, List.getElem_cons_zero, List.getElem_cons_succ, List.setIfInBounds_toArray, List.set_cons_zero, List.set_cons_succ]
     refine wpAnyH_take (i := 4) (v := ?vp4) rfl (by kernel_rfl) (by kernel_rfl) (by kernel_rfl) (fun _ _ _ h => h) (Or.inl ⟨by rfl, ?hyp4⟩) HSW ?restp4
     case hyp4 => (intro w hSw; (try dsimp only at hSw); go_simp; first | done | with_reducible rfl)
     try simp only [Act.put, List.getElem_toArray, List.getElem_cons_zero, List.getElem_cons_succ, List.setIfInBounds_toArray, List.set_cons_zero, List.set_cons_succ]
     refine wpAnyH_take (i := 5) (v := ?vp5) rfl (by kernel_rfl) (by kernel_rfl) (by kernel_rfl) (fun _ _ _ h => h) (Or.inl ⟨by rfl, ?hyp5⟩) HSW ?restp5
     case hyp5 => (intro w hSw; (try dsimp only at hSw); go_simp; first | done | with_reducible rfl)
     try simp only [Act.put, List.getElem_toArray, List.getElem_cons_zero, List.getElem_cons_succ, List.setIfInBounds_toArray, List.set_cons_zero, List.set_cons_succ]
     refine wpAnyH_take (i := 6) (v := ?vp6) rfl (by kernel_rfl) (by kernel_rfl) (by kernel_rfl) (fun _ _ _ h => h) (Or.inl ⟨by rfl, ?hyp6⟩) HSW ?restp6
     case hyp6 => (intro w hSw; (try dsimp only at hSw); go_simp; first | done | with_reducible rfl)
     try simp only [Act.put, List.getElem_toArray, List.getElem_cons_zero, List.getElem_cons_succ, List.setIfInBounds_toArray, List.set_cons_zero, List.set_cons_succ]
     refine wpAnyH_take (i := 7) (v := ?vp7) rfl (by kernel_rfl) (by kernel_rfl) (by kernel_rfl) (fun _ _ _ h => h) (Or.inl ⟨by rfl, ?hyp7⟩) HSW ?restp7
     case hyp7 => (intro w hSw; (try dsimp only at hSw); go_simp; first | done | with_reducible rfl)
     try simp only [Act.put, List.getElem_toArray, List.getElem_cons_zero, List.getElem_cons_succ, List.setIfInBounds_toArray, List.set_cons_zero, List.set_cons_succ]
     refine wpAnyH_take (i := 8) (v := ?vp8) rfl (by kernel_rfl) (by kernel_rfl) (by kernel_rfl) (fun _ _ _ h => h) (Or.inl ⟨by rfl, ?hyp8⟩) HSW ?restp8
     case hyp8 => (intro w hSw; (try dsimp only at hSw); go_simp; first | done | with_reducible rfl)
     try simp only [Act.put, List.getElem_toArray, List.getElem_cons_zero, List.getElem_cons_succ, List.setIfInBounds_toArray, List.set_cons_zero, List.set_cons_succ]
     refine wpAnyH_take (i := 9) (v := ?vp9) rfl (by kernel_rfl) (by kernel_rfl) (by kernel_rfl) (fun _ _ _ h => h) (Or.inl ⟨by rfl, ?hyp9⟩) HSW ?restp9
     case hyp9 => (intro w hSw; (try dsimp only at hSw); go_simp; first | done | with_reducible rfl)
     try simp only [Act.put, List.getElem_toArray, List.getElem_cons_zero, List.getElem_cons_succ, List.setIfInBounds_toArray, List.set_cons_zero, List.set_cons_succ]
     refine wpAnyH_take (i := 10) (v := ?vp10) rfl (by kernel_rfl) (by kernel_rfl) (by kernel_rfl) (fun _ _ _ h => h) (Or.inl ⟨by rfl, ?hyp10⟩) HSW ?restp10
     case hyp10 => (intro w hSw; (try dsimp only at hSw); go_simp; first | done | with_reducible rfl)
     try simp only [Act.put, List.getElem_toArray, List.getElem_cons_zero, List.getElem_cons_succ, List.setIfInBounds_toArray, List.set_cons_zero, List.set_cons_succ]
     refine wpAnyH_done (by kernel_rfl) ?_ _
     unfold Cut.cutQ
     clear HSW
     clear d12 d13
     go_wp2_with fail
     obtain ⟨Ao, co, rfl⟩ := Kd.R_slice HR10.out
     obtain ⟨xs, hxs⟩ : ∃ xs, xs = V.map (·.f1) := ⟨_, rfl⟩
     rw [← hxs] at HR10 HP BM
     have HXS := Aside0.mk hxs
     have hglt := blk_lt BM.out
     obtain ⟨S, hS⟩ : ∃ S, S = wr.heap.size := ⟨_, rfl⟩
     have HS0 := Aside0.mk (show w2.heap.size + 1 < S from by rw [hS]; exact hglt)
     have HR0 := Aside0.mk (Kd.R_drew (Kd.R_far (p := ⟨w2.heap.size + 1, 14, none⟩) (Kd.R_far (p := ⟨w2.heap.size + 1, 13, none⟩) (Kd.R_far (p := ⟨w2.heap.size + 1, 12, none⟩) (Kd.R_mono (ok' := fun k => k ≠ w2.heap.size + 1 ∧ k < S) (Kd.R_bound HR10.out) (fun k hk => ⟨hk.1, by rw [hS]; exact hk.2.2.1⟩)) (fun k hk => hk.1) (.int .i64 er)) (fun k hk => hk.1) (.bool (wa == 1))) (fun k hk => hk.1) (.slice none 0 0)))
     have HX0 := Aside0.mk (below_drew (below_set (g := w2.heap.size + 1) (j := 14) (v := .slice none 0 0) (below_set (g := w2.heap.size + 1) (j := 13) (v := .bool (wa == 1)) (below_set (g := w2.heap.size + 1) (j := 12) (v := .int .i64 er) HX.out (by omega)) (by omega)) (by omega)))
     have BM0 := Aside0.mk (blk_drew (blk_put (cs' := #[.int .i64 n0, .int .i64 n1, .int .i64 n2, .int .i64 n3, .int .i64 n4, .int .i64 n5, .int .i64 n6, .int .i64 n7, .int .i64 n8, .int .i64 n9, .slice Ao xs.length co, .int .i64 n10, .int .i64 er, .bool (wa == 1), .slice none 0 0, .string y]) (blk_put (blk_put BM.out 12 (.int .i64 er) rfl) 13 (.bool (wa == 1)) rfl) 14 (.slice none 0 0) rfl))
     have HSZ0 := Aside0.mk (show S ≤ ((((wr.setCell ⟨w2.heap.size + 1, 12, none⟩ (.int .i64 er)).setCell ⟨w2.heap.size + 1, 13, none⟩ (.bool (wa == 1))).setCell ⟨w2.heap.size + 1, 14, none⟩ (.slice none 0 0)).drew).heap.size from by rw [hS]; simp [World.setCell, World.drew])
     clear HX HR10 BM m12 m13 m14 f12 f13 f14 hS hxs hglt
     go_loopw [15] (fun v15 wr => ∃ (i : Nat) (v14 : Value), i ≤ 1000002 ∧ v15 = .int .i64 i ∧ Aside0 (i % 2 = 0 ∧ i ≤ H.length + 1) ∧ Aside0 (Below w2.heap.size w2 wr) ∧ Aside0 (wr.heap[w2.heap.size + 1]? = some (.cells #[.int .i64 n0, .int .i64 n1, .int .i64 n2, .int .i64 n3, .int .i64 n4, .int .i64 n5, .int .i64 n6, .int .i64 n7, .int .i64 n8, .int .i64 n9, .slice Ao xs.length co, .int .i64 n10, .int .i64 er, .bool (wa == 1), v14, .string y] 30 (0, 0))) ∧ Aside0 (Kd.R (Kd.int .i64) 3 wr w2.heap.size (fun k => k ≠ w2.heap.size + 1 ∧ k < S) (.slice Ao xs.length co) xs) ∧ Aside0 (Kd.R P.k52 52 wr w2.heap.size (fun k => S ≤ k) v14 (pairs (H.take i))) ∧ Aside0 (S ≤ wr.heap.size)) (fun v15 _ => 1000004 - (RowKit.intOf v15).toNat)
     case atStart => exact ⟨0, _, by omega, rfl, ⟨rfl, by omega⟩, HX0, BM0, HR0, ⟨by simpa [pairs] using Kd.R_nil P.k52 52 _ _ _⟩, HSZ0⟩
     case round =>
      clear HX0 BM0 HR0 HSZ0
      obtain ⟨i, v14, hi, rfl, HI, HX, BM, HR10, HR14, HSZ⟩ := hrel
      have d14 := pw_cell_below HX.out D14.out
      by_cases hlt : i + 1 < H.length
      ·
       obtain ⟨adh, A3, c3, hadh, -, g1, -, -, -, -⟩ := P.at_T49 HC14.out (i : Int) (by omega) (by omega)
       obtain ⟨adi, A4_, c4_, hadi, -, g2, -, -, -, -⟩ := P.at_T49 HC14.out ((i + 1 : Nat) : Int) (by omega) (by omega)
       rw [hadh] at hadi
       rw [← Option.some.inj hadi] at g2
       rw [Int.toNat_natCast] at g1 g2
       clear hadi
       subst hadh
       have HT := Aside0.mk (pairs_take H i HI.out.1 hlt)
       have HLK := Aside0.mk (show (pairs (H.take i)).length ≤ 1000002 from by have := pairs_len (H.take i); rw [List.length_take] at this; omega)
       obtain ⟨ys, hys⟩ : ∃ ys, ys = pairs (H.take i) := ⟨_, rfl⟩
       rw [← hys] at HR14 HT HLK
       clear hys
       generalize (P.rd_T49 H (i : Int)).f1 = x1 at *
       generalize (P.rd_T49 H ((i + 1 : Nat) : Int)).f1 = x2 at *
       have G1 := Aside0.mk g1
       have G2 := Aside0.mk g2
       clear g1 g2
       have g1 := pw_cell_below HX.out G1.out
       have g2 := pw_cell_below HX.out G2.out
       obtain ⟨Ah, ch, rfl⟩ := Kd.R_slice HR14.out
       have m14 := blk_cell BM.out 14
       have hw1 : IntKind.i64.wrap ((i : Int) + 1) = (i : Int) + 1 := (Go.IntWalk.i64_in ((i : Int) + 1) (And.intro (by omega) (by omega)))
       have h01 : (0 : Int) ≤ (i : Int) + 1 := by omega
       have hlt' : (i : Int) + 1 < (H.length : Int) := by omega
       have hlt2 : (i : Int) < (H.length : Int) := by omega
       go_wp2_with fail
       refine Cut.wp_region_cut (S := (fun w' => w'.cell? ⟨w2.heap.size + 1, 14, none⟩ = some (.slice Ah ys.length ch) ∧ w'.cell? ⟨ad.block, ad.off + 59, none⟩ = some (.slice (some adh) H.length c14) ∧ w'.cell? ⟨(adh.add (i * 4)).block, (adh.add (i * 4)).off + 1, none⟩ = some (.int .i64 x1) ∧ w'.cell? ⟨(adh.add ((i + 1) * 4)).block, (adh.add ((i + 1) * 4)).off + 1, none⟩ = some (.int .i64 x2))) (by kernel_rfl) rfl rfl (by kernel_rfl) (by kernel_rfl) ?_
       simp only [List.pop_toArray, List.dropLast, List.size_toArray, List.length_cons, List.length_nil]
       have HSW : (fun w' : World => w'.cell? ⟨w2.heap.size + 1, 14, none⟩ = some (.slice Ah ys.length ch) ∧ w'.cell? ⟨ad.block, ad.off + 59, none⟩ = some (.slice (some adh) H.length c14) ∧ w'.cell? ⟨(adh.add (i * 4)).block, (adh.add (i * 4)).off + 1, none⟩ = some (.int .i64 x1) ∧ w'.cell? ⟨(adh.add ((i + 1) * 4)).block, (adh.add ((i + 1) * 4)).off + 1, none⟩ = some (.int .i64 x2)) _ := ⟨m14, d14, g1, g2⟩
       refine wpAnyH_take (i := 0) (v := ?vq0) rfl (by kernel_rfl) (by kernel_rfl) (by kernel_rfl) (fun _ _ _ h => h) (Or.inl ⟨by rfl, ?hyq0⟩) HSW ?restq0
       case hyq0 => (intro w hSw; (try dsimp only at hSw); go_simp; first | done | with_reducible rfl)
       try simp only [Act.put, List.getElem_toArray, List.getElem_cons_zero, List.getElem_cons_succ, List.setIfInBounds_toArray, List.set_cons_zero, List.set_cons_succ]
       refine wpAnyH_take (i := 1) (v := ?vq1) rfl (by kernel_rfl) (by kernel_rfl) (by kernel_rfl) (fun _ _ _ h => h) (Or.inl ⟨by rfl, ?hyq1⟩) HSW ?restq1
       case hyq1 => (intro w hSw; (try dsimp only at hSw); go_simp; first | done | with_reducible rfl)
       try simp only [Act.put, List.getElem_toArray, List.getElem_cons_zero, List.getElem_cons_succ, List.setIfInBounds_toArray, List.set_cons_zero, List.set_cons_succ]
       refine wpAnyH_take (i := 2) (v := ?vq2) rfl (by kernel_rfl) (by kernel_rfl) (by kernel_rfl) (fun _ _ _ h => h) (Or.inl ⟨by rfl, ?hyq2⟩) HSW ?restq2
       case hyq2 => (intro w hSw; (try dsimp only at hSw); go_simp; first | done | with_reducible rfl)
       try simp only [Act.put, List.getElem_toArray, List.getElem_cons_zero, List.getElem_cons_succ, List.setIfInBounds_toArray, List.set_cons_zero, List.set_cons_succ]
       refine wpAnyH_take (i := 3) (v := ?vq3) rfl (by kernel_rfl) (by kernel_rfl) (by kernel_rfl) (fun _ _ _ h => h) (Or.inl ⟨by rfl, ?hyq3⟩) HSW ?restq3
       case hyq3 => (intro w hSw; (try dsimp only at hSw); go_simp; first | done | with_reducible rfl)
       try simp only [Act.put, List.getElem_toArray, List.getElem_cons_zero, List.getElem_cons_succ, List.setIfInBounds_toArray, List.set_cons_zero, List.set_cons_succ]
       refine wpAnyH_take (i := 4) (v := ?vq4) rfl (by kernel_rfl) (by kernel_rfl) (by kernel_rfl) (fun _ _ _ h => h) (Or.inl ⟨by rfl, ?hyq4⟩) HSW ?restq4
       case hyq4 => (intro w hSw; (try dsimp only at hSw); go_simp; first | done | with_reducible rfl)
       try simp only [Act.put, List.getElem_toArray, List.getElem_cons_zero, List.getElem_cons_succ, List.setIfInBounds_toArray, List.set_cons_zero, List.set_cons_succ]
       refine wpAnyH_take (i := 5) (v := ?vq5) rfl (by kernel_rfl) (by kernel_rfl) (by kernel_rfl) (fun _ _ _ h => h) (Or.inl ⟨by rfl, ?hyq5⟩) HSW ?restq5
       case hyq5 => (intro w hSw; (try dsimp only at hSw); go_simp; first | done | with_reducible rfl)
       try simp only [Act.put, List.getElem_toArray, List.getElem_cons_zero, List.getElem_cons_succ, List.setIfInBounds_toArray, List.set_cons_zero, List.set_cons_succ]
       refine wpAnyH_take (i := 6) (v := ?vq6) rfl (by kernel_rfl) (by kernel_rfl) (by kernel_rfl) (fun _ _ _ h => h) (Or.inl ⟨by rfl, ?hyq6⟩) HSW ?restq6
       case hyq6 => (intro w hSw; (try dsimp only at hSw); go_simp; first | done | with_reducible rfl)
       try simp only [Act.put, List.getElem_toArray, List.getElem_cons_zero, List.getElem_cons_succ, List.setIfInBounds_toArray, List.set_cons_zero, List.set_cons_succ]
       refine wpAnyH_take (i := 7) (v := ?vq7) rfl (by kernel_rfl) (by kernel_rfl) (by kernel_rfl) (fun _ _ _ h => h) (Or.inl ⟨by rfl, ?hyq7⟩) HSW ?restq7
       case hyq7 => (intro w hSw; (try dsimp only at hSw); go_simp; first | done | with_reducible rfl)
       try simp only [Act.put, List.getElem_toArray, List.getElem_cons_zero, List.getElem_cons_succ, List.setIfInBounds_toArray, List.set_cons_zero, List.set_cons_succ]
       refine wpAnyH_take (i := 8) (v := ?vq8) rfl (by kernel_rfl) (by kernel_rfl) (by kernel_rfl) (fun _ _ _ h => h) (Or.inl ⟨by rfl, ?hyq8⟩) HSW ?restq8
       case hyq8 => (intro w hSw; (try dsimp only at hSw); go_simp; first | done | with_reducible rfl)
       try simp only [Act.put, List.getElem_toArray, List.getElem_cons_zero, List.getElem_cons_succ, List.setIfInBounds_toArray, List.set_cons_zero, List.set_cons_succ]
       refine wpAnyH_take (i := 9) (v := ?vq9) rfl (by kernel_rfl) (by kernel_rfl) (by kernel_rfl) (fun _ _ _ h => h) (Or.inl ⟨by rfl, ?hyq9⟩) HSW ?restq9
       case hyq9 => (intro w hSw; (try dsimp only at hSw); go_simp; first | done | with_reducible rfl)
       try simp only [Act.put, List.getElem_toArray, List.getElem_cons_zero, List.getElem_cons_succ, List.setIfInBounds_toArray, List.set_cons_zero, List.set_cons_succ]
       refine wpAnyH_take (i := 10) (v := ?vq10) rfl (by kernel_rfl) (by kernel_rfl) (by kernel_rfl) (fun _ _ _ h => h) (Or.inl ⟨by rfl, ?hyq10⟩) HSW ?restq10
       case hyq10 => (intro w hSw; (try dsimp only at hSw); go_simp; first | done | with_reducible rfl)
       try simp only [Act.put, List.getElem_toArray, List.getElem_cons_zero, List.getElem_cons_succ, List.setIfInBounds_toArray, List.set_cons_zero, List.set_cons_succ]
       refine wpAnyH_take (i := 11) (v := ?vq11) rfl (by kernel_rfl) (by kernel_rfl) (by kernel_rfl) (fun _ _ _ h => h) (Or.inl ⟨by rfl, ?hyq11⟩) HSW ?restq11
       case hyq11 => (intro w hSw; (try dsimp only at hSw); go_simp; first | done | with_reducible rfl)
       try simp only [Act.put, List.getElem_toArray, List.getElem_cons_zero, List.getElem_cons_succ, List.setIfInBounds_toArray, List.set_cons_zero, List.set_cons_succ]
       refine wpAnyH_take (i := 12) (v := ?vq12) rfl (by kernel_rfl) (by kernel_rfl) (by kernel_rfl) (fun _ _ _ h => h) (Or.inl ⟨by rfl, ?hyq12⟩) HSW ?restq12
       case hyq12 => (intro w hSw; (try dsimp only at hSw); go_simp; first | done | with_reducible rfl)
       try simp only [Act.put, List.getElem_toArray, List.getElem_cons_zero, List.getElem_cons_succ, List.setIfInBounds_toArray, List.set_cons_zero, List.set_cons_succ]
       refine wpAnyH_take (i := 13) (v := ?vq13) rfl (by kernel_rfl) (by kernel_rfl) (by kernel_rfl) (fun _ _ _ h => h) (Or.inl ⟨by rfl, ?hyq13⟩) HSW ?restq13
       case hyq13 => (intro w hSw; (try dsimp only at hSw); go_simp; first | done | with_reducible rfl)
       try simp only [Act.put, List.getElem_toArray, List.getElem_cons_zero, List.getElem_cons_succ, List.setIfInBounds_toArray, List.set_cons_zero, List.set_cons_succ]
       refine wpAnyH_take (i := 14) (v := ?vq14) rfl (by kernel_rfl) (by kernel_rfl) (by kernel_rfl) (fun _ _ _ h => h) (Or.inl ⟨by rfl, ?hyq14⟩) HSW ?restq14
       case hyq14 => (intro w hSw; (try dsimp only at hSw); go_simp; first | done | with_reducible rfl)
       try simp only [Act.put, List.getElem_toArray, List.getElem_cons_zero, List.getElem_cons_succ, List.setIfInBounds_toArray, List.set_cons_zero, List.set_cons_succ]
       refine wpAnyH_take (i := 15) (v := ?vq15) rfl (by kernel_rfl) (by kernel_rfl) (by kernel_rfl) (fun _ _ _ h => h) (Or.inl ⟨by rfl, ?hyq15⟩) HSW ?restq15
       case hyq15 => (intro w hSw; (try dsimp only at hSw); go_simp; first | done | with_reducible rfl)
       try simp only [Act.put, List.getElem_toArray, List.getElem_cons_zero, List.getElem_cons_succ, List.setIfInBounds_toArray, List.set_cons_zero, List.set_cons_succ]
       refine wpAnyH_take (i := 16) (v := ?vq16) rfl (by kernel_rfl) (by kernel_rfl) (by kernel_rfl) (fun _ _ _ h => h) (Or.inl ⟨by rfl, ?hyq16⟩) HSW ?restq16
       case hyq16 => (intro w hSw; (try dsimp only at hSw); go_simp; first | done | with_reducible rfl)
       try simp only [Act.put, List.getElem_toArray, List.getElem_cons_zero, List.getElem_cons_succ, List.setIfInBounds_toArray, List.set_cons_zero, List.set_cons_succ]
       refine wpAnyH_take (i := 17) (v := ?vq17) rfl (by kernel_rfl) (by kernel_rfl) (by kernel_rfl) (fun _ _ _ h => h) (Or.inl ⟨by rfl, ?hyq17⟩) HSW ?restq17
       case hyq17 => (intro w hSw; (try dsimp only at hSw); go_simp; first | done | with_reducible rfl)
       try simp only [Act.put, List.getElem_toArray, List.getElem_cons_zero, List.getElem_cons_succ, List.setIfInBounds_toArray, List.set_cons_zero, List.set_cons_succ]
       refine wpAnyH_take (i := 18) (v := ?vq18) rfl (by kernel_rfl) (by kernel_rfl) (by kernel_rfl) (fun _ _ _ h => h) (Or.inl ⟨by rfl, ?hyq18⟩) HSW ?restq18
       case hyq18 => (intro w hSw; (try dsimp only at hSw); go_simp; first | done | with_reducible rfl)
       try simp only [Act.put, List.getElem_toArray, List.getElem_cons_zero, List.getElem_cons_succ, List.setIfInBounds_toArray, List.set_cons_zero, List.set_cons_succ]
       refine wpAnyH_take (i := 19) (v := ?vq19) rfl (by kernel_rfl) (by kernel_rfl) (by kernel_rfl) (fun _ _ _ h => h) (Or.inl ⟨by rfl, ?hyq19⟩) HSW ?restq19
       case hyq19 => (intro w hSw; (try dsimp only at hSw); go_simp; first | done | with_reducible rfl)
       try simp only [Act.put, List.getElem_toArray, List.getElem_cons_zero, List.getElem_cons_succ, List.setIfInBounds_toArray, List.set_cons_zero, List.set_cons_succ]
       refine wpAnyH_take (i := 20) (v := ?vq20) rfl (by kernel_rfl) (by kernel_rfl) (by kernel_rfl) (fun _ _ _ h => h) (Or.inl ⟨by rfl, ?hyq20⟩) HSW ?restq20
       case hyq20 => (intro w hSw; (try dsimp only at hSw); go_simp; first | done | with_reducible rfl)
       try simp only [Act.put, List.getElem_toArray, List.getElem_cons_zero, List.getElem_cons_succ, List.setIfInBounds_toArray, List.set_cons_zero, List.set_cons_succ]
       refine wpAnyH_ready (rs := [21]) (by kernel_rfl) (by simp) ?_
       refine AllReadyH.cons (i := 21) rfl (fun K hK => ?_) AllReadyH.nil
       go_simp
       refine hK.out _ _ (⟨Lib.cell?_alloc_some _ m14, Lib.cell?_alloc_some _ d14, Lib.cell?_alloc_some _ g1, Lib.cell?_alloc_some _ g2⟩) (fun hHeld => ?_)
       have HSW := hHeld
       clear hK K hHeld
       try simp only [Act.put, List.getElem_toArray, List.getElem_cons_zero, List.getElem_cons_succ, List.setIfInBounds_toArray, List.set_cons_zero, List.set_cons_succ]
       refine wpAnyH_ready (rs := [22]) (by kernel_rfl) (by simp) ?_
       refine AllReadyH.cons (i := 22) rfl (fun K hK => ?_) AllReadyH.nil
       refine Kd.R_append_step P.k52 (w0 := w2) (W := wr.drew) w2.heap.size (by rfl) (.tmp 120) (.tmp 139) 26 52 (.agg #[.int .i64 0, .int .i64 0]) 16 rfl Tryd.underlying26 P.info52 rfl (by decide) (by decide) (.slice Ah ys.length ch) ys (⟨x1, x2⟩ : P.S52) [.int .i64 x1, .int .i64 x2] (fun k => S ≤ k) (fun _ => False) rfl ?ax (P.k52_mkM _ _ _ _) (fun _ hk => hk.elim) ?aF (Kd.R_drew HR14.out) (below_drew HX.out) HX.out.size ?aL ?_
       (case ax => rfl)
       (case aF => exact (fun k hk => Nat.le_trans HSZ.out hk))
       (case aL => have := HLK.out; omega)
       intro v9 w9 ho hb hg hat
       have HO9 := Aside0.mk ho
       have HX9 := Aside0.mk hb
       have BM9 := Aside0.mk (blk_grown (blk_drew BM.out) hg (fun e => by have := HR14.out.1 _ e.symm; have := HS0.out; omega))
       have HR9 := Aside0.mk (Kd.R_grown (Kd.R_drew HR10.out) hg (fun k hk e => by have := HR14.out.1 _ e.symm; omega))
       have HSZ9 := Aside0.mk (Nat.le_trans HSZ.out hg.size)
       have m14n := blk_cell BM9.out 14
       have f14n := blk_frozen BM9.out 14
       obtain ⟨An, cn, rfl⟩ := Kd.R_slice ho
       clear ho hb hg hat
       refine hK.out _ _ (⟨m14n, pw_cell_below HX9.out D14.out, pw_cell_below HX9.out G1.out, pw_cell_below HX9.out G2.out⟩) (fun hHeld => ?_)
       have HSW := hHeld
       clear hK K hHeld
       try simp only [Act.put, List.getElem_toArray, List.getElem_cons_zero, List.getElem_cons_succ, List.setIfInBounds_toArray, List.set_cons_zero, List.set_cons_succ]
       refine wpAnyH_take (i := 23) (v := ?vq23) rfl (by kernel_rfl) (by kernel_rfl) (by kernel_rfl) (fun _ _ _ h => h) (Or.inl ⟨by rfl, ?hyq23⟩) HSW ?restq23
       case hyq23 => (intro w hSw; (try dsimp only at hSw); go_simp; first | done | with_reducible rfl)
       try simp only [Act.put, List.getElem_toArray, List.getElem_cons_zero, List.getElem_cons_succ, List.setIfInBounds_toArray, List.set_cons_zero, List.set_cons_succ]
       refine wpAnyH_take (i := 24) (v := ?vq24) rfl (by kernel_rfl) (by kernel_rfl) (by kernel_rfl) (fun _ _ _ h => h) (Or.inl ⟨by rfl, ?hyq24⟩) HSW ?restq24
       case hyq24 => (intro w hSw; (try dsimp only at hSw); go_simp; first | done | with_reducible rfl)
       try simp only [Act.put, List.getElem_toArray, List.getElem_cons_zero, List.getElem_cons_succ, List.setIfInBounds_toArray, List.set_cons_zero, List.set_cons_succ]
       refine wpAnyH_done (by kernel_rfl) ?_ _
       unfold Cut.cutQ
       clear HSW
       clear m14 d14 g1 g2
       go_wp2_with fail
       go_roundw
       case rel => exact ⟨i + 2, _, by have := HHL.out; omega, by simp, ⟨by have := HI.out.1; omega, by omega⟩, ⟨below_set HX9.out (by omega)⟩, ⟨blk_put BM9.out 14 _ rfl⟩, ⟨Kd.R_far (p := ⟨w2.heap.size + 1, 14, none⟩) HR9.out (fun k hk => hk.1) _⟩, ⟨by rw [HT.out]; have h := Kd.R_far (p := ⟨w2.heap.size + 1, 14, none⟩) HO9.out (fun k hk => by have := HS0.out; show k ≠ w2.heap.size + 1; omega) (.slice An (ys.length + 1) cn); rw [show (ys ++ [(⟨x1, x2⟩ : P.S52)]).length = ys.length + 1 from by simp] at h; exact h⟩, ⟨by have := HSZ9.out; simp [World.setCell]; omega⟩⟩
       case measure => simp [RowKit.intOf]; omega
      ·
       have HPE := pairs_end H i HI.out.1 (by omega)
       rw [HPE] at HR14
       obtain ⟨Ah, ch, rfl⟩ := Kd.R_slice HR14.out
       obtain ⟨ys, hys⟩ : ∃ ys, ys = pairs H := ⟨_, rfl⟩
       rw [← hys] at HR14 HP BM
       have HYS := Aside0.mk hys
       have C10 := Aside0.mk (Kd.R_reads' HR10.out)
       have C14 := Aside0.mk (Kd.R_reads' HR14.out)
       clear HPE hys
       have hw1 : IntKind.i64.wrap ((i : Int) + 1) = (i : Int) + 1 := (Go.IntWalk.i64_in ((i : Int) + 1) (And.intro (by omega) (by omega)))
       have hlt' : ¬ (i : Int) + 1 < (H.length : Int) := by omega
       by_cases hpe : pe = 0 ∧ pt.toList = s.toList
       ·
        obtain ⟨rfl, hts⟩ := hpe
        have hp3 : (pt.toList == s.toList) = true := beq_iff_eq.mpr hts
        go_wp2_with (first | ((with_reducible refine gate_dst (N := 144) rfl ?_); refine ev_load rfl 30 (.tmp 8) rfl _ rfl (fun w => by kernel_rfl) (w2.heap.size + 1) 0 rfl [.int .i64 n0, .int .i64 n1, .int .i64 n2, .int .i64 n3, .int .i64 n4, .int .i64 n5, .int .i64 n6, .int .i64 n7, .int .i64 n8, .int .i64 n9, .slice Ao xs.length co, .int .i64 n10, .int .i64 er, .bool (wa == 1), .slice Ah ys.length ch, .string y] (by kernel_rfl) (cells_all BM.out) ?_) | (go_at_call 9; refine (post_Put.calls n0 n1 n2 n3 n4 n5 n6 n7 n8 n9 Ao co xs n10 er (wa == 1) Ah ch ys y _ _ wr (LaidW.below HL.out (below_step HB2.out HX.out)) C10.out.2.2 C10.out.2.1 C14.out.2.2 C14.out.2.1 HP.out).mono ?_; rintro e wp ⟨rfl, hb⟩; have HXP := Aside0.mk (below_step HX.out hb); have BMP := Aside0.mk (blk_below BM.out hb); have HR10P := Aside0.mk (Kd.R_below HR10.out hb); have HR14P := Aside0.mk (Kd.R_below HR14.out hb); have HBP := Aside0.mk (below_step HB2.out HXP.out); have BKP := Aside0.mk (blk_below BK2.out HXP.out); clear hb) | ((with_reducible refine gate_dst (N := 156) rfl ?_); refine ev_load rfl 30 (.tmp 8) rfl _ rfl (fun w => by kernel_rfl) (w2.heap.size + 1) 0 rfl [.int .i64 n0, .int .i64 n1, .int .i64 n2, .int .i64 n3, .int .i64 n4, .int .i64 n5, .int .i64 n6, .int .i64 n7, .int .i64 n8, .int .i64 n9, .slice Ao xs.length co, .int .i64 n10, .int .i64 er, .bool (wa == 1), .slice Ah ys.length ch, .string y] (by kernel_rfl) (cells_all BMP.out) ?_) | ((with_reducible refine gate_store (ty := 30) (x := .tmp 2) rfl ?_); refine ev_store rfl rfl 30 (.tmp 2) _ rfl _ rfl w.heap.size 30 rfl [.int .i64 n0, .int .i64 n1, .int .i64 n2, .int .i64 n3, .int .i64 n4, .int .i64 n5, .int .i64 n6, .int .i64 n7, .int .i64 n8, .int .i64 n9, .slice Ao xs.length co, .int .i64 n10, .int .i64 er, .bool (wa == 1), .slice Ah ys.length ch, .string y] [.int .i64 0, .int .i64 0, .int .i64 0, .int .i64 0, .int .i64 0, .int .i64 0, .int .i64 0, .int .i64 0, .int .i64 0, .int .i64 0, .slice none 0 0, .int .i64 0, .int .i64 0, .bool false, .slice none 0 0, .string ⟨#[]⟩] rfl rfl (one_mn n0 n1 n2 n3 n4 n5 n6 n7 n8 n9 n10 er (wa == 1) Ao xs.length co Ah ys.length ch y) rfl BKP.out ?_; intro w9 a9 b9; have BK9 := Aside0.mk a9; have HB9 := Aside0.mk (b9.1 _ _ HBP.out (Nat.le_refl _)); have HR10F := Aside0.mk (Kd.R_mono (ok' := fun _ => True) (Kd.R_lower (R_butg (Kd.R_bound HR10P.out) (fun k hk => by have := hk.2.1; have := blk_lt BK2.out; omega) b9) HB2.out.size) (fun _ _ => trivial)); have HR14F := Aside0.mk (Kd.R_mono (ok' := fun _ => True) (Kd.R_lower (R_butg (Kd.R_bound HR14P.out) (fun k hk => by have := hk.2.1; have := blk_lt BK2.out; omega) b9) HB2.out.size) (fun _ _ => trivial)); clear a9 b9) | fail)
        refine bodyPost_ret (results_ct rfl _ _ w.heap.size 30 #[.int .i64 n0, .int .i64 n1, .int .i64 n2, .int .i64 n3, .int .i64 n4, .int .i64 n5, .int .i64 n6, .int .i64 n7, .int .i64 n8, .int .i64 n9, .slice Ao xs.length co, .int .i64 n10, .int .i64 er, .bool (wa == 1), .slice Ah ys.length ch, .string y] (0, 0) _ rfl BK9.out Tryd.underlying30 rfl (by kernel_rfl)) rfl ?_
        try rw [if_pos ⟨rfl, hts⟩]
        exact ⟨_, _, rfl, by rw [← HXS.out]; exact HR10F.out, by rw [← HYS.out]; exact HR14F.out, HB9.out⟩
       ·
        cases hp1 : (pe != 0) with
        | true =>
         go_wp2_with (first | ((with_reducible refine gate_dst (N := 144) rfl ?_); refine ev_load rfl 30 (.tmp 8) rfl _ rfl (fun w => by kernel_rfl) (w2.heap.size + 1) 0 rfl [.int .i64 n0, .int .i64 n1, .int .i64 n2, .int .i64 n3, .int .i64 n4, .int .i64 n5, .int .i64 n6, .int .i64 n7, .int .i64 n8, .int .i64 n9, .slice Ao xs.length co, .int .i64 n10, .int .i64 er, .bool (wa == 1), .slice Ah ys.length ch, .string y] (by kernel_rfl) (cells_all BM.out) ?_) | (go_at_call 9; refine (post_Put.calls n0 n1 n2 n3 n4 n5 n6 n7 n8 n9 Ao co xs n10 er (wa == 1) Ah ch ys y _ _ wr (LaidW.below HL.out (below_step HB2.out HX.out)) C10.out.2.2 C10.out.2.1 C14.out.2.2 C14.out.2.1 HP.out).mono ?_; rintro e wp ⟨rfl, hb⟩; have HXP := Aside0.mk (below_step HX.out hb); have BMP := Aside0.mk (blk_below BM.out hb); have HR10P := Aside0.mk (Kd.R_below HR10.out hb); have HR14P := Aside0.mk (Kd.R_below HR14.out hb); have HBP := Aside0.mk (below_step HB2.out HXP.out); have BKP := Aside0.mk (blk_below BK2.out HXP.out); clear hb) | ((with_reducible refine gate_store (ty := 30) (x := .tmp 2) rfl ?_); refine ev_store rfl rfl 30 (.tmp 2) _ rfl _ rfl w.heap.size 30 rfl [.int .i64 0, .int .i64 0, .int .i64 0, .int .i64 0, .int .i64 0, .int .i64 0, .int .i64 0, .int .i64 0, .int .i64 0, .int .i64 0, .slice none 0 0, .int .i64 0, .int .i64 0, .bool false, .slice none 0 0, .string ⟨#[]⟩] [.int .i64 0, .int .i64 0, .int .i64 0, .int .i64 0, .int .i64 0, .int .i64 0, .int .i64 0, .int .i64 0, .int .i64 0, .int .i64 0, .slice none 0 0, .int .i64 0, .int .i64 0, .bool false, .slice none 0 0, .string ⟨#[]⟩] rfl rfl (by decide) rfl BKP.out ?_; intro w9 a9 b9; have BK9 := Aside0.mk a9; have HB9 := Aside0.mk (b9.1 _ _ HBP.out (Nat.le_refl _)); clear a9 b9) | fail)
         refine bodyPost_ret (results_ct rfl _ _ w.heap.size 30 #[.int .i64 0, .int .i64 0, .int .i64 0, .int .i64 0, .int .i64 0, .int .i64 0, .int .i64 0, .int .i64 0, .int .i64 0, .int .i64 0, .slice none 0 0, .int .i64 0, .int .i64 0, .bool false, .slice none 0 0, .string ⟨#[]⟩] (0, 0) _ rfl BK9.out Tryd.underlying30 rfl (by kernel_rfl)) rfl ?_
         try rw [if_neg hpe]
         exact ⟨rfl, HB9.out⟩
        | false =>
         have hp2 : ¬ pt.toList = s.toList := fun h => hpe ⟨by simpa using hp1, h⟩
         have hp3 : (pt.toList == s.toList) = false := beq_eq_false_iff_ne.mpr hp2
         go_wp2_with (first | ((with_reducible refine gate_dst (N := 144) rfl ?_); refine ev_load rfl 30 (.tmp 8) rfl _ rfl (fun w => by kernel_rfl) (w2.heap.size + 1) 0 rfl [.int .i64 n0, .int .i64 n1, .int .i64 n2, .int .i64 n3, .int .i64 n4, .int .i64 n5, .int .i64 n6, .int .i64 n7, .int .i64 n8, .int .i64 n9, .slice Ao xs.length co, .int .i64 n10, .int .i64 er, .bool (wa == 1), .slice Ah ys.length ch, .string y] (by kernel_rfl) (cells_all BM.out) ?_) | (go_at_call 9; refine (post_Put.calls n0 n1 n2 n3 n4 n5 n6 n7 n8 n9 Ao co xs n10 er (wa == 1) Ah ch ys y _ _ wr (LaidW.below HL.out (below_step HB2.out HX.out)) C10.out.2.2 C10.out.2.1 C14.out.2.2 C14.out.2.1 HP.out).mono ?_; rintro e wp ⟨rfl, hb⟩; have HXP := Aside0.mk (below_step HX.out hb); have BMP := Aside0.mk (blk_below BM.out hb); have HR10P := Aside0.mk (Kd.R_below HR10.out hb); have HR14P := Aside0.mk (Kd.R_below HR14.out hb); have HBP := Aside0.mk (below_step HB2.out HXP.out); have BKP := Aside0.mk (blk_below BK2.out HXP.out); clear hb) | ((with_reducible refine gate_store (ty := 30) (x := .tmp 2) rfl ?_); refine ev_store rfl rfl 30 (.tmp 2) _ rfl _ rfl w.heap.size 30 rfl [.int .i64 0, .int .i64 0, .int .i64 0, .int .i64 0, .int .i64 0, .int .i64 0, .int .i64 0, .int .i64 0, .int .i64 0, .int .i64 0, .slice none 0 0, .int .i64 0, .int .i64 0, .bool false, .slice none 0 0, .string ⟨#[]⟩] [.int .i64 0, .int .i64 0, .int .i64 0, .int .i64 0, .int .i64 0, .int .i64 0, .int .i64 0, .int .i64 0, .int .i64 0, .int .i64 0, .slice none 0 0, .int .i64 0, .int .i64 0, .bool false, .slice none 0 0, .string ⟨#[]⟩] rfl rfl (by decide) rfl BKP.out ?_; intro w9 a9 b9; have BK9 := Aside0.mk a9; have HB9 := Aside0.mk (b9.1 _ _ HBP.out (Nat.le_refl _)); clear a9 b9) | fail)
         refine bodyPost_ret (results_ct rfl _ _ w.heap.size 30 #[.int .i64 0, .int .i64 0, .int .i64 0, .int .i64 0, .int .i64 0, .int .i64 0, .int .i64 0, .int .i64 0, .int .i64 0, .int .i64 0, .slice none 0 0, .int .i64 0, .int .i64 0, .bool false, .slice none 0 0, .string ⟨#[]⟩] (0, 0) _ rfl BK9.out Tryd.underlying30 rfl (by kernel_rfl)) rfl ?_
         try rw [if_neg hpe]
         exact ⟨rfl, HB9.out⟩
def zeroT : Int × Int × Int × Int × Int × Int × Int × Int × Int × Int × List Int × Int × Int × Bool × List P.S52 × ByteArray × Int := (0, 0, 0, 0, 0, 0, 0, 0, 0, 0, [], 0, 0, false, [], ⟨#[]⟩, 130)
def post_Take.g (y : ByteArray) (L : List P.S49) (s : ByteArray) : Option (Int × Int × Int × Int × Int × Int × Int × Int × Int × Int × List Int × Int × Int × Bool × List P.S52 × ByteArray × Int) :=
  if (P.rd_T49 L 11).f3.length ≤ 1000000 ∧ (P.rd_T49 L 14).f3.length ≤ 1000000 then
    (post_Put.f (P.rd_T49 L 0).f1 (P.rd_T49 L 1).f1 (P.rd_T49 L 2).f1 (P.rd_T49 L 3).f1 (P.rd_T49 L 4).f1 (P.rd_T49 L 5).f1 (P.rd_T49 L 6).f1 (P.rd_T49 L 7).f1 (P.rd_T49 L 8).f1 (P.rd_T49 L 9).f1 ((P.rd_T49 L 11).f3.map (·.f1)) (P.rd_T49 L 10).f1 (P.rd_T49 L 12).f1 ((P.rd_T49 L 13).f1 == 1) (pairs (P.rd_T49 L 14).f3) y).bind fun p => if p.2 = 0 ∧ p.1.toList = s.toList then some ((P.rd_T49 L 0).f1, (P.rd_T49 L 1).f1, (P.rd_T49 L 2).f1, (P.rd_T49 L 3).f1, (P.rd_T49 L 4).f1, (P.rd_T49 L 5).f1, (P.rd_T49 L 6).f1, (P.rd_T49 L 7).f1, (P.rd_T49 L 8).f1, (P.rd_T49 L 9).f1, ((P.rd_T49 L 11).f3.map (·.f1)), (P.rd_T49 L 10).f1, (P.rd_T49 L 12).f1, ((P.rd_T49 L 13).f1 == 1), (pairs (P.rd_T49 L 14).f3), y, 0) else some zeroT
  else none
def post_Take.f (s : ByteArray) : Option (Int × Int × Int × Int × Int × Int × Int × Int × Int × Int × List Int × Int × Int × Bool × List P.S52 × ByteArray × Int) :=
  (frame_All.f s).bind fun p => match p.1 with
    | [x, y] => if p.2 = (s.size : Int) then (P.benc_Only.f x).bind fun q => if q.2.2.2.2 = 0 ∧ q.2.2.2.1.length = 15 then post_Take.g y q.2.2.2.1 s else some zeroT else some zeroT
    | _ => some zeroT
theorem nums_eq (L : List P.S49) (h : L.length = 15) : (L.take 11).map (·.f1) = [(P.rd_T49 L 0).f1, (P.rd_T49 L 1).f1, (P.rd_T49 L 2).f1, (P.rd_T49 L 3).f1, (P.rd_T49 L 4).f1, (P.rd_T49 L 5).f1, (P.rd_T49 L 6).f1, (P.rd_T49 L 7).f1, (P.rd_T49 L 8).f1, (P.rd_T49 L 9).f1, (P.rd_T49 L 10).f1] := by
  obtain ⟨y0, y1, y2, y3, y4, y5, y6, y7, y8, y9, y10, y11, y12, y13, y14, rfl⟩ := list15 L h
  rfl
theorem post_Take.calls (s : ByteArray) (r0 r1 r2 r3 r4 r5 r6 r7 r8 r9 : Int) (r10 : List Int) (r11 r12 : Int) (r13 : Bool) (r14 : List P.S52) (r15 : ByteArray) (r16 : Int) (w : World) (hL : LaidW w) (h : post_Take.f s = some (r0, r1, r2, r3, r4, r5, r6, r7, r8, r9, r10, r11, r12, r13, r14, r15, r16)) :
    Calls Tryd.prog 12 #[.string s] w fun e w' => ∃ v10 v14 : Value, e = .returned (.tuple #[.agg #[.int .i64 r0, .int .i64 r1, .int .i64 r2, .int .i64 r3, .int .i64 r4, .int .i64 r5, .int .i64 r6, .int .i64 r7, .int .i64 r8, .int .i64 r9, v10, .int .i64 r11, .int .i64 r12, .bool r13, v14, .string r15], .int .i64 r16]) ∧ Kd.R (Kd.int .i64) 3 w' w.heap.size (fun _ => True) v10 r10 ∧ Kd.R P.k52 52 w' w.heap.size (fun _ => True) v14 r14 ∧ Below w.heap.size w w' := by
  unfold post_Take.f at h
  obtain ⟨⟨l, n⟩, hA, h⟩ := Option.bind_eq_some_iff.1 h
  have bad : ∀ {e : Ending} {w' : World}, zeroT = (r0, r1, r2, r3, r4, r5, r6, r7, r8, r9, r10, r11, r12, r13, r14, r15, r16) → (e = .returned (.tuple #[.agg #[.int .i64 0, .int .i64 0, .int .i64 0, .int .i64 0, .int .i64 0, .int .i64 0, .int .i64 0, .int .i64 0, .int .i64 0, .int .i64 0, .slice none 0 0, .int .i64 0, .int .i64 0, .bool false, .slice none 0 0, .string ⟨#[]⟩], .int .i64 130]) ∧ Below w.heap.size w w') → ∃ v10 v14 : Value, e = .returned (.tuple #[.agg #[.int .i64 r0, .int .i64 r1, .int .i64 r2, .int .i64 r3, .int .i64 r4, .int .i64 r5, .int .i64 r6, .int .i64 r7, .int .i64 r8, .int .i64 r9, v10, .int .i64 r11, .int .i64 r12, .bool r13, v14, .string r15], .int .i64 r16]) ∧ Kd.R (Kd.int .i64) 3 w' w.heap.size (fun _ => True) v10 r10 ∧ Kd.R P.k52 52 w' w.heap.size (fun _ => True) v14 r14 ∧ Below w.heap.size w w' := by
    intro e w' hz hh
    simp only [zeroT, Prod.mk.injEq] at hz
    obtain ⟨rfl, rfl, rfl, rfl, rfl, rfl, rfl, rfl, rfl, rfl, rfl, rfl, rfl, rfl, rfl, rfl, rfl⟩ := hz
    exact ⟨_, _, hh.1, Kd.R_nil _ _ _ _ _, Kd.R_nil _ _ _ _ _, hh.2⟩
  have short : l.length ≠ 2 ∨ n ≠ (s.size : Int) → some zeroT = some (r0, r1, r2, r3, r4, r5, r6, r7, r8, r9, r10, r11, r12, r13, r14, r15, r16) → _ := fun hs hz => (take_short s l n w hL hA hs).mono (fun e w' hh => bad (Option.some.inj hz) hh)
  match l, hA, h, short with
  | [], hA, h, short => exact short (.inl (by simp)) h
  | [a], hA, h, short => exact short (.inl (by simp)) h
  | a :: b :: c :: t, hA, h, short => exact short (.inl (by simp)) h
  | [x, y], hA, h, short =>
    simp only at h
    by_cases hn : n = (s.size : Int)
    · rw [if_pos hn] at h
      rw [hn] at hA
      obtain ⟨⟨q1, q2, q3, L, q5⟩, hO, h⟩ := Option.bind_eq_some_iff.1 h
      simp only at h
      by_cases h5 : q5 = 0 ∧ L.length = 15
      · rw [if_pos h5] at h
        obtain ⟨rfl, hq⟩ := h5
        unfold post_Take.g at h
        split at h
        · rename_i hb
          obtain ⟨⟨pt, pe⟩, hP, h⟩ := Option.bind_eq_some_iff.1 h
          simp only at h
          refine (take_long s x y q1 q2 q3 L _ _ _ _ _ _ _ _ _ _ _ _ _ _ _ pt pe w hL hA hO hq (nums_eq L hq) rfl rfl rfl rfl hb.1 hb.2 hP).mono ?_
          intro e w' hh
          by_cases hpe : pe = 0 ∧ pt.toList = s.toList
          · rw [if_pos hpe] at h hh
            simp only [Option.some.injEq, Prod.mk.injEq] at h
            obtain ⟨rfl, rfl, rfl, rfl, rfl, rfl, rfl, rfl, rfl, rfl, rfl, rfl, rfl, rfl, rfl, rfl, rfl⟩ := h
            exact hh
          · rw [if_neg hpe] at h hh
            exact bad (Option.some.inj h) hh
        · cases h
      · rw [if_neg h5] at h
        exact (take_odd s x y q1 q2 q3 L q5 w hL hA hO (by by_cases h0 : q5 = 0
                                                           · exact .inr (fun hl => h5 ⟨h0, hl⟩)
                                                           · exact .inl h0)).mono (fun e w' hh => bad (Option.some.inj h) hh)
    · rw [if_neg hn] at h
      exact short (.inr hn) h
end Go.Proofs.YtlggihnkhimfkaaDoor.Giv
namespace Go.Proofs.YtlggihnkhimfkaaDoor.P
open Go.RowKit Go.Proofs.YtlggihnkhimfkaaDoorW.PrintWords Go.Proofs.YtlggihnkhimfkaaDoorW.PrintLast Go.Proofs.YtlggihnkhimfkaaDoorW.PrintMore
attribute [local go_sem] max2_int min2_int max_two min_two max_three min_three max_four min_four   -- for this text's walks alone
set_option linter.unusedVariables false
set_option linter.unusedSimpArgs false
def ploverlaw13_some.f  : Option (Int × Int × Int × Int × Int × Int × Int × Int × Int × Int × List Int × Int × Int × Bool × (List (S52)) × ByteArray) := some (3, 3, 7, 0, 0, 9, 0, 5, 3, 0, (([1, (-2)] : List Int)), 4, 0, false, ([] : List (S52)), (⟨#[120]⟩ : ByteArray))
set_option maxHeartbeats 8000000 in
set_option maxRecDepth 100000 in
theorem ploverlaw13_some.calls  (r1 : Int) (r2 : Int) (r3 : Int) (r4 : Int) (r5 : Int) (r6 : Int) (r7 : Int) (r8 : Int) (r9 : Int) (r10 : Int) (r11 : List Int) (r12 : Int) (r13 : Int) (r14 : Bool) (r15 : List (S52)) (r16 : ByteArray) (w : World) (h : ploverlaw13_some.f  = some (r1, r2, r3, r4, r5, r6, r7, r8, r9, r10, r11, r12, r13, r14, r15, r16)) :
    Calls Tryd.prog 14 #[] w fun e w' => ∃ v10_ v14_ : Value, e = .returned (.agg #[.int .i64 r1, .int .i64 r2, .int .i64 r3, .int .i64 r4, .int .i64 r5, .int .i64 r6, .int .i64 r7, .int .i64 r8, .int .i64 r9, .int .i64 r10, v10_, .int .i64 r12, .int .i64 r13, .bool r14, v14_, .string r16]) ∧ Kd.R (Kd.int .i64) 3 w' w.heap.size (fun _ => True) v10_ r11 ∧ Kd.R k52 52 w' w.heap.size (fun _ => True) v14_ r15 ∧ Below w.heap.size w w' := by
  have hu30 := Tryd.underlying30
  have hu24 := Tryd.underlying24
  have HB := Aside0.mk (Below.refl w.heap.size w)
  have H : (some (3, 3, 7, 0, 0, 9, 0, 5, 3, 0, (([1, (-2)] : List Int)), 4, 0, false, ([] : List (S52)), (⟨#[120]⟩ : ByteArray))) = some (r1, r2, r3, r4, r5, r6, r7, r8, r9, r10, r11, r12, r13, r14, r15, r16) := h
  clear h
  obtain ⟨y308, hy308⟩ : ∃ y_ : List Int, y_ = (([1, (-2)] : List Int)) := ⟨_, rfl⟩
  replace H : (some (3, 3, 7, 0, 0, 9, 0, 5, 3, 0, y308, 4, 0, false, ([] : List (S52)), (⟨#[120]⟩ : ByteArray))) = some (r1, r2, r3, r4, r5, r6, r7, r8, r9, r10, r11, r12, r13, r14, r15, r16) := by first | (rw [hy308]; with_reducible exact H) | (have H2_ := (Option.bind_some _ _).symm.trans H; rw [hy308]; with_reducible exact H2_) | (have H2_ := (Option.bind_some _ _).symm.trans H; with_reducible exact H2_) | with_reducible exact H | (rw [hy308]; exact H) | exact H
  have Ny308 := Aside0.mk hy308
  clear hy308
  simp only [Option.some.injEq, Prod.mk.injEq] at H
  obtain ⟨rfl, rfl, rfl, rfl, rfl, rfl, rfl, rfl, rfl, rfl, rfl, rfl, rfl, rfl, rfl, rfl⟩ := H
  go_enter Tryd.func14, Tryd.ntmps14
  go_wp2_with (first | ((with_reducible refine gate_dst (N := 0) rfl ?_); refine box_event ?hg (N := 0) ?hd (cs := #[.int .i64 0, .int .i64 0, .int .i64 0, .int .i64 0, .int .i64 0, .int .i64 0, .int .i64 0, .int .i64 0, .int .i64 0, .int .i64 0, .slice none 0 0, .int .i64 0, .int .i64 0, .bool false, .slice none 0 0, .string (⟨#[]⟩ : ByteArray)]) (t := 30) ?hr ?_; (case hd => rfl); (case hg => rfl); (case hr => first | (go_simp; done) | (go_simp; rfl)); intro gb307 hg w1 hbox hb; have n0_ := Aside0.mk (below_step (by repeat (first | (with_reducible first | exact HB.out | apply below_alloc | apply pw_below_drewN | apply below_drew1) | exact HB.out)) hb); have n1_ := Aside0.mk (hbox); have n2_ := Aside0.mk ((by rw [hg]; exact (below_size (by repeat (first | (with_reducible first | exact HB.out | apply below_alloc | apply pw_below_drewN | apply below_drew1) | exact HB.out))) : w.heap.size ≤ gb307)); have n3_ := Aside0.mk ((by rw [hg]; exact (below_size (by repeat (first | (with_reducible first | exact HB.out | apply below_alloc | apply pw_below_drewN | apply below_drew1) | exact HB.out))) : w.heap.size ≤ gb307)); clear HB; have HB := n0_; have BK307 := n1_; have GW307 := n2_; have GE307 := n3_; clear n0_ n1_ n2_ n3_; clear hb hbox hg) | ((with_reducible refine gate_dst (N := 1) rfl ?_); refine Kd.R_lit (Kd.int .i64) _ 3 ?hg (N := 1) ?hd (xs := ([1, (-2)] : List Int)) (inner := [.int .i64 1, .int .i64 (-2)]) (ok := fun _ => True) (okp := fun _ => True) ?hr ?hp (fun _ hk => hk) trivial (Below.refl _ _) (Nat.le_refl _) (by simp) ?_; (case hd => rfl); (case hg => rfl); (case hr => first | (go_simp; done) | (go_simp; rfl)); (case hp => exact (Reps.one (show Kd.M (Kd.int .i64) _ _ _ 1 [.int .i64 1] from rfl) (Reps.one (show Kd.M (Kd.int .i64) _ _ _ (-2) [.int .i64 (-2)] from rfl) (Reps.none _ _)))); intro v309 w2 ho3 hb hg_ hnew_; clear hg_ hnew_; (first | rw [← Ny308.out] at ho3 | (simp only [Int.reduceToNat] at ho3; rw [← Ny308.out] at ho3)); have n0_ := Aside0.mk (Kd.R_lower ho3 (below_size (by repeat (first | (with_reducible first | exact HB.out | apply below_alloc | apply pw_below_drewN | apply below_drew1 | refine below_set ?_ GE307.out) | exact HB.out)))); have n1_ := Aside0.mk (blk_below (g := gb307) (o := .cells #[.int .i64 0, .int .i64 0, .int .i64 0, .int .i64 0, .int .i64 0, .int .i64 0, .int .i64 0, .int .i64 0, .int .i64 0, .int .i64 0, .slice none 0 0, .int .i64 0, .int .i64 0, .bool false, .slice none 0 0, .string (⟨#[]⟩ : ByteArray)] 30 (0, 0)) (by (with_reducible repeat (first | refine blk_drewN ?_ _ | refine blk_drew ?_ | refine blk_alloc ?_ _)); exact BK307.out) hb); have n2_ := Aside0.mk (below_step (by repeat (first | (with_reducible first | exact HB.out | apply below_alloc | apply pw_below_drewN | apply below_drew1 | refine below_set ?_ GE307.out) | exact HB.out)) hb); clear BK307; clear HB; have HO310 := n0_; have BK307 := n1_; have HB := n2_; clear n0_ n1_ n2_; clear hb ho3; obtain ⟨Ao4, co4, eo4⟩ := Kd.R_slice HO310.out; subst eo4; have hcz5_0 : w2.cell? ⟨gb307, 0, none⟩ = some (.int .i64 0) := (blk_cell BK307.out 0).trans rfl; have hcz5_1 : w2.cell? ⟨gb307, 1, none⟩ = some (.int .i64 0) := (blk_cell BK307.out 1).trans rfl; have hcz5_2 : w2.cell? ⟨gb307, 2, none⟩ = some (.int .i64 0) := (blk_cell BK307.out 2).trans rfl; have hcz5_3 : w2.cell? ⟨gb307, 3, none⟩ = some (.int .i64 0) := (blk_cell BK307.out 3).trans rfl; have hcz5_4 : w2.cell? ⟨gb307, 4, none⟩ = some (.int .i64 0) := (blk_cell BK307.out 4).trans rfl; have hcz5_5 : w2.cell? ⟨gb307, 5, none⟩ = some (.int .i64 0) := (blk_cell BK307.out 5).trans rfl; have hcz5_6 : w2.cell? ⟨gb307, 6, none⟩ = some (.int .i64 0) := (blk_cell BK307.out 6).trans rfl; have hcz5_7 : w2.cell? ⟨gb307, 7, none⟩ = some (.int .i64 0) := (blk_cell BK307.out 7).trans rfl; have hcz5_8 : w2.cell? ⟨gb307, 8, none⟩ = some (.int .i64 0) := (blk_cell BK307.out 8).trans rfl; have hcz5_9 : w2.cell? ⟨gb307, 9, none⟩ = some (.int .i64 0) := (blk_cell BK307.out 9).trans rfl; have hcz5_10 : w2.cell? ⟨gb307, 10, none⟩ = some (.slice none 0 0) := (blk_cell BK307.out 10).trans rfl; have hcz5_11 : w2.cell? ⟨gb307, 11, none⟩ = some (.int .i64 0) := (blk_cell BK307.out 11).trans rfl; have hcz5_12 : w2.cell? ⟨gb307, 12, none⟩ = some (.int .i64 0) := (blk_cell BK307.out 12).trans rfl; have hcz5_13 : w2.cell? ⟨gb307, 13, none⟩ = some (.bool false) := (blk_cell BK307.out 13).trans rfl; have hcz5_14 : w2.cell? ⟨gb307, 14, none⟩ = some (.slice none 0 0) := (blk_cell BK307.out 14).trans rfl; have hcz5_15 : w2.cell? ⟨gb307, 15, none⟩ = some (.string (⟨#[]⟩ : ByteArray)) := (blk_cell BK307.out 15).trans rfl; have hfz5_0 := blk_frozen BK307.out 0; have hfz5_1 := blk_frozen BK307.out 1; have hfz5_2 := blk_frozen BK307.out 2; have hfz5_3 := blk_frozen BK307.out 3; have hfz5_4 := blk_frozen BK307.out 4; have hfz5_5 := blk_frozen BK307.out 5; have hfz5_6 := blk_frozen BK307.out 6; have hfz5_7 := blk_frozen BK307.out 7; have hfz5_8 := blk_frozen BK307.out 8; have hfz5_9 := blk_frozen BK307.out 9; have hfz5_10 := blk_frozen BK307.out 10; have hfz5_11 := blk_frozen BK307.out 11; have hfz5_12 := blk_frozen BK307.out 12; have hfz5_13 := blk_frozen BK307.out 13; have hfz5_14 := blk_frozen BK307.out 14; have hfz5_15 := blk_frozen BK307.out 15))
  refine bodyPost_ret (results_cell_row rfl _ _ gb307 30 #[.int .i64 3, .int .i64 3, .int .i64 7, .int .i64 0, .int .i64 0, .int .i64 9, .int .i64 0, .int .i64 5, .int .i64 3, .int .i64 0, .slice Ao4 y308.length co4, .int .i64 4, .int .i64 0, .bool false, .slice none 0 0, .string (⟨#[120]⟩ : ByteArray)] (0, 0) _ rfl (by (with_reducible repeat (first | refine blk_drewN ?_ _ | refine blk_drew ?_ | refine blk_alloc ?_ _)); refine blk_put (cs := #[.int .i64 3, .int .i64 3, .int .i64 7, .int .i64 0, .int .i64 0, .int .i64 9, .int .i64 0, .int .i64 5, .int .i64 3, .int .i64 0, .slice Ao4 y308.length co4, .int .i64 4, .int .i64 0, .bool false, .slice none 0 0, .string (⟨#[]⟩ : ByteArray)]) ?_ 15 _ rfl; (with_reducible repeat (first | refine blk_drewN ?_ _ | refine blk_drew ?_ | refine blk_alloc ?_ _)); refine blk_put (cs := #[.int .i64 3, .int .i64 3, .int .i64 7, .int .i64 0, .int .i64 0, .int .i64 9, .int .i64 0, .int .i64 5, .int .i64 3, .int .i64 0, .slice Ao4 y308.length co4, .int .i64 4, .int .i64 0, .bool false, .slice none 0 0, .string (⟨#[]⟩ : ByteArray)]) ?_ 14 _ rfl; (with_reducible repeat (first | refine blk_drewN ?_ _ | refine blk_drew ?_ | refine blk_alloc ?_ _)); refine blk_put (cs := #[.int .i64 3, .int .i64 3, .int .i64 7, .int .i64 0, .int .i64 0, .int .i64 9, .int .i64 0, .int .i64 5, .int .i64 3, .int .i64 0, .slice Ao4 y308.length co4, .int .i64 4, .int .i64 0, .bool false, .slice none 0 0, .string (⟨#[]⟩ : ByteArray)]) ?_ 13 _ rfl; (with_reducible repeat (first | refine blk_drewN ?_ _ | refine blk_drew ?_ | refine blk_alloc ?_ _)); refine blk_put (cs := #[.int .i64 3, .int .i64 3, .int .i64 7, .int .i64 0, .int .i64 0, .int .i64 9, .int .i64 0, .int .i64 5, .int .i64 3, .int .i64 0, .slice Ao4 y308.length co4, .int .i64 4, .int .i64 0, .bool false, .slice none 0 0, .string (⟨#[]⟩ : ByteArray)]) ?_ 12 _ rfl; (with_reducible repeat (first | refine blk_drewN ?_ _ | refine blk_drew ?_ | refine blk_alloc ?_ _)); refine blk_put (cs := #[.int .i64 3, .int .i64 3, .int .i64 7, .int .i64 0, .int .i64 0, .int .i64 9, .int .i64 0, .int .i64 5, .int .i64 3, .int .i64 0, .slice Ao4 y308.length co4, .int .i64 0, .int .i64 0, .bool false, .slice none 0 0, .string (⟨#[]⟩ : ByteArray)]) ?_ 11 _ rfl; (with_reducible repeat (first | refine blk_drewN ?_ _ | refine blk_drew ?_ | refine blk_alloc ?_ _)); refine blk_put (cs := #[.int .i64 3, .int .i64 3, .int .i64 7, .int .i64 0, .int .i64 0, .int .i64 9, .int .i64 0, .int .i64 5, .int .i64 3, .int .i64 0, .slice none 0 0, .int .i64 0, .int .i64 0, .bool false, .slice none 0 0, .string (⟨#[]⟩ : ByteArray)]) ?_ 10 _ rfl; (with_reducible repeat (first | refine blk_drewN ?_ _ | refine blk_drew ?_ | refine blk_alloc ?_ _)); refine blk_put (cs := #[.int .i64 3, .int .i64 3, .int .i64 7, .int .i64 0, .int .i64 0, .int .i64 9, .int .i64 0, .int .i64 5, .int .i64 3, .int .i64 0, .slice none 0 0, .int .i64 0, .int .i64 0, .bool false, .slice none 0 0, .string (⟨#[]⟩ : ByteArray)]) ?_ 9 _ rfl; (with_reducible repeat (first | refine blk_drewN ?_ _ | refine blk_drew ?_ | refine blk_alloc ?_ _)); refine blk_put (cs := #[.int .i64 3, .int .i64 3, .int .i64 7, .int .i64 0, .int .i64 0, .int .i64 9, .int .i64 0, .int .i64 5, .int .i64 0, .int .i64 0, .slice none 0 0, .int .i64 0, .int .i64 0, .bool false, .slice none 0 0, .string (⟨#[]⟩ : ByteArray)]) ?_ 8 _ rfl; (with_reducible repeat (first | refine blk_drewN ?_ _ | refine blk_drew ?_ | refine blk_alloc ?_ _)); refine blk_put (cs := #[.int .i64 3, .int .i64 3, .int .i64 7, .int .i64 0, .int .i64 0, .int .i64 9, .int .i64 0, .int .i64 0, .int .i64 0, .int .i64 0, .slice none 0 0, .int .i64 0, .int .i64 0, .bool false, .slice none 0 0, .string (⟨#[]⟩ : ByteArray)]) ?_ 7 _ rfl; (with_reducible repeat (first | refine blk_drewN ?_ _ | refine blk_drew ?_ | refine blk_alloc ?_ _)); refine blk_put (cs := #[.int .i64 3, .int .i64 3, .int .i64 7, .int .i64 0, .int .i64 0, .int .i64 9, .int .i64 0, .int .i64 0, .int .i64 0, .int .i64 0, .slice none 0 0, .int .i64 0, .int .i64 0, .bool false, .slice none 0 0, .string (⟨#[]⟩ : ByteArray)]) ?_ 6 _ rfl; (with_reducible repeat (first | refine blk_drewN ?_ _ | refine blk_drew ?_ | refine blk_alloc ?_ _)); refine blk_put (cs := #[.int .i64 3, .int .i64 3, .int .i64 7, .int .i64 0, .int .i64 0, .int .i64 0, .int .i64 0, .int .i64 0, .int .i64 0, .int .i64 0, .slice none 0 0, .int .i64 0, .int .i64 0, .bool false, .slice none 0 0, .string (⟨#[]⟩ : ByteArray)]) ?_ 5 _ rfl; (with_reducible repeat (first | refine blk_drewN ?_ _ | refine blk_drew ?_ | refine blk_alloc ?_ _)); refine blk_put (cs := #[.int .i64 3, .int .i64 3, .int .i64 7, .int .i64 0, .int .i64 0, .int .i64 0, .int .i64 0, .int .i64 0, .int .i64 0, .int .i64 0, .slice none 0 0, .int .i64 0, .int .i64 0, .bool false, .slice none 0 0, .string (⟨#[]⟩ : ByteArray)]) ?_ 4 _ rfl; (with_reducible repeat (first | refine blk_drewN ?_ _ | refine blk_drew ?_ | refine blk_alloc ?_ _)); refine blk_put (cs := #[.int .i64 3, .int .i64 3, .int .i64 7, .int .i64 0, .int .i64 0, .int .i64 0, .int .i64 0, .int .i64 0, .int .i64 0, .int .i64 0, .slice none 0 0, .int .i64 0, .int .i64 0, .bool false, .slice none 0 0, .string (⟨#[]⟩ : ByteArray)]) ?_ 3 _ rfl; (with_reducible repeat (first | refine blk_drewN ?_ _ | refine blk_drew ?_ | refine blk_alloc ?_ _)); refine blk_put (cs := #[.int .i64 3, .int .i64 3, .int .i64 0, .int .i64 0, .int .i64 0, .int .i64 0, .int .i64 0, .int .i64 0, .int .i64 0, .int .i64 0, .slice none 0 0, .int .i64 0, .int .i64 0, .bool false, .slice none 0 0, .string (⟨#[]⟩ : ByteArray)]) ?_ 2 _ rfl; (with_reducible repeat (first | refine blk_drewN ?_ _ | refine blk_drew ?_ | refine blk_alloc ?_ _)); refine blk_put (cs := #[.int .i64 3, .int .i64 0, .int .i64 0, .int .i64 0, .int .i64 0, .int .i64 0, .int .i64 0, .int .i64 0, .int .i64 0, .int .i64 0, .slice none 0 0, .int .i64 0, .int .i64 0, .bool false, .slice none 0 0, .string (⟨#[]⟩ : ByteArray)]) ?_ 1 _ rfl; (with_reducible repeat (first | refine blk_drewN ?_ _ | refine blk_drew ?_ | refine blk_alloc ?_ _)); refine blk_put (cs := #[.int .i64 0, .int .i64 0, .int .i64 0, .int .i64 0, .int .i64 0, .int .i64 0, .int .i64 0, .int .i64 0, .int .i64 0, .int .i64 0, .slice none 0 0, .int .i64 0, .int .i64 0, .bool false, .slice none 0 0, .string (⟨#[]⟩ : ByteArray)]) ?_ 0 _ rfl; (with_reducible repeat (first | refine blk_drewN ?_ _ | refine blk_drew ?_ | refine blk_alloc ?_ _)); exact BK307.out) Tryd.underlying30 rfl (by kernel_rfl)) rfl ?_
  exact ⟨_, _, by first | rfl | (simp [errW_none, errW_some] <;> rfl) | (simp [*, errW_none, errW_some] <;> rfl), by (with_reducible repeat (first | apply Kd.R_alloc | apply Kd.R_drewN | apply Kd.R_drew)); exact Kd.R_mono (Kd.R_far (p := ⟨gb307, 15, none⟩) (Kd.R_far (p := ⟨gb307, 14, none⟩) (Kd.R_far (p := ⟨gb307, 13, none⟩) (Kd.R_far (p := ⟨gb307, 12, none⟩) (Kd.R_far (p := ⟨gb307, 11, none⟩) (Kd.R_far (p := ⟨gb307, 10, none⟩) (Kd.R_far (p := ⟨gb307, 9, none⟩) (Kd.R_far (p := ⟨gb307, 8, none⟩) (Kd.R_far (p := ⟨gb307, 7, none⟩) (Kd.R_far (p := ⟨gb307, 6, none⟩) (Kd.R_far (p := ⟨gb307, 5, none⟩) (Kd.R_far (p := ⟨gb307, 4, none⟩) (Kd.R_far (p := ⟨gb307, 3, none⟩) (Kd.R_far (p := ⟨gb307, 2, none⟩) (Kd.R_far (p := ⟨gb307, 1, none⟩) (Kd.R_far (p := ⟨gb307, 0, none⟩) (Kd.R_types HO310.out BK307.out (by decide)) (fun _ hk => hk.2) (.int .i64 3)) (fun _ hk => hk.2) (.int .i64 3)) (fun _ hk => hk.2) (.int .i64 7)) (fun _ hk => hk.2) (.int .i64 0)) (fun _ hk => hk.2) (.int .i64 0)) (fun _ hk => hk.2) (.int .i64 9)) (fun _ hk => hk.2) (.int .i64 0)) (fun _ hk => hk.2) (.int .i64 5)) (fun _ hk => hk.2) (.int .i64 3)) (fun _ hk => hk.2) (.int .i64 0)) (fun _ hk => hk.2) (.slice Ao4 y308.length co4)) (fun _ hk => hk.2) (.int .i64 4)) (fun _ hk => hk.2) (.int .i64 0)) (fun _ hk => hk.2) (.bool false)) (fun _ hk => hk.2) (.slice none 0 0)) (fun _ hk => hk.2) (.string (⟨#[120]⟩ : ByteArray))) (fun _ hk => trivial), by first | exact Kd.R_nil _ _ _ _ _ | exact Kd.N_nil _ _ _ _ _ | exact Kd.V_nil _ _ _ _ _ | exact Kd.Q_nil _ _ _ _ _ | exact Kd.S_nil _ _ _ _ _, by repeat (first | (with_reducible first | exact HB.out | apply below_alloc | apply pw_below_drewN | apply below_drew1 | refine below_set ?_ GE307.out) | exact HB.out)⟩
end Go.Proofs.YtlggihnkhimfkaaDoor.P
namespace Go.Proofs.YtlggihnkhimfkaaDoor.Pure
open Go.RowKit Go.Lib Go.Proofs.YtlggihnkhimfkaaDoor.Giv Go.Proofs.YtlggihnkhimfkaaDoor.P Go.Proofs.YtlggihnkhimfkaaDoorW.PrintWords Go.Proofs.YtlggihnkhimfkaaDoorW.PrintLast Go.Proofs.YtlggihnkhimfkaaDoorW.PrintMore
set_option linter.unusedVariables false
set_option linter.unusedSimpArgs false
def inR (n : Int) : Prop := -9223372036854775808 ≤ n ∧ n ≤ 9223372036854775807
def wfM (m : Ms) : Prop := (∀ x ∈ [m.kd, m.sh, m.ep, m.cl, m.sq, m.nn, m.ve, m.li, m.ok, m.id, m.kk], inR x) ∧ (∀ x ∈ m.v, inR x) ∧ inR m.er ∧ (∀ h ∈ m.hits, inR h.f0 ∧ inR h.f1) ∧ m.v.length ≤ 140737488351232 ∧ m.hits.length ≤ 140737488351232 ∧ m.text.size ≤ 140737488351232
theorem okVs_app (L R : List V) : okVs (L ++ R) = true ↔ okVs L = true ∧ okVs R = true := by
  induction L with
  | nil => rw [List.nil_append, okVs_nil]; simp
  | cons x xs ih => rw [List.cons_append, okVs_cons, okVs_cons, ih, and_assoc]
theorem nrms_app (L R : List V) : nrms (L ++ R) = nrms L ++ nrms R := by
  induction L with
  | nil => rw [List.nil_append, nrms_nil]; rfl
  | cons x xs ih => rw [List.cons_append, nrms_cons, nrms_cons, ih]; rfl
theorem nrm_int (n : Int) : nrm (intV n) = intV n := by rw [nrm_eq]; rfl
theorem nrm_lis (L : List V) : nrm (lisV L) = lisV (nrms L) := by rw [nrm_eq]; rfl
theorem wt_int (n : Int) : wt (intV n) = 30 := by rw [wt_eq, show (intV n).f3 = [] from rfl, wts_nil]; rfl
theorem wt_lis (L : List V) : wt (lisV L) = 30 + wts L := by rw [wt_eq]; rfl
theorem enc_int_len (n : Int) (h : inR n) : (enc (intV n)).length ≤ 22 := by
  have := itoa_len h.1 h.2
  rw [enc_int]; simp; omega
theorem ints_facts : ∀ (l : List Int), (∀ x ∈ l, inR x) → kins (l.map intV) = true ∧ okVs (l.map intV) = true ∧ deps (l.map intV) = 0 ∧ nrms (l.map intV) = l.map intV ∧ wts (l.map intV) = 30 * l.length ∧ (encs (l.map intV)).length ≤ 22 * l.length
  | [], _ => ⟨kins_nil, okVs_nil, deps_nil, nrms_nil, by rw [List.map_nil, wts_nil]; rfl, by rw [List.map_nil, encs_nil]; simp⟩
  | x :: l, h => by
    obtain ⟨h1, h2, h3, h4, h5, h6⟩ := ints_facts l (fun y hy => h y (List.mem_cons_of_mem _ hy))
    have hx := h x (List.mem_cons_self ..)
    have hl := enc_int_len x hx
    rw [List.map_cons, kins_cons, okVs_cons, deps_cons, nrms_cons, wts_cons, encs_cons, kin_int, h1, h3, h4, h5, dep_int, nrm_int, wt_int, List.length_append, List.length_cons]
    exact ⟨rfl, ⟨ok_int hx.1 hx.2, h2⟩, rfl, rfl, by omega, by omega⟩
def msgV (m : Ms) : V := lisV (msgL m.kd m.sh m.ep m.cl m.sq m.nn m.ve m.li m.ok m.id m.v m.kk m.er m.was m.hits)
theorem msgL_eq (m : Ms) : msgL m.kd m.sh m.ep m.cl m.sq m.nn m.ve m.li m.ok m.id m.v m.kk m.er m.was m.hits = [m.kd, m.sh, m.ep, m.cl, m.sq, m.nn, m.ve, m.li, m.ok, m.id, m.kk].map intV ++ [lisV (m.v.map intV), intV m.er, intV (if m.was = true then 1 else 0), lisV ((flatHits m.hits).map intV)] := rfl
theorem flat_mem : ∀ (l : List Hit), (∀ h ∈ l, inR h.f0 ∧ inR h.f1) → ∀ x ∈ flatHits l, inR x
  | [], _, x, hx => by cases hx
  | h :: l, hh, x, hx => by
    have e : flatHits (h :: l) = h.f0 :: h.f1 :: flatHits l := by simp [flatHits]
    rw [e] at hx
    rcases List.mem_cons.1 hx with rfl | hx
    · exact (hh h (List.mem_cons_self ..)).1
    · rcases List.mem_cons.1 hx with rfl | hx
      · exact (hh h (List.mem_cons_self ..)).2
      · exact flat_mem l (fun y hy => hh y (List.mem_cons_of_mem _ hy)) x hx
theorem may_small' {m : Ms} (hm : mayB m = true) : m.v.length ≤ 16 ∧ m.hits.length ≤ 64 ∧ m.text.size ≤ 262144 := by
  have h := may_small hm
  have h2 := ((mayB_iff m).1 hm).2.2
  unfold lastP at h2
  exact ⟨h.1, h.2, by omega⟩
theorem msg_facts (m : Ms) (hw : wfM m) (hm : mayB m = true) : kin (msgV m) = true ∧ okV (msgV m) = true ∧ dep (msgV m) ≤ 8 ∧ nrm (msgV m) = msgV m ∧ wt (msgV m) ≤ 10000 ∧ (enc (msgV m)).length ≤ 4000 := by
  obtain ⟨n1, n2, n3, n4, n5, n6⟩ := ints_facts _ hw.1
  obtain ⟨v1, v2, v3, v4, v5, v6⟩ := ints_facts _ hw.2.1
  obtain ⟨f1, f2, f3, f4, f5, f6⟩ := ints_facts _ (flat_mem _ hw.2.2.2.1)
  have hs := may_small' hm
  have hfl := flatHits_len m.hits
  have hwas : inR (if m.was = true then 1 else 0) := by split <;> exact ⟨by decide, by decide⟩
  have he := enc_int_len _ hw.2.2.1
  have he2 := enc_int_len _ hwas
  unfold msgV
  rw [msgL_eq, kin_lis, dep_lis, nrm_lis, wt_lis, enc_lis, kins_app, deps_app, nrms_app, wts_app, encs_app]
  rw [kins_cons, kins_cons, kins_cons, kins_cons, kins_nil, kin_lis, kin_int, kin_int, kin_lis, n1, v1, f1]
  rw [deps_cons, deps_cons, deps_cons, deps_cons, deps_nil, dep_lis, dep_int, dep_int, dep_lis, n3, v3, f3]
  rw [nrms_cons, nrms_cons, nrms_cons, nrms_cons, nrms_nil, nrm_lis, nrm_int, nrm_int, nrm_lis, n4, v4, f4]
  rw [wts_cons, wts_cons, wts_cons, wts_cons, wts_nil, wt_lis, wt_int, wt_int, wt_lis, n5, v5, f5]
  rw [encs_cons, encs_cons, encs_cons, encs_cons, encs_nil, enc_lis, enc_lis]
  refine ⟨rfl, ok_lis ((okVs_app _ _).2 ⟨n2, (okVs_cons _ _).2 ⟨ok_lis v2, (okVs_cons _ _).2 ⟨ok_int hw.2.2.1.1 hw.2.2.1.2, (okVs_cons _ _).2 ⟨ok_int hwas.1 hwas.2, (okVs_cons _ _).2 ⟨ok_lis f2, okVs_nil⟩⟩⟩⟩⟩), by simp, rfl, ?_, ?_⟩
  · simp only [List.length_cons, List.length_nil]; omega
  · simp only [List.length_cons, List.length_append, List.length_nil] at *; omega
def msgT (m : Ms) : ByteArray := putF ⟨(enc (msgV m)).toArray⟩ ++ putF m.text
theorem encA_size (l : List UInt8) : (⟨l.toArray⟩ : ByteArray).size = l.length := by simp [ByteArray.size]
theorem msgT_size (m : Ms) : (msgT m).size = (enc (msgV m)).length + 14 + (m.text.size + 14) := by
  unfold msgT
  rw [ByteArray.size_append, putF_size, putF_size, encA_size]
theorem put_msg (m : Ms) (hw : wfM m) (hm : mayB m = true) : post_Put.f m.kd m.sh m.ep m.cl m.sq m.nn m.ve m.li m.ok m.id m.v m.kk m.er m.was m.hits m.text = some (msgT m, 0) := by
  obtain ⟨h1, h2, h3, h4, h5, h6⟩ := msg_facts m hw hm
  have hs := may_small' hm
  have hz := msgT_size m
  have e1 : benc_Put.f 3 0 ⟨#[]⟩ (msgL m.kd m.sh m.ep m.cl m.sq m.nn m.ve m.li m.ok m.id m.v m.kk m.er m.was m.hits) = some (⟨(enc (msgV m)).toArray⟩, 0) := by
    have := put_yes (v := msgV m) (fit_of h2 (by omega))
    rw [putM_of h1 h3 (by omega)] at this
    exact this
  have e2 : frame_Put.f ⟨(enc (msgV m)).toArray⟩ = some (putF ⟨(enc (msgV m)).toArray⟩, 0) := PurF.put_yes (by rw [encA_size]; omega)
  have e3 : frame_Put.f m.text = some (putF m.text, 0) := PurF.put_yes hs.2.2
  unfold post_Put.f
  rw [if_pos (show mayM m.kd m.sh m.ep m.cl m.sq m.nn m.ve m.li m.ok m.id m.v m.kk m.er m.was m.hits m.text = true from hm), e1, Option.bind_some, e2, Option.bind_some, e3, Option.bind_some]
  rw [if_pos (show (putF ⟨(enc (msgV m)).toArray⟩).size + (putF m.text).size ≤ 9223372036854775807 by unfold msgT at hz; rw [ByteArray.size_append] at hz; omega)]
  rfl
theorem put_bad (m : Ms) (hm : ¬ mayB m = true) : post_Put.f m.kd m.sh m.ep m.cl m.sq m.nn m.ve m.li m.ok m.id m.v m.kk m.er m.was m.hits m.text = some (⟨#[]⟩, 1) := by
  unfold post_Put.f
  rw [if_neg (show ¬ mayM m.kd m.sh m.ep m.cl m.sq m.nn m.ve m.li m.ok m.id m.v m.kk m.er m.was m.hits m.text = true from hm)]
theorem ext_app (a b : ByteArray) : (a ++ b).extract a.size (a ++ b).size = b := by
  refine data_ext ?_
  rw [data_extract, frm_app, ByteArray.size_append]
  have ha := data_size a
  have hb := data_size b
  rw [List.take_of_length_le (by rw [List.length_append]; omega), ← ha, List.drop_left]
theorem ext_all (a : ByteArray) : a.extract 0 a.size = a := by
  refine data_ext ?_
  rw [data_extract, List.take_of_length_le (by rw [data_size]; exact Nat.le_refl _), List.drop_zero]
theorem app_empty (a : ByteArray) : a ++ ByteArray.empty = a := by
  refine data_ext ?_
  rw [frm_app]
  exact List.append_nil _
theorem all_two (a b : ByteArray) (ha : a.size ≤ 262144) (hb : b.size ≤ 262144) : allS (putF a ++ putF b) 0 = ([a, b], (putF a ++ putF b).size) := by
  have sa := putF_size a
  have sb := putF_size b
  have ss := ByteArray.size_append (a := putF a) (b := putF b)
  have t1 : takeF ((putF a ++ putF b).extract 0 (putF a ++ putF b).size) = (a, ((putF a).size : Int), 0) := by rw [ext_all, take_put a _ ha]
  have t2 : takeF ((putF a ++ putF b).extract (putF a).size (putF a ++ putF b).size) = (b, ((putF b).size : Int), 0) := by
    rw [ext_app]
    have := take_put b ByteArray.empty hb
    rwa [app_empty] at this
  rw [allS_step (by omega) (by rw [t1]), t1, Nat.zero_add]
  rw [show ((putF a).size : Int).toNat = (putF a).size from Int.toNat_natCast _]
  rw [allS_step (by omega) (by rw [t2]), t2]
  rw [show ((putF b).size : Int).toNat = (putF b).size from Int.toNat_natCast _]
  rw [allS_end (by omega), ss]
theorem pairs_flat : ∀ l : List Hit, pairs ((flatHits l).map intV) = l
  | [] => rfl
  | h :: l => by
    have e : flatHits (h :: l) = h.f0 :: h.f1 :: flatHits l := by simp [flatHits]
    rw [e, List.map_cons, List.map_cons, pairs, pairs_flat l]
    rfl
theorem only_msg (m : Ms) (hw : wfM m) (hm : mayB m = true) : benc_Only.f ⟨(enc (msgV m)).toArray⟩ = some (3, 0, ⟨#[]⟩, msgL m.kd m.sh m.ep m.cl m.sq m.nn m.ve m.li m.ok m.id m.v m.kk m.er m.was m.hits, 0) := by
  obtain ⟨h1, h2, h3, h4, h5, h6⟩ := msg_facts m hw hm
  have hz := encA_size (enc (msgV m))
  rw [only_yes (by omega)]
  have ht := takeM_back h1 h2 h3 (by omega) []
  rw [List.append_nil] at ht
  unfold onlyM
  rw [ht]
  rw [if_pos rfl, if_neg (show ¬ (((enc (msgV m)).length : Nat) : Int) < _ by rw [hz]; omega), h4]
  rfl
theorem take_msg (m : Ms) (hw : wfM m) (hm : mayB m = true) : post_Take.f (msgT m) = some (m.kd, m.sh, m.ep, m.cl, m.sq, m.nn, m.ve, m.li, m.ok, m.id, m.v, m.kk, m.er, m.was, m.hits, m.text, 0) := by
 obtain ⟨h1, h2, h3, h4, h5, h6⟩ := msg_facts m hw hm
 have hs := may_small' hm
 have hz := msgT_size m
 have eA : frame_All.f (msgT m) = some ([⟨(enc (msgV m)).toArray⟩, m.text], ((msgT m).size : Int)) := by
  rw [PurF.all_yes (by omega)]
  unfold msgT
  rw [all_two _ _ (by rw [encA_size]; omega) hs.2.2]
 unfold post_Take.f
 rw [eA, Option.bind_some]
 show (if ((msgT m).size : Int) = ((msgT m).size : Int) then _ else _) = _
 rw [if_pos rfl, only_msg m hw hm, Option.bind_some]
 rw [if_pos ⟨rfl, by rw [msgL_eq]; rfl⟩]
 unfold post_Take.g
 have ev : (rd_T49 (msgL m.kd m.sh m.ep m.cl m.sq m.nn m.ve m.li m.ok m.id m.v m.kk m.er m.was m.hits) 11).f3.map (·.f1) = m.v := by
  show (m.v.map intV).map (·.f1) = m.v
  rw [List.map_map]
  exact List.map_id _
 have eh : pairs (rd_T49 (msgL m.kd m.sh m.ep m.cl m.sq m.nn m.ve m.li m.ok m.id m.v m.kk m.er m.was m.hits) 14).f3 = m.hits := pairs_flat m.hits
 have ew : ((rd_T49 (msgL m.kd m.sh m.ep m.cl m.sq m.nn m.ve m.li m.ok m.id m.v m.kk m.er m.was m.hits) 13).f1 == 1) = m.was := by
  show ((if m.was = true then (1 : Int) else 0) == 1) = m.was
  cases m.was <;> rfl
 have l1 : (rd_T49 (msgL m.kd m.sh m.ep m.cl m.sq m.nn m.ve m.li m.ok m.id m.v m.kk m.er m.was m.hits) 11).f3.length ≤ 1000000 := by
  show (m.v.map intV).length ≤ 1000000
  rw [List.length_map]; omega
 have l2 : (rd_T49 (msgL m.kd m.sh m.ep m.cl m.sq m.nn m.ve m.li m.ok m.id m.v m.kk m.er m.was m.hits) 14).f3.length ≤ 1000000 := by
  show ((flatHits m.hits).map intV).length ≤ 1000000
  rw [List.length_map, flatHits_len]; omega
 rw [if_pos ⟨l1, l2⟩, ev, eh, ew]
 have ep := put_msg m hw hm
 show ((post_Put.f m.kd m.sh m.ep m.cl m.sq m.nn m.ve m.li m.ok m.id m.v m.kk m.er m.was m.hits m.text).bind fun p => _) = _
 rw [ep, Option.bind_some]
 show (if (0 : Int) = 0 ∧ (msgT m).toList = (msgT m).toList then _ else _) = _
 rw [if_pos ⟨rfl, rfl⟩]
 rfl
theorem x_bad : post_Take.f ⟨#[120]⟩ = some zeroT := by
  have h : (takeF ((⟨#[120]⟩ : ByteArray).extract 0 (⟨#[120]⟩ : ByteArray).size)).2.2 ≠ 0 := by
    intro h
    have hu := takeF_used h
    rw [ext_all] at hu
    have : (⟨#[120]⟩ : ByteArray).size = 1 := rfl
    omega
  unfold post_Take.f
  rw [PurF.all_yes (by decide), allS_bad h, Option.bind_some]
def someM : Ms := ⟨3, 3, 7, 0, 0, 9, 0, 5, 3, 0, [1, -2], 4, 0, false, [], ⟨#[120]⟩⟩
theorem some_wf : wfM someM := by
  refine ⟨?_, ?_, ⟨by decide, by decide⟩, ?_, by decide, by decide, by decide⟩
  · intro x hx
    unfold inR
    simp [someM] at hx
    omega
  · intro x hx
    unfold inR
    simp [someM] at hx
    omega
  · intro h hh; simp [someM] at hh
theorem some_may : mayB someM = true := by decide
theorem some_f : ploverlaw13_some.f = some (someM.kd, someM.sh, someM.ep, someM.cl, someM.sq, someM.nn, someM.ve, someM.li, someM.ok, someM.id, someM.v, someM.kk, someM.er, someM.was, someM.hits, someM.text) := rfl
theorem msgT_30 (m : Ms) : 30 ≤ (msgT m).size := by
  have := enc_len2 (msgV m)
  rw [msgT_size]; omega
theorem ints_c (l m : List Int) (Av : Option Addr) (cv : Nat) (Bv : Option Addr) (dv : Nat) (w : World) (hv : Kd.C (Kd.int .i64) w Av l.length l) (hcv : l.length ≤ cv) (hv' : Kd.C (Kd.int .i64) w Bv m.length m) (hcv' : m.length ≤ dv) (hl : l.length ≤ 1000000) :
    ∃ r : Bool, (r = true ↔ l = m) ∧ ∀ w2, Below w.heap.size w w2 → Calls Tryd.prog 52 #[.slice Av l.length cv, .slice Bv m.length dv] w2 fun e w' => e = .returned (.bool r) ∧ Below w2.heap.size w2 w' := by
  obtain ⟨r, h, hr⟩ := sameI_ev l m hl
  obtain ⟨k, hk⟩ := h.rounds
  exact ⟨r, hr, fun w2 hb => (ploverref01_SameInts.calls k Av cv l Bv dv m r w2 (Kd.C_below hv hb) hcv (Kd.C_below hv' hb) hcv' hk).mono (fun e w' hh => ⟨hh.1, by first | exact hh.2 | (obtain ⟨n, hn⟩ := hh.2; subst hn; exact pw_below_drewN (Below.refl _ _) _) | (rw [hh.2]; exact Below.refl _ _)⟩)⟩
set_option maxHeartbeats 8000000 in
set_option maxRecDepth 100000 in
theorem op_hand (k0 k1 : Int) (l : List Int) (k3 j0 j1 : Int) (m : List Int) (j3 : Int) (Av : Option Addr) (cv : Nat) (Bv : Option Addr) (dv : Nat) (w : World) (ri : Bool) (H : ∀ w2, Below w.heap.size w w2 → Calls Tryd.prog 52 #[.slice Av l.length cv, .slice Bv m.length dv] w2 fun e w' => e = .returned (.bool ri) ∧ Below w2.heap.size w2 w') :
  Calls Tryd.prog 32 #[.agg #[.int .i64 k0, .int .i64 k1, .slice Av l.length cv, .int .i64 k3], .agg #[.int .i64 j0, .int .i64 j1, .slice Bv m.length dv, .int .i64 j3]] w fun e w' => e = .returned (.bool ((k0 == j0) && ((k1 == j1) && ((k3 == j3) && ri)))) ∧ Below w.heap.size w w' := by
 have HI := Aside0.mk H
 clear H
 go_enter Tryd.func32, Tryd.ntmps32
 go_upto_region 1 with (first | ((with_reducible refine gate_dst (N := 2) rfl ?_); refine box_event ?hg (N := 2) ?hd (cs := #[.int .i64 k0, .int .i64 k1, .slice Av l.length cv, .int .i64 k3]) (t := 24) ?hr ?_; (case hd => rfl); (case hg => rfl); (case hr => first | (go_simp; done) | (go_simp; rfl)); intro ga hg w1 hbox hb; have HB1 := Aside0.mk (below_step (Below.refl w.heap.size w) hb); have BA1 := Aside0.mk hbox; clear hg hbox hb) | ((with_reducible refine gate_dst (N := 3) rfl ?_); refine box_event ?hg (N := 3) ?hd (cs := #[.int .i64 j0, .int .i64 j1, .slice Bv m.length dv, .int .i64 j3]) (t := 24) ?hr ?_; (case hd => rfl); (case hg => rfl); (case hr => first | (go_simp; done) | (go_simp; rfl)); intro gb hg w2 hbox hb; have HB2 := Aside0.mk (below_step HB1.out hb); have BA2 := Aside0.mk (blk_below BA1.out hb); have BB2 := Aside0.mk hbox; clear hg hbox hb) | fail)
 have ca0 : w2.cell? ⟨ga, 0, none⟩ = some (.int .i64 k0) := (blk_cell BA2.out 0).trans rfl
 have ca1 : w2.cell? ⟨ga, 1, none⟩ = some (.int .i64 k1) := (blk_cell BA2.out 1).trans rfl
 have ca2 : w2.cell? ⟨ga, 2, none⟩ = some (.slice Av l.length cv) := (blk_cell BA2.out 2).trans rfl
 have ca3 : w2.cell? ⟨ga, 3, none⟩ = some (.int .i64 k3) := (blk_cell BA2.out 3).trans rfl
 have cb0 : w2.cell? ⟨gb, 0, none⟩ = some (.int .i64 j0) := (blk_cell BB2.out 0).trans rfl
 have cb1 : w2.cell? ⟨gb, 1, none⟩ = some (.int .i64 j1) := (blk_cell BB2.out 1).trans rfl
 have cb2 : w2.cell? ⟨gb, 2, none⟩ = some (.slice Bv m.length dv) := (blk_cell BB2.out 2).trans rfl
 have cb3 : w2.cell? ⟨gb, 3, none⟩ = some (.int .i64 j3) := (blk_cell BB2.out 3).trans rfl
 cases t0 : (k0 == j0) with
 | false =>
  go_wp2
  go_ret
  exact ⟨by rw [t0]; rfl, HB2.out⟩
 | true =>
  cases t1 : (k1 == j1) with
  | false =>
   go_wp2
   go_ret
   exact ⟨by rw [t0, t1]; rfl, HB2.out⟩
  | true =>
   cases t2 : (k3 == j3) with
   | false =>
    go_wp2
    go_ret
    exact ⟨by rw [t0, t1, t2]; rfl, HB2.out⟩
   | true =>
    go_wp2_with (first | (go_at_call 52; refine (HI.out _ HB2.out).mono ?_; rintro e w3 ⟨rfl, hb⟩; have HB3 := Aside0.mk (below_step HB2.out hb); clear hb) | fail)
    go_ret
    exact ⟨by rw [t0, t1, t2]; rfl, HB3.out⟩
theorem op_c (k0 k1 : Int) (l : List Int) (k3 j0 j1 : Int) (m : List Int) (j3 : Int) (Av : Option Addr) (cv : Nat) (Bv : Option Addr) (dv : Nat) (w : World) (hv : Kd.C (Kd.int .i64) w Av l.length l) (hcv : l.length ≤ cv) (hv' : Kd.C (Kd.int .i64) w Bv m.length m) (hcv' : m.length ≤ dv) (hl : l.length ≤ 1000000) :
    ∃ r : Bool, (r = true ↔ k0 = j0 ∧ k1 = j1 ∧ k3 = j3 ∧ l = m) ∧ ∀ w2, Below w.heap.size w w2 → Calls Tryd.prog 32 #[.agg #[.int .i64 k0, .int .i64 k1, .slice Av l.length cv, .int .i64 k3], .agg #[.int .i64 j0, .int .i64 j1, .slice Bv m.length dv, .int .i64 j3]] w2 fun e w' => e = .returned (.bool r) ∧ Below w2.heap.size w2 w' := by
  obtain ⟨ri, hri, HI⟩ := ints_c l m Av cv Bv dv w hv hcv hv' hcv' hl
  refine ⟨(k0 == j0) && ((k1 == j1) && ((k3 == j3) && ri)), ?_, fun w2 hb => op_hand k0 k1 l k3 j0 j1 m j3 Av cv Bv dv w2 ri (fun w3 hb3 => HI w3 (hb.trans (hb3.mono hb.size)))⟩
  simp only [Bool.and_eq_true, beq_iff_eq, hri]
theorem hits_c (l m : List Hit) (Av : Option Addr) (cv : Nat) (Bv : Option Addr) (dv : Nat) (w : World) (hv : Kd.C k52 w Av l.length l) (hcv : l.length ≤ cv) (hv' : Kd.C k52 w Bv m.length m) (hcv' : m.length ≤ dv) (hl : l.length ≤ 1000000) :
    ∃ r : Bool, (r = true ↔ l = m) ∧ ∀ w2, Below w.heap.size w w2 → Calls Tryd.prog 33 #[.slice Av l.length cv, .slice Bv m.length dv] w2 fun e w' => e = .returned (.bool r) ∧ Below w2.heap.size w2 w' := by
  obtain ⟨r, h, hr⟩ := sameH_ev l m hl
  obtain ⟨k, hk⟩ := h.rounds
  exact ⟨r, hr, fun w2 hb => (ploverref05_Same.calls k Av cv l Bv dv m r w2 (Kd.C_below hv hb) hcv (Kd.C_below hv' hb) hcv' hk).mono (fun e w' hh => ⟨hh.1, by first | exact hh.2 | (obtain ⟨n, hn⟩ := hh.2; subst hn; exact below_drewN (Below.refl _ _) _) | (rw [hh.2]; exact Below.refl _ _)⟩)⟩
def tests (a b : Ms) (o h : Bool) : List Bool := [a.kd == b.kd, a.sh == b.sh, a.ep == b.ep, a.cl == b.cl, a.sq == b.sq, a.nn == b.nn, a.ve == b.ve, a.li == b.li, o, a.er == b.er, a.was == b.was, h, a.text.toList == b.text.toList]
theorem first_false : ∀ l : List Bool, l.all id = true ∨ ∃ i, i < l.length ∧ (∀ j, j < i → l[j]? = some true) ∧ l[i]? = some false
  | [] => .inl rfl
  | false :: l => .inr ⟨0, by simp, fun j hj => absurd hj (by omega), rfl⟩
  | true :: l => by
    rcases first_false l with h | ⟨i, h1, h2, h3⟩
    · exact .inl (by simpa using h)
    · refine .inr ⟨i + 1, by simp; omega, fun j hj => ?_, by simpa using h3⟩
      cases j with
      | zero => rfl
      | succ j => simpa using h2 j (by omega)
set_option maxHeartbeats 16000000 in
set_option maxRecDepth 100000 in
theorem same_hand (a b : Ms) (Av : Option Addr) (cv : Nat) (Ah : Option Addr) (ch : Nat) (Bv : Option Addr) (dv : Nat) (Bh : Option Addr) (dh : Nat) (w : World) (hv : Kd.C (Kd.int .i64) w Av a.v.length a.v) (hcv : a.v.length ≤ cv) (hh : Kd.C k52 w Ah a.hits.length a.hits) (hch : a.hits.length ≤ ch) (hv' : Kd.C (Kd.int .i64) w Bv b.v.length b.v) (hcv' : b.v.length ≤ dv) (hh' : Kd.C k52 w Bh b.hits.length b.hits) (hch' : b.hits.length ≤ dh)
  (hs1 : a.v.length ≤ 1000000) (hs2 : a.hits.length ≤ 1000000) (r : Bool) (hr : r = true ↔ a = b) : Calls Tryd.prog 13 #[.agg #[.int .i64 a.kd, .int .i64 a.sh, .int .i64 a.ep, .int .i64 a.cl, .int .i64 a.sq, .int .i64 a.nn, .int .i64 a.ve, .int .i64 a.li, .int .i64 a.ok, .int .i64 a.id, .slice Av a.v.length cv, .int .i64 a.kk, .int .i64 a.er, .bool a.was, .slice Ah a.hits.length ch, .string a.text], .agg #[.int .i64 b.kd, .int .i64 b.sh, .int .i64 b.ep, .int .i64 b.cl, .int .i64 b.sq, .int .i64 b.nn, .int .i64 b.ve, .int .i64 b.li, .int .i64 b.ok, .int .i64 b.id, .slice Bv b.v.length dv, .int .i64 b.kk, .int .i64 b.er, .bool b.was, .slice Bh b.hits.length dh, .string b.text]] w fun e w' => e = .returned (.bool r) ∧ Below w.heap.size w w' := by
 obtain ⟨ro, hro, HO⟩ := op_c a.ok a.id a.v a.kk b.ok b.id b.v b.kk Av cv Bv dv w hv hcv hv' hcv' hs1
 obtain ⟨rh, hrh, HH⟩ := hits_c a.hits b.hits Ah ch Bh dh w hh hch hh' hch' hs2
 have key : r = (tests a b ro rh).all id := by
  refine Bool.eq_iff_iff.2 (hr.trans ?_)
  simp only [tests, List.all_cons, List.all_nil, id_eq, Bool.and_true, Bool.and_eq_true, beq_iff_eq, hro, hrh]
  rw [← beq_iff_eq (a := a.text.toList), toList_eq]
  cases a; cases b
  simp only [Ms.mk.injEq]
  constructor
  ·
   rintro ⟨h0, h1, h2, h3, h4, h5, h6, h7, h8, h9, h11, h10, h12, h13, h14, h15⟩
   exact ⟨h0, h1, h2, h3, h4, h5, h6, h7, ⟨h8, h9, h10, h11⟩, h12, h13, h14, h15⟩
  ·
   rintro ⟨h0, h1, h2, h3, h4, h5, h6, h7, ⟨h8, h9, h10, h11⟩, h12, h13, h14, h15⟩
   exact ⟨h0, h1, h2, h3, h4, h5, h6, h7, h8, h9, h11, h10, h12, h13, h14, h15⟩
 clear hv hcv hh hch hv' hcv' hh' hch' hs1 hs2 hr hro hrh
 have HO' := Aside0.mk HO
 have HH' := Aside0.mk HH
 clear HO HH
 go_enter Tryd.func13, Tryd.ntmps13
 go_upto_region 1 with (first | ((with_reducible refine gate_dst (N := 2) rfl ?_); refine box_event ?hg (N := 2) ?hd (cs := #[.int .i64 a.kd, .int .i64 a.sh, .int .i64 a.ep, .int .i64 a.cl, .int .i64 a.sq, .int .i64 a.nn, .int .i64 a.ve, .int .i64 a.li, .int .i64 a.ok, .int .i64 a.id, .slice Av a.v.length cv, .int .i64 a.kk, .int .i64 a.er, .bool a.was, .slice Ah a.hits.length ch, .string a.text]) (t := 30) ?hr ?_; (case hd => rfl); (case hg => rfl); (case hr => first | (go_simp; done) | (go_simp; rfl)); intro ga hg w1 hbox hb; have HB1 := Aside0.mk (below_step (Below.refl w.heap.size w) hb); have BKA := Aside0.mk hbox; clear hg hbox hb) | ((with_reducible refine gate_dst (N := 3) rfl ?_); refine box_event ?hg (N := 3) ?hd (cs := #[.int .i64 b.kd, .int .i64 b.sh, .int .i64 b.ep, .int .i64 b.cl, .int .i64 b.sq, .int .i64 b.nn, .int .i64 b.ve, .int .i64 b.li, .int .i64 b.ok, .int .i64 b.id, .slice Bv b.v.length dv, .int .i64 b.kk, .int .i64 b.er, .bool b.was, .slice Bh b.hits.length dh, .string b.text]) (t := 30) ?hr ?_; (case hd => rfl); (case hg => rfl); (case hr => first | (go_simp; done) | (go_simp; rfl)); intro gb hg w2 hbox hb; have HB2 := Aside0.mk (below_step HB1.out hb); have BKA2 := Aside0.mk (blk_below BKA.out hb); have BKB := Aside0.mk hbox; clear hg hbox hb) | fail)
 (try simp only [Act.put, List.setIfInBounds_toArray, List.set_cons_zero, List.set_cons_succ])
 have ca0 : w2.cell? ⟨ga, 0, none⟩ = some (.int .i64 a.kd) := (blk_cell BKA2.out 0).trans rfl
 have ca1 : w2.cell? ⟨ga, 1, none⟩ = some (.int .i64 a.sh) := (blk_cell BKA2.out 1).trans rfl
 have ca2 : w2.cell? ⟨ga, 2, none⟩ = some (.int .i64 a.ep) := (blk_cell BKA2.out 2).trans rfl
 have ca3 : w2.cell? ⟨ga, 3, none⟩ = some (.int .i64 a.cl) := (blk_cell BKA2.out 3).trans rfl
 have ca4 : w2.cell? ⟨ga, 4, none⟩ = some (.int .i64 a.sq) := (blk_cell BKA2.out 4).trans rfl
 have ca5 : w2.cell? ⟨ga, 5, none⟩ = some (.int .i64 a.nn) := (blk_cell BKA2.out 5).trans rfl
 have ca6 : w2.cell? ⟨ga, 6, none⟩ = some (.int .i64 a.ve) := (blk_cell BKA2.out 6).trans rfl
 have ca7 : w2.cell? ⟨ga, 7, none⟩ = some (.int .i64 a.li) := (blk_cell BKA2.out 7).trans rfl
 have ca8 : w2.cell? ⟨ga, 8, none⟩ = some (.int .i64 a.ok) := (blk_cell BKA2.out 8).trans rfl
 have ca9 : w2.cell? ⟨ga, 9, none⟩ = some (.int .i64 a.id) := (blk_cell BKA2.out 9).trans rfl
 have ca10 : w2.cell? ⟨ga, 10, none⟩ = some (.slice Av a.v.length cv) := (blk_cell BKA2.out 10).trans rfl
 have ca11 : w2.cell? ⟨ga, 11, none⟩ = some (.int .i64 a.kk) := (blk_cell BKA2.out 11).trans rfl
 have ca12 : w2.cell? ⟨ga, 12, none⟩ = some (.int .i64 a.er) := (blk_cell BKA2.out 12).trans rfl
 have ca13 : w2.cell? ⟨ga, 13, none⟩ = some (.bool a.was) := (blk_cell BKA2.out 13).trans rfl
 have ca14 : w2.cell? ⟨ga, 14, none⟩ = some (.slice Ah a.hits.length ch) := (blk_cell BKA2.out 14).trans rfl
 have ca15 : w2.cell? ⟨ga, 15, none⟩ = some (.string a.text) := (blk_cell BKA2.out 15).trans rfl
 have cb0 : w2.cell? ⟨gb, 0, none⟩ = some (.int .i64 b.kd) := (blk_cell BKB.out 0).trans rfl
 have cb1 : w2.cell? ⟨gb, 1, none⟩ = some (.int .i64 b.sh) := (blk_cell BKB.out 1).trans rfl
 have cb2 : w2.cell? ⟨gb, 2, none⟩ = some (.int .i64 b.ep) := (blk_cell BKB.out 2).trans rfl
 have cb3 : w2.cell? ⟨gb, 3, none⟩ = some (.int .i64 b.cl) := (blk_cell BKB.out 3).trans rfl
 have cb4 : w2.cell? ⟨gb, 4, none⟩ = some (.int .i64 b.sq) := (blk_cell BKB.out 4).trans rfl
 have cb5 : w2.cell? ⟨gb, 5, none⟩ = some (.int .i64 b.nn) := (blk_cell BKB.out 5).trans rfl
 have cb6 : w2.cell? ⟨gb, 6, none⟩ = some (.int .i64 b.ve) := (blk_cell BKB.out 6).trans rfl
 have cb7 : w2.cell? ⟨gb, 7, none⟩ = some (.int .i64 b.li) := (blk_cell BKB.out 7).trans rfl
 have cb8 : w2.cell? ⟨gb, 8, none⟩ = some (.int .i64 b.ok) := (blk_cell BKB.out 8).trans rfl
 have cb9 : w2.cell? ⟨gb, 9, none⟩ = some (.int .i64 b.id) := (blk_cell BKB.out 9).trans rfl
 have cb10 : w2.cell? ⟨gb, 10, none⟩ = some (.slice Bv b.v.length dv) := (blk_cell BKB.out 10).trans rfl
 have cb11 : w2.cell? ⟨gb, 11, none⟩ = some (.int .i64 b.kk) := (blk_cell BKB.out 11).trans rfl
 have cb12 : w2.cell? ⟨gb, 12, none⟩ = some (.int .i64 b.er) := (blk_cell BKB.out 12).trans rfl
 have cb13 : w2.cell? ⟨gb, 13, none⟩ = some (.bool b.was) := (blk_cell BKB.out 13).trans rfl
 have cb14 : w2.cell? ⟨gb, 14, none⟩ = some (.slice Bh b.hits.length dh) := (blk_cell BKB.out 14).trans rfl
 have cb15 : w2.cell? ⟨gb, 15, none⟩ = some (.string b.text) := (blk_cell BKB.out 15).trans rfl
 have two : ∀ {w3 : World}, Below w2.heap.size w2 w3 → Below w.heap.size w w3 := fun h => below_step HB2.out h
 rcases first_false (tests a b ro rh) with hall | ⟨i, hi, hb, hf⟩
 ·
  rw [hall] at key
  subst key
  simp only [tests, List.all_cons, List.all_nil, id_eq, Bool.and_true, Bool.and_eq_true] at hall
  obtain ⟨t0, t1, t2, t3, t4, t5, t6, t7, t8, t9, t10, t11, t12⟩ := hall
  subst t8
  subst t11
  as_aux_lemma =>
  go_wp2_with (first | (go_at_call 32; refine (HO'.out _ HB2.out).mono ?_; rintro e w3 ⟨rfl, hb⟩; have HB3 := Aside0.mk (below_step HB2.out hb); replace ca8 := pw_cell_below hb ca8; replace cb8 := pw_cell_below hb cb8; replace ca9 := pw_cell_below hb ca9; replace cb9 := pw_cell_below hb cb9; replace ca10 := pw_cell_below hb ca10; replace cb10 := pw_cell_below hb cb10; replace ca11 := pw_cell_below hb ca11; replace cb11 := pw_cell_below hb cb11; replace ca12 := pw_cell_below hb ca12; replace cb12 := pw_cell_below hb cb12; replace ca13 := pw_cell_below hb ca13; replace cb13 := pw_cell_below hb cb13; replace ca14 := pw_cell_below hb ca14; replace cb14 := pw_cell_below hb cb14; replace ca15 := pw_cell_below hb ca15; replace cb15 := pw_cell_below hb cb15; clear hb) | (go_at_call 33; refine (HH'.out _ HB3.out).mono ?_; rintro e w4 ⟨rfl, hb⟩; have HB4 := Aside0.mk (below_step HB3.out hb); replace ca8 := pw_cell_below hb ca8; replace cb8 := pw_cell_below hb cb8; replace ca9 := pw_cell_below hb ca9; replace cb9 := pw_cell_below hb cb9; replace ca10 := pw_cell_below hb ca10; replace cb10 := pw_cell_below hb cb10; replace ca11 := pw_cell_below hb ca11; replace cb11 := pw_cell_below hb cb11; replace ca12 := pw_cell_below hb ca12; replace cb12 := pw_cell_below hb cb12; replace ca13 := pw_cell_below hb ca13; replace cb13 := pw_cell_below hb cb13; replace ca14 := pw_cell_below hb ca14; replace cb14 := pw_cell_below hb cb14; replace ca15 := pw_cell_below hb ca15; replace cb15 := pw_cell_below hb cb15; clear hb) | fail)
  go_ret
  exact ⟨rfl, HB4.out⟩
 ·
  have key2 : r = false := by
   rw [key, List.all_eq_false]
   exact ⟨false, List.mem_of_getElem? hf, by decide⟩
  subst key2
  clear key
  have h13 : i < 13 := hi
  obtain rfl | rfl | rfl | rfl | rfl | rfl | rfl | rfl | rfl | rfl | rfl | rfl | rfl : i = 0 ∨ i = 1 ∨ i = 2 ∨ i = 3 ∨ i = 4 ∨ i = 5 ∨ i = 6 ∨ i = 7 ∨ i = 8 ∨ i = 9 ∨ i = 10 ∨ i = 11 ∨ i = 12 := by omega
  ·
   have tf : (a.kd == b.kd) = false := Option.some.inj hf
   clear hb hf hi h13
   as_aux_lemma =>
   go_wp2_with (fail)
   go_ret
   exact ⟨rfl, HB2.out⟩
  ·
   have tf : (a.sh == b.sh) = false := Option.some.inj hf
   have t0 : (a.kd == b.kd) = true := Option.some.inj (hb 0 (by decide))
   clear hb hf hi h13
   as_aux_lemma =>
   go_wp2_with (fail)
   go_ret
   exact ⟨rfl, HB2.out⟩
  ·
   have tf : (a.ep == b.ep) = false := Option.some.inj hf
   have t0 : (a.kd == b.kd) = true := Option.some.inj (hb 0 (by decide))
   have t1 : (a.sh == b.sh) = true := Option.some.inj (hb 1 (by decide))
   clear hb hf hi h13
   as_aux_lemma =>
   go_wp2_with (fail)
   go_ret
   exact ⟨rfl, HB2.out⟩
  ·
   have tf : (a.cl == b.cl) = false := Option.some.inj hf
   have t0 : (a.kd == b.kd) = true := Option.some.inj (hb 0 (by decide))
   have t1 : (a.sh == b.sh) = true := Option.some.inj (hb 1 (by decide))
   have t2 : (a.ep == b.ep) = true := Option.some.inj (hb 2 (by decide))
   clear hb hf hi h13
   as_aux_lemma =>
   go_wp2_with (fail)
   go_ret
   exact ⟨rfl, HB2.out⟩
  ·
   have tf : (a.sq == b.sq) = false := Option.some.inj hf
   have t0 : (a.kd == b.kd) = true := Option.some.inj (hb 0 (by decide))
   have t1 : (a.sh == b.sh) = true := Option.some.inj (hb 1 (by decide))
   have t2 : (a.ep == b.ep) = true := Option.some.inj (hb 2 (by decide))
   have t3 : (a.cl == b.cl) = true := Option.some.inj (hb 3 (by decide))
   clear hb hf hi h13
   as_aux_lemma =>
   go_wp2_with (fail)
   go_ret
   exact ⟨rfl, HB2.out⟩
  ·
   have tf : (a.nn == b.nn) = false := Option.some.inj hf
   have t0 : (a.kd == b.kd) = true := Option.some.inj (hb 0 (by decide))
   have t1 : (a.sh == b.sh) = true := Option.some.inj (hb 1 (by decide))
   have t2 : (a.ep == b.ep) = true := Option.some.inj (hb 2 (by decide))
   have t3 : (a.cl == b.cl) = true := Option.some.inj (hb 3 (by decide))
   have t4 : (a.sq == b.sq) = true := Option.some.inj (hb 4 (by decide))
   clear hb hf hi h13
   as_aux_lemma =>
   go_wp2_with (fail)
   go_ret
   exact ⟨rfl, HB2.out⟩
  ·
   have tf : (a.ve == b.ve) = false := Option.some.inj hf
   have t0 : (a.kd == b.kd) = true := Option.some.inj (hb 0 (by decide))
   have t1 : (a.sh == b.sh) = true := Option.some.inj (hb 1 (by decide))
   have t2 : (a.ep == b.ep) = true := Option.some.inj (hb 2 (by decide))
   have t3 : (a.cl == b.cl) = true := Option.some.inj (hb 3 (by decide))
   have t4 : (a.sq == b.sq) = true := Option.some.inj (hb 4 (by decide))
   have t5 : (a.nn == b.nn) = true := Option.some.inj (hb 5 (by decide))
   clear hb hf hi h13
   as_aux_lemma =>
   go_wp2_with (fail)
   go_ret
   exact ⟨rfl, HB2.out⟩
  ·
   have tf : (a.li == b.li) = false := Option.some.inj hf
   have t0 : (a.kd == b.kd) = true := Option.some.inj (hb 0 (by decide))
   have t1 : (a.sh == b.sh) = true := Option.some.inj (hb 1 (by decide))
   have t2 : (a.ep == b.ep) = true := Option.some.inj (hb 2 (by decide))
   have t3 : (a.cl == b.cl) = true := Option.some.inj (hb 3 (by decide))
   have t4 : (a.sq == b.sq) = true := Option.some.inj (hb 4 (by decide))
   have t5 : (a.nn == b.nn) = true := Option.some.inj (hb 5 (by decide))
   have t6 : (a.ve == b.ve) = true := Option.some.inj (hb 6 (by decide))
   clear hb hf hi h13
   as_aux_lemma =>
   go_wp2_with (fail)
   go_ret
   exact ⟨rfl, HB2.out⟩
  ·
   have tf : (ro) = false := Option.some.inj hf
   have t0 : (a.kd == b.kd) = true := Option.some.inj (hb 0 (by decide))
   have t1 : (a.sh == b.sh) = true := Option.some.inj (hb 1 (by decide))
   have t2 : (a.ep == b.ep) = true := Option.some.inj (hb 2 (by decide))
   have t3 : (a.cl == b.cl) = true := Option.some.inj (hb 3 (by decide))
   have t4 : (a.sq == b.sq) = true := Option.some.inj (hb 4 (by decide))
   have t5 : (a.nn == b.nn) = true := Option.some.inj (hb 5 (by decide))
   have t6 : (a.ve == b.ve) = true := Option.some.inj (hb 6 (by decide))
   have t7 : (a.li == b.li) = true := Option.some.inj (hb 7 (by decide))
   clear hb hf hi h13
   subst tf
   as_aux_lemma =>
   go_wp2_with (first | (go_at_call 32; refine (HO'.out _ HB2.out).mono ?_; rintro e w3 ⟨rfl, hb⟩; have HB3 := Aside0.mk (below_step HB2.out hb); replace ca8 := pw_cell_below hb ca8; replace cb8 := pw_cell_below hb cb8; replace ca9 := pw_cell_below hb ca9; replace cb9 := pw_cell_below hb cb9; replace ca10 := pw_cell_below hb ca10; replace cb10 := pw_cell_below hb cb10; replace ca11 := pw_cell_below hb ca11; replace cb11 := pw_cell_below hb cb11; replace ca12 := pw_cell_below hb ca12; replace cb12 := pw_cell_below hb cb12; replace ca13 := pw_cell_below hb ca13; replace cb13 := pw_cell_below hb cb13; replace ca14 := pw_cell_below hb ca14; replace cb14 := pw_cell_below hb cb14; replace ca15 := pw_cell_below hb ca15; replace cb15 := pw_cell_below hb cb15; clear hb) | fail)
   go_ret
   exact ⟨rfl, HB3.out⟩
  ·
   have tf : (a.er == b.er) = false := Option.some.inj hf
   have t0 : (a.kd == b.kd) = true := Option.some.inj (hb 0 (by decide))
   have t1 : (a.sh == b.sh) = true := Option.some.inj (hb 1 (by decide))
   have t2 : (a.ep == b.ep) = true := Option.some.inj (hb 2 (by decide))
   have t3 : (a.cl == b.cl) = true := Option.some.inj (hb 3 (by decide))
   have t4 : (a.sq == b.sq) = true := Option.some.inj (hb 4 (by decide))
   have t5 : (a.nn == b.nn) = true := Option.some.inj (hb 5 (by decide))
   have t6 : (a.ve == b.ve) = true := Option.some.inj (hb 6 (by decide))
   have t7 : (a.li == b.li) = true := Option.some.inj (hb 7 (by decide))
   have t8 : (ro) = true := Option.some.inj (hb 8 (by decide))
   clear hb hf hi h13
   subst t8
   as_aux_lemma =>
   go_wp2_with (first | (go_at_call 32; refine (HO'.out _ HB2.out).mono ?_; rintro e w3 ⟨rfl, hb⟩; have HB3 := Aside0.mk (below_step HB2.out hb); replace ca8 := pw_cell_below hb ca8; replace cb8 := pw_cell_below hb cb8; replace ca9 := pw_cell_below hb ca9; replace cb9 := pw_cell_below hb cb9; replace ca10 := pw_cell_below hb ca10; replace cb10 := pw_cell_below hb cb10; replace ca11 := pw_cell_below hb ca11; replace cb11 := pw_cell_below hb cb11; replace ca12 := pw_cell_below hb ca12; replace cb12 := pw_cell_below hb cb12; replace ca13 := pw_cell_below hb ca13; replace cb13 := pw_cell_below hb cb13; replace ca14 := pw_cell_below hb ca14; replace cb14 := pw_cell_below hb cb14; replace ca15 := pw_cell_below hb ca15; replace cb15 := pw_cell_below hb cb15; clear hb) | fail)
   go_ret
   exact ⟨rfl, HB3.out⟩
  ·
   have tf : (a.was == b.was) = false := Option.some.inj hf
   have t0 : (a.kd == b.kd) = true := Option.some.inj (hb 0 (by decide))
   have t1 : (a.sh == b.sh) = true := Option.some.inj (hb 1 (by decide))
   have t2 : (a.ep == b.ep) = true := Option.some.inj (hb 2 (by decide))
   have t3 : (a.cl == b.cl) = true := Option.some.inj (hb 3 (by decide))
   have t4 : (a.sq == b.sq) = true := Option.some.inj (hb 4 (by decide))
   have t5 : (a.nn == b.nn) = true := Option.some.inj (hb 5 (by decide))
   have t6 : (a.ve == b.ve) = true := Option.some.inj (hb 6 (by decide))
   have t7 : (a.li == b.li) = true := Option.some.inj (hb 7 (by decide))
   have t8 : (ro) = true := Option.some.inj (hb 8 (by decide))
   have t9 : (a.er == b.er) = true := Option.some.inj (hb 9 (by decide))
   clear hb hf hi h13
   subst t8
   as_aux_lemma =>
   go_wp2_with (first | (go_at_call 32; refine (HO'.out _ HB2.out).mono ?_; rintro e w3 ⟨rfl, hb⟩; have HB3 := Aside0.mk (below_step HB2.out hb); replace ca8 := pw_cell_below hb ca8; replace cb8 := pw_cell_below hb cb8; replace ca9 := pw_cell_below hb ca9; replace cb9 := pw_cell_below hb cb9; replace ca10 := pw_cell_below hb ca10; replace cb10 := pw_cell_below hb cb10; replace ca11 := pw_cell_below hb ca11; replace cb11 := pw_cell_below hb cb11; replace ca12 := pw_cell_below hb ca12; replace cb12 := pw_cell_below hb cb12; replace ca13 := pw_cell_below hb ca13; replace cb13 := pw_cell_below hb cb13; replace ca14 := pw_cell_below hb ca14; replace cb14 := pw_cell_below hb cb14; replace ca15 := pw_cell_below hb ca15; replace cb15 := pw_cell_below hb cb15; clear hb) | fail)
   go_ret
   exact ⟨rfl, HB3.out⟩
  ·
   have tf : (rh) = false := Option.some.inj hf
   have t0 : (a.kd == b.kd) = true := Option.some.inj (hb 0 (by decide))
   have t1 : (a.sh == b.sh) = true := Option.some.inj (hb 1 (by decide))
   have t2 : (a.ep == b.ep) = true := Option.some.inj (hb 2 (by decide))
   have t3 : (a.cl == b.cl) = true := Option.some.inj (hb 3 (by decide))
   have t4 : (a.sq == b.sq) = true := Option.some.inj (hb 4 (by decide))
   have t5 : (a.nn == b.nn) = true := Option.some.inj (hb 5 (by decide))
   have t6 : (a.ve == b.ve) = true := Option.some.inj (hb 6 (by decide))
   have t7 : (a.li == b.li) = true := Option.some.inj (hb 7 (by decide))
   have t8 : (ro) = true := Option.some.inj (hb 8 (by decide))
   have t9 : (a.er == b.er) = true := Option.some.inj (hb 9 (by decide))
   have t10 : (a.was == b.was) = true := Option.some.inj (hb 10 (by decide))
   clear hb hf hi h13
   subst t8
   subst tf
   as_aux_lemma =>
   go_wp2_with (first | (go_at_call 32; refine (HO'.out _ HB2.out).mono ?_; rintro e w3 ⟨rfl, hb⟩; have HB3 := Aside0.mk (below_step HB2.out hb); replace ca8 := pw_cell_below hb ca8; replace cb8 := pw_cell_below hb cb8; replace ca9 := pw_cell_below hb ca9; replace cb9 := pw_cell_below hb cb9; replace ca10 := pw_cell_below hb ca10; replace cb10 := pw_cell_below hb cb10; replace ca11 := pw_cell_below hb ca11; replace cb11 := pw_cell_below hb cb11; replace ca12 := pw_cell_below hb ca12; replace cb12 := pw_cell_below hb cb12; replace ca13 := pw_cell_below hb ca13; replace cb13 := pw_cell_below hb cb13; replace ca14 := pw_cell_below hb ca14; replace cb14 := pw_cell_below hb cb14; replace ca15 := pw_cell_below hb ca15; replace cb15 := pw_cell_below hb cb15; clear hb) | (go_at_call 33; refine (HH'.out _ HB3.out).mono ?_; rintro e w4 ⟨rfl, hb⟩; have HB4 := Aside0.mk (below_step HB3.out hb); replace ca8 := pw_cell_below hb ca8; replace cb8 := pw_cell_below hb cb8; replace ca9 := pw_cell_below hb ca9; replace cb9 := pw_cell_below hb cb9; replace ca10 := pw_cell_below hb ca10; replace cb10 := pw_cell_below hb cb10; replace ca11 := pw_cell_below hb ca11; replace cb11 := pw_cell_below hb cb11; replace ca12 := pw_cell_below hb ca12; replace cb12 := pw_cell_below hb cb12; replace ca13 := pw_cell_below hb ca13; replace cb13 := pw_cell_below hb cb13; replace ca14 := pw_cell_below hb ca14; replace cb14 := pw_cell_below hb cb14; replace ca15 := pw_cell_below hb ca15; replace cb15 := pw_cell_below hb cb15; clear hb) | fail)
   go_ret
   exact ⟨rfl, HB4.out⟩
  ·
   have tf : (a.text.toList == b.text.toList) = false := Option.some.inj hf
   have t0 : (a.kd == b.kd) = true := Option.some.inj (hb 0 (by decide))
   have t1 : (a.sh == b.sh) = true := Option.some.inj (hb 1 (by decide))
   have t2 : (a.ep == b.ep) = true := Option.some.inj (hb 2 (by decide))
   have t3 : (a.cl == b.cl) = true := Option.some.inj (hb 3 (by decide))
   have t4 : (a.sq == b.sq) = true := Option.some.inj (hb 4 (by decide))
   have t5 : (a.nn == b.nn) = true := Option.some.inj (hb 5 (by decide))
   have t6 : (a.ve == b.ve) = true := Option.some.inj (hb 6 (by decide))
   have t7 : (a.li == b.li) = true := Option.some.inj (hb 7 (by decide))
   have t8 : (ro) = true := Option.some.inj (hb 8 (by decide))
   have t9 : (a.er == b.er) = true := Option.some.inj (hb 9 (by decide))
   have t10 : (a.was == b.was) = true := Option.some.inj (hb 10 (by decide))
   have t11 : (rh) = true := Option.some.inj (hb 11 (by decide))
   clear hb hf hi h13
   subst t8
   subst t11
   as_aux_lemma =>
   go_wp2_with (first | (go_at_call 32; refine (HO'.out _ HB2.out).mono ?_; rintro e w3 ⟨rfl, hb⟩; have HB3 := Aside0.mk (below_step HB2.out hb); replace ca8 := pw_cell_below hb ca8; replace cb8 := pw_cell_below hb cb8; replace ca9 := pw_cell_below hb ca9; replace cb9 := pw_cell_below hb cb9; replace ca10 := pw_cell_below hb ca10; replace cb10 := pw_cell_below hb cb10; replace ca11 := pw_cell_below hb ca11; replace cb11 := pw_cell_below hb cb11; replace ca12 := pw_cell_below hb ca12; replace cb12 := pw_cell_below hb cb12; replace ca13 := pw_cell_below hb ca13; replace cb13 := pw_cell_below hb cb13; replace ca14 := pw_cell_below hb ca14; replace cb14 := pw_cell_below hb cb14; replace ca15 := pw_cell_below hb ca15; replace cb15 := pw_cell_below hb cb15; clear hb) | (go_at_call 33; refine (HH'.out _ HB3.out).mono ?_; rintro e w4 ⟨rfl, hb⟩; have HB4 := Aside0.mk (below_step HB3.out hb); replace ca8 := pw_cell_below hb ca8; replace cb8 := pw_cell_below hb cb8; replace ca9 := pw_cell_below hb ca9; replace cb9 := pw_cell_below hb cb9; replace ca10 := pw_cell_below hb ca10; replace cb10 := pw_cell_below hb cb10; replace ca11 := pw_cell_below hb ca11; replace cb11 := pw_cell_below hb cb11; replace ca12 := pw_cell_below hb ca12; replace cb12 := pw_cell_below hb cb12; replace ca13 := pw_cell_below hb ca13; replace cb13 := pw_cell_below hb cb13; replace ca14 := pw_cell_below hb ca14; replace cb14 := pw_cell_below hb cb14; replace ca15 := pw_cell_below hb ca15; replace cb15 := pw_cell_below hb cb15; clear hb) | fail)
   go_ret
   exact ⟨rfl, HB4.out⟩
def putV (m : Ms) : ByteArray × Int := if mayB m = true then (msgT m, 0) else (⟨#[]⟩, 1)
theorem put_any (m : Ms) (hw : wfM m) : post_Put.f m.kd m.sh m.ep m.cl m.sq m.nn m.ve m.li m.ok m.id m.v m.kk m.er m.was m.hits m.text = some (putV m) := by
  unfold putV
  by_cases hm : mayB m = true
  · rw [if_pos hm]; exact put_msg m hw hm
  · rw [if_neg hm]; exact put_bad m hm
theorem check_any (m : Ms) : post_Check.f m.kd m.sh m.ep m.cl m.sq m.nn m.ve m.li m.ok m.id m.v m.kk m.er m.was m.hits m.text = some (putV m).2 := by
  unfold post_Check.f putV
  by_cases hm : mayB m = true
  · rw [if_pos hm, if_pos (show mayM m.kd m.sh m.ep m.cl m.sq m.nn m.ve m.li m.ok m.id m.v m.kk m.er m.was m.hits m.text = true from hm)]
  · rw [if_neg hm, if_neg (show ¬ mayM m.kd m.sh m.ep m.cl m.sq m.nn m.ve m.li m.ok m.id m.v m.kk m.er m.was m.hits m.text = true from hm)]
def lightB (m : Ms) : Bool := decide (m.text.size ≤ 2048) && (decide (m.v.length ≤ 100) && decide (m.hits.length ≤ 100))
theorem light_small {m : Ms} (h : lightB m = true) : m.v.length ≤ 1000000 ∧ m.hits.length ≤ 1000000 := by
  simp [lightB] at h; omega
section
variable (m : Ms) (Av : Option Addr) (cv : Nat) (Ah : Option Addr) (ch : Nat) (w : World)
theorem light_c (hv : Kd.C (Kd.int .i64) w Av m.v.length m.v) (hcv : m.v.length ≤ cv) (hh : Kd.C k52 w Ah m.hits.length m.hits) (hch : m.hits.length ≤ ch) (b : Bool) (hb : lightB m = b) : Calls Tryd.prog 7 #[.agg #[.int .i64 m.kd, .int .i64 m.sh, .int .i64 m.ep, .int .i64 m.cl, .int .i64 m.sq, .int .i64 m.nn, .int .i64 m.ve, .int .i64 m.li, .int .i64 m.ok, .int .i64 m.id, .slice Av m.v.length cv, .int .i64 m.kk, .int .i64 m.er, .bool m.was, .slice Ah m.hits.length ch, .string m.text]] w fun e w' => e = .returned (.bool b) ∧ Below w.heap.size w w' := by
 have HQ := Aside0.mk hb
 clear hv hcv hh hch hb
 go_enter Tryd.func7, Tryd.ntmps7
 go_upto_region 1 with (first | ((with_reducible refine gate_dst (N := 1) rfl ?_); refine box_event ?hg (N := 1) ?hd (cs := #[.int .i64 m.kd, .int .i64 m.sh, .int .i64 m.ep, .int .i64 m.cl, .int .i64 m.sq, .int .i64 m.nn, .int .i64 m.ve, .int .i64 m.li, .int .i64 m.ok, .int .i64 m.id, .slice Av m.v.length cv, .int .i64 m.kk, .int .i64 m.er, .bool m.was, .slice Ah m.hits.length ch, .string m.text]) (t := 30) ?hr ?_; (case hd => rfl); (case hg => rfl); (case hr => first | (go_simp; done) | (go_simp; rfl)); intro gb hg w1 hbox hb; have HB1 := Aside0.mk (below_step (Below.refl w.heap.size w) hb); have BK1 := Aside0.mk hbox; clear hg hbox hb) | fail)
 have c10 : w1.cell? ⟨gb, 10, none⟩ = some (.slice Av m.v.length cv) := (blk_cell BK1.out 10).trans rfl
 have c14 : w1.cell? ⟨gb, 14, none⟩ = some (.slice Ah m.hits.length ch) := (blk_cell BK1.out 14).trans rfl
 have c15 : w1.cell? ⟨gb, 15, none⟩ = some (.string m.text) := (blk_cell BK1.out 15).trans rfl
 by_cases h0 : m.text.size ≤ 2048
 ·
  have g0 : (m.text.size : Int) ≤ 2048 := by omega
  by_cases h1 : m.v.length ≤ 100
  ·
   have g1 : (m.v.length : Int) ≤ 100 := by omega
   by_cases h2 : m.hits.length ≤ 100
   ·
    have g2 : (m.hits.length : Int) ≤ 100 := by omega
    obtain rfl : true = b := by rw [← HQ.out]; simp [lightB, h0, h1, h2]
    go_wp2
    go_ret
    exact ⟨rfl, HB1.out⟩
   ·
    have g2 : ¬ (m.hits.length : Int) ≤ 100 := by omega
    obtain rfl : false = b := by rw [← HQ.out]; simp [lightB, h2]
    go_wp2
    go_ret
    exact ⟨rfl, HB1.out⟩
  ·
   have g1 : ¬ (m.v.length : Int) ≤ 100 := by omega
   obtain rfl : false = b := by rw [← HQ.out]; simp [lightB, h1]
   go_wp2
   go_ret
   exact ⟨rfl, HB1.out⟩
 ·
  have g0 : ¬ (m.text.size : Int) ≤ 2048 := by omega
  obtain rfl : false = b := by rw [← HQ.out]; simp [lightB, h0]
  go_wp2
  go_ret
  exact ⟨rfl, HB1.out⟩
theorem put_c (hL : LaidW w) (hv : Kd.C (Kd.int .i64) w Av m.v.length m.v) (hcv : m.v.length ≤ cv) (hh : Kd.C k52 w Ah m.hits.length m.hits) (hch : m.hits.length ≤ ch) (hw : wfM m) (S : ByteArray) (e0 : Int) (hp : putV m = (S, e0)) : Calls Tryd.prog 9 #[.agg #[.int .i64 m.kd, .int .i64 m.sh, .int .i64 m.ep, .int .i64 m.cl, .int .i64 m.sq, .int .i64 m.nn, .int .i64 m.ve, .int .i64 m.li, .int .i64 m.ok, .int .i64 m.id, .slice Av m.v.length cv, .int .i64 m.kk, .int .i64 m.er, .bool m.was, .slice Ah m.hits.length ch, .string m.text]] w fun e w' => e = .returned (.tuple #[.string S, .int .i64 e0]) ∧ Below w.heap.size w w' :=
  post_Put.calls m.kd m.sh m.ep m.cl m.sq m.nn m.ve m.li m.ok m.id Av cv m.v m.kk m.er m.was Ah ch m.hits m.text S e0 w hL hv hcv hh hch (by rw [put_any m hw, hp])
theorem check_c (hv : Kd.C (Kd.int .i64) w Av m.v.length m.v) (hcv : m.v.length ≤ cv) (hh : Kd.C k52 w Ah m.hits.length m.hits) (hch : m.hits.length ≤ ch) (e0 : Int) (hp : (putV m).2 = e0) : Calls Tryd.prog 11 #[.agg #[.int .i64 m.kd, .int .i64 m.sh, .int .i64 m.ep, .int .i64 m.cl, .int .i64 m.sq, .int .i64 m.nn, .int .i64 m.ve, .int .i64 m.li, .int .i64 m.ok, .int .i64 m.id, .slice Av m.v.length cv, .int .i64 m.kk, .int .i64 m.er, .bool m.was, .slice Ah m.hits.length ch, .string m.text]] w fun e w' => e = .returned (.int .i64 e0) ∧ Below w.heap.size w w' :=
  post_Check.calls m.kd m.sh m.ep m.cl m.sq m.nn m.ve m.li m.ok m.id Av cv m.v m.kk m.er m.was Ah ch m.hits m.text w hv hcv hh hch e0 (by rw [check_any, hp])
end
theorem same_c (m n : Ms) (Av : Option Addr) (cv : Nat) (Ah : Option Addr) (ch : Nat) (Bv : Option Addr) (dv : Nat) (Bh : Option Addr) (dh : Nat) (w : World) (hv : Kd.C (Kd.int .i64) w Av m.v.length m.v) (hcv : m.v.length ≤ cv) (hh : Kd.C k52 w Ah m.hits.length m.hits) (hch : m.hits.length ≤ ch) (hv' : Kd.C (Kd.int .i64) w Bv n.v.length n.v) (hcv' : n.v.length ≤ dv) (hh' : Kd.C k52 w Bh n.hits.length n.hits) (hch' : n.hits.length ≤ dh)
    (hs1 : m.v.length ≤ 1000000) (hs2 : m.hits.length ≤ 1000000) (r : Bool) (hr : r = true ↔ m = n) : Calls Tryd.prog 13 #[.agg #[.int .i64 m.kd, .int .i64 m.sh, .int .i64 m.ep, .int .i64 m.cl, .int .i64 m.sq, .int .i64 m.nn, .int .i64 m.ve, .int .i64 m.li, .int .i64 m.ok, .int .i64 m.id, .slice Av m.v.length cv, .int .i64 m.kk, .int .i64 m.er, .bool m.was, .slice Ah m.hits.length ch, .string m.text], .agg #[.int .i64 n.kd, .int .i64 n.sh, .int .i64 n.ep, .int .i64 n.cl, .int .i64 n.sq, .int .i64 n.nn, .int .i64 n.ve, .int .i64 n.li, .int .i64 n.ok, .int .i64 n.id, .slice Bv n.v.length dv, .int .i64 n.kk, .int .i64 n.er, .bool n.was, .slice Bh n.hits.length dh, .string n.text]] w fun e w' => e = .returned (.bool r) ∧ Below w.heap.size w w' :=
  same_hand m n Av cv Ah ch Bv dv Bh dh w hv hcv hh hch hv' hcv' hh' hch' hs1 hs2 r hr
theorem take_c (s : ByteArray) (n : Ms) (e0 : Int) (w : World) (hL : LaidW w) (h : post_Take.f s = some (n.kd, n.sh, n.ep, n.cl, n.sq, n.nn, n.ve, n.li, n.ok, n.id, n.v, n.kk, n.er, n.was, n.hits, n.text, e0)) :
    Calls Tryd.prog 12 #[.string s] w fun e w' => ∃ (Bv : Option Addr) (dv : Nat) (Bh : Option Addr) (dh : Nat), e = .returned (.tuple #[.agg #[.int .i64 n.kd, .int .i64 n.sh, .int .i64 n.ep, .int .i64 n.cl, .int .i64 n.sq, .int .i64 n.nn, .int .i64 n.ve, .int .i64 n.li, .int .i64 n.ok, .int .i64 n.id, .slice Bv n.v.length dv, .int .i64 n.kk, .int .i64 n.er, .bool n.was, .slice Bh n.hits.length dh, .string n.text], .int .i64 e0]) ∧ Kd.C (Kd.int .i64) w' Bv n.v.length n.v ∧ n.v.length ≤ dv ∧ Kd.C k52 w' Bh n.hits.length n.hits ∧ n.hits.length ≤ dh ∧ Below w.heap.size w w' := by
  refine (post_Take.calls s n.kd n.sh n.ep n.cl n.sq n.nn n.ve n.li n.ok n.id n.v n.kk n.er n.was n.hits n.text e0 w hL h).mono ?_
  rintro e w' ⟨v10, v14, rfl, ho0, ho1, hb⟩
  obtain ⟨Bv, dv, rfl⟩ := Kd.R_slice ho0
  obtain ⟨Bh, dh, rfl⟩ := Kd.R_slice ho1
  have c0 := Kd.R_reads' ho0
  have c1 := Kd.R_reads' ho1
  exact ⟨Bv, dv, Bh, dh, rfl, c0.2.2, c0.2.1, c1.2.2, c1.2.1, hb⟩
theorem some_c (n : Ms) (h : n = someM) (w : World) :
    Calls Tryd.prog 14 #[] w fun e w' => ∃ (Bv : Option Addr) (dv : Nat) (Bh : Option Addr) (dh : Nat), e = .returned (.agg #[.int .i64 n.kd, .int .i64 n.sh, .int .i64 n.ep, .int .i64 n.cl, .int .i64 n.sq, .int .i64 n.nn, .int .i64 n.ve, .int .i64 n.li, .int .i64 n.ok, .int .i64 n.id, .slice Bv n.v.length dv, .int .i64 n.kk, .int .i64 n.er, .bool n.was, .slice Bh n.hits.length dh, .string n.text]) ∧ Kd.C (Kd.int .i64) w' Bv n.v.length n.v ∧ n.v.length ≤ dv ∧ Kd.C k52 w' Bh n.hits.length n.hits ∧ n.hits.length ≤ dh ∧ Below w.heap.size w w' := by
  subst h
  refine (ploverlaw13_some.calls someM.kd someM.sh someM.ep someM.cl someM.sq someM.nn someM.ve someM.li someM.ok someM.id someM.v someM.kk someM.er someM.was someM.hits someM.text w some_f).mono ?_
  rintro e w' ⟨v10, v14, rfl, ho0, ho1, hb⟩
  obtain ⟨Bv, dv, rfl⟩ := Kd.R_slice ho0
  obtain ⟨Bh, dh, rfl⟩ := Kd.R_slice ho1
  have c0 := Kd.R_reads' ho0
  have c1 := Kd.R_reads' ho1
  exact ⟨Bv, dv, Bh, dh, rfl, c0.2.2, c0.2.1, c1.2.2, c1.2.1, hb⟩
end Go.Proofs.YtlggihnkhimfkaaDoor.Pure
