/- Texts put together by prune.py: PstP, PsA, Cut, PstR, PstS, PstT, PstX. -/
import Derived.Deep.RegionHeld3
import Derived.OrdersHeld
import Derived.Handy
import Derived.Lib.ReflectliteSwap
import Derived.Test.YtlggihnkhimfkaaDoorAp7
namespace Go.Proofs.YtlggihnkhimfkaaDoor.Giv
open Go.RowKit Go.Lib Go.Proofs.YtlggihnkhimfkaaDoorW.PrintWords Go.Proofs.YtlggihnkhimfkaaDoorW.PrintLast Go.Proofs.YtlggihnkhimfkaaDoorW.PrintMore
set_option linter.unusedVariables false
set_option linter.unusedSimpArgs false
def flatHits (l : List P.S52) : List Int := l.flatMap (fun h => [h.f0, h.f1])
theorem flatHits_len (l : List P.S52) : (flatHits l).length = 2 * l.length := by
  induction l with
  | nil => rfl
  | cons x t ih => unfold flatHits at *; rw [List.flatMap_cons, List.length_append, ih]; simp; omega
theorem flatHits_take (l : List P.S52) (k : Nat) (h : k < l.length) : flatHits (l.take (k + 1)) = flatHits (l.take k) ++ [l[k].f0, l[k].f1] := by
  unfold flatHits
  rw [List.take_succ_eq_append_getElem h, List.flatMap_append]; simp
def numsM (a0_0 a0_1 a0_2 a0_3 a0_4 a0_5 a0_6 a0_7 a0_8 a0_9 a0_11 : Int) : List Int := [a0_0, a0_1, a0_2, a0_3, a0_4, a0_5, a0_6, a0_7, a0_8, a0_9, a0_11]
def msgL (a0_0 a0_1 a0_2 a0_3 a0_4 a0_5 a0_6 a0_7 a0_8 a0_9 : Int) (l0_10 : List Int) (a0_11 a0_12 : Int) (a0_13 : Bool) (l0_14 : List P.S52) : List P.S49 := (numsM a0_0 a0_1 a0_2 a0_3 a0_4 a0_5 a0_6 a0_7 a0_8 a0_9 a0_11).map intW ++ [lisW l0_10, intW a0_12, intW (if a0_13 = true then 1 else 0), lisW (flatHits l0_14)]
def post_Put.f (a0_0 a0_1 a0_2 a0_3 a0_4 a0_5 a0_6 a0_7 a0_8 a0_9 : Int) (l0_10 : List Int) (a0_11 a0_12 : Int) (a0_13 : Bool) (l0_14 : List P.S52) (a0_15 : ByteArray) : Option (ByteArray × Int) :=
  if mayM a0_0 a0_1 a0_2 a0_3 a0_4 a0_5 a0_6 a0_7 a0_8 a0_9 l0_10 a0_11 a0_12 a0_13 l0_14 a0_15 = true then
    (benc_Put.f 3 0 ⟨#[]⟩ (msgL a0_0 a0_1 a0_2 a0_3 a0_4 a0_5 a0_6 a0_7 a0_8 a0_9 l0_10 a0_11 a0_12 a0_13 l0_14)).bind fun s => (P.frame_Put.f s.1).bind fun a => (P.frame_Put.f a0_15).bind fun b => if a.1.size + b.1.size ≤ 9223372036854775807 then some (a.1 ++ b.1, 0) else none
  else some (⟨#[]⟩, 1)
theorem may_small {a0_0 a0_1 a0_2 a0_3 a0_4 a0_5 a0_6 a0_7 a0_8 a0_9 : Int} {l0_10 : List Int} {a0_11 a0_12 : Int} {a0_13 : Bool} {l0_14 : List P.S52} {a0_15 : ByteArray} (h : mayM a0_0 a0_1 a0_2 a0_3 a0_4 a0_5 a0_6 a0_7 a0_8 a0_9 l0_10 a0_11 a0_12 a0_13 l0_14 a0_15 = true) : l0_10.length ≤ 16 ∧ l0_14.length ≤ 64 := by
  unfold mayM at h
  simp only [Bool.and_eq_true, Bool.not_eq_true', Bool.or_eq_false_iff, Bool.and_eq_false_iff, decide_eq_false_iff_not, Bool.not_eq_false'] at h
  obtain ⟨⟨⟨⟨⟨_, _⟩, _⟩, hv⟩, ⟨⟨_, hh⟩, _⟩⟩, _⟩ := h
  refine ⟨?_, by omega⟩
  rcases hv with hv | hv
  · omega
  · exact (isV_spec hv).2.1
theorem nums_cell {cs : Array Value} {w : World} {g : Nat} {t : TypeId} (a0 a1 a2 a3 a4 a5 a6 a7 a8 a9 a11 : Int) (v10 v12 v13 v14 v15 : Value) (hcs : cs = #[.int .i64 a0, .int .i64 a1, .int .i64 a2, .int .i64 a3, .int .i64 a4, .int .i64 a5, .int .i64 a6, .int .i64 a7, .int .i64 a8, .int .i64 a9, v10, .int .i64 a11, v12, v13, v14, v15]) (h : w.heap[g]? = some (.cells cs t (0, 0))) (k : Nat) (hk : k < (numsM a0 a1 a2 a3 a4 a5 a6 a7 a8 a9 a11).length) : w.cell? ⟨g, offN k, none⟩ = some (.int .i64 (numsM a0 a1 a2 a3 a4 a5 a6 a7 a8 a9 a11)[k]) := by
  subst hcs
  rw [blk_cell h]
  unfold numsM at *
  have hk' : k < 11 := hk
  have : k = 0 ∨ k = 1 ∨ k = 2 ∨ k = 3 ∨ k = 4 ∨ k = 5 ∨ k = 6 ∨ k = 7 ∨ k = 8 ∨ k = 9 ∨ k = 10 := by omega
  rcases this with rfl | rfl | rfl | rfl | rfl | rfl | rfl | rfl | rfl | rfl | rfl <;> rfl
theorem info_int0 : (Tryd.prog.info? 3).map (fun i => (i.zero, i.size, i.bytes)) = some (some (.int .i64 0), 1, 8) := by kernel_rfl
theorem lit_four {W : World} {base : Nat} {okp : Nat → Prop} {x0 x1 x2 x3 : P.S49} {v0 v1 v2 v3 : Value} (n : Nat) (hn : W.heap.size = n) (hb : base ≤ W.heap.size)
    (h0 : Kd.R P.k49 49 W base okp v0 x0.f3) (h1 : Kd.R P.k49 49 W base okp v1 x1.f3) (h2 : Kd.R P.k49 49 W base okp v2 x2.f3) (h3 : Kd.R P.k49 49 W base okp v3 x3.f3) :
    ReadsRow (P.k49.M (W.alloc (.cells #[.int .i64 x0.f0, .int .i64 x0.f1, .string x0.f2, v0, .int .i64 x1.f0, .int .i64 x1.f1, .string x1.f2, v1, .int .i64 x2.f0, .int .i64 x2.f1, .string x2.f2, v2, .int .i64 x3.f0, .int .i64 x3.f1, .string x3.f2, v3] 49)) base okp) P.k49.sz (W.alloc (.cells #[.int .i64 x0.f0, .int .i64 x0.f1, .string x0.f2, v0, .int .i64 x1.f0, .int .i64 x1.f1, .string x1.f2, v1, .int .i64 x2.f0, .int .i64 x2.f1, .string x2.f2, v2, .int .i64 x3.f0, .int .i64 x3.f1, .string x3.f2, v3] 49)) (some ⟨n, 0, none⟩) 4 [x0, x1, x2, x3] := by
  subst hn
  have r0 := P.k49_mkM _ base okp x0 (Kd.R_alloc h0 (.cells #[.int .i64 x0.f0, .int .i64 x0.f1, .string x0.f2, v0, .int .i64 x1.f0, .int .i64 x1.f1, .string x1.f2, v1, .int .i64 x2.f0, .int .i64 x2.f1, .string x2.f2, v2, .int .i64 x3.f0, .int .i64 x3.f1, .string x3.f2, v3] 49))
  have r1 := P.k49_mkM _ base okp x1 (Kd.R_alloc h1 (.cells #[.int .i64 x0.f0, .int .i64 x0.f1, .string x0.f2, v0, .int .i64 x1.f0, .int .i64 x1.f1, .string x1.f2, v1, .int .i64 x2.f0, .int .i64 x2.f1, .string x2.f2, v2, .int .i64 x3.f0, .int .i64 x3.f1, .string x3.f2, v3] 49))
  have r2 := P.k49_mkM _ base okp x2 (Kd.R_alloc h2 (.cells #[.int .i64 x0.f0, .int .i64 x0.f1, .string x0.f2, v0, .int .i64 x1.f0, .int .i64 x1.f1, .string x1.f2, v1, .int .i64 x2.f0, .int .i64 x2.f1, .string x2.f2, v2, .int .i64 x3.f0, .int .i64 x3.f1, .string x3.f2, v3] 49))
  have r3 := P.k49_mkM _ base okp x3 (Kd.R_alloc h3 (.cells #[.int .i64 x0.f0, .int .i64 x0.f1, .string x0.f2, v0, .int .i64 x1.f0, .int .i64 x1.f1, .string x1.f2, v1, .int .i64 x2.f0, .int .i64 x2.f1, .string x2.f2, v2, .int .i64 x3.f0, .int .i64 x3.f1, .string x3.f2, v3] 49))
  have hr := ((((Reps.none _ 4).snoc r0 rfl).snoc r1 rfl).snoc r2 rfl).snoc r3 rfl
  have ho := OwnRow.lit (e := 49) W base (ps := [x0, x1, x2, x3]) (inner := [.int .i64 x0.f0, .int .i64 x0.f1, .string x0.f2, v0, .int .i64 x1.f0, .int .i64 x1.f1, .string x1.f2, v1, .int .i64 x2.f0, .int .i64 x2.f1, .string x2.f2, v2, .int .i64 x3.f0, .int .i64 x3.f1, .string x3.f2, v3]) hr hb (by simp)
  obtain ⟨A, c, e, _, hR⟩ := ho.reads
  cases e
  exact hR
set_option maxRecDepth 100000 in
set_option maxHeartbeats 8000000 in
theorem put_true (a0_0 a0_1 a0_2 a0_3 a0_4 a0_5 a0_6 a0_7 a0_8 a0_9 : Int) (A0_10 : Option Addr) (c0_10 : Nat) (l0_10 : List Int) (a0_11 a0_12 : Int) (A0_14 : Option Addr) (c0_14 : Nat) (l0_14 : List (P.S52)) (a0_15 : ByteArray) (w : World) (hL : LaidW w) (hr0_10 : Kd.C (Kd.int .i64) w A0_10 l0_10.length l0_10) (hc0_10 : l0_10.length ≤ c0_10) (hr0_14 : Kd.C P.k52 w A0_14 l0_14.length l0_14) (hc0_14 : l0_14.length ≤ c0_14) (hm : mayM a0_0 a0_1 a0_2 a0_3 a0_4 a0_5 a0_6 a0_7 a0_8 a0_9 l0_10 a0_11 a0_12 true l0_14 a0_15 = true) (s fa fb : ByteArray) (es ea eb : Int) (h1 : benc_Put.f 3 0 ⟨#[]⟩ (msgL a0_0 a0_1 a0_2 a0_3 a0_4 a0_5 a0_6 a0_7 a0_8 a0_9 l0_10 a0_11 a0_12 true l0_14) = some (s, es)) (h2 : P.frame_Put.f s = some (fa, ea)) (h3 : P.frame_Put.f a0_15 = some (fb, eb)) (h4 : fa.size + fb.size ≤ 9223372036854775807) :
    Calls Tryd.prog 9 #[.agg #[.int .i64 a0_0, .int .i64 a0_1, .int .i64 a0_2, .int .i64 a0_3, .int .i64 a0_4, .int .i64 a0_5, .int .i64 a0_6, .int .i64 a0_7, .int .i64 a0_8, .int .i64 a0_9, .slice A0_10 l0_10.length c0_10, .int .i64 a0_11, .int .i64 a0_12, .bool true, .slice A0_14 l0_14.length c0_14, .string a0_15]] w fun e w' => e = .returned (.tuple #[.string (fa ++ fb), .int .i64 0]) ∧ Below w.heap.size w w' := by
  have HS := Aside0.mk (may_small hm)
  have HS10 := Aside0.mk (show l0_10.length ≤ 1000 from by have := HS.out.1; omega)
  have HR10 := Aside0.mk hr0_10
  have HR14 := Aside0.mk hr0_14
  have HLw := Aside0.mk hL
  have HC := Aside0.mk (fun W (h : Below w.heap.size w W) => post_Check.calls a0_0 a0_1 a0_2 a0_3 a0_4 a0_5 a0_6 a0_7 a0_8 a0_9 A0_10 c0_10 l0_10 a0_11 a0_12 true A0_14 c0_14 l0_14 a0_15 W (Kd.C_below hr0_10 h) hc0_10 (Kd.C_below hr0_14 h) hc0_14 0 (by unfold post_Check.f; rw [if_pos hm]))
  have H1 := Aside0.mk h1
  have H2 := Aside0.mk h2
  have H3 := Aside0.mk h3
  have H14 := Aside0.mk (show l0_14.length ≤ 64 from HS.out.2)
  clear hr0_10 hr0_14 hL hm h1 h2 h3 HS
  go_enter Tryd.func9, Tryd.ntmps9
  go_wp2_with (first | (go_at_call 11; refine (HC.out _ ((Below.refl _ _).alloc (Nat.le_refl _) _)).mono ?_; rintro e w1 ⟨rfl, hb⟩; have HB1 := Aside0.mk (below_step ((Below.refl _ _).alloc (Nat.le_refl _) _) hb); have BK1 := Aside0.mk (blk_below (MapKept.heap_alloc w (.cells #[.int .i64 a0_0, .int .i64 a0_1, .int .i64 a0_2, .int .i64 a0_3, .int .i64 a0_4, .int .i64 a0_5, .int .i64 a0_6, .int .i64 a0_7, .int .i64 a0_8, .int .i64 a0_9, .slice A0_10 l0_10.length c0_10, .int .i64 a0_11, .int .i64 a0_12, .bool true, .slice A0_14 l0_14.length c0_14, .string a0_15] 30 (0, 0))).1 hb); clear hb) | (go_at_call 15; refine (numbers_calls _ _).mono ?_; rintro e w2 ⟨g, rfl, hg0, hgb, hb⟩; have HB2 := Aside0.mk (below_step HB1.out hb); have BK2 := Aside0.mk (blk_below BK1.out hb); have BG2 := Aside0.mk hgb; clear hb hgb hg0) | fail)

  go_loopw [5, 25] (fun v5 i wr => ∃ k : Nat, k ≤ 11 ∧ i = .int .i64 k ∧ Aside0 (Kd.R P.k49 49 wr w.heap.size (fun _ => True) v5 ((numsM a0_0 a0_1 a0_2 a0_3 a0_4 a0_5 a0_6 a0_7 a0_8 a0_9 a0_11).take k |>.map intW)) ∧ Aside0 (Below w.heap.size w wr) ∧ Aside0 (wr.heap[w.heap.size]? = some (.cells #[.int .i64 a0_0, .int .i64 a0_1, .int .i64 a0_2, .int .i64 a0_3, .int .i64 a0_4, .int .i64 a0_5, .int .i64 a0_6, .int .i64 a0_7, .int .i64 a0_8, .int .i64 a0_9, .slice A0_10 l0_10.length c0_10, .int .i64 a0_11, .int .i64 a0_12, .bool true, .slice A0_14 l0_14.length c0_14, .string a0_15] 30 (0, 0))) ∧ Aside0 (wr.heap[g]? = some (.cells (ptrs w.heap.size) 47 (0, 0)))) (fun _ i _ => 11 - (RowKit.intOf i).toNat)
  case atStart => exact ⟨0, by omega, rfl, ⟨by simpa using Kd.R_nil P.k49 49 _ _ _⟩, HB2, BK2, BG2⟩
  case round =>
    obtain ⟨k, hk, rfl, HO, HB, BK, BG⟩ := hrel
    by_cases hlt : k < 11
    · have hltn : k < (numsM a0_0 a0_1 a0_2 a0_3 a0_4 a0_5 a0_6 a0_7 a0_8 a0_9 a0_11).length := hlt
      have c1 : wr.cell? ⟨g, k, none⟩ = some (.pointer (some ⟨w.heap.size, offN k, none⟩)) := (blk_cell BG.out k).trans (ptrs_at _ _ hlt)
      have c2 := nums_cell a0_0 a0_1 a0_2 a0_3 a0_4 a0_5 a0_6 a0_7 a0_8 a0_9 a0_11 _ _ _ _ _ rfl BK.out k hltn
      have HT := Aside0.mk (len_take_map (numsM a0_0 a0_1 a0_2 a0_3 a0_4 a0_5 a0_6 a0_7 a0_8 a0_9 a0_11) intW k hltn)
      have hlk : (((numsM a0_0 a0_1 a0_2 a0_3 a0_4 a0_5 a0_6 a0_7 a0_8 a0_9 a0_11).take k).map intW).length ≤ 11 := by rw [List.length_map, List.length_take]; omega
      obtain ⟨xs, hxs⟩ : ∃ xs, xs = ((numsM a0_0 a0_1 a0_2 a0_3 a0_4 a0_5 a0_6 a0_7 a0_8 a0_9 a0_11).take k).map intW := ⟨_, rfl⟩
      rw [← hxs] at HO HT hlk
      have HXS := Aside0.mk hxs
      clear hxs
      generalize (numsM a0_0 a0_1 a0_2 a0_3 a0_4 a0_5 a0_6 a0_7 a0_8 a0_9 a0_11)[k] = x at *
      obtain ⟨Ao, co, rfl⟩ := Kd.R_slice HO.out
      have hgl := blk_lt BK.out
      have hgg := blk_lt BG.out
      go_wp2_with (first | (go_at_call 16; refine (P.benc_Int.calls x 1 x ⟨#[]⟩ [] wr rfl).mono ?_; rintro e w3 ⟨v3_, rfl, hr, hb⟩; have HR2 := Aside0.mk hr; have HB3 := Aside0.mk (below_step HB.out hb); have HO3 := Aside0.mk (Kd.R_below HO.out hb); have BK3 := Aside0.mk (blk_below BK.out hb); have BG3 := Aside0.mk (blk_below BG.out hb); have hsz2 := hb.size; have hsz20 := HB3.out.size; clear hr hb) | (at_builtin; refine Kd.R_append P.k49 (w0 := w) w.heap.size rfl (.tmp 29) (.tmp 34) 43 49 (.agg #[.int .i64 0, .int .i64 0, .string ⟨#[]⟩, .slice none 0 0]) 56 rfl Tryd.underlying43 info_val rfl (by decide) (by omega) (.slice Ao xs.length co) xs (intW x) [.int .i64 1, .int .i64 x, .string ⟨#[]⟩, v3_] (fun k_ => k_ ≠ w.heap.size ∧ k_ ≠ g) (fun k_ => wr.heap.size ≤ k_) rfl rfl ?aP ?aK ?aF ?aO ?aB ?aS ?aL ?_; (case aP => exact P.k49_mkM _ _ _ (intW x) (Kd.R_mono (Kd.R_lower (Kd.R_bound HR2.out) HB.out.size) (fun k hk => hk.2.1))); (case aK => exact (fun k hk => ⟨⟨by omega, by omega⟩, fun e => by have := Kd.R_lt HO.out k e.symm; omega⟩)); (case aF => exact (fun k hk => ⟨by omega, by omega⟩)); (case aO => exact Kd.R_mono (Kd.R_types (Kd.R_types HO3.out BK3.out (by decide)) BG3.out (by decide)) (fun k hk => ⟨hk.1.2, hk.2⟩)); (case aB => exact HB3.out); (case aS => exact hsz20); (case aL => omega); intro v9 w9 ho hb hg hat; have HO9 := Aside0.mk ho; have HB9 := Aside0.mk hb; have hne1 : some w.heap.size ≠ (Value.slice Ao xs.length co).ownBlock := Kd.R_ne HO3.out BK3.out (by decide); have hne2 : some g ≠ (Value.slice Ao xs.length co).ownBlock := Kd.R_ne HO3.out BG3.out (by decide); have BK9 := Aside0.mk (blk_grown BK3.out hg hne1); have BG9 := Aside0.mk (blk_grown BG3.out hg hne2); clear ho hb hg hat hne1 hne2))
      go_roundw
      case rel => exact ⟨k + 1, by omega, by go_num, ⟨by rw [HT.out]; exact Kd.R_mono HO9.out (fun _ _ => trivial)⟩, HB9, BK9, BG9⟩
      case measure => simp [RowKit.intOf]; omega

    · obtain rfl : k = 11 := by omega
      have hte : ((numsM a0_0 a0_1 a0_2 a0_3 a0_4 a0_5 a0_6 a0_7 a0_8 a0_9 a0_11).take 11).map intW = (numsM a0_0 a0_1 a0_2 a0_3 a0_4 a0_5 a0_6 a0_7 a0_8 a0_9 a0_11).map intW := rfl
      rw [hte] at HO
      have hlm : ((numsM a0_0 a0_1 a0_2 a0_3 a0_4 a0_5 a0_6 a0_7 a0_8 a0_9 a0_11).map intW).length = 11 := rfl
      obtain ⟨xs, hxs⟩ : ∃ xs, xs = (numsM a0_0 a0_1 a0_2 a0_3 a0_4 a0_5 a0_6 a0_7 a0_8 a0_9 a0_11).map intW := ⟨_, rfl⟩
      rw [← hxs] at HO hlm
      have HXS := Aside0.mk hxs
      have HLM := Aside0.mk hlm
      clear hxs hte hlm BG
      obtain ⟨Ao, co, rfl⟩ := Kd.R_slice HO.out
      have m13 := blk_cell BK.out 13
      have m14 := blk_cell BK.out 14
      obtain ⟨S3, hS3⟩ : ∃ S3, S3 = wr.heap.size := ⟨_, rfl⟩
      have HO' := Aside0.mk (Kd.R_mono (ok' := fun k => k < S3) (Kd.R_bound HO.out) (fun k hk => by rw [hS3]; exact hk.2.2.1))
      have HS3 := Aside0.mk (show w.heap.size ≤ S3 from by rw [hS3]; exact HB.out.size)
      have HS3k := Aside0.mk (show w.heap.size < S3 from by rw [hS3]; exact blk_lt BK.out)
      have HS3n := Aside0.mk (show S3 ≤ wr.heap.size from by rw [hS3]; exact Nat.le_refl _)
      clear hS3 HO
      go_wp2_with fail

      go_loopw [9, 44] (fun v9 i wr => ∃ k : Nat, k ≤ l0_14.length ∧ i = .int .i64 k ∧ Aside0 (Kd.R (Kd.int .i64) 3 wr w.heap.size (fun k => S3 ≤ k) v9 (flatHits (l0_14.take k))) ∧ Aside0 (Kd.R P.k49 49 wr w.heap.size (fun k => k < S3) (.slice Ao xs.length co) xs) ∧ Aside0 (Below w.heap.size w wr) ∧ Aside0 (wr.heap[w.heap.size]? = some (.cells #[.int .i64 a0_0, .int .i64 a0_1, .int .i64 a0_2, .int .i64 a0_3, .int .i64 a0_4, .int .i64 a0_5, .int .i64 a0_6, .int .i64 a0_7, .int .i64 a0_8, .int .i64 a0_9, .slice A0_10 l0_10.length c0_10, .int .i64 a0_11, .int .i64 a0_12, .bool true, .slice A0_14 l0_14.length c0_14, .string a0_15] 30 (0, 0))) ∧ Aside0 (S3 ≤ wr.heap.size)) (fun _ i _ => l0_14.length - (RowKit.intOf i).toNat)
      case atStart => exact ⟨0, by omega, rfl, ⟨by simpa [flatHits] using Kd.R_nil (Kd.int .i64) 3 _ _ _⟩, HO', HB, BK, HS3n⟩
      case round =>
        clear HB BK HO' HS3n m13 m14
        obtain ⟨k, hk, rfl, HRh, HRl, HB, BK, HS3n⟩ := hrel
        have hl64 : l0_14.length ≤ 64 := H14.out
        by_cases hlt : k < l0_14.length
        · obtain ⟨ad, rfl, d0, d1⟩ := P.at_T52 (Kd.C_below HR14.out HB.out) (k : Int) (by omega) (by omega)
          have exk : P.rd_T52 l0_14 (k : Int) = l0_14[k] := by unfold P.rd_T52; simp [hlt]
          rw [exk, Int.toNat_natCast] at d0 d1
          have HT := Aside0.mk (flatHits_take l0_14 k hlt)
          have HLK := Aside0.mk (show (flatHits (l0_14.take k)).length ≤ 1000 from by rw [flatHits_len, List.length_take]; have := H14.out; omega)
          obtain ⟨ys, hys⟩ : ∃ ys, ys = flatHits (l0_14.take k) := ⟨_, rfl⟩
          rw [← hys] at HRh HT HLK
          clear exk hys
          generalize l0_14[k] = p at *
          obtain ⟨x0, x1⟩ := p
          simp only at d0 d1 HT
          obtain ⟨Ah, ch, rfl⟩ := Kd.R_slice HRh.out
          go_wp2_with (at_builtin; refine Kd.R_append_rows (Kd.int .i64) (w0 := w) (W := (wr.alloc (.cells #[.int .i64 x0, .int .i64 x1] 52)).alloc (.cells #[.int .i64 x0, .int .i64 x1] 3)) w.heap.size rfl (.tmp 48) (.tmp 53) 22 3 (.int .i64 0) 8 rfl Tryd.underlying22 info_int0 rfl (by decide) (by omega) (.slice Ah ys.length ch) ys [x0, x1] (some ⟨wr.heap.size + 1, 0, none⟩) 2 2 (fun k => S3 ≤ k) (fun _ => False) rfl ?ax ?aO ?aR (fun _ _ h => h) (fun _ hk => hk.elim) ?aF ?aB ?aS ?aL ?_; (case ax => first | rfl | simp); (case aO => exact Kd.R_alloc (Kd.R_alloc HRh.out _) _); (case aR => exact lit_C _ [x0, x1] 3 _ _ (by simp) rfl (by simp)); (case aF => exact (fun k hk => by have := HS3n.out; simp at hk; omega)); (case aB => exact below_alloc (below_alloc HB.out _) _); (case aS => have := HB.out.size; simp; omega); (case aL => have := HLK.out; omega); intro v9 w9 ho hb hg hat; have HO9 := Aside0.mk ho; have HB9 := Aside0.mk hb; have HRl9 := Aside0.mk (Kd.R_grown (Kd.R_alloc (Kd.R_alloc HRl.out _) _) hg (fun k hk e => by have := HRh.out.1 k e.symm; omega)); have BK9 := Aside0.mk (blk_grown (blk_alloc (blk_alloc BK.out _) _) hg (fun e => by have := HRh.out.1 _ e.symm; have := HS3k.out; omega)); have HS9 := Aside0.mk (show S3 ≤ w9.heap.size from Nat.le_trans (Nat.le_trans HS3n.out (by simp; omega)) hg.size); clear ho hb hg hat)
          go_roundw
          case rel => exact ⟨_, _, _, _, _, _, _, _, _, _, _, _, _, _, ⟨k + 1, by omega, by go_num, ⟨by rw [HT.out]; exact HO9.out⟩, HRl9, HB9, BK9, HS9⟩, rfl⟩
          case measure => simp [RowKit.intOf]; omega

        · obtain rfl : k = l0_14.length := by omega
          rw [List.take_length] at HRh
          have HLK := Aside0.mk (show (flatHits l0_14).length ≤ 1000 from by rw [flatHits_len]; have := H14.out; omega)
          obtain ⟨ys, hys⟩ : ∃ ys, ys = flatHits l0_14 := ⟨_, rfl⟩
          rw [← hys] at HRh HLK
          have HYS := Aside0.mk hys
          clear hys
          obtain ⟨Ah, ch, rfl⟩ := Kd.R_slice HRh.out
          obtain ⟨S4, hS4⟩ : ∃ S4, S4 = wr.heap.size := ⟨_, rfl⟩
          have HS34 := Aside0.mk (show S3 ≤ S4 from by rw [hS4]; exact HS3n.out)
          have HSZ := Aside0.mk (show S4 ≤ wr.heap.size from by rw [hS4]; exact Nat.le_refl _)
          have HSZ0 := Aside0.mk (show w.heap.size ≤ wr.heap.size from HB.out.size)
          have m10 := blk_cell BK.out 10
          have m12 := blk_cell BK.out 12
          clear hS4
          go_wp2_with fail
          go_region_held3 (fun w' => w'.cell? ⟨w.heap.size, 10, none⟩ = some (.slice A0_10 l0_10.length c0_10) ∧ w'.cell? ⟨w.heap.size, 12, none⟩ = some (.int .i64 a0_12)) (first | exact ⟨m10, m12⟩ | exact ⟨Lib.cell?_alloc_some _ m10, Lib.cell?_alloc_some _ m12⟩) (first | (go_at_call 17; with_reducible refine (ints_calls A0_10 c0_10 l0_10 _ (Kd.C_below HR10.out (by first | exact HB.out | exact below_drew1 HB.out | exact pw_below_drewN HB.out _)) HS10.out).mono ?_; rintro e wa ⟨vV, rfl, hr, hb⟩; have hbq := hb; have n0 := Aside0.mk (Kd.R_below (by first | exact HRl.out | exact Kd.R_drew HRl.out | exact Kd.R_drewN HRl.out _) hbq); have n1 := Aside0.mk (Kd.R_below (by first | exact HRh.out | exact Kd.R_drew HRh.out | exact Kd.R_drewN HRh.out _) hbq); have nK := Aside0.mk (blk_below (by first | exact BK.out | exact blk_drew BK.out | exact blk_drewN BK.out _) hbq); have nB := Aside0.mk (below_step (by first | exact HB.out | exact below_drew1 HB.out | exact pw_below_drewN HB.out _) hbq); clear HRl HRh BK HB; have HRl := n0; have HRh := n1; clear n0 n1; have BK := nK; have HB := nB; clear nK nB; have HRV := Aside0.mk (Kd.R_mono (ok' := fun k => S4 ≤ k) (Kd.R_lower (Kd.R_bound hr) (by have h2 := HSZ0.out; first | exact h2 | (simp; omega))) (fun k hk => by have h1 := hk.2.1; have h2 := HSZ.out; first | omega | (simp at h1; omega))); clear hr; have HSZ := Aside0.mk (show S4 ≤ _ from Nat.le_trans HSZ.out (by have h1 := hbq.size; first | exact h1 | (simp at h1; exact h1))); have HSZ0 := Aside0.mk (show w.heap.size ≤ _ from Nat.le_trans HSZ0.out (by have h1 := hbq.size; first | exact h1 | (simp at h1; exact h1))); clear hb hbq; have m10 := blk_cell BK.out 10; have m12 := blk_cell BK.out 12) | (go_at_call 16; with_reducible refine (P.benc_Int.calls a0_12 1 a0_12 ⟨#[]⟩ [] _ rfl).mono ?_; rintro e wb ⟨vE, rfl, hr, hb⟩; have hbq := hb; have n0 := Aside0.mk (Kd.R_below (by first | exact HRl.out | exact Kd.R_drew HRl.out | exact Kd.R_drewN HRl.out _) hbq); have n1 := Aside0.mk (Kd.R_below (by first | exact HRh.out | exact Kd.R_drew HRh.out | exact Kd.R_drewN HRh.out _) hbq); have n2 := Aside0.mk (Kd.R_below (by first | exact HRV.out | exact Kd.R_drew HRV.out | exact Kd.R_drewN HRV.out _) hbq); have nK := Aside0.mk (blk_below (by first | exact BK.out | exact blk_drew BK.out | exact blk_drewN BK.out _) hbq); have nB := Aside0.mk (below_step (by first | exact HB.out | exact below_drew1 HB.out | exact pw_below_drewN HB.out _) hbq); clear HRl HRh HRV BK HB; have HRl := n0; have HRh := n1; have HRV := n2; clear n0 n1 n2; have BK := nK; have HB := nB; clear nK nB; have HRE := Aside0.mk (Kd.R_mono (ok' := fun k => S4 ≤ k) (Kd.R_lower (Kd.R_bound hr) (by have h2 := HSZ0.out; first | exact h2 | (simp; omega))) (fun k hk => by have h1 := hk.2.1; have h2 := HSZ.out; first | omega | (simp at h1; omega))); clear hr; have HSZ := Aside0.mk (show S4 ≤ _ from Nat.le_trans HSZ.out (by have h1 := hbq.size; first | exact h1 | (simp at h1; exact h1))); have HSZ0 := Aside0.mk (show w.heap.size ≤ _ from Nat.le_trans HSZ0.out (by have h1 := hbq.size; first | exact h1 | (simp at h1; exact h1))); clear hb hbq; have m10 := blk_cell BK.out 10; have m12 := blk_cell BK.out 12) | (go_at_call 16; with_reducible refine (P.benc_Int.calls 1 1 1 ⟨#[]⟩ [] _ rfl).mono ?_; rintro e wc ⟨vW, rfl, hr, hb⟩; have hbq := hb; have n0 := Aside0.mk (Kd.R_below (by first | exact HRl.out | exact Kd.R_drew HRl.out | exact Kd.R_drewN HRl.out _) hbq); have n1 := Aside0.mk (Kd.R_below (by first | exact HRh.out | exact Kd.R_drew HRh.out | exact Kd.R_drewN HRh.out _) hbq); have n2 := Aside0.mk (Kd.R_below (by first | exact HRV.out | exact Kd.R_drew HRV.out | exact Kd.R_drewN HRV.out _) hbq); have n3 := Aside0.mk (Kd.R_below (by first | exact HRE.out | exact Kd.R_drew HRE.out | exact Kd.R_drewN HRE.out _) hbq); have nK := Aside0.mk (blk_below (by first | exact BK.out | exact blk_drew BK.out | exact blk_drewN BK.out _) hbq); have nB := Aside0.mk (below_step (by first | exact HB.out | exact below_drew1 HB.out | exact pw_below_drewN HB.out _) hbq); clear HRl HRh HRV HRE BK HB; have HRl := n0; have HRh := n1; have HRV := n2; have HRE := n3; clear n0 n1 n2 n3; have BK := nK; have HB := nB; clear nK nB; have HRW := Aside0.mk (Kd.R_mono (ok' := fun k => S4 ≤ k) (Kd.R_lower (Kd.R_bound hr) (by have h2 := HSZ0.out; first | exact h2 | (simp; omega))) (fun k hk => by have h1 := hk.2.1; have h2 := HSZ.out; first | omega | (simp at h1; omega))); clear hr; have HSZ := Aside0.mk (show S4 ≤ _ from Nat.le_trans HSZ.out (by have h1 := hbq.size; first | exact h1 | (simp at h1; exact h1))); have HSZ0 := Aside0.mk (show w.heap.size ≤ _ from Nat.le_trans HSZ0.out (by have h1 := hbq.size; first | exact h1 | (simp at h1; exact h1))); clear hb hbq; have m10 := blk_cell BK.out 10; have m12 := blk_cell BK.out 12) | (go_at_call 17; with_reducible refine (ints_calls Ah ch ys _ (Kd.R_reads' (by first | exact HRh.out | exact Kd.R_drew HRh.out | exact Kd.R_drewN HRh.out _)).2.2 HLK.out).mono ?_; rintro e wd ⟨vH, rfl, hr, hb⟩; have hbq := hb; have n0 := Aside0.mk (Kd.R_below (by first | exact HRl.out | exact Kd.R_drew HRl.out | exact Kd.R_drewN HRl.out _) hbq); have n1 := Aside0.mk (Kd.R_below (by first | exact HRV.out | exact Kd.R_drew HRV.out | exact Kd.R_drewN HRV.out _) hbq); have n2 := Aside0.mk (Kd.R_below (by first | exact HRE.out | exact Kd.R_drew HRE.out | exact Kd.R_drewN HRE.out _) hbq); have n3 := Aside0.mk (Kd.R_below (by first | exact HRW.out | exact Kd.R_drew HRW.out | exact Kd.R_drewN HRW.out _) hbq); have nK := Aside0.mk (blk_below (by first | exact BK.out | exact blk_drew BK.out | exact blk_drewN BK.out _) hbq); have nB := Aside0.mk (below_step (by first | exact HB.out | exact below_drew1 HB.out | exact pw_below_drewN HB.out _) hbq); clear HRl HRV HRE HRW BK HB; have HRl := n0; have HRV := n1; have HRE := n2; have HRW := n3; clear n0 n1 n2 n3; have BK := nK; have HB := nB; clear nK nB; have HRH := Aside0.mk (Kd.R_mono (ok' := fun k => S4 ≤ k) (Kd.R_lower (Kd.R_bound hr) (by have h2 := HSZ0.out; first | exact h2 | (simp; omega))) (fun k hk => by have h1 := hk.2.1; have h2 := HSZ.out; first | omega | (simp at h1; omega))); clear hr; have HSZ := Aside0.mk (show S4 ≤ _ from Nat.le_trans HSZ.out (by have h1 := hbq.size; first | exact h1 | (simp at h1; exact h1))); have HSZ0 := Aside0.mk (show w.heap.size ≤ _ from Nat.le_trans HSZ0.out (by have h1 := hbq.size; first | exact h1 | (simp at h1; exact h1))); clear hb hbq; have m10 := blk_cell BK.out 10; have m12 := blk_cell BK.out 12) | (refine Kd.R_append_rows_step P.k49 (w0 := w) w.heap.size (by rfl) (.tmp 56) (.tmp 69) 43 49 (.agg #[.int .i64 0, .int .i64 0, .string ⟨#[]⟩, .slice none 0 0]) 56 rfl Tryd.underlying43 info_val rfl (by decide) (by omega) (.slice Ao xs.length co) xs [lisW l0_10, intW a0_12, intW 1, lisW ys] (some ⟨_, 0, none⟩) 4 4 (fun _ => True) (fun k => S4 ≤ k) rfl rfl ?aO (lit_four (x0 := lisW l0_10) (x1 := intW a0_12) (x2 := intW 1) (x3 := lisW ys) _ (by simp) ?aZ ?a0 ?a1 ?a2 ?a3) (fun _ _ h => h) ?aK (fun _ _ => trivial) ?aB ?aS ?aL ?_; (case aZ => exact HSZ0.out); (case a0 => exact (by first | exact HRV.out | exact Kd.R_drew HRV.out | exact Kd.R_drewN HRV.out _)); (case a1 => exact (by first | exact HRE.out | exact Kd.R_drew HRE.out | exact Kd.R_drewN HRE.out _)); (case a2 => exact (by first | exact HRW.out | exact Kd.R_drew HRW.out | exact Kd.R_drewN HRW.out _)); (case a3 => exact (by first | exact HRH.out | exact Kd.R_drew HRH.out | exact Kd.R_drewN HRH.out _)); (case aO => exact Kd.R_mono (Kd.R_alloc (by first | exact HRl.out | exact Kd.R_drew HRl.out | exact Kd.R_drewN HRl.out _) _) (fun _ _ => trivial)); (case aK => exact (fun k hk => ⟨trivial, fun e => by have := HRl.out.1 k e.symm; have := HS34.out; omega⟩)); (case aB => exact below_alloc (by first | exact HB.out | exact below_drew1 HB.out | exact pw_below_drewN HB.out _) _); (case aS => have := HSZ0.out; simp; omega); (case aL => have := HLM.out; omega); intro v9 w9 ho hb hg hat; have HO9 := Aside0.mk ho; have HB9 := Aside0.mk hb; have BK9 := Aside0.mk (blk_grown (blk_alloc (by first | exact BK.out | exact blk_drew BK.out | exact blk_drewN BK.out _) _) hg (Kd.R_ne (Kd.R_alloc HRl.out (.cells #[] 3)) (blk_alloc BK.out _) (by decide))); have m10 := blk_cell BK9.out 10; have m12 := blk_cell BK9.out 12; clear ho hb hg hat))
          have hml : xs ++ [lisW l0_10, intW a0_12, intW 1, lisW ys] = msgL a0_0 a0_1 a0_2 a0_3 a0_4 a0_5 a0_6 a0_7 a0_8 a0_9 l0_10 a0_11 a0_12 true l0_14 := by rw [HXS.out, HYS.out]; rfl
          obtain ⟨ms, hms⟩ : ∃ ms, ms = msgL a0_0 a0_1 a0_2 a0_3 a0_4 a0_5 a0_6 a0_7 a0_8 a0_9 l0_10 a0_11 a0_12 true l0_14 := ⟨_, rfl⟩
          rw [← hms] at H1 hml
          rw [hml] at HO9
          have HMS := Aside0.mk hms
          clear hms hml HXS HYS HLM HLK m10 m12 HSZ HSZ0 HS34 HS3n HS3 HS3k HRl
          obtain ⟨Am, cm, rfl⟩ := Kd.R_slice HO9.out
          have HCm := Aside0.mk (Kd.R_reads' HO9.out)
          go_wp2_with (first | (go_at_call 19; refine (list_calls Am ms.length cm _).mono ?_; rintro e wl ⟨rfl, hb⟩; have HBL := Aside0.mk (below_step HB9.out hb); have BKL := Aside0.mk (blk_below BK9.out hb); have HCL := Aside0.mk (Kd.C_below HCm.out.2.2 hb); clear hb) | (go_at_call 18; refine (benc_Put.calls 3 0 ⟨#[]⟩ Am cm ms s es _ (LaidW.below HLw.out HBL.out) HCL.out HCm.out.2.1 H1.out).mono ?_; rintro e wp ⟨rfl, hb⟩; have HBP := Aside0.mk (below_step HBL.out hb); have BKP := Aside0.mk (blk_below BKL.out hb); clear hb) | (go_at_call 20; with_reducible refine (P.frame_Put.calls s fa ea _ (LaidW.below HLw.out HBP.out) H2.out).mono ?_; rintro e wf ⟨rfl, hb⟩; have HBF := Aside0.mk (below_step HBP.out hb); have bkf := blk_below BKP.out hb; have m15 := blk_cell bkf 15; clear hb bkf) | (go_at_call 20; with_reducible refine (P.frame_Put.calls a0_15 fb eb _ (LaidW.below HLw.out HBF.out) H3.out).mono ?_; rintro e wg ⟨rfl, hb⟩; have HBG := Aside0.mk (below_step HBF.out hb); clear hb))
          go_ret2
          exact ⟨rfl, HBG.out⟩
set_option maxRecDepth 100000 in
set_option maxHeartbeats 8000000 in
theorem put_false (a0_0 a0_1 a0_2 a0_3 a0_4 a0_5 a0_6 a0_7 a0_8 a0_9 : Int) (A0_10 : Option Addr) (c0_10 : Nat) (l0_10 : List Int) (a0_11 a0_12 : Int) (A0_14 : Option Addr) (c0_14 : Nat) (l0_14 : List (P.S52)) (a0_15 : ByteArray) (w : World) (hL : LaidW w) (hr0_10 : Kd.C (Kd.int .i64) w A0_10 l0_10.length l0_10) (hc0_10 : l0_10.length ≤ c0_10) (hr0_14 : Kd.C P.k52 w A0_14 l0_14.length l0_14) (hc0_14 : l0_14.length ≤ c0_14) (hm : mayM a0_0 a0_1 a0_2 a0_3 a0_4 a0_5 a0_6 a0_7 a0_8 a0_9 l0_10 a0_11 a0_12 false l0_14 a0_15 = true) (s fa fb : ByteArray) (es ea eb : Int) (h1 : benc_Put.f 3 0 ⟨#[]⟩ (msgL a0_0 a0_1 a0_2 a0_3 a0_4 a0_5 a0_6 a0_7 a0_8 a0_9 l0_10 a0_11 a0_12 false l0_14) = some (s, es)) (h2 : P.frame_Put.f s = some (fa, ea)) (h3 : P.frame_Put.f a0_15 = some (fb, eb)) (h4 : fa.size + fb.size ≤ 9223372036854775807) :
    Calls Tryd.prog 9 #[.agg #[.int .i64 a0_0, .int .i64 a0_1, .int .i64 a0_2, .int .i64 a0_3, .int .i64 a0_4, .int .i64 a0_5, .int .i64 a0_6, .int .i64 a0_7, .int .i64 a0_8, .int .i64 a0_9, .slice A0_10 l0_10.length c0_10, .int .i64 a0_11, .int .i64 a0_12, .bool false, .slice A0_14 l0_14.length c0_14, .string a0_15]] w fun e w' => e = .returned (.tuple #[.string (fa ++ fb), .int .i64 0]) ∧ Below w.heap.size w w' := by
  have HS := Aside0.mk (may_small hm)
  have HS10 := Aside0.mk (show l0_10.length ≤ 1000 from by have := HS.out.1; omega)
  have HR10 := Aside0.mk hr0_10
  have HR14 := Aside0.mk hr0_14
  have HLw := Aside0.mk hL
  have HC := Aside0.mk (fun W (h : Below w.heap.size w W) => post_Check.calls a0_0 a0_1 a0_2 a0_3 a0_4 a0_5 a0_6 a0_7 a0_8 a0_9 A0_10 c0_10 l0_10 a0_11 a0_12 false A0_14 c0_14 l0_14 a0_15 W (Kd.C_below hr0_10 h) hc0_10 (Kd.C_below hr0_14 h) hc0_14 0 (by unfold post_Check.f; rw [if_pos hm]))
  have H1 := Aside0.mk h1
  have H2 := Aside0.mk h2
  have H3 := Aside0.mk h3
  have H14 := Aside0.mk (show l0_14.length ≤ 64 from HS.out.2)
  clear hr0_10 hr0_14 hL hm h1 h2 h3 HS
  go_enter Tryd.func9, Tryd.ntmps9
  go_wp2_with (first | (go_at_call 11; refine (HC.out _ ((Below.refl _ _).alloc (Nat.le_refl _) _)).mono ?_; rintro e w1 ⟨rfl, hb⟩; have HB1 := Aside0.mk (below_step ((Below.refl _ _).alloc (Nat.le_refl _) _) hb); have BK1 := Aside0.mk (blk_below (MapKept.heap_alloc w (.cells #[.int .i64 a0_0, .int .i64 a0_1, .int .i64 a0_2, .int .i64 a0_3, .int .i64 a0_4, .int .i64 a0_5, .int .i64 a0_6, .int .i64 a0_7, .int .i64 a0_8, .int .i64 a0_9, .slice A0_10 l0_10.length c0_10, .int .i64 a0_11, .int .i64 a0_12, .bool false, .slice A0_14 l0_14.length c0_14, .string a0_15] 30 (0, 0))).1 hb); clear hb) | (go_at_call 15; refine (numbers_calls _ _).mono ?_; rintro e w2 ⟨g, rfl, hg0, hgb, hb⟩; have HB2 := Aside0.mk (below_step HB1.out hb); have BK2 := Aside0.mk (blk_below BK1.out hb); have BG2 := Aside0.mk hgb; clear hb hgb hg0) | fail)

  go_loopw [5, 25] (fun v5 i wr => ∃ k : Nat, k ≤ 11 ∧ i = .int .i64 k ∧ Aside0 (Kd.R P.k49 49 wr w.heap.size (fun _ => True) v5 ((numsM a0_0 a0_1 a0_2 a0_3 a0_4 a0_5 a0_6 a0_7 a0_8 a0_9 a0_11).take k |>.map intW)) ∧ Aside0 (Below w.heap.size w wr) ∧ Aside0 (wr.heap[w.heap.size]? = some (.cells #[.int .i64 a0_0, .int .i64 a0_1, .int .i64 a0_2, .int .i64 a0_3, .int .i64 a0_4, .int .i64 a0_5, .int .i64 a0_6, .int .i64 a0_7, .int .i64 a0_8, .int .i64 a0_9, .slice A0_10 l0_10.length c0_10, .int .i64 a0_11, .int .i64 a0_12, .bool false, .slice A0_14 l0_14.length c0_14, .string a0_15] 30 (0, 0))) ∧ Aside0 (wr.heap[g]? = some (.cells (ptrs w.heap.size) 47 (0, 0)))) (fun _ i _ => 11 - (RowKit.intOf i).toNat)
  case atStart => exact ⟨0, by omega, rfl, ⟨by simpa using Kd.R_nil P.k49 49 _ _ _⟩, HB2, BK2, BG2⟩
  case round =>
    obtain ⟨k, hk, rfl, HO, HB, BK, BG⟩ := hrel
    by_cases hlt : k < 11
    · have hltn : k < (numsM a0_0 a0_1 a0_2 a0_3 a0_4 a0_5 a0_6 a0_7 a0_8 a0_9 a0_11).length := hlt
      have c1 : wr.cell? ⟨g, k, none⟩ = some (.pointer (some ⟨w.heap.size, offN k, none⟩)) := (blk_cell BG.out k).trans (ptrs_at _ _ hlt)
      have c2 := nums_cell a0_0 a0_1 a0_2 a0_3 a0_4 a0_5 a0_6 a0_7 a0_8 a0_9 a0_11 _ _ _ _ _ rfl BK.out k hltn
      have HT := Aside0.mk (len_take_map (numsM a0_0 a0_1 a0_2 a0_3 a0_4 a0_5 a0_6 a0_7 a0_8 a0_9 a0_11) intW k hltn)
      have hlk : (((numsM a0_0 a0_1 a0_2 a0_3 a0_4 a0_5 a0_6 a0_7 a0_8 a0_9 a0_11).take k).map intW).length ≤ 11 := by rw [List.length_map, List.length_take]; omega
      obtain ⟨xs, hxs⟩ : ∃ xs, xs = ((numsM a0_0 a0_1 a0_2 a0_3 a0_4 a0_5 a0_6 a0_7 a0_8 a0_9 a0_11).take k).map intW := ⟨_, rfl⟩
      rw [← hxs] at HO HT hlk
      have HXS := Aside0.mk hxs
      clear hxs
      generalize (numsM a0_0 a0_1 a0_2 a0_3 a0_4 a0_5 a0_6 a0_7 a0_8 a0_9 a0_11)[k] = x at *
      obtain ⟨Ao, co, rfl⟩ := Kd.R_slice HO.out
      have hgl := blk_lt BK.out
      have hgg := blk_lt BG.out
      go_wp2_with (first | (go_at_call 16; refine (P.benc_Int.calls x 1 x ⟨#[]⟩ [] wr rfl).mono ?_; rintro e w3 ⟨v3_, rfl, hr, hb⟩; have HR2 := Aside0.mk hr; have HB3 := Aside0.mk (below_step HB.out hb); have HO3 := Aside0.mk (Kd.R_below HO.out hb); have BK3 := Aside0.mk (blk_below BK.out hb); have BG3 := Aside0.mk (blk_below BG.out hb); have hsz2 := hb.size; have hsz20 := HB3.out.size; clear hr hb) | (at_builtin; refine Kd.R_append P.k49 (w0 := w) w.heap.size rfl (.tmp 29) (.tmp 34) 43 49 (.agg #[.int .i64 0, .int .i64 0, .string ⟨#[]⟩, .slice none 0 0]) 56 rfl Tryd.underlying43 info_val rfl (by decide) (by omega) (.slice Ao xs.length co) xs (intW x) [.int .i64 1, .int .i64 x, .string ⟨#[]⟩, v3_] (fun k_ => k_ ≠ w.heap.size ∧ k_ ≠ g) (fun k_ => wr.heap.size ≤ k_) rfl rfl ?aP ?aK ?aF ?aO ?aB ?aS ?aL ?_; (case aP => exact P.k49_mkM _ _ _ (intW x) (Kd.R_mono (Kd.R_lower (Kd.R_bound HR2.out) HB.out.size) (fun k hk => hk.2.1))); (case aK => exact (fun k hk => ⟨⟨by omega, by omega⟩, fun e => by have := Kd.R_lt HO.out k e.symm; omega⟩)); (case aF => exact (fun k hk => ⟨by omega, by omega⟩)); (case aO => exact Kd.R_mono (Kd.R_types (Kd.R_types HO3.out BK3.out (by decide)) BG3.out (by decide)) (fun k hk => ⟨hk.1.2, hk.2⟩)); (case aB => exact HB3.out); (case aS => exact hsz20); (case aL => omega); intro v9 w9 ho hb hg hat; have HO9 := Aside0.mk ho; have HB9 := Aside0.mk hb; have hne1 : some w.heap.size ≠ (Value.slice Ao xs.length co).ownBlock := Kd.R_ne HO3.out BK3.out (by decide); have hne2 : some g ≠ (Value.slice Ao xs.length co).ownBlock := Kd.R_ne HO3.out BG3.out (by decide); have BK9 := Aside0.mk (blk_grown BK3.out hg hne1); have BG9 := Aside0.mk (blk_grown BG3.out hg hne2); clear ho hb hg hat hne1 hne2))
      go_roundw
      case rel => exact ⟨k + 1, by omega, by go_num, ⟨by rw [HT.out]; exact Kd.R_mono HO9.out (fun _ _ => trivial)⟩, HB9, BK9, BG9⟩
      case measure => simp [RowKit.intOf]; omega

    · obtain rfl : k = 11 := by omega
      have hte : ((numsM a0_0 a0_1 a0_2 a0_3 a0_4 a0_5 a0_6 a0_7 a0_8 a0_9 a0_11).take 11).map intW = (numsM a0_0 a0_1 a0_2 a0_3 a0_4 a0_5 a0_6 a0_7 a0_8 a0_9 a0_11).map intW := rfl
      rw [hte] at HO
      have hlm : ((numsM a0_0 a0_1 a0_2 a0_3 a0_4 a0_5 a0_6 a0_7 a0_8 a0_9 a0_11).map intW).length = 11 := rfl
      obtain ⟨xs, hxs⟩ : ∃ xs, xs = (numsM a0_0 a0_1 a0_2 a0_3 a0_4 a0_5 a0_6 a0_7 a0_8 a0_9 a0_11).map intW := ⟨_, rfl⟩
      rw [← hxs] at HO hlm
      have HXS := Aside0.mk hxs
      have HLM := Aside0.mk hlm
      clear hxs hte hlm BG
      obtain ⟨Ao, co, rfl⟩ := Kd.R_slice HO.out
      have m13 := blk_cell BK.out 13
      have m14 := blk_cell BK.out 14
      obtain ⟨S3, hS3⟩ : ∃ S3, S3 = wr.heap.size := ⟨_, rfl⟩
      have HO' := Aside0.mk (Kd.R_mono (ok' := fun k => k < S3) (Kd.R_bound HO.out) (fun k hk => by rw [hS3]; exact hk.2.2.1))
      have HS3 := Aside0.mk (show w.heap.size ≤ S3 from by rw [hS3]; exact HB.out.size)
      have HS3k := Aside0.mk (show w.heap.size < S3 from by rw [hS3]; exact blk_lt BK.out)
      have HS3n := Aside0.mk (show S3 ≤ wr.heap.size from by rw [hS3]; exact Nat.le_refl _)
      clear hS3 HO
      go_wp2_with fail

      go_loopw [9, 44] (fun v9 i wr => ∃ k : Nat, k ≤ l0_14.length ∧ i = .int .i64 k ∧ Aside0 (Kd.R (Kd.int .i64) 3 wr w.heap.size (fun k => S3 ≤ k) v9 (flatHits (l0_14.take k))) ∧ Aside0 (Kd.R P.k49 49 wr w.heap.size (fun k => k < S3) (.slice Ao xs.length co) xs) ∧ Aside0 (Below w.heap.size w wr) ∧ Aside0 (wr.heap[w.heap.size]? = some (.cells #[.int .i64 a0_0, .int .i64 a0_1, .int .i64 a0_2, .int .i64 a0_3, .int .i64 a0_4, .int .i64 a0_5, .int .i64 a0_6, .int .i64 a0_7, .int .i64 a0_8, .int .i64 a0_9, .slice A0_10 l0_10.length c0_10, .int .i64 a0_11, .int .i64 a0_12, .bool false, .slice A0_14 l0_14.length c0_14, .string a0_15] 30 (0, 0))) ∧ Aside0 (S3 ≤ wr.heap.size)) (fun _ i _ => l0_14.length - (RowKit.intOf i).toNat)
      case atStart => exact ⟨0, by omega, rfl, ⟨by simpa [flatHits] using Kd.R_nil (Kd.int .i64) 3 _ _ _⟩, HO', HB, BK, HS3n⟩
      case round =>
        clear HB BK HO' HS3n m13 m14
        obtain ⟨k, hk, rfl, HRh, HRl, HB, BK, HS3n⟩ := hrel
        have hl64 : l0_14.length ≤ 64 := H14.out
        by_cases hlt : k < l0_14.length
        · obtain ⟨ad, rfl, d0, d1⟩ := P.at_T52 (Kd.C_below HR14.out HB.out) (k : Int) (by omega) (by omega)
          have exk : P.rd_T52 l0_14 (k : Int) = l0_14[k] := by unfold P.rd_T52; simp [hlt]
          rw [exk, Int.toNat_natCast] at d0 d1
          have HT := Aside0.mk (flatHits_take l0_14 k hlt)
          have HLK := Aside0.mk (show (flatHits (l0_14.take k)).length ≤ 1000 from by rw [flatHits_len, List.length_take]; have := H14.out; omega)
          obtain ⟨ys, hys⟩ : ∃ ys, ys = flatHits (l0_14.take k) := ⟨_, rfl⟩
          rw [← hys] at HRh HT HLK
          clear exk hys
          generalize l0_14[k] = p at *
          obtain ⟨x0, x1⟩ := p
          simp only at d0 d1 HT
          obtain ⟨Ah, ch, rfl⟩ := Kd.R_slice HRh.out
          go_wp2_with (at_builtin; refine Kd.R_append_rows (Kd.int .i64) (w0 := w) (W := (wr.alloc (.cells #[.int .i64 x0, .int .i64 x1] 52)).alloc (.cells #[.int .i64 x0, .int .i64 x1] 3)) w.heap.size rfl (.tmp 48) (.tmp 53) 22 3 (.int .i64 0) 8 rfl Tryd.underlying22 info_int0 rfl (by decide) (by omega) (.slice Ah ys.length ch) ys [x0, x1] (some ⟨wr.heap.size + 1, 0, none⟩) 2 2 (fun k => S3 ≤ k) (fun _ => False) rfl ?ax ?aO ?aR (fun _ _ h => h) (fun _ hk => hk.elim) ?aF ?aB ?aS ?aL ?_; (case ax => first | rfl | simp); (case aO => exact Kd.R_alloc (Kd.R_alloc HRh.out _) _); (case aR => exact lit_C _ [x0, x1] 3 _ _ (by simp) rfl (by simp)); (case aF => exact (fun k hk => by have := HS3n.out; simp at hk; omega)); (case aB => exact below_alloc (below_alloc HB.out _) _); (case aS => have := HB.out.size; simp; omega); (case aL => have := HLK.out; omega); intro v9 w9 ho hb hg hat; have HO9 := Aside0.mk ho; have HB9 := Aside0.mk hb; have HRl9 := Aside0.mk (Kd.R_grown (Kd.R_alloc (Kd.R_alloc HRl.out _) _) hg (fun k hk e => by have := HRh.out.1 k e.symm; omega)); have BK9 := Aside0.mk (blk_grown (blk_alloc (blk_alloc BK.out _) _) hg (fun e => by have := HRh.out.1 _ e.symm; have := HS3k.out; omega)); have HS9 := Aside0.mk (show S3 ≤ w9.heap.size from Nat.le_trans (Nat.le_trans HS3n.out (by simp; omega)) hg.size); clear ho hb hg hat)
          go_roundw
          case rel => exact ⟨_, _, _, _, _, _, _, _, _, _, _, _, _, _, ⟨k + 1, by omega, by go_num, ⟨by rw [HT.out]; exact HO9.out⟩, HRl9, HB9, BK9, HS9⟩, rfl⟩
          case measure => simp [RowKit.intOf]; omega

        · obtain rfl : k = l0_14.length := by omega
          rw [List.take_length] at HRh
          have HLK := Aside0.mk (show (flatHits l0_14).length ≤ 1000 from by rw [flatHits_len]; have := H14.out; omega)
          obtain ⟨ys, hys⟩ : ∃ ys, ys = flatHits l0_14 := ⟨_, rfl⟩
          rw [← hys] at HRh HLK
          have HYS := Aside0.mk hys
          clear hys
          obtain ⟨Ah, ch, rfl⟩ := Kd.R_slice HRh.out
          obtain ⟨S4, hS4⟩ : ∃ S4, S4 = wr.heap.size := ⟨_, rfl⟩
          have HS34 := Aside0.mk (show S3 ≤ S4 from by rw [hS4]; exact HS3n.out)
          have HSZ := Aside0.mk (show S4 ≤ wr.heap.size from by rw [hS4]; exact Nat.le_refl _)
          have HSZ0 := Aside0.mk (show w.heap.size ≤ wr.heap.size from HB.out.size)
          have m10 := blk_cell BK.out 10
          have m12 := blk_cell BK.out 12
          clear hS4
          go_wp2_with fail
          go_region_held3 (fun w' => w'.cell? ⟨w.heap.size, 10, none⟩ = some (.slice A0_10 l0_10.length c0_10) ∧ w'.cell? ⟨w.heap.size, 12, none⟩ = some (.int .i64 a0_12)) (first | exact ⟨m10, m12⟩ | exact ⟨Lib.cell?_alloc_some _ m10, Lib.cell?_alloc_some _ m12⟩) (first | (go_at_call 17; with_reducible refine (ints_calls A0_10 c0_10 l0_10 _ (Kd.C_below HR10.out (by first | exact HB.out | exact below_drew1 HB.out | exact pw_below_drewN HB.out _)) HS10.out).mono ?_; rintro e wa ⟨vV, rfl, hr, hb⟩; have hbq := hb; have n0 := Aside0.mk (Kd.R_below (by first | exact HRl.out | exact Kd.R_drew HRl.out | exact Kd.R_drewN HRl.out _) hbq); have n1 := Aside0.mk (Kd.R_below (by first | exact HRh.out | exact Kd.R_drew HRh.out | exact Kd.R_drewN HRh.out _) hbq); have nK := Aside0.mk (blk_below (by first | exact BK.out | exact blk_drew BK.out | exact blk_drewN BK.out _) hbq); have nB := Aside0.mk (below_step (by first | exact HB.out | exact below_drew1 HB.out | exact pw_below_drewN HB.out _) hbq); clear HRl HRh BK HB; have HRl := n0; have HRh := n1; clear n0 n1; have BK := nK; have HB := nB; clear nK nB; have HRV := Aside0.mk (Kd.R_mono (ok' := fun k => S4 ≤ k) (Kd.R_lower (Kd.R_bound hr) (by have h2 := HSZ0.out; first | exact h2 | (simp; omega))) (fun k hk => by have h1 := hk.2.1; have h2 := HSZ.out; first | omega | (simp at h1; omega))); clear hr; have HSZ := Aside0.mk (show S4 ≤ _ from Nat.le_trans HSZ.out (by have h1 := hbq.size; first | exact h1 | (simp at h1; exact h1))); have HSZ0 := Aside0.mk (show w.heap.size ≤ _ from Nat.le_trans HSZ0.out (by have h1 := hbq.size; first | exact h1 | (simp at h1; exact h1))); clear hb hbq; have m10 := blk_cell BK.out 10; have m12 := blk_cell BK.out 12) | (go_at_call 16; with_reducible refine (P.benc_Int.calls a0_12 1 a0_12 ⟨#[]⟩ [] _ rfl).mono ?_; rintro e wb ⟨vE, rfl, hr, hb⟩; have hbq := hb; have n0 := Aside0.mk (Kd.R_below (by first | exact HRl.out | exact Kd.R_drew HRl.out | exact Kd.R_drewN HRl.out _) hbq); have n1 := Aside0.mk (Kd.R_below (by first | exact HRh.out | exact Kd.R_drew HRh.out | exact Kd.R_drewN HRh.out _) hbq); have n2 := Aside0.mk (Kd.R_below (by first | exact HRV.out | exact Kd.R_drew HRV.out | exact Kd.R_drewN HRV.out _) hbq); have nK := Aside0.mk (blk_below (by first | exact BK.out | exact blk_drew BK.out | exact blk_drewN BK.out _) hbq); have nB := Aside0.mk (below_step (by first | exact HB.out | exact below_drew1 HB.out | exact pw_below_drewN HB.out _) hbq); clear HRl HRh HRV BK HB; have HRl := n0; have HRh := n1; have HRV := n2; clear n0 n1 n2; have BK := nK; have HB := nB; clear nK nB; have HRE := Aside0.mk (Kd.R_mono (ok' := fun k => S4 ≤ k) (Kd.R_lower (Kd.R_bound hr) (by have h2 := HSZ0.out; first | exact h2 | (simp; omega))) (fun k hk => by have h1 := hk.2.1; have h2 := HSZ.out; first | omega | (simp at h1; omega))); clear hr; have HSZ := Aside0.mk (show S4 ≤ _ from Nat.le_trans HSZ.out (by have h1 := hbq.size; first | exact h1 | (simp at h1; exact h1))); have HSZ0 := Aside0.mk (show w.heap.size ≤ _ from Nat.le_trans HSZ0.out (by have h1 := hbq.size; first | exact h1 | (simp at h1; exact h1))); clear hb hbq; have m10 := blk_cell BK.out 10; have m12 := blk_cell BK.out 12) | (go_at_call 16; with_reducible refine (P.benc_Int.calls 0 1 0 ⟨#[]⟩ [] _ rfl).mono ?_; rintro e wc ⟨vW, rfl, hr, hb⟩; have hbq := hb; have n0 := Aside0.mk (Kd.R_below (by first | exact HRl.out | exact Kd.R_drew HRl.out | exact Kd.R_drewN HRl.out _) hbq); have n1 := Aside0.mk (Kd.R_below (by first | exact HRh.out | exact Kd.R_drew HRh.out | exact Kd.R_drewN HRh.out _) hbq); have n2 := Aside0.mk (Kd.R_below (by first | exact HRV.out | exact Kd.R_drew HRV.out | exact Kd.R_drewN HRV.out _) hbq); have n3 := Aside0.mk (Kd.R_below (by first | exact HRE.out | exact Kd.R_drew HRE.out | exact Kd.R_drewN HRE.out _) hbq); have nK := Aside0.mk (blk_below (by first | exact BK.out | exact blk_drew BK.out | exact blk_drewN BK.out _) hbq); have nB := Aside0.mk (below_step (by first | exact HB.out | exact below_drew1 HB.out | exact pw_below_drewN HB.out _) hbq); clear HRl HRh HRV HRE BK HB; have HRl := n0; have HRh := n1; have HRV := n2; have HRE := n3; clear n0 n1 n2 n3; have BK := nK; have HB := nB; clear nK nB; have HRW := Aside0.mk (Kd.R_mono (ok' := fun k => S4 ≤ k) (Kd.R_lower (Kd.R_bound hr) (by have h2 := HSZ0.out; first | exact h2 | (simp; omega))) (fun k hk => by have h1 := hk.2.1; have h2 := HSZ.out; first | omega | (simp at h1; omega))); clear hr; have HSZ := Aside0.mk (show S4 ≤ _ from Nat.le_trans HSZ.out (by have h1 := hbq.size; first | exact h1 | (simp at h1; exact h1))); have HSZ0 := Aside0.mk (show w.heap.size ≤ _ from Nat.le_trans HSZ0.out (by have h1 := hbq.size; first | exact h1 | (simp at h1; exact h1))); clear hb hbq; have m10 := blk_cell BK.out 10; have m12 := blk_cell BK.out 12) | (go_at_call 17; with_reducible refine (ints_calls Ah ch ys _ (Kd.R_reads' (by first | exact HRh.out | exact Kd.R_drew HRh.out | exact Kd.R_drewN HRh.out _)).2.2 HLK.out).mono ?_; rintro e wd ⟨vH, rfl, hr, hb⟩; have hbq := hb; have n0 := Aside0.mk (Kd.R_below (by first | exact HRl.out | exact Kd.R_drew HRl.out | exact Kd.R_drewN HRl.out _) hbq); have n1 := Aside0.mk (Kd.R_below (by first | exact HRV.out | exact Kd.R_drew HRV.out | exact Kd.R_drewN HRV.out _) hbq); have n2 := Aside0.mk (Kd.R_below (by first | exact HRE.out | exact Kd.R_drew HRE.out | exact Kd.R_drewN HRE.out _) hbq); have n3 := Aside0.mk (Kd.R_below (by first | exact HRW.out | exact Kd.R_drew HRW.out | exact Kd.R_drewN HRW.out _) hbq); have nK := Aside0.mk (blk_below (by first | exact BK.out | exact blk_drew BK.out | exact blk_drewN BK.out _) hbq); have nB := Aside0.mk (below_step (by first | exact HB.out | exact below_drew1 HB.out | exact pw_below_drewN HB.out _) hbq); clear HRl HRV HRE HRW BK HB; have HRl := n0; have HRV := n1; have HRE := n2; have HRW := n3; clear n0 n1 n2 n3; have BK := nK; have HB := nB; clear nK nB; have HRH := Aside0.mk (Kd.R_mono (ok' := fun k => S4 ≤ k) (Kd.R_lower (Kd.R_bound hr) (by have h2 := HSZ0.out; first | exact h2 | (simp; omega))) (fun k hk => by have h1 := hk.2.1; have h2 := HSZ.out; first | omega | (simp at h1; omega))); clear hr; have HSZ := Aside0.mk (show S4 ≤ _ from Nat.le_trans HSZ.out (by have h1 := hbq.size; first | exact h1 | (simp at h1; exact h1))); have HSZ0 := Aside0.mk (show w.heap.size ≤ _ from Nat.le_trans HSZ0.out (by have h1 := hbq.size; first | exact h1 | (simp at h1; exact h1))); clear hb hbq; have m10 := blk_cell BK.out 10; have m12 := blk_cell BK.out 12) | (refine Kd.R_append_rows_step P.k49 (w0 := w) w.heap.size (by rfl) (.tmp 56) (.tmp 69) 43 49 (.agg #[.int .i64 0, .int .i64 0, .string ⟨#[]⟩, .slice none 0 0]) 56 rfl Tryd.underlying43 info_val rfl (by decide) (by omega) (.slice Ao xs.length co) xs [lisW l0_10, intW a0_12, intW 0, lisW ys] (some ⟨_, 0, none⟩) 4 4 (fun _ => True) (fun k => S4 ≤ k) rfl rfl ?aO (lit_four (x0 := lisW l0_10) (x1 := intW a0_12) (x2 := intW 0) (x3 := lisW ys) _ (by simp) ?aZ ?a0 ?a1 ?a2 ?a3) (fun _ _ h => h) ?aK (fun _ _ => trivial) ?aB ?aS ?aL ?_; (case aZ => exact HSZ0.out); (case a0 => exact (by first | exact HRV.out | exact Kd.R_drew HRV.out | exact Kd.R_drewN HRV.out _)); (case a1 => exact (by first | exact HRE.out | exact Kd.R_drew HRE.out | exact Kd.R_drewN HRE.out _)); (case a2 => exact (by first | exact HRW.out | exact Kd.R_drew HRW.out | exact Kd.R_drewN HRW.out _)); (case a3 => exact (by first | exact HRH.out | exact Kd.R_drew HRH.out | exact Kd.R_drewN HRH.out _)); (case aO => exact Kd.R_mono (Kd.R_alloc (by first | exact HRl.out | exact Kd.R_drew HRl.out | exact Kd.R_drewN HRl.out _) _) (fun _ _ => trivial)); (case aK => exact (fun k hk => ⟨trivial, fun e => by have := HRl.out.1 k e.symm; have := HS34.out; omega⟩)); (case aB => exact below_alloc (by first | exact HB.out | exact below_drew1 HB.out | exact pw_below_drewN HB.out _) _); (case aS => have := HSZ0.out; simp; omega); (case aL => have := HLM.out; omega); intro v9 w9 ho hb hg hat; have HO9 := Aside0.mk ho; have HB9 := Aside0.mk hb; have BK9 := Aside0.mk (blk_grown (blk_alloc (by first | exact BK.out | exact blk_drew BK.out | exact blk_drewN BK.out _) _) hg (Kd.R_ne (Kd.R_alloc HRl.out (.cells #[] 3)) (blk_alloc BK.out _) (by decide))); have m10 := blk_cell BK9.out 10; have m12 := blk_cell BK9.out 12; clear ho hb hg hat))
          have hml : xs ++ [lisW l0_10, intW a0_12, intW 0, lisW ys] = msgL a0_0 a0_1 a0_2 a0_3 a0_4 a0_5 a0_6 a0_7 a0_8 a0_9 l0_10 a0_11 a0_12 false l0_14 := by rw [HXS.out, HYS.out]; rfl
          obtain ⟨ms, hms⟩ : ∃ ms, ms = msgL a0_0 a0_1 a0_2 a0_3 a0_4 a0_5 a0_6 a0_7 a0_8 a0_9 l0_10 a0_11 a0_12 false l0_14 := ⟨_, rfl⟩
          rw [← hms] at H1 hml
          rw [hml] at HO9
          have HMS := Aside0.mk hms
          clear hms hml HXS HYS HLM HLK m10 m12 HSZ HSZ0 HS34 HS3n HS3 HS3k HRl
          obtain ⟨Am, cm, rfl⟩ := Kd.R_slice HO9.out
          have HCm := Aside0.mk (Kd.R_reads' HO9.out)
          go_wp2_with (first | (go_at_call 19; refine (list_calls Am ms.length cm _).mono ?_; rintro e wl ⟨rfl, hb⟩; have HBL := Aside0.mk (below_step HB9.out hb); have BKL := Aside0.mk (blk_below BK9.out hb); have HCL := Aside0.mk (Kd.C_below HCm.out.2.2 hb); clear hb) | (go_at_call 18; refine (benc_Put.calls 3 0 ⟨#[]⟩ Am cm ms s es _ (LaidW.below HLw.out HBL.out) HCL.out HCm.out.2.1 H1.out).mono ?_; rintro e wp ⟨rfl, hb⟩; have HBP := Aside0.mk (below_step HBL.out hb); have BKP := Aside0.mk (blk_below BKL.out hb); clear hb) | (go_at_call 20; with_reducible refine (P.frame_Put.calls s fa ea _ (LaidW.below HLw.out HBP.out) H2.out).mono ?_; rintro e wf ⟨rfl, hb⟩; have HBF := Aside0.mk (below_step HBP.out hb); have bkf := blk_below BKP.out hb; have m15 := blk_cell bkf 15; clear hb bkf) | (go_at_call 20; with_reducible refine (P.frame_Put.calls a0_15 fb eb _ (LaidW.below HLw.out HBF.out) H3.out).mono ?_; rintro e wg ⟨rfl, hb⟩; have HBG := Aside0.mk (below_step HBF.out hb); clear hb))
          go_ret2
          exact ⟨rfl, HBG.out⟩
set_option maxRecDepth 100000 in
set_option maxHeartbeats 4000000 in
theorem put_no (a0_0 a0_1 a0_2 a0_3 a0_4 a0_5 a0_6 a0_7 a0_8 a0_9 : Int) (A0_10 : Option Addr) (c0_10 : Nat) (l0_10 : List Int) (a0_11 a0_12 : Int) (a0_13 : Bool) (A0_14 : Option Addr) (c0_14 : Nat) (l0_14 : List (P.S52)) (a0_15 : ByteArray) (w : World) (hL : LaidW w) (hr0_10 : Kd.C (Kd.int .i64) w A0_10 l0_10.length l0_10) (hc0_10 : l0_10.length ≤ c0_10) (hr0_14 : Kd.C P.k52 w A0_14 l0_14.length l0_14) (hc0_14 : l0_14.length ≤ c0_14) (hm : ¬ mayM a0_0 a0_1 a0_2 a0_3 a0_4 a0_5 a0_6 a0_7 a0_8 a0_9 l0_10 a0_11 a0_12 a0_13 l0_14 a0_15 = true) :
    Calls Tryd.prog 9 #[.agg #[.int .i64 a0_0, .int .i64 a0_1, .int .i64 a0_2, .int .i64 a0_3, .int .i64 a0_4, .int .i64 a0_5, .int .i64 a0_6, .int .i64 a0_7, .int .i64 a0_8, .int .i64 a0_9, .slice A0_10 l0_10.length c0_10, .int .i64 a0_11, .int .i64 a0_12, .bool a0_13, .slice A0_14 l0_14.length c0_14, .string a0_15]] w fun e w' => e = .returned (.tuple #[.string ⟨#[]⟩, .int .i64 1]) ∧ Below w.heap.size w w' := by
  have HC := Aside0.mk (fun W (h : Below w.heap.size w W) => post_Check.calls a0_0 a0_1 a0_2 a0_3 a0_4 a0_5 a0_6 a0_7 a0_8 a0_9 A0_10 c0_10 l0_10 a0_11 a0_12 a0_13 A0_14 c0_14 l0_14 a0_15 W (Kd.C_below hr0_10 h) hc0_10 (Kd.C_below hr0_14 h) hc0_14 1 (by unfold post_Check.f; rw [if_neg hm]))
  clear hr0_10 hr0_14 hL hm
  go_enter Tryd.func9, Tryd.ntmps9
  go_wp2_with (first | (go_at_call 11; refine (HC.out _ ((Below.refl _ _).alloc (Nat.le_refl _) _)).mono ?_; rintro e w1 ⟨rfl, hb⟩; have HB1 := Aside0.mk (below_step ((Below.refl _ _).alloc (Nat.le_refl _) _) hb); clear hb) | fail)
  go_ret2
  exact ⟨rfl, HB1.out⟩
theorem post_Put.calls (a0_0 a0_1 a0_2 a0_3 a0_4 a0_5 a0_6 a0_7 a0_8 a0_9 : Int) (A0_10 : Option Addr) (c0_10 : Nat) (l0_10 : List Int) (a0_11 a0_12 : Int) (a0_13 : Bool) (A0_14 : Option Addr) (c0_14 : Nat) (l0_14 : List (P.S52)) (a0_15 : ByteArray) (r1 : ByteArray) (r2 : Int) (w : World) (hL : LaidW w) (hr0_10 : Kd.C (Kd.int .i64) w A0_10 l0_10.length l0_10) (hc0_10 : l0_10.length ≤ c0_10) (hr0_14 : Kd.C P.k52 w A0_14 l0_14.length l0_14) (hc0_14 : l0_14.length ≤ c0_14) (h : post_Put.f a0_0 a0_1 a0_2 a0_3 a0_4 a0_5 a0_6 a0_7 a0_8 a0_9 l0_10 a0_11 a0_12 a0_13 l0_14 a0_15 = some (r1, r2)) :
    Calls Tryd.prog 9 #[.agg #[.int .i64 a0_0, .int .i64 a0_1, .int .i64 a0_2, .int .i64 a0_3, .int .i64 a0_4, .int .i64 a0_5, .int .i64 a0_6, .int .i64 a0_7, .int .i64 a0_8, .int .i64 a0_9, .slice A0_10 l0_10.length c0_10, .int .i64 a0_11, .int .i64 a0_12, .bool a0_13, .slice A0_14 l0_14.length c0_14, .string a0_15]] w fun e w' => e = .returned (.tuple #[.string r1, .int .i64 r2]) ∧ Below w.heap.size w w' := by
  unfold post_Put.f at h
  by_cases hm : mayM a0_0 a0_1 a0_2 a0_3 a0_4 a0_5 a0_6 a0_7 a0_8 a0_9 l0_10 a0_11 a0_12 a0_13 l0_14 a0_15 = true
  · rw [if_pos hm] at h
    obtain ⟨⟨s, es⟩, h1, h⟩ := Option.bind_eq_some_iff.1 h
    obtain ⟨⟨fa, ea⟩, h2, h⟩ := Option.bind_eq_some_iff.1 h
    obtain ⟨⟨fb, eb⟩, h3, h⟩ := Option.bind_eq_some_iff.1 h
    simp only at h
    split at h
    · rename_i h4
      simp only [Option.some.injEq, Prod.mk.injEq] at h
      obtain ⟨rfl, rfl⟩ := h
      cases a0_13 with
      | true => exact put_true a0_0 a0_1 a0_2 a0_3 a0_4 a0_5 a0_6 a0_7 a0_8 a0_9 A0_10 c0_10 l0_10 a0_11 a0_12 A0_14 c0_14 l0_14 a0_15 w hL hr0_10 hc0_10 hr0_14 hc0_14 hm s fa fb es ea eb h1 h2 h3 h4
      | false => exact put_false a0_0 a0_1 a0_2 a0_3 a0_4 a0_5 a0_6 a0_7 a0_8 a0_9 A0_10 c0_10 l0_10 a0_11 a0_12 A0_14 c0_14 l0_14 a0_15 w hL hr0_10 hc0_10 hr0_14 hc0_14 hm s fa fb es ea eb h1 h2 h3 h4
    · cases h
  · rw [if_neg hm] at h
    simp only [Option.some.injEq, Prod.mk.injEq] at h
    obtain ⟨rfl, rfl⟩ := h
    exact put_no a0_0 a0_1 a0_2 a0_3 a0_4 a0_5 a0_6 a0_7 a0_8 a0_9 A0_10 c0_10 l0_10 a0_11 a0_12 a0_13 A0_14 c0_14 l0_14 a0_15 w hL hr0_10 hc0_10 hr0_14 hc0_14 hm
end Go.Proofs.YtlggihnkhimfkaaDoor.Giv
namespace Go.Proofs.YtlggihnkhimfkaaDoor.Pure
open Go.RowKit Go.Lib Go.Proofs.YtlggihnkhimfkaaDoor.Giv Go.Proofs.YtlggihnkhimfkaaDoor.P Go.Proofs.YtlggihnkhimfkaaDoorW.PrintWords Go.Proofs.YtlggihnkhimfkaaDoorW.PrintLast Go.Proofs.YtlggihnkhimfkaaDoorW.PrintMore
set_option linter.unusedVariables false
set_option linter.unusedSimpArgs false
abbrev Hit := P.S52
structure Ms where
  kd : Int
  sh : Int
  ep : Int
  cl : Int
  sq : Int
  nn : Int
  ve : Int
  li : Int
  ok : Int
  id : Int
  v : List Int
  kk : Int
  er : Int
  was : Bool
  hits : List Hit
  text : ByteArray
theorem w1 (i : Nat) (h : i ≤ 100000000) : wrap64 ((i : Int) + 1) = ((i + 1 : Nat) : Int) := by unfold wrap64; omega
theorem rdI (l : List Int) (i : Nat) (h : i < l.length) : rd l (i : Int) = l[i] := by simp [rd, h]
theorem rdH (l : List Hit) (i : Nat) (h : i < l.length) : rd_T52 l (i : Int) = l[i] := by simp [rd_T52, h]
theorem dropI {α : Type} (l : List α) (i : Nat) (h : i < l.length) : l.drop i = l[i] :: l.drop (i + 1) := List.drop_eq_getElem_cons h
theorem sameI_l0 (a b : List Int) (hl : a.length = b.length) (ha : a.length ≤ 1000000) : ∀ (d i : Nat), a.length - i ≤ d → i ≤ a.length → ∃ r, Ev (fun k => ploverref01_SameInts.l0 k a b (i : Int)) r ∧ (r = true ↔ a.drop i = b.drop i)
  | d, i, hd, hi => by
    by_cases hlt : i < a.length
    · cases d with
      | zero => omega
      | succ d =>
        obtain ⟨r, ih, hr⟩ := sameI_l0 a b hl ha d (i + 1) (by omega) (by omega)
        have hlb : i < b.length := by omega
        have c0 : (i : Int) < (a.length : Int) := by omega
        have c1 : (0 : Int) ≤ (i : Int) := by omega
        have c2 : (i : Int) < (b.length : Int) := by omega
        rw [dropI a i hlt, dropI b i hlb]
        by_cases he : a[i] = b[i]
        · refine ⟨r, Ev.step (f := fun k => ploverref01_SameInts.l0 k a b ((i + 1 : Nat) : Int)) (fun k => ?_) ih, ?_⟩
          · rw [ploverref01_SameInts.l0, if_pos c0, if_pos c1, if_pos c2, rdI a i hlt, rdI b i hlb, if_pos he, w1 i (by omega)]
          · rw [hr, List.cons.injEq]; exact ⟨fun h => ⟨he, h⟩, fun h => h.2⟩
        · refine ⟨false, Ev.step (f := fun _ => some false) (fun k => ?_) (Ev.now _), ?_⟩
          · rw [ploverref01_SameInts.l0, if_pos c0, if_pos c1, if_pos c2, rdI a i hlt, rdI b i hlb, if_neg he]
          · rw [List.cons.injEq]; exact ⟨fun h => absurd h (by decide), fun h => absurd h.1 he⟩
    · have hn : ¬ (i : Int) < (a.length : Int) := by omega
      refine ⟨true, Ev.step (f := fun _ => some true) (fun k => ?_) (Ev.now _), ?_⟩
      · rw [ploverref01_SameInts.l0, if_neg hn]
      · rw [List.drop_of_length_le (by omega), List.drop_of_length_le (by omega)]; simp
theorem sameI_ev (a b : List Int) (ha : a.length ≤ 1000000) : ∃ r, Ev (fun k => ploverref01_SameInts.f k a b) r ∧ (r = true ↔ a = b) := by
  by_cases hl : a.length = b.length
  · obtain ⟨r, h, hr⟩ := sameI_l0 a b hl ha a.length 0 (by omega) (by omega)
    refine ⟨r, Ev.congr (fun k => ?_) h, hr⟩
    unfold ploverref01_SameInts.f
    rw [if_pos (show (a.length : Int) = (b.length : Int) by omega)]; rfl
  · refine ⟨false, Ev.congr (f := fun _ => some false) (fun k => ?_) (Ev.now _), ⟨fun h => absurd h (by decide), fun h => absurd (congrArg List.length h) hl⟩⟩
    unfold ploverref01_SameInts.f
    rw [if_neg (show ¬ (a.length : Int) = (b.length : Int) by omega)]
theorem hit_ext (a b : Hit) : a = b ↔ a.f0 = b.f0 ∧ a.f1 = b.f1 := by
  cases a; cases b; simp
theorem sameH_l0 (a b : List Hit) (hl : a.length = b.length) (ha : a.length ≤ 1000000) : ∀ (d i : Nat), a.length - i ≤ d → i ≤ a.length → ∃ r, Ev (fun k => ploverref05_Same.l0 k a b (i : Int)) r ∧ (r = true ↔ a.drop i = b.drop i)
  | d, i, hd, hi => by
    by_cases hlt : i < a.length
    · cases d with
      | zero => omega
      | succ d =>
        obtain ⟨r, ih, hr⟩ := sameH_l0 a b hl ha d (i + 1) (by omega) (by omega)
        have hlb : i < b.length := by omega
        have c0 : (i : Int) < (a.length : Int) := by omega
        have c1 : (0 : Int) ≤ (i : Int) := by omega
        have c2 : (i : Int) < (b.length : Int) := by omega
        rw [dropI a i hlt, dropI b i hlb]
        by_cases he : a[i] = b[i]
        · refine ⟨r, Ev.step (f := fun k => ploverref05_Same.l0 k a b ((i + 1 : Nat) : Int)) (fun k => ?_) ih, ?_⟩
          · rw [ploverref05_Same.l0, if_pos c0, if_pos c1, if_pos c2, rdH a i hlt, rdH b i hlb, he, if_neg (by simp), w1 i (by omega)]
          · rw [hr, List.cons.injEq]; exact ⟨fun h => ⟨he, h⟩, fun h => h.2⟩
        · refine ⟨false, Ev.step (f := fun _ => some false) (fun k => ?_) (Ev.now _), ?_⟩
          · rw [ploverref05_Same.l0, if_pos c0, if_pos c1, if_pos c2, rdH a i hlt, rdH b i hlb, if_pos (by
              rw [hit_ext] at he
              by_cases h0 : a[i].f0 = b[i].f0
              · have h1 : ¬ a[i].f1 = b[i].f1 := fun h => he ⟨h0, h⟩
                rw [Bool.or_eq_true]; right; simpa using h1
              · rw [Bool.or_eq_true]; left; simpa using h0)]
          · rw [List.cons.injEq]; exact ⟨fun h => absurd h (by decide), fun h => absurd h.1 he⟩
    · have hn : ¬ (i : Int) < (a.length : Int) := by omega
      refine ⟨true, Ev.step (f := fun _ => some true) (fun k => ?_) (Ev.now _), ?_⟩
      · rw [ploverref05_Same.l0, if_neg hn]
      · rw [List.drop_of_length_le (by omega), List.drop_of_length_le (by omega)]; simp
theorem sameH_ev (a b : List Hit) (ha : a.length ≤ 1000000) : ∃ r, Ev (fun k => ploverref05_Same.f k a b) r ∧ (r = true ↔ a = b) := by
  by_cases hl : a.length = b.length
  · obtain ⟨r, h, hr⟩ := sameH_l0 a b hl ha a.length 0 (by omega) (by omega)
    refine ⟨r, Ev.congr (fun k => ?_) h, hr⟩
    unfold ploverref05_Same.f
    rw [if_pos (show (a.length : Int) = (b.length : Int) by omega)]; rfl
  · refine ⟨false, Ev.congr (f := fun _ => some false) (fun k => ?_) (Ev.now _), ⟨fun h => absurd h (by decide), fun h => absurd (congrArg List.length h) hl⟩⟩
    unfold ploverref05_Same.f
    rw [if_neg (show ¬ (a.length : Int) = (b.length : Int) by omega)]
theorem ev_and {p Q : Prop} [Decidable p] {g : Nat → Option Bool} (h : ∃ r, Ev g r ∧ (r = true ↔ Q)) : ∃ r, Ev (fun k => if p then g k else some false) r ∧ (r = true ↔ p ∧ Q) := by
  obtain ⟨r, h, hr⟩ := h
  by_cases c : p
  · exact ⟨r, Ev.congr (fun k => if_pos c) h, by rw [hr]; exact ⟨fun h => ⟨c, h⟩, fun h => h.2⟩⟩
  · exact ⟨false, Ev.congr (f := fun _ => some false) (fun k => if_neg c) (Ev.now _), ⟨fun h => absurd h (by decide), fun h => absurd h.1 c⟩⟩
theorem ev_bnd {p Q : Prop} {f g : Nat → Option Bool} (h1 : ∃ r, Ev f r ∧ (r = true ↔ p)) (h : ∃ r, Ev g r ∧ (r = true ↔ Q)) : ∃ r, Ev (fun k => (f k).bind fun t => if t = true then g k else some false) r ∧ (r = true ↔ p ∧ Q) := by
  obtain ⟨t, h1, ht⟩ := h1
  obtain ⟨r, h2, hr⟩ := ev_and (p := t = true) h
  exact ⟨r, Ev.bind (f := fun k t => if t = true then g k else some false) h1 h2, by rw [hr, ht]⟩
theorem toList_eq (a b : ByteArray) : (a.toList == b.toList) = true ↔ a = b := by
  rw [beq_iff_eq, toList_data, toList_data]
  exact ⟨fun h => data_ext h, fun h => by rw [h]⟩
theorem ev_bool {b : Bool} {Q : Prop} (h : b = true ↔ Q) : ∃ r, Ev (fun _ => some b) r ∧ (r = true ↔ Q) := ⟨b, Ev.now b, h⟩
theorem sameOp_ev (k0 k1 : Int) (l : List Int) (k3 j0 j1 : Int) (m : List Int) (j3 : Int) (hl : l.length ≤ 1000000) : ∃ r, Ev (fun k => ploverref13_SameOp.f k k0 k1 l k3 j0 j1 m j3) r ∧ (r = true ↔ k0 = j0 ∧ k1 = j1 ∧ k3 = j3 ∧ l = m) := by
  unfold ploverref13_SameOp.f
  refine ev_and (ev_and (ev_and ?_))
  obtain ⟨r, h, hr⟩ := sameI_ev l m hl
  exact ⟨r, Ev.bind (f := fun _ t => some t) h (Ev.now r), hr⟩
theorem same_ev (a b : Ms) (h1 : a.v.length ≤ 1000000) (h2 : a.hits.length ≤ 1000000) : ∃ r, Ev (fun k => ploverref13_Same.f k a.kd a.sh a.ep a.cl a.sq a.nn a.ve a.li a.ok a.id a.v a.kk a.er a.was a.hits a.text b.kd b.sh b.ep b.cl b.sq b.nn b.ve b.li b.ok b.id b.v b.kk b.er b.was b.hits b.text) r ∧ (r = true ↔ a = b) := by
  have key : ∃ r, Ev (fun k => ploverref13_Same.f k a.kd a.sh a.ep a.cl a.sq a.nn a.ve a.li a.ok a.id a.v a.kk a.er a.was a.hits a.text b.kd b.sh b.ep b.cl b.sq b.nn b.ve b.li b.ok b.id b.v b.kk b.er b.was b.hits b.text) r ∧ (r = true ↔ (a.kd = b.kd ∧ a.sh = b.sh ∧ a.ep = b.ep ∧ a.cl = b.cl ∧ a.sq = b.sq ∧ a.nn = b.nn ∧ a.ve = b.ve ∧ a.li = b.li ∧ (a.ok = b.ok ∧ a.id = b.id ∧ a.kk = b.kk ∧ a.v = b.v) ∧ a.er = b.er ∧ (a.was == b.was) = true ∧ a.hits = b.hits ∧ a.text = b.text)) := by
    unfold ploverref13_Same.f
    exact ev_and (ev_and (ev_and (ev_and (ev_and (ev_and (ev_and (ev_and (ev_bnd (sameOp_ev _ _ _ _ _ _ _ _ h1) (ev_and (ev_and (ev_bnd (sameH_ev _ _ h2) (ev_bool (toList_eq _ _)))))))))))))
  obtain ⟨r, h, hr⟩ := key
  refine ⟨r, h, hr.trans ?_⟩
  cases a; cases b
  simp only [beq_iff_eq, Ms.mk.injEq]
  constructor
  · rintro ⟨h0, h1, h2, h3, h4, h5, h6, h7, ⟨h8, h9, h10, h11⟩, h12, h13, h14, h15⟩
    exact ⟨h0, h1, h2, h3, h4, h5, h6, h7, h8, h9, h11, h10, h12, h13, h14, h15⟩
  · rintro ⟨h0, h1, h2, h3, h4, h5, h6, h7, h8, h9, h11, h10, h12, h13, h14, h15⟩
    exact ⟨h0, h1, h2, h3, h4, h5, h6, h7, ⟨h8, h9, h10, h11⟩, h12, h13, h14, h15⟩
def lastP (m : Ms) : Prop := ¬ m.kd < 1 ∧ ¬ m.kd > 19 ∧ ¬ m.sh < 0 ∧ ¬ m.sh > 15 ∧ (m.v.length > 0 → isV m.v = true) ∧ m.ok ≥ 0 ∧ m.ok ≤ 3 ∧ m.kk ≥ 0 ∧ m.kk ≤ 64 ∧ m.er ≥ 0 ∧ m.er ≤ 255 ∧ (m.text.size : Int) ≤ 262144
def mayB (m : Ms) : Bool := mayM m.kd m.sh m.ep m.cl m.sq m.nn m.ve m.li m.ok m.id m.v m.kk m.er m.was m.hits m.text
theorem mayB_iff (m : Ms) : mayB m = true ↔ ((six m.ep m.cl m.sq m.nn m.ve m.li).any oddP = false) ∧ ((∀ x ∈ m.hits, oddP x.f1 = false) ∧ m.hits.length ≤ 64) ∧ lastP m := by
  unfold mayB mayM lastP
  simp only [Bool.and_eq_true, Bool.not_eq_true', Bool.or_eq_false_iff, Bool.and_eq_false_iff, decide_eq_false_iff_not, Bool.not_eq_false']
  have hd : (dists m.hits).any oddP = false ↔ ∀ x ∈ m.hits, oddP x.f1 = false := by
    unfold dists
    rw [List.any_map, List.any_eq_false]
    exact ⟨fun h x hx => by simpa using h x hx, fun h x hx => by simpa using h x hx⟩
  rw [hd]
  constructor
  · rintro ⟨⟨⟨⟨⟨⟨⟨⟨p1, p2⟩, p3⟩, p4⟩, hodd⟩, ⟨⟨q1, q2⟩, q3⟩, q4⟩, hv⟩, ⟨⟨s1, s2⟩, s3⟩, s4⟩, t⟩
    have hv2 : m.v.length > 0 → isV m.v = true := fun h => hv.elim (fun h0 => absurd h h0) (fun h0 => h0)
    exact ⟨hodd, ⟨s4, by omega⟩, by omega, by omega, by omega, by omega, hv2, by omega, by omega, by omega, by omega, by omega, by omega, by omega⟩
  · rintro ⟨hodd, ⟨s4, s3⟩, p1, p2, p3, p4, hv, q1, q2, q3, q4, s1, s2, t⟩
    have hv2 : ¬ 0 < m.v.length ∨ isV m.v = true := (Nat.lt_or_ge 0 m.v.length).elim (fun h => .inr (hv h)) (fun h => .inl (by omega))
    exact ⟨⟨⟨⟨⟨⟨⟨⟨by omega, by omega⟩, by omega⟩, by omega⟩, hodd⟩, ⟨⟨by omega, by omega⟩, by omega⟩, by omega⟩, hv2⟩, ⟨⟨by omega, by omega⟩, by omega⟩, s4⟩, by omega⟩
end Go.Proofs.YtlggihnkhimfkaaDoor.Pure
namespace Go.Proofs.YtlggihnkhimfkaaDoor.Cut
open Go
section
variable {P : Program} {Q : Exit → Act → World → Prop}
def cutQ (P : Program) (ops : Array Oper) (z : Oper) (Q : Exit → Act → World → Prop) : Exit → Act → World → Prop
  | .normal, a, w => wpList P ops Q [z] a w
  | e, a, w => Q e a w
theorem cutQ_out {ops : Array Oper} {z : Oper} (h : LetsOut (cutQ P ops z Q)) : LetsOut Q := h
theorem wp_cut {ops : Array Oper} {z o : Oper} {a : Act} {w : World} {K : Act → World → Prop} (hh : o.wp P a w K (cutQ P ops z Q)) : o.wp P a w K Q := by
  unfold Oper.wp at *
  generalize (execOp a.eval o).run P w = r at *
  cases r with
  | ok n w' =>
    cases n <;> simp only [Oper.upon] at hh ⊢ <;>
      first
        | exact hh
        | exact Calls.mono hh (fun e w'' he => by cases e <;> exact he)
  | halt x w' => cases x <;> simp only [Oper.upon] at hh ⊢ <;> exact hh
def waitsAll (ops : Array Oper) (z : Oper) : Bool :=
  ((List.range ops.size).all fun i => z.after.any fun e => Region.binds .any e && (e.on == i || ((ops[e.on]?).map fun o => o.after.any fun e' => Region.binds .any e' && e'.on == i).getD false)) && z.after.all fun e => !Region.binds .any e || decide (e.on < ops.size)
def downAll (ops : Array Oper) : Bool :=
  (List.range ops.size).all fun i => ((ops[i]?).map fun o => o.after.all fun e => !Region.binds .any e || decide (e.on < i)).getD true
theorem yielded_push {ops : Array Oper} {z : Oper} (hd : z.dst = none) (tmps : Array Value) : yielded (ops.push z) tmps = yielded ops tmps := by
  funext j
  unfold yielded
  rcases Nat.lt_trichotomy j ops.size with h | h | h
  · rw [Array.getElem?_push_lt h, Array.getElem?_eq_getElem h]
  · subst h
    rw [Array.getElem?_push_size, Array.getElem?_eq_none (Nat.le_refl _)]
    simp [hd]
  · rw [Array.getElem?_eq_none (by rw [Array.size_push]; omega), Array.getElem?_eq_none (by omega)]
theorem all_listed {ops : Array Oper} {listed : Array Bool} (hs : listed.size = ops.size) (hdn : downAll ops = true) (h : Region.ready .any ops listed = []) : ∀ i, i < ops.size → listed.getD i false = true := by
  intro i
  induction i using Nat.strongRecOn with
  | ind i ih =>
    intro hi
    by_cases hl : listed.getD i true = false
    · exfalso
      have : i ∈ Region.ready .any ops listed := by
        rw [mem_ready]
        refine ⟨hl, ops[i], Array.getElem?_eq_getElem hi, fun e he hb => ?_⟩
        have h1 := List.all_eq_true.1 hdn i (List.mem_range.2 hi)
        rw [Array.getElem?_eq_getElem hi] at h1
        simp only [Option.map_some, Option.getD_some] at h1
        have h2 := Array.all_eq_true'.1 h1 e he
        rw [hb] at h2
        have h3 : e.on < i := by simpa using h2
        exact ih e.on h3 (by omega)
      rw [h] at this
      cases this
    · simp only [Bool.not_eq_false] at hl
      have hlt : i < listed.size := by omega
      simp [hlt] at hl ⊢
      exact hl
theorem listed_none {ops : Array Oper} {listed : Array Bool} (hs : listed.size = ops.size) (h : ∀ i, i < ops.size → listed.getD i false = true) : Region.ready .any ops listed = [] := by
  apply List.eq_nil_iff_forall_not_mem.2
  intro i hi
  rw [mem_ready] at hi
  obtain ⟨h0, o, ho, _⟩ := hi
  have hlt : i < ops.size := (Array.getElem?_eq_some_iff.1 ho).1
  have := h i hlt
  have hlt2 : i < listed.size := by omega
  simp [hlt2] at this h0
  rw [this] at h0
  cases h0
theorem getD_push_lt {listed : Array Bool} {i : Nat} (h : i < listed.size) (d : Bool) : (listed.push false).getD i d = listed.getD i d := by
  simp [Array.getElem?_push_lt h, h]
def Shut (ops : Array Oper) (listed : Array Bool) : Prop := ∀ j o, listed.getD j false = true → ops[j]? = some o → ∀ e ∈ o.after, Region.binds .any e = true → listed.getD e.on false = true
theorem Shut.none (ops : Array Oper) (n : Nat) : Shut ops (Array.replicate n false) := by
  intro j o h
  simp [Array.getElem?_replicate] at h
  split at h <;> simp at h
theorem getD_set_true {listed : Array Bool} {i j : Nat} (h : listed.getD j false = true) : (listed.setIfInBounds i true).getD j false = true := by
  by_cases hj : i = j
  · subst hj
    have : i < listed.size := by
      by_cases hlt : i < listed.size
      · exact hlt
      · simp [hlt] at h
    simp [this]
  · rw [getD_set_ne false hj]; exact h
theorem Shut.set {ops : Array Oper} {listed : Array Bool} {i : Nat} (h : Shut ops listed) (hr : i ∈ Region.ready .any ops listed) : Shut ops (listed.setIfInBounds i true) := by
  intro j o hj ho e he hb
  rw [mem_ready] at hr
  obtain ⟨_, oi, hoi, hall⟩ := hr
  by_cases hij : i = j
  · subst hij
    rw [hoi] at ho
    obtain rfl := Option.some.inj ho
    exact getD_set_true (hall e he hb)
  · rw [getD_set_ne false hij] at hj
    exact getD_set_true (h j o hj ho e he hb)
theorem cut_any {ops : Array Oper} {z : Oper} (hd : z.dst = none) (hz : waitsAll ops z = true) (hdn : downAll ops = true) :
    ∀ (fuel : Nat) (listed : Array Bool) (a : Act) (w : World), listed.size = ops.size → Shut ops listed → wpAny P .any ops (cutQ P (ops.push z) z Q) fuel listed a w → wpAny P .any (ops.push z) Q (fuel + 1) (listed.push false) a w := by
  unfold waitsAll at hz
  rw [Bool.and_eq_true] at hz
  obtain ⟨hz1, hz2⟩ := hz
  -- the last one comes up just when all others have
  have last : ∀ listed : Array Bool, listed.size = ops.size → Shut ops listed → ops.size ∈ Region.ready .any (ops.push z) (listed.push false) → ∀ i, i < ops.size → listed.getD i false = true := by
    intro listed hs hsh hr i hi
    rw [mem_ready] at hr
    obtain ⟨_, o, ho, hall⟩ := hr
    rw [Array.getElem?_push_size] at ho
    obtain rfl := Option.some.inj ho
    have h1 := List.all_eq_true.1 hz1 i (List.mem_range.2 hi)
    obtain ⟨e, he, hb⟩ := Array.any_eq_true'.1 h1
    rw [Bool.and_eq_true] at hb
    have h2 := hall e he hb.1
    have hz3 := Array.all_eq_true'.1 hz2 e he
    rw [hb.1] at hz3
    have hlt : e.on < ops.size := by simpa using hz3
    rw [getD_push_lt (by omega)] at h2
    rcases Bool.or_eq_true _ _ ▸ hb.2 with h3 | h3
    · have h3 : e.on = i := by simpa using h3
      rw [h3] at h2
      exact h2
    · rw [Array.getElem?_eq_getElem hlt] at h3
      simp only [Option.map_some, Option.getD_some] at h3
      obtain ⟨e', he', hb'⟩ := Array.any_eq_true'.1 h3
      rw [Bool.and_eq_true] at hb'
      have h4 : e'.on = i := by simpa using hb'.2
      rw [← h4]
      exact hsh e.on _ h2 (Array.getElem?_eq_getElem hlt) e' he' hb'.1
  have lastr : ∀ listed : Array Bool, listed.size = ops.size → (∀ i, i < ops.size → listed.getD i false = true) → ops.size ∈ Region.ready .any (ops.push z) (listed.push false) := by
    intro listed hs h
    rw [mem_ready]
    refine ⟨by rw [← hs]; simp, z, Array.getElem?_push_size, fun e he hb => ?_⟩
    have h2 := Array.all_eq_true'.1 hz2 e he
    rw [hb] at h2
    have h3 : e.on < ops.size := by simpa using h2
    rw [getD_push_lt (by omega)]
    exact h e.on h3
  have fin : ∀ (fuel : Nat) (listed : Array Bool) (a : Act) (w : World), listed.size = ops.size → (∀ i, i < ops.size → listed.getD i false = true) → wpList P (ops.push z) Q [z] a w →
      wpOp P (ops.push z) Q ops.size (wpAny P .any (ops.push z) Q fuel ((listed.push false).setIfInBounds ops.size true)) a w := by
    intro fuel listed a w hs hl h
    have hrn : Region.ready .any (ops.push z) ((listed.push false).setIfInBounds ops.size true) = [] := by
      refine listed_none (by simp [hs]) (fun i hi => ?_)
      rw [Array.size_push] at hi
      by_cases hin : i = ops.size
      · subst hin; rw [← hs]; simp
      · rw [getD_set_ne false (Ne.symm hin), getD_push_lt (by omega)]
        exact hl i (by omega)
    have hK : ∀ a w, Q .normal a w → wpAny P .any (ops.push z) Q fuel ((listed.push false).setIfInBounds ops.size true) a w := by
      intro a w hq
      cases fuel with
      | zero => exact ⟨hrn, hq⟩
      | succ f => exact ⟨fun _ => hq, by rw [hrn]; simp⟩
    unfold wpOp
    rw [Array.getElem?_push_size]
    simp only [wpList] at h
    dsimp only
    split at h
    · rename_i hw
      rw [if_pos hw]
      rcases h with h | h
      · exact .inl (Oper.wp_mono hK h)
      · exact .inr h
    · rename_i hw
      rw [if_neg hw]
      exact hK _ _ h
  have inner : ∀ (listed : Array Bool) (i : Nat), listed.size = ops.size → i < ops.size → i ∈ Region.ready .any (ops.push z) (listed.push false) → i ∈ Region.ready .any ops listed := by
    intro listed i hs hi hr
    rw [mem_ready] at hr ⊢
    obtain ⟨h0, o, ho, hall⟩ := hr
    rw [getD_push_lt (by omega)] at h0
    rw [Array.getElem?_push_lt hi] at ho
    refine ⟨h0, o, by rw [Array.getElem?_eq_getElem hi]; exact ho, fun e he hb => ?_⟩
    have h1 := List.all_eq_true.1 hdn i (List.mem_range.2 hi)
    rw [Array.getElem?_eq_getElem hi, ho] at h1
    simp only [Option.map_some, Option.getD_some] at h1
    have h2 := Array.all_eq_true'.1 h1 e he
    rw [hb] at h2
    have h3 : e.on < i := by simpa using h2
    have := hall e he hb
    rw [getD_push_lt (by omega)] at this
    exact this
  intro fuel
  induction fuel with
  | zero =>
    intro listed a w hs hsh H
    have hl := all_listed hs hdn H.1
    refine ⟨fun h => ?_, fun i hi => ?_⟩
    · have := lastr listed hs hl
      rw [h] at this; cases this
    · have hi' : i < (ops.push z).size := by
        rw [mem_ready] at hi
        obtain ⟨_, o, ho, _⟩ := hi
        exact (Array.getElem?_eq_some_iff.1 ho).1
      rw [Array.size_push] at hi'
      by_cases hin : i = ops.size
      · subst hin; exact fin 0 listed a w hs hl H.2
      · have := inner listed i hs (by omega) hi
        rw [H.1] at this; cases this
  | succ fuel ih =>
    intro listed a w hs hsh H
    refine ⟨fun h => ?_, fun i hi => ?_⟩
    · exfalso
      have hn : Region.ready .any ops listed = [] := by
        apply List.eq_nil_iff_forall_not_mem.2
        intro i hi
        have : i ∈ Region.ready .any (ops.push z) (listed.push false) := by
          rw [mem_ready] at hi ⊢
          obtain ⟨h0, o, ho, hall⟩ := hi
          have hlt : i < ops.size := (Array.getElem?_eq_some_iff.1 ho).1
          refine ⟨by rw [getD_push_lt (by omega)]; exact h0, o, by rw [Array.getElem?_push_lt hlt, ← ho, Array.getElem?_eq_getElem hlt], fun e he hb => ?_⟩
          have := hall e he hb
          by_cases hlt2 : e.on < listed.size
          · rw [getD_push_lt hlt2]; exact this
          · simp [hlt2] at this
        rw [h] at this; cases this
      have := lastr listed hs (all_listed hs hdn hn)
      rw [h] at this; cases this
    · have hi' : i < (ops.push z).size := by
        rw [mem_ready] at hi
        obtain ⟨_, o, ho, _⟩ := hi
        exact (Array.getElem?_eq_some_iff.1 ho).1
      rw [Array.size_push] at hi'
      by_cases hin : i = ops.size
      · subst hin
        have hl := last listed hs hsh hi
        exact fin (fuel + 1) listed a w hs hl (H.1 (listed_none hs hl))
      · have hlt : i < ops.size := by omega
        have h1 := H.2 i (inner listed i hs hlt hi)
        have hset : (listed.push false).setIfInBounds i true = (listed.setIfInBounds i true).push false := by
          apply Array.ext_getElem?
          intro j
          by_cases hj : i = j
          · subst hj
            rw [Array.getElem?_setIfInBounds_self_of_lt (by simp; omega), Array.getElem?_push_lt (by simp; omega), Array.getElem_setIfInBounds_self]
          · rw [Array.getElem?_setIfInBounds_ne hj]
            rcases Nat.lt_trichotomy j listed.size with h | h | h
            · rw [Array.getElem?_push_lt h, Array.getElem?_push_lt (by simpa using h), Array.getElem_setIfInBounds_ne _ hj]
            · subst h
              rw [Array.getElem?_push_size, show listed.size = (listed.setIfInBounds i true).size by simp, Array.getElem?_push_size]
            · rw [Array.getElem?_eq_none (by simp; omega), Array.getElem?_eq_none (by simp; omega)]
        rw [hset]
        have h2 : wpOp P ops (cutQ P (ops.push z) z Q) i (wpAny P .any (ops.push z) Q (fuel + 1) ((listed.setIfInBounds i true).push false)) a w :=
          wpOp_mono (fun a' w' h3 => ih (listed.setIfInBounds i true) a' w' (by simpa using hs) (hsh.set (inner listed i hs (by omega) hi)) h3) h1
        unfold wpOp at h2 ⊢
        rw [Array.getElem?_eq_getElem hlt] at h2
        rw [Array.getElem?_push_lt hlt]
        dsimp only at h2 ⊢
        rw [yielded_push hd]
        split at h2
        · rename_i hw
          rw [if_pos hw]
          rcases h2 with h2 | h2
          · exact .inl (wp_cut h2)
          · exact .inr ⟨h2.1, cutQ_out h2.2⟩
        · rename_i hw
          rw [if_neg hw]
          exact h2
theorem wp_region_cut {id : Nat} {ops : Array Oper} {z : Oper} {S : World → Prop} {a : Act} {w : World} (hm : P.follows .mixedOrders = true) (hops : ops = ops.pop.push z) (hd : z.dst = none) (hz : waitsAll ops.pop z = true) (hdn : downAll ops.pop = true)
    (h : wpAnyH P .any ops.pop (cutQ P ops z Q) S ops.pop.size (Array.replicate ops.pop.size false) a w.drew) : (Code.region id ops true).wp P Q a w := by
  refine wp_region_any hm ?_
  have h1 := wpAny_of_held _ _ _ _ h
  rw [hops] at h1
  simp only [Array.pop_push] at h1
  have h2 := cut_any hd hz hdn _ _ _ _ (by simp) (Shut.none _ _) h1
  have e : (Array.replicate ops.size false) = (Array.replicate ops.pop.size false).push false := by
    conv => lhs; rw [hops, Array.size_push]
    rw [Array.replicate_succ]
  rw [e]
  have e2 : ops.size = ops.pop.size + 1 := by conv => lhs; rw [hops, Array.size_push]
  rw [e2]
  rw [hops]
  simpa using h2
end
end Go.Proofs.YtlggihnkhimfkaaDoor.Cut
namespace Go.Proofs.YtlggihnkhimfkaaDoor.Giv
open Go.RowKit Go.Lib Go.Proofs.YtlggihnkhimfkaaDoorW.PrintWords Go.Proofs.YtlggihnkhimfkaaDoorW.PrintLast Go.Proofs.YtlggihnkhimfkaaDoorW.PrintMore
set_option linter.unusedVariables false
set_option linter.unusedSimpArgs false
def But (g : Nat) (w w' : World) : Prop := (∀ (B : Nat) (w0 : World), Below B w0 w → B ≤ g → Below B w0 w') ∧ ∀ (k : Nat) (o : Obj), k ≠ g → w.heap[k]? = some o → w'.heap[k]? = some o
theorem But.of_below {g : Nat} {w w' : World} (hg : g < w.heap.size) (h : Below w.heap.size w w') : But g w w' := ⟨fun B w0 hb hB => hb.trans (h.mono (by omega)), fun k o _ hk => blk_below hk h⟩
theorem But.trans {g : Nat} {w w1 w2 : World} (h : But g w w1) (k : But g w1 w2) : But g w w2 := ⟨fun B w0 hb hB => k.1 B w0 (h.1 B w0 hb hB) hB, fun i o hi ho => k.2 i o hi (h.2 i o hi ho)⟩
theorem But.set1 (g i : Nat) (w : World) (a : Value) : But g w (w.setCell ⟨g, i, none⟩ a) := ⟨fun B w0 hb hB => hb.setCell (p := ⟨g, i, none⟩) hB _, fun k o hk ho => (Below.heap_setCell w ⟨g, i, none⟩ a k hk).trans ho⟩
theorem But.drew (g : Nat) (w : World) : But g w w.drew := ⟨fun B w0 hb hB => below_drew hb, fun k o hk ho => ho⟩
theorem But.cell {g : Nat} {w w' : World} (h : But g w w') {k i : Nat} {v : Value} (hk : k ≠ g) (hc : w.cell? ⟨k, i, none⟩ = some v) : w'.cell? ⟨k, i, none⟩ = some v := by
  cases ho : w.heap[k]? with
  | none => unfold World.cell? at hc; simp only [ho] at hc; cases hc
  | some o =>
    have := h.2 k o hk ho
    unfold World.cell? at hc ⊢
    simp only [ho] at hc
    simp only [this]
    exact hc
section
variable {P : Program} {ops : Array Oper} {rest : List Oper} {o : Oper} {a : Act} {w : World} {Q : Exit → Act → World → Prop}
theorem ev_load (hgd : o.guard = none) (ty : TypeId) (x : Operand) (ho : o.op = .load ty x) (ie : TypeInfo) (hie : P.info? ty = some ie) (hagg : ∀ w, (isAgg ty).run P w = .ok true w)
    (g off : Nat) (hx : a.eval x = .pointer (some ⟨g, off, none⟩)) (vs : List Value) (hs : vs.length = ie.size) (hc : ∀ k v, vs[k]? = some v → w.cell? ⟨g, off + k, none⟩ = some v)
    (h : wpList P ops Q rest (a.put o.dst (.agg vs.toArray)) w) : wpList P ops Q (o :: rest) a w := by
  refine Kd.event_run hgd ?_ h
  have := rl_loadVar_cells ty ie hie hagg g off vs hs w hc
  unfold execOp
  simp only [ho, hx, Instr.loadAt, Instr.sureAddr, Sem.run_bind, Sem.run_pure, Result.andThen_ok, this]
end
theorem set_whole (g t : Nat) : ∀ (vs : List Value) (o : Nat) (pre : List Value) (old : List Value) (w : World), pre.length = o → old.length = vs.length → w.heap[g]? = some (.cells (pre ++ old).toArray t (0, 0)) →
    (w.setCells g o vs).heap[g]? = some (.cells (pre ++ vs).toArray t (0, 0)) ∧ But g w (w.setCells g o vs)
  | [], o, pre, old, w, ho, hl, h => by
    obtain rfl : old = [] := List.length_eq_zero_iff.1 hl
    exact ⟨h, fun B w0 hb _ => hb, fun k o _ hk => hk⟩
  | v :: vs, o, pre, old, w, ho, hl, h => by
    match old, hl with
    | u :: old, hl =>
      have h1 : (w.setCell ⟨g, o, none⟩ v).heap[g]? = some (.cells ((pre ++ [v]) ++ old).toArray t (0, 0)) := by
        refine blk_put h o v ?_
        rw [List.setIfInBounds_toArray, List.set_append_right _ _ (by omega)]
        simp [ho]
      obtain ⟨a, b⟩ := set_whole g t vs (o + 1) (pre ++ [v]) old _ (by simp [ho]) (by simpa using hl) h1
      rw [World.setCells]
      refine ⟨?_, (But.set1 g o w v).trans b⟩
      rw [a]
      simp
section
variable {P : Program} {ops : Array Oper} {rest : List Oper} {o : Oper} {a : Act} {w : World} {Q : Exit → Act → World → Prop}
theorem event_skip {w1 : World} (hgd : o.guard = none) (hd : o.dst = none) (hrun : (execOp a.eval o).run P w = .ok .skip w1) (h : wpList P ops Q rest a w1) : wpList P ops Q (o :: rest) a w := by
  refine wpList_plain hgd fun K hK => ?_
  unfold Oper.wp
  rw [hrun]
  refine hK _ _ ?_
  rw [hd]
  exact h
theorem gate_store {ty : TypeId} {x y : Operand} (_ : o.op = .store ty x y) (h : wpList P ops Q (o :: rest) a w) : wpList P ops Q (o :: rest) a w := h
theorem ev_store (hgd : o.guard = none) (hd : o.dst = none) (ty : TypeId) (x y : Operand) (ho : o.op = .store ty x y) (ie : TypeInfo) (hie : P.info? ty = some ie) (g t : Nat) (hx : a.eval x = .pointer (some ⟨g, 0, none⟩)) (vs old : List Value) (hy : a.eval y = .agg vs.toArray) (hs : vs.length = ie.size) (h1 : ∀ v ∈ vs, v.oneCell' = true)
    (hl : old.length = vs.length) (hold : w.heap[g]? = some (.cells old.toArray t (0, 0)))
    (h : ∀ w', w'.heap[g]? = some (.cells vs.toArray t (0, 0)) → But g w w' → wpList P ops Q rest a w') : wpList P ops Q (o :: rest) a w := by
  obtain ⟨a1, a2⟩ := set_whole g t vs 0 [] old w rfl hl hold
  have hst := rl_storeVar_cells (P := P) ty ie hie g 0 vs hs h1 w (fun k hk => by rw [Nat.zero_add, blk_cell hold, List.getElem?_toArray, List.getElem?_eq_getElem (by omega)]; rfl) (fun k hk => blk_frozen hold _)
  have := h _ a1 a2
  refine event_skip (w1 := w.setCells g 0 vs) hgd hd ?_ this
  unfold execOp
  simp only [ho, hx, hy, Instr.storeAt, Instr.sureAddr, Sem.run_bind, Sem.run_pure, Result.andThen_ok, hst]
end
theorem held_start {P : Program} {md : Region.Mode} {ops : Array Oper} {Q : Exit → Act → World → Prop} {S : World → Prop} {f : Nat} {l : Array Bool} {a : Act} {w : World} (hS : S w) (h : S w → wpAnyH P md ops Q S f l a w) : wpAnyH P md ops Q S f l a w := h hS
end Go.Proofs.YtlggihnkhimfkaaDoor.Giv
namespace Go.Proofs.YtlggihnkhimfkaaDoor.Cut
open Go Lean Elab Tactic Meta
elab "go_region_cut " S:term:max ppSpace "(" keep:tactic ")" ppSpace "(" tac:tactic ")" : tactic => withMainContext do
  evalTactic (← `(tactic| refine Cut.wp_region_cut (S := $S) (by kernel_rfl) rfl rfl (by kernel_rfl) (by kernel_rfl) ?_))
  evalTactic (← `(tactic| simp only [List.pop_toArray, List.dropLast, List.size_toArray, List.length_cons, List.length_nil]))
  evalTactic (← `(tactic| refine Giv.held_start ?_ (fun hHeld => ?_)))
  let gs ← getGoals
  let [hS, rest] := gs | throwError "go_region_cut: two goals expected at the beginning"
  setGoals [hS]
  evalTactic (← `(tactic| try dsimp only))
  unless (← getUnsolvedGoals).isEmpty do evalTactic keep
  setGoals [rest]
  Go.regionWalkH3 keep tac false
  evalTactic (← `(tactic| all_goals (unfold Cut.cutQ)))
end Go.Proofs.YtlggihnkhimfkaaDoor.Cut
namespace Go.Proofs.YtlggihnkhimfkaaDoor.Giv
open Go.RowKit Go.Lib Go.Proofs.YtlggihnkhimfkaaDoorW.PrintWords Go.Proofs.YtlggihnkhimfkaaDoorW.PrintLast Go.Proofs.YtlggihnkhimfkaaDoorW.PrintMore
set_option linter.unusedVariables false
set_option linter.unusedSimpArgs false
set_option maxRecDepth 100000 in
set_option maxHeartbeats 4000000 in
theorem take_short (s : ByteArray) (l : List ByteArray) (n : Int) (w : World) (hL : LaidW w) (hA : frame_All.f s = some (l, n)) (h2 : l.length ≠ 2 ∨ n ≠ (s.size : Int)) :
    Calls Tryd.prog 12 #[.string s] w fun e w' => e = .returned (.tuple #[.agg #[.int .i64 0, .int .i64 0, .int .i64 0, .int .i64 0, .int .i64 0, .int .i64 0, .int .i64 0, .int .i64 0, .int .i64 0, .int .i64 0, .slice none 0 0, .int .i64 0, .int .i64 0, .bool false, .slice none 0 0, .string ⟨#[]⟩], .int .i64 130]) ∧ Below w.heap.size w w' := by
  have HA := Aside0.mk hA
  have HL := Aside0.mk hL
  clear hA hL
  go_enter Tryd.func12, Tryd.ntmps12
  by_cases h : l.length = 2
  · have hn : n ≠ (s.size : Int) := by omega
    have b0 : ((l.length : Int) != 2) = false := by simp [h]
    have b1 : (n != (s.size : Int)) = true := by simp [hn]
    clear h2 h hn
    go_wp2_with (first | (go_at_call 30; refine (frame_All.calls s l n _ (LaidW.below HL.out ((Below.refl _ _).alloc (Nat.le_refl _) _)) HA.out).mono ?_; rintro e w1 ⟨v4, rfl, hr, hb⟩; have HB1 := Aside0.mk (below_step ((Below.refl _ _).alloc (Nat.le_refl _) _) hb); have BK1 := Aside0.mk (blk_below (MapKept.heap_alloc w (.cells #[.int .i64 0, .int .i64 0, .int .i64 0, .int .i64 0, .int .i64 0, .int .i64 0, .int .i64 0, .int .i64 0, .int .i64 0, .int .i64 0, .slice none 0 0, .int .i64 0, .int .i64 0, .bool false, .slice none 0 0, .string ⟨#[]⟩] 30 (0, 0))).1 hb); have HR1 := Aside0.mk (Kd.R_lower hr (below_size ((Below.refl w.heap.size w).alloc (Nat.le_refl _) _))); clear hr hb; obtain ⟨A4, c4, rfl⟩ := Kd.R_slice HR1.out) | ((with_reducible refine gate_store (ty := 30) (x := .tmp 2) rfl ?_); refine ev_store rfl rfl 30 (.tmp 2) _ rfl _ rfl w.heap.size 30 rfl [.int .i64 0, .int .i64 0, .int .i64 0, .int .i64 0, .int .i64 0, .int .i64 0, .int .i64 0, .int .i64 0, .int .i64 0, .int .i64 0, .slice none 0 0, .int .i64 0, .int .i64 0, .bool false, .slice none 0 0, .string ⟨#[]⟩] [.int .i64 0, .int .i64 0, .int .i64 0, .int .i64 0, .int .i64 0, .int .i64 0, .int .i64 0, .int .i64 0, .int .i64 0, .int .i64 0, .slice none 0 0, .int .i64 0, .int .i64 0, .bool false, .slice none 0 0, .string ⟨#[]⟩] rfl rfl (by decide) rfl BK1.out ?_; intro w9 a9 b9; have BK9 := Aside0.mk a9; have HB9 := Aside0.mk (b9.1 _ _ HB1.out (Nat.le_refl _)); clear a9 b9) | fail)
    refine bodyPost_ret (results_ct rfl _ _ w.heap.size 30 #[.int .i64 0, .int .i64 0, .int .i64 0, .int .i64 0, .int .i64 0, .int .i64 0, .int .i64 0, .int .i64 0, .int .i64 0, .int .i64 0, .slice none 0 0, .int .i64 0, .int .i64 0, .bool false, .slice none 0 0, .string ⟨#[]⟩] (0, 0) _ rfl BK9.out Tryd.underlying30 rfl (by kernel_rfl)) rfl ?_
    exact ⟨rfl, HB9.out⟩

  · have b0 : ((l.length : Int) != 2) = true := by simp; omega
    clear h2 h
    go_wp2_with (first | (go_at_call 30; refine (frame_All.calls s l n _ (LaidW.below HL.out ((Below.refl _ _).alloc (Nat.le_refl _) _)) HA.out).mono ?_; rintro e w1 ⟨v4, rfl, hr, hb⟩; have HB1 := Aside0.mk (below_step ((Below.refl _ _).alloc (Nat.le_refl _) _) hb); have BK1 := Aside0.mk (blk_below (MapKept.heap_alloc w (.cells #[.int .i64 0, .int .i64 0, .int .i64 0, .int .i64 0, .int .i64 0, .int .i64 0, .int .i64 0, .int .i64 0, .int .i64 0, .int .i64 0, .slice none 0 0, .int .i64 0, .int .i64 0, .bool false, .slice none 0 0, .string ⟨#[]⟩] 30 (0, 0))).1 hb); have HR1 := Aside0.mk (Kd.R_lower hr (below_size ((Below.refl w.heap.size w).alloc (Nat.le_refl _) _))); clear hr hb; obtain ⟨A4, c4, rfl⟩ := Kd.R_slice HR1.out) | ((with_reducible refine gate_store (ty := 30) (x := .tmp 2) rfl ?_); refine ev_store rfl rfl 30 (.tmp 2) _ rfl _ rfl w.heap.size 30 rfl [.int .i64 0, .int .i64 0, .int .i64 0, .int .i64 0, .int .i64 0, .int .i64 0, .int .i64 0, .int .i64 0, .int .i64 0, .int .i64 0, .slice none 0 0, .int .i64 0, .int .i64 0, .bool false, .slice none 0 0, .string ⟨#[]⟩] [.int .i64 0, .int .i64 0, .int .i64 0, .int .i64 0, .int .i64 0, .int .i64 0, .int .i64 0, .int .i64 0, .int .i64 0, .int .i64 0, .slice none 0 0, .int .i64 0, .int .i64 0, .bool false, .slice none 0 0, .string ⟨#[]⟩] rfl rfl (by decide) rfl BK1.out ?_; intro w9 a9 b9; have BK9 := Aside0.mk a9; have HB9 := Aside0.mk (b9.1 _ _ HB1.out (Nat.le_refl _)); clear a9 b9) | fail)
    refine bodyPost_ret (results_ct rfl _ _ w.heap.size 30 #[.int .i64 0, .int .i64 0, .int .i64 0, .int .i64 0, .int .i64 0, .int .i64 0, .int .i64 0, .int .i64 0, .int .i64 0, .int .i64 0, .slice none 0 0, .int .i64 0, .int .i64 0, .bool false, .slice none 0 0, .string ⟨#[]⟩] (0, 0) _ rfl BK9.out Tryd.underlying30 rfl (by kernel_rfl)) rfl ?_
    exact ⟨rfl, HB9.out⟩
theorem one_mz (y : ByteArray) : ∀ v ∈ ([.int .i64 0, .int .i64 0, .int .i64 0, .int .i64 0, .int .i64 0, .int .i64 0, .int .i64 0, .int .i64 0, .int .i64 0, .int .i64 0, .slice none 0 0, .int .i64 0, .int .i64 0, .bool false, .slice none 0 0, .string y] : List Value), v.oneCell' = true := by
  intro v hv
  simp only [List.mem_cons, List.not_mem_nil, or_false] at hv
  rcases hv with rfl | rfl | rfl | rfl | rfl | rfl | rfl | rfl | rfl | rfl | rfl | rfl | rfl | rfl | rfl | rfl <;> rfl
theorem blk_newn (w : World) (o : Obj) (n : Nat) (hn : w.heap.size = n) : (w.alloc o).heap[n]? = some o := by subst hn; exact blk_new w o
set_option maxRecDepth 100000 in
set_option maxHeartbeats 4000000 in
theorem take_odd (s x y : ByteArray) (q1 q2 : Int) (q3 : ByteArray) (L : List P.S49) (q5 : Int) (w : World) (hL : LaidW w) (hA : frame_All.f s = some ([x, y], (s.size : Int))) (hO : P.benc_Only.f x = some (q1, q2, q3, L, q5)) (h5 : q5 ≠ 0 ∨ L.length ≠ 15) :
    Calls Tryd.prog 12 #[.string s] w fun e w' => e = .returned (.tuple #[.agg #[.int .i64 0, .int .i64 0, .int .i64 0, .int .i64 0, .int .i64 0, .int .i64 0, .int .i64 0, .int .i64 0, .int .i64 0, .int .i64 0, .slice none 0 0, .int .i64 0, .int .i64 0, .bool false, .slice none 0 0, .string ⟨#[]⟩], .int .i64 130]) ∧ Below w.heap.size w w' := by
  have HA := Aside0.mk hA
  have HL := Aside0.mk hL
  have HO := Aside0.mk hO
  clear hA hL hO
  have b1 : (q5 != 0) = false → ((L.length : Int) != 15) = true := fun h => by
    rcases h5 with h5 | h5
    · simp [h5] at h
    · simp; omega
  clear h5
  go_enter Tryd.func12, Tryd.ntmps12
  cases hb0 : (q5 != 0) with
  | true =>
    clear b1
    go_wp2_with (first | (go_at_call 30; refine (frame_All.calls s [x, y] _ _ (LaidW.below HL.out ((Below.refl _ _).alloc (Nat.le_refl _) _)) HA.out).mono ?_; rintro e w1 ⟨v4, rfl, hr, hb⟩; have HB1 := Aside0.mk (below_step ((Below.refl _ _).alloc (Nat.le_refl _) _) hb); have BK1 := Aside0.mk (blk_below (MapKept.heap_alloc w (.cells #[.int .i64 0, .int .i64 0, .int .i64 0, .int .i64 0, .int .i64 0, .int .i64 0, .int .i64 0, .int .i64 0, .int .i64 0, .int .i64 0, .slice none 0 0, .int .i64 0, .int .i64 0, .bool false, .slice none 0 0, .string ⟨#[]⟩] 30 (0, 0))).1 hb); have HR1 := Aside0.mk (Kd.R_lower hr (below_size ((Below.refl w.heap.size w).alloc (Nat.le_refl _) _))); clear hr hb; obtain ⟨A4, c4, rfl⟩ := Kd.R_slice HR1.out; obtain ⟨ad4, rfl, s0⟩ := Kd.at_string (Kd.R_reads' HR1.out).2.2 0 (by decide) (by simp); replace s0 : w1.cell? ad4 = some (.string x) := s0) | (go_at_call 31; refine (P.benc_Only.calls x q1 q2 q3 L q5 _ (LaidW.below HL.out HB1.out) HO.out).mono ?_; rintro e w2 ⟨v3_, rfl, hr, hb⟩; have HB2 := Aside0.mk (below_step HB1.out hb); have BK2 := Aside0.mk (blk_below BK1.out hb); have HV2 := Aside0.mk (Kd.R_lower hr HB1.out.size); have HR2 := Aside0.mk (Kd.R_below HR1.out hb); clear hr hb; obtain ⟨Av, cv, rfl⟩ := Kd.R_slice HV2.out; obtain ⟨adx, hadx, s1⟩ := Kd.at_string (Kd.R_reads' HR2.out).2.2 1 (by decide) (by simp); rw [← Option.some.inj hadx] at s1; replace s1 : w2.cell? ⟨ad4.block, ad4.off + 1, none⟩ = some (.string y) := s1; have s1a := Lib.cell?_alloc_some (.cells #[.int .i64 q1, .int .i64 q2, .string q3, .slice Av L.length cv] 49) s1; clear hadx) | ((with_reducible refine gate_store (ty := 30) (x := .tmp 8) rfl ?_); refine ev_store rfl rfl 30 (.tmp 8) _ rfl _ rfl (w2.heap.size + 1) 30 rfl [.int .i64 0, .int .i64 0, .int .i64 0, .int .i64 0, .int .i64 0, .int .i64 0, .int .i64 0, .int .i64 0, .int .i64 0, .int .i64 0, .slice none 0 0, .int .i64 0, .int .i64 0, .bool false, .slice none 0 0, .string y] [.int .i64 0, .int .i64 0, .int .i64 0, .int .i64 0, .int .i64 0, .int .i64 0, .int .i64 0, .int .i64 0, .int .i64 0, .int .i64 0, .slice none 0 0, .int .i64 0, .int .i64 0, .bool false, .slice none 0 0, .string ⟨#[]⟩] rfl rfl (one_mz y) rfl (blk_newn (w2.alloc (.cells #[.int .i64 q1, .int .i64 q2, .string q3, .slice Av L.length cv] 49)) (.cells #[.int .i64 0, .int .i64 0, .int .i64 0, .int .i64 0, .int .i64 0, .int .i64 0, .int .i64 0, .int .i64 0, .int .i64 0, .int .i64 0, .slice none 0 0, .int .i64 0, .int .i64 0, .bool false, .slice none 0 0, .string ⟨#[]⟩] 30) (w2.heap.size + 1) (by simp)) ?_; intro w3 a9 b9; have hb := b9.1 _ _ (below_alloc ((Below.refl w2.heap.size w2).alloc (Nat.le_refl _) (.cells #[.int .i64 q1, .int .i64 q2, .string q3, .slice Av L.length cv] 49)) (.cells #[.int .i64 0, .int .i64 0, .int .i64 0, .int .i64 0, .int .i64 0, .int .i64 0, .int .i64 0, .int .i64 0, .int .i64 0, .int .i64 0, .slice none 0 0, .int .i64 0, .int .i64 0, .bool false, .slice none 0 0, .string ⟨#[]⟩] 30)) (by omega); have BM3 := Aside0.mk a9; have BV3 := Aside0.mk (b9.2 _ _ (by omega) (blk_alloc (blk_new w2 (.cells #[.int .i64 q1, .int .i64 q2, .string q3, .slice Av L.length cv] 49)) (.cells #[.int .i64 0, .int .i64 0, .int .i64 0, .int .i64 0, .int .i64 0, .int .i64 0, .int .i64 0, .int .i64 0, .int .i64 0, .int .i64 0, .slice none 0 0, .int .i64 0, .int .i64 0, .bool false, .slice none 0 0, .string ⟨#[]⟩] 30))); have HB3 := Aside0.mk (below_step HB2.out hb); have BK3 := Aside0.mk (blk_below BK2.out hb); have HV3 := Aside0.mk (Kd.R_below HV2.out hb); clear a9 b9 hb s0 s1 s1a) | (go_at_call 15; refine (numbers_calls _ _).mono ?_; rintro e w4 ⟨g, rfl, hg0, hgb, hb⟩; have HG := Aside0.mk (show w2.heap.size + 1 < g from Nat.lt_of_lt_of_le (blk_lt BM3.out) hg0); have BG4 := Aside0.mk hgb; have HB4 := Aside0.mk (below_step HB3.out hb); have BK4 := Aside0.mk (blk_below BK3.out hb); have BM4 := Aside0.mk (blk_below BM3.out hb); have BV4 := Aside0.mk (blk_below BV3.out hb); have HV4 := Aside0.mk (Kd.R_below HV3.out hb); have v3c := blk_cell BV4.out 3; clear hg0 hgb hb) | ((with_reducible refine gate_store (ty := 30) (x := .tmp 2) rfl ?_); refine ev_store rfl rfl 30 (.tmp 2) _ rfl _ rfl w.heap.size 30 rfl [.int .i64 0, .int .i64 0, .int .i64 0, .int .i64 0, .int .i64 0, .int .i64 0, .int .i64 0, .int .i64 0, .int .i64 0, .int .i64 0, .slice none 0 0, .int .i64 0, .int .i64 0, .bool false, .slice none 0 0, .string ⟨#[]⟩] [.int .i64 0, .int .i64 0, .int .i64 0, .int .i64 0, .int .i64 0, .int .i64 0, .int .i64 0, .int .i64 0, .int .i64 0, .int .i64 0, .slice none 0 0, .int .i64 0, .int .i64 0, .bool false, .slice none 0 0, .string ⟨#[]⟩] rfl rfl (by decide) rfl BK4.out ?_; intro w9 a9 b9; have BK9 := Aside0.mk a9; have HB9 := Aside0.mk (b9.1 _ _ HB4.out (Nat.le_refl _)); clear a9 b9) | fail)
    refine bodyPost_ret (results_ct rfl _ _ w.heap.size 30 #[.int .i64 0, .int .i64 0, .int .i64 0, .int .i64 0, .int .i64 0, .int .i64 0, .int .i64 0, .int .i64 0, .int .i64 0, .int .i64 0, .slice none 0 0, .int .i64 0, .int .i64 0, .bool false, .slice none 0 0, .string ⟨#[]⟩] (0, 0) _ rfl BK9.out Tryd.underlying30 rfl (by kernel_rfl)) rfl ?_
    exact ⟨rfl, HB9.out⟩

  | false =>
    have b2 := b1 hb0
    clear b1
    go_wp2_with (first | (go_at_call 30; refine (frame_All.calls s [x, y] _ _ (LaidW.below HL.out ((Below.refl _ _).alloc (Nat.le_refl _) _)) HA.out).mono ?_; rintro e w1 ⟨v4, rfl, hr, hb⟩; have HB1 := Aside0.mk (below_step ((Below.refl _ _).alloc (Nat.le_refl _) _) hb); have BK1 := Aside0.mk (blk_below (MapKept.heap_alloc w (.cells #[.int .i64 0, .int .i64 0, .int .i64 0, .int .i64 0, .int .i64 0, .int .i64 0, .int .i64 0, .int .i64 0, .int .i64 0, .int .i64 0, .slice none 0 0, .int .i64 0, .int .i64 0, .bool false, .slice none 0 0, .string ⟨#[]⟩] 30 (0, 0))).1 hb); have HR1 := Aside0.mk (Kd.R_lower hr (below_size ((Below.refl w.heap.size w).alloc (Nat.le_refl _) _))); clear hr hb; obtain ⟨A4, c4, rfl⟩ := Kd.R_slice HR1.out; obtain ⟨ad4, rfl, s0⟩ := Kd.at_string (Kd.R_reads' HR1.out).2.2 0 (by decide) (by simp); replace s0 : w1.cell? ad4 = some (.string x) := s0) | (go_at_call 31; refine (P.benc_Only.calls x q1 q2 q3 L q5 _ (LaidW.below HL.out HB1.out) HO.out).mono ?_; rintro e w2 ⟨v3_, rfl, hr, hb⟩; have HB2 := Aside0.mk (below_step HB1.out hb); have BK2 := Aside0.mk (blk_below BK1.out hb); have HV2 := Aside0.mk (Kd.R_lower hr HB1.out.size); have HR2 := Aside0.mk (Kd.R_below HR1.out hb); clear hr hb; obtain ⟨Av, cv, rfl⟩ := Kd.R_slice HV2.out; obtain ⟨adx, hadx, s1⟩ := Kd.at_string (Kd.R_reads' HR2.out).2.2 1 (by decide) (by simp); rw [← Option.some.inj hadx] at s1; replace s1 : w2.cell? ⟨ad4.block, ad4.off + 1, none⟩ = some (.string y) := s1; have s1a := Lib.cell?_alloc_some (.cells #[.int .i64 q1, .int .i64 q2, .string q3, .slice Av L.length cv] 49) s1; clear hadx) | ((with_reducible refine gate_store (ty := 30) (x := .tmp 8) rfl ?_); refine ev_store rfl rfl 30 (.tmp 8) _ rfl _ rfl (w2.heap.size + 1) 30 rfl [.int .i64 0, .int .i64 0, .int .i64 0, .int .i64 0, .int .i64 0, .int .i64 0, .int .i64 0, .int .i64 0, .int .i64 0, .int .i64 0, .slice none 0 0, .int .i64 0, .int .i64 0, .bool false, .slice none 0 0, .string y] [.int .i64 0, .int .i64 0, .int .i64 0, .int .i64 0, .int .i64 0, .int .i64 0, .int .i64 0, .int .i64 0, .int .i64 0, .int .i64 0, .slice none 0 0, .int .i64 0, .int .i64 0, .bool false, .slice none 0 0, .string ⟨#[]⟩] rfl rfl (one_mz y) rfl (blk_newn (w2.alloc (.cells #[.int .i64 q1, .int .i64 q2, .string q3, .slice Av L.length cv] 49)) (.cells #[.int .i64 0, .int .i64 0, .int .i64 0, .int .i64 0, .int .i64 0, .int .i64 0, .int .i64 0, .int .i64 0, .int .i64 0, .int .i64 0, .slice none 0 0, .int .i64 0, .int .i64 0, .bool false, .slice none 0 0, .string ⟨#[]⟩] 30) (w2.heap.size + 1) (by simp)) ?_; intro w3 a9 b9; have hb := b9.1 _ _ (below_alloc ((Below.refl w2.heap.size w2).alloc (Nat.le_refl _) (.cells #[.int .i64 q1, .int .i64 q2, .string q3, .slice Av L.length cv] 49)) (.cells #[.int .i64 0, .int .i64 0, .int .i64 0, .int .i64 0, .int .i64 0, .int .i64 0, .int .i64 0, .int .i64 0, .int .i64 0, .int .i64 0, .slice none 0 0, .int .i64 0, .int .i64 0, .bool false, .slice none 0 0, .string ⟨#[]⟩] 30)) (by omega); have BM3 := Aside0.mk a9; have BV3 := Aside0.mk (b9.2 _ _ (by omega) (blk_alloc (blk_new w2 (.cells #[.int .i64 q1, .int .i64 q2, .string q3, .slice Av L.length cv] 49)) (.cells #[.int .i64 0, .int .i64 0, .int .i64 0, .int .i64 0, .int .i64 0, .int .i64 0, .int .i64 0, .int .i64 0, .int .i64 0, .int .i64 0, .slice none 0 0, .int .i64 0, .int .i64 0, .bool false, .slice none 0 0, .string ⟨#[]⟩] 30))); have HB3 := Aside0.mk (below_step HB2.out hb); have BK3 := Aside0.mk (blk_below BK2.out hb); have HV3 := Aside0.mk (Kd.R_below HV2.out hb); clear a9 b9 hb s0 s1 s1a) | (go_at_call 15; refine (numbers_calls _ _).mono ?_; rintro e w4 ⟨g, rfl, hg0, hgb, hb⟩; have HG := Aside0.mk (show w2.heap.size + 1 < g from Nat.lt_of_lt_of_le (blk_lt BM3.out) hg0); have BG4 := Aside0.mk hgb; have HB4 := Aside0.mk (below_step HB3.out hb); have BK4 := Aside0.mk (blk_below BK3.out hb); have BM4 := Aside0.mk (blk_below BM3.out hb); have BV4 := Aside0.mk (blk_below BV3.out hb); have HV4 := Aside0.mk (Kd.R_below HV3.out hb); have v3c := blk_cell BV4.out 3; clear hg0 hgb hb) | ((with_reducible refine gate_store (ty := 30) (x := .tmp 2) rfl ?_); refine ev_store rfl rfl 30 (.tmp 2) _ rfl _ rfl w.heap.size 30 rfl [.int .i64 0, .int .i64 0, .int .i64 0, .int .i64 0, .int .i64 0, .int .i64 0, .int .i64 0, .int .i64 0, .int .i64 0, .int .i64 0, .slice none 0 0, .int .i64 0, .int .i64 0, .bool false, .slice none 0 0, .string ⟨#[]⟩] [.int .i64 0, .int .i64 0, .int .i64 0, .int .i64 0, .int .i64 0, .int .i64 0, .int .i64 0, .int .i64 0, .int .i64 0, .int .i64 0, .slice none 0 0, .int .i64 0, .int .i64 0, .bool false, .slice none 0 0, .string ⟨#[]⟩] rfl rfl (by decide) rfl BK4.out ?_; intro w9 a9 b9; have BK9 := Aside0.mk a9; have HB9 := Aside0.mk (b9.1 _ _ HB4.out (Nat.le_refl _)); clear a9 b9) | fail)
    refine bodyPost_ret (results_ct rfl _ _ w.heap.size 30 #[.int .i64 0, .int .i64 0, .int .i64 0, .int .i64 0, .int .i64 0, .int .i64 0, .int .i64 0, .int .i64 0, .int .i64 0, .int .i64 0, .slice none 0 0, .int .i64 0, .int .i64 0, .bool false, .slice none 0 0, .string ⟨#[]⟩] (0, 0) _ rfl BK9.out Tryd.underlying30 rfl (by kernel_rfl)) rfl ?_
    exact ⟨rfl, HB9.out⟩
end Go.Proofs.YtlggihnkhimfkaaDoor.Giv
namespace Go.Proofs.YtlggihnkhimfkaaDoor.Giv
open Go.RowKit Go.Lib Go.Proofs.YtlggihnkhimfkaaDoorW.PrintWords Go.Proofs.YtlggihnkhimfkaaDoorW.PrintLast Go.Proofs.YtlggihnkhimfkaaDoorW.PrintMore
set_option linter.unusedVariables false
set_option linter.unusedSimpArgs false
def mB (n : List Int) (y : ByteArray) : Array Value := #[.int .i64 (n.getD 0 0), .int .i64 (n.getD 1 0), .int .i64 (n.getD 2 0), .int .i64 (n.getD 3 0), .int .i64 (n.getD 4 0), .int .i64 (n.getD 5 0), .int .i64 (n.getD 6 0), .int .i64 (n.getD 7 0), .int .i64 (n.getD 8 0), .int .i64 (n.getD 9 0), .slice none 0 0, .int .i64 (n.getD 10 0), .int .i64 0, .bool false, .slice none 0 0, .string y]
theorem mB_cell (n : List Int) (y : ByteArray) (k : Nat) (h : k < 11) : ∃ v, (mB n y)[offN k]? = some v := by
  have : k = 0 ∨ k = 1 ∨ k = 2 ∨ k = 3 ∨ k = 4 ∨ k = 5 ∨ k = 6 ∨ k = 7 ∨ k = 8 ∨ k = 9 ∨ k = 10 := by omega
  rcases this with rfl | rfl | rfl | rfl | rfl | rfl | rfl | rfl | rfl | rfl | rfl <;> exact ⟨_, rfl⟩
theorem list15 {α : Type} (L : List α) (h : L.length = 15) : ∃ y0 y1 y2 y3 y4 y5 y6 y7 y8 y9 y10 y11 y12 y13 y14, L = [y0, y1, y2, y3, y4, y5, y6, y7, y8, y9, y10, y11, y12, y13, y14] := by
  match L, h with
  | [y0, y1, y2, y3, y4, y5, y6, y7, y8, y9, y10, y11, y12, y13, y14], _ => exact ⟨y0, y1, y2, y3, y4, y5, y6, y7, y8, y9, y10, y11, y12, y13, y14, rfl⟩
theorem mB_step (L : List P.S49) (y : ByteArray) (h : L.length = 15) (k : Nat) (hk : k < 11) : (mB ((L.take k).map (·.f1)) y).setIfInBounds (offN k) (.int .i64 (P.rd_T49 L (k : Int)).f1) = mB ((L.take (k + 1)).map (·.f1)) y := by
  obtain ⟨y0, y1, y2, y3, y4, y5, y6, y7, y8, y9, y10, y11, y12, y13, y14, rfl⟩ := list15 L h
  have : k = 0 ∨ k = 1 ∨ k = 2 ∨ k = 3 ∨ k = 4 ∨ k = 5 ∨ k = 6 ∨ k = 7 ∨ k = 8 ∨ k = 9 ∨ k = 10 := by omega
  rcases this with rfl | rfl | rfl | rfl | rfl | rfl | rfl | rfl | rfl | rfl | rfl <;> rfl
theorem R_butg {α : Type} {d : Kd α} {e : Nat} {w w' : World} {base g : Nat} {ok : Nat → Prop} {v : Value} {xs : List α} (h : d.R e w base ok v xs) (hok : ∀ k, ok k → k ≠ g) (hb : But g w w') : d.R e w' base ok v xs :=
  Kd.R_step h (fun k ho hk => (hb.2 k _ (hok k ho) (Array.getElem?_eq_getElem hk)).trans (Array.getElem?_eq_getElem hk).symm)
def pairs : List P.S49 → List P.S52
  | a :: b :: t => ⟨a.f1, b.f1⟩ :: pairs t
  | _ => []
theorem pairs_len : ∀ l : List P.S49, (pairs l).length ≤ l.length
  | [] => by simp [pairs]
  | [a] => by simp [pairs]
  | a :: b :: t => by have := pairs_len t; simp [pairs]; omega
theorem rd_two (a b : P.S49) (t : List P.S49) (i : Nat) : P.rd_T49 (a :: b :: t) ((i + 2 : Nat) : Int) = P.rd_T49 t (i : Int) := by
  unfold P.rd_T49
  rw [Int.toNat_natCast, Int.toNat_natCast]
  rfl
theorem pairs_take : ∀ (l : List P.S49) (i : Nat), i % 2 = 0 → i + 1 < l.length → pairs (l.take (i + 2)) = pairs (l.take i) ++ [⟨(P.rd_T49 l (i : Int)).f1, (P.rd_T49 l ((i + 1 : Nat) : Int)).f1⟩]
  | a :: b :: t, 0, _, _ => by simp [pairs, P.rd_T49]
  | a :: b :: t, i + 2, hm, h => by
    have ih := pairs_take t i (by omega) (by simp at h; omega)
    simp only [List.take_succ_cons, pairs]
    rw [ih, rd_two, show i + 2 + 1 = (i + 1) + 2 by omega, rd_two]
    rfl
  | _, 1, hm, h => by omega
  | [a], i + 2, _, h => by simp at h
  | [a], 0, _, h => by simp at h
  | [], i, _, h => by simp at h
theorem pairs_end : ∀ (l : List P.S49) (i : Nat), i % 2 = 0 → l.length ≤ i + 1 → pairs (l.take i) = pairs l
  | a :: b :: t, 0, _, h => by simp at h
  | a :: b :: t, i + 2, hm, h => by
    have ih := pairs_end t i (by omega) (by simp at h; omega)
    simp only [List.take_succ_cons, pairs]
    rw [ih]
  | _, 1, hm, _ => by omega
  | [a], 0, _, _ => rfl
  | [a], i + 2, _, _ => rfl
  | [], i, _, _ => by simp [pairs]
theorem cells_all {w : World} {g : Nat} {vs : List Value} {t : TypeId} (h : w.heap[g]? = some (.cells vs.toArray t (0, 0))) : ∀ k v, vs[k]? = some v → w.cell? ⟨g, 0 + k, none⟩ = some v := by
  intro k v hv
  rw [Nat.zero_add, blk_cell h, List.getElem?_toArray]
  exact hv
theorem one_mn (n0 n1 n2 n3 n4 n5 n6 n7 n8 n9 n10 er : Int) (b : Bool) (Ao : Option Addr) (m co : Nat) (Ah : Option Addr) (mh ch : Nat) (y : ByteArray) : ∀ v ∈ ([.int .i64 n0, .int .i64 n1, .int .i64 n2, .int .i64 n3, .int .i64 n4, .int .i64 n5, .int .i64 n6, .int .i64 n7, .int .i64 n8, .int .i64 n9, .slice Ao m co, .int .i64 n10, .int .i64 er, .bool b, .slice Ah mh ch, .string y] : List Value), v.oneCell' = true := by
  intro v hv
  simp only [List.mem_cons, List.not_mem_nil, or_false] at hv
  rcases hv with rfl | rfl | rfl | rfl | rfl | rfl | rfl | rfl | rfl | rfl | rfl | rfl | rfl | rfl | rfl | rfl <;> rfl
set_option maxRecDepth 100000 in
set_option maxHeartbeats 8000000 in
theorem take_long (s x y : ByteArray) (q1 q2 : Int) (q3 : ByteArray) (L : List P.S49) (n0 n1 n2 n3 n4 n5 n6 n7 n8 n9 n10 : Int) (V : List P.S49) (er wa : Int) (H : List P.S49) (pt : ByteArray) (pe : Int) (w : World) (hL : LaidW w) (hA : frame_All.f s = some ([x, y], (s.size : Int))) (hO : P.benc_Only.f x = some (q1, q2, q3, L, 0)) (hq : L.length = 15) (hn : (L.take 11).map (·.f1) = [n0, n1, n2, n3, n4, n5, n6, n7, n8, n9, n10])
    (hV : (P.rd_T49 L 11).f3 = V) (hev : (P.rd_T49 L 12).f1 = er) (hwa : (P.rd_T49 L 13).f1 = wa) (hH : (P.rd_T49 L 14).f3 = H) (hVl : V.length ≤ 1000000) (hHl : H.length ≤ 1000000)
    (hP : post_Put.f n0 n1 n2 n3 n4 n5 n6 n7 n8 n9 (V.map (·.f1)) n10 er (wa == 1) (pairs H) y = some (pt, pe)) :
    Calls Tryd.prog 12 #[.string s] w fun e w' => if pe = 0 ∧ pt.toList = s.toList then ∃ v10 v14 : Value, e = .returned (.tuple #[.agg #[.int .i64 n0, .int .i64 n1, .int .i64 n2, .int .i64 n3, .int .i64 n4, .int .i64 n5, .int .i64 n6, .int .i64 n7, .int .i64 n8, .int .i64 n9, v10, .int .i64 n10, .int .i64 er, .bool (wa == 1), v14, .string y], .int .i64 0]) ∧ Kd.R (Kd.int .i64) 3 w' w.heap.size (fun _ => True) v10 (V.map (·.f1)) ∧ Kd.R P.k52 52 w' w.heap.size (fun _ => True) v14 (pairs H) ∧ Below w.heap.size w w' else e = .returned (.tuple #[.agg #[.int .i64 0, .int .i64 0, .int .i64 0, .int .i64 0, .int .i64 0, .int .i64 0, .int .i64 0, .int .i64 0, .int .i64 0, .int .i64 0, .slice none 0 0, .int .i64 0, .int .i64 0, .bool false, .slice none 0 0, .string ⟨#[]⟩], .int .i64 130]) ∧ Below w.heap.size w w' := by
  have HA := Aside0.mk hA
  have HL := Aside0.mk hL
  have HO := Aside0.mk hO
  have HQ := Aside0.mk hq
  have HN := Aside0.mk hn
  have HV := Aside0.mk hV
  have HE := Aside0.mk hev
  have HW := Aside0.mk hwa
  have HH := Aside0.mk hH
  have HVL := Aside0.mk hVl
  have HHL := Aside0.mk hHl
  have HP := Aside0.mk hP
  have b2 : ((L.length : Int) != 15) = false := by simp [hq]
  clear hA hL hO hq hn hV hev hwa hH hVl hHl hP
  go_enter Tryd.func12, Tryd.ntmps12
  go_wp2_with (first | (go_at_call 30; refine (frame_All.calls s [x, y] _ _ (LaidW.below HL.out ((Below.refl _ _).alloc (Nat.le_refl _) _)) HA.out).mono ?_; rintro e w1 ⟨v4, rfl, hr, hb⟩; have HB1 := Aside0.mk (below_step ((Below.refl _ _).alloc (Nat.le_refl _) _) hb); have BK1 := Aside0.mk (blk_below (MapKept.heap_alloc w (.cells #[.int .i64 0, .int .i64 0, .int .i64 0, .int .i64 0, .int .i64 0, .int .i64 0, .int .i64 0, .int .i64 0, .int .i64 0, .int .i64 0, .slice none 0 0, .int .i64 0, .int .i64 0, .bool false, .slice none 0 0, .string ⟨#[]⟩] 30 (0, 0))).1 hb); have HR1 := Aside0.mk (Kd.R_lower hr (below_size ((Below.refl w.heap.size w).alloc (Nat.le_refl _) _))); clear hr hb; obtain ⟨A4, c4, rfl⟩ := Kd.R_slice HR1.out; obtain ⟨ad4, rfl, s0⟩ := Kd.at_string (Kd.R_reads' HR1.out).2.2 0 (by decide) (by simp); replace s0 : w1.cell? ad4 = some (.string x) := s0) | (go_at_call 31; refine (P.benc_Only.calls x q1 q2 q3 L 0 _ (LaidW.below HL.out HB1.out) HO.out).mono ?_; rintro e w2 ⟨v3_, rfl, hr, hb⟩; have HB2 := Aside0.mk (below_step HB1.out hb); have BK2 := Aside0.mk (blk_below BK1.out hb); have HV2 := Aside0.mk (Kd.R_mono (ok' := fun k => k < w2.heap.size) (Kd.R_bound (Kd.R_lower hr HB1.out.size)) (fun k hk => hk.2.2.1)); have HR2 := Aside0.mk (Kd.R_below HR1.out hb); clear hr hb; obtain ⟨Av, cv, rfl⟩ := Kd.R_slice HV2.out; obtain ⟨adx, hadx, s1⟩ := Kd.at_string (Kd.R_reads' HR2.out).2.2 1 (by decide) (by simp); rw [← Option.some.inj hadx] at s1; replace s1 : w2.cell? ⟨ad4.block, ad4.off + 1, none⟩ = some (.string y) := s1; have s1a := Lib.cell?_alloc_some (.cells #[.int .i64 q1, .int .i64 q2, .string q3, .slice Av L.length cv] 49) s1; clear hadx) | ((with_reducible refine gate_store (ty := 30) (x := .tmp 8) rfl ?_); refine ev_store rfl rfl 30 (.tmp 8) _ rfl _ rfl (w2.heap.size + 1) 30 rfl [.int .i64 0, .int .i64 0, .int .i64 0, .int .i64 0, .int .i64 0, .int .i64 0, .int .i64 0, .int .i64 0, .int .i64 0, .int .i64 0, .slice none 0 0, .int .i64 0, .int .i64 0, .bool false, .slice none 0 0, .string y] [.int .i64 0, .int .i64 0, .int .i64 0, .int .i64 0, .int .i64 0, .int .i64 0, .int .i64 0, .int .i64 0, .int .i64 0, .int .i64 0, .slice none 0 0, .int .i64 0, .int .i64 0, .bool false, .slice none 0 0, .string ⟨#[]⟩] rfl rfl (one_mz y) rfl (blk_newn (w2.alloc (.cells #[.int .i64 q1, .int .i64 q2, .string q3, .slice Av L.length cv] 49)) (.cells #[.int .i64 0, .int .i64 0, .int .i64 0, .int .i64 0, .int .i64 0, .int .i64 0, .int .i64 0, .int .i64 0, .int .i64 0, .int .i64 0, .slice none 0 0, .int .i64 0, .int .i64 0, .bool false, .slice none 0 0, .string ⟨#[]⟩] 30) (w2.heap.size + 1) (by simp)) ?_; intro w3 a9 b9; have hb := b9.1 _ _ (below_alloc ((Below.refl w2.heap.size w2).alloc (Nat.le_refl _) (.cells #[.int .i64 q1, .int .i64 q2, .string q3, .slice Av L.length cv] 49)) (.cells #[.int .i64 0, .int .i64 0, .int .i64 0, .int .i64 0, .int .i64 0, .int .i64 0, .int .i64 0, .int .i64 0, .int .i64 0, .int .i64 0, .slice none 0 0, .int .i64 0, .int .i64 0, .bool false, .slice none 0 0, .string ⟨#[]⟩] 30)) (by omega); have BM3 := Aside0.mk a9; have BV3 := Aside0.mk (b9.2 _ _ (by omega) (blk_alloc (blk_new w2 (.cells #[.int .i64 q1, .int .i64 q2, .string q3, .slice Av L.length cv] 49)) (.cells #[.int .i64 0, .int .i64 0, .int .i64 0, .int .i64 0, .int .i64 0, .int .i64 0, .int .i64 0, .int .i64 0, .int .i64 0, .int .i64 0, .slice none 0 0, .int .i64 0, .int .i64 0, .bool false, .slice none 0 0, .string ⟨#[]⟩] 30))); have HX3 := Aside0.mk hb; clear a9 b9 hb s0 s1 s1a) | (go_at_call 15; refine (numbers_calls _ _).mono ?_; rintro e w4 ⟨g, rfl, hg0, hgb, hb⟩; have HG := Aside0.mk (show w2.heap.size + 1 < g from Nat.lt_of_lt_of_le (blk_lt BM3.out) hg0); have BG4 := Aside0.mk hgb; have HX4 := Aside0.mk (below_step HX3.out hb); have BM4 := Aside0.mk (blk_below BM3.out hb); have BV4 := Aside0.mk (blk_below BV3.out hb); have v3c := blk_cell BV4.out 3; clear hg0 hgb hb) | fail)

  have C0 := Kd.R_reads' HV2.out
  have hcv := Aside0.mk (show 15 ≤ cv from by have := C0.2.1; have := HQ.out; omega)
  obtain ⟨ad, A11, c11, rfl, -, -, -, e11, -, C11⟩ := P.at_T49 C0.2.2 11 (by decide) (by have := HQ.out; omega)
  obtain ⟨adx, A12, c12, hax, -, e12, -, -, -, -⟩ := P.at_T49 C0.2.2 12 (by decide) (by have := HQ.out; omega)
  rw [← Option.some.inj hax] at e12
  clear hax
  obtain ⟨ady, A13, c13, hay, -, e13, -, -, -, -⟩ := P.at_T49 C0.2.2 13 (by decide) (by have := HQ.out; omega)
  rw [← Option.some.inj hay] at e13
  clear hay
  obtain ⟨adz, A14, c14, haz, -, -, -, e14, -, C14⟩ := P.at_T49 C0.2.2 14 (by decide) (by have := HQ.out; omega)
  rw [← Option.some.inj haz] at e14
  clear haz adx ady adz C0
  rw [HV.out] at e11 C11
  rw [HE.out] at e12
  rw [HW.out] at e13
  rw [HH.out] at e14 C14
  have D11 := Aside0.mk (show w2.cell? ⟨ad.block, ad.off + 47, none⟩ = some (.slice A11 V.length c11) from e11)
  have D12 := Aside0.mk (show w2.cell? ⟨ad.block, ad.off + 49, none⟩ = some (.int .i64 er) from e12)
  have D13 := Aside0.mk (show w2.cell? ⟨ad.block, ad.off + 53, none⟩ = some (.int .i64 wa) from e13)
  have D14 := Aside0.mk (show w2.cell? ⟨ad.block, ad.off + 59, none⟩ = some (.slice A14 H.length c14) from e14)
  have HC11 := Aside0.mk C11
  have HC14 := Aside0.mk C14
  clear e11 e12 e13 e14 C11 C14

  go_loopw [59] (fun i wr => ∃ k : Nat, k ≤ 11 ∧ i = .int .i64 k ∧ Aside0 (Below w2.heap.size w2 wr) ∧ Aside0 (wr.heap[w2.heap.size]? = some (.cells #[.int .i64 q1, .int .i64 q2, .string q3, .slice (some ad) L.length cv] 49 (0, 0))) ∧ Aside0 (wr.heap[g]? = some (.cells (ptrs (w2.heap.size + 1)) 47 (0, 0))) ∧ Aside0 (wr.heap[w2.heap.size + 1]? = some (.cells (mB ((L.take k).map (·.f1)) y) 30 (0, 0)))) (fun i _ => 11 - (RowKit.intOf i).toNat)
  case atStart => exact ⟨0, by omega, rfl, HX4, BV4, BG4, BM4⟩
  case round =>
    obtain ⟨k, hk, rfl, HX, BV, BG, BM⟩ := hrel
    have v3c := blk_cell BV.out 3
    by_cases hlt : k < 11
    · have c1 : wr.cell? ⟨g, k, none⟩ = some (.pointer (some ⟨w2.heap.size + 1, offN k, none⟩)) := (blk_cell BG.out k).trans (ptrs_at _ _ hlt)
      obtain ⟨v0, hv0⟩ := mB_cell ((L.take k).map (·.f1)) y k hlt
      have c2 := (blk_cell BM.out (offN k)).trans hv0
      have f2 := blk_frozen BM.out (offN k)
      have hlL : (k : Int) < (L.length : Int) := by have := HQ.out; omega
      obtain ⟨adk, A3, c3, hak, -, d1, -, -, -, -⟩ := P.at_T49 (Kd.R_reads' (Kd.R_below HV2.out HX.out)).2.2 (k : Int) (by omega) hlL
      rw [Int.toNat_natCast, ← Option.some.inj hak] at d1
      clear hak
      have HT := Aside0.mk (mB_step L y HQ.out k hlt)
      generalize (P.rd_T49 L (k : Int)).f1 = x1 at *
      clear hv0
      go_wp2_with fail
      go_roundw
      case rel => exact ⟨k + 1, by omega, by go_num, ⟨below_set HX.out (by omega)⟩, ⟨(But.set1 _ _ _ _).2 _ _ (by omega) BV.out⟩, ⟨(But.set1 _ _ _ _).2 _ _ (by have := HG.out; omega) BG.out⟩, ⟨blk_put BM.out _ _ HT.out⟩⟩
      case measure => simp [RowKit.intOf]; omega
    · obtain rfl : k = 11 := by omega
      rw [HN.out] at BM
      replace BM : Aside0 (wr.heap[w2.heap.size + 1]? = some (.cells #[.int .i64 n0, .int .i64 n1, .int .i64 n2, .int .i64 n3, .int .i64 n4, .int .i64 n5, .int .i64 n6, .int .i64 n7, .int .i64 n8, .int .i64 n9, .slice none 0 0, .int .i64 n10, .int .i64 0, .bool false, .slice none 0 0, .string y] 30 (0, 0))) := BM
      clear BG
      have hq := HQ.out
      have hcne : ¬ cv = 11 := by have := hcv.out; omega
      have hcv1 := hcv.out
      have d11 := pw_cell_below HX.out D11.out
      go_wp2_with fail
      clear hq hcne hcv1 d11 v3c b2

      go_loopw [83] (fun i wr => ∃ (k : Nat) (v10 : Value), k ≤ V.length ∧ i = .int .i64 k ∧ Aside0 (Below w2.heap.size w2 wr) ∧ Aside0 (wr.heap[w2.heap.size + 1]? = some (.cells #[.int .i64 n0, .int .i64 n1, .int .i64 n2, .int .i64 n3, .int .i64 n4, .int .i64 n5, .int .i64 n6, .int .i64 n7, .int .i64 n8, .int .i64 n9, v10, .int .i64 n10, .int .i64 0, .bool false, .slice none 0 0, .string y] 30 (0, 0))) ∧ Aside0 (Kd.R (Kd.int .i64) 3 wr w2.heap.size (fun b => b ≠ w2.heap.size + 1) v10 ((V.take k).map (·.f1)))) (fun i _ => V.length - (RowKit.intOf i).toNat)
      case atStart => exact ⟨0, _, by omega, rfl, HX, BM, ⟨by simpa using Kd.R_nil (Kd.int .i64) 3 _ _ _⟩⟩
      case round =>
        clear HX BM BV
        obtain ⟨k, v10, hk, rfl, HX, BM, HR10⟩ := hrel
        by_cases hlt : k < V.length
        · obtain ⟨adk, A3, c3, hak, d0, d1, d2, d3, -, -⟩ := P.at_T49 (Kd.C_below HC11.out HX.out) (k : Int) (by omega) (by omega)
          have exk : P.rd_T49 V (k : Int) = V[k] := by unfold P.rd_T49; simp [hlt]
          rw [Int.toNat_natCast, exk] at d0 d1 d2 d3
          have HT := Aside0.mk (len_take_map V (·.f1) k hlt)
          have HLK := Aside0.mk (show ((V.take k).map (·.f1)).length ≤ 1000000 from by rw [List.length_map, List.length_take]; have := HVL.out; omega)
          obtain ⟨xs, hxs⟩ : ∃ xs, xs = (V.take k).map (·.f1) := ⟨_, rfl⟩
          rw [← hxs] at HR10 HT HLK
          clear exk hxs
          generalize V[k] = p at *
          obtain ⟨x0, x1, x2, x3⟩ := p
          simp only at d0 d1 d2 d3 HT
          subst hak
          obtain ⟨Ao, co, rfl⟩ := Kd.R_slice HR10.out
          have m10 := Lib.cell?_alloc_some (.cells #[.int .i64 x0, .int .i64 x1, .string x2, .slice A3 x3.length c3] 49) (blk_cell BM.out 10)
          have hv_ := HVL.out
          go_wp2_with (at_builtin; refine Kd.R_append (Kd.int .i64) (w0 := w2) (W := wr.alloc (.cells #[.int .i64 x0, .int .i64 x1, .string x2, .slice A3 x3.length c3] 49)) w2.heap.size rfl (.tmp 89) (.tmp 92) 22 3 (.int .i64 0) 8 rfl Tryd.underlying22 info_int0 rfl (by decide) (by omega) (.slice Ao xs.length co) xs x1 [.int .i64 x1] (fun b => b ≠ w2.heap.size + 1) (fun _ => False) rfl ?ax ?aP (fun _ hk => hk.elim) ?aF ?aO ?aB ?aS ?aL ?_; (case ax => (rw [World.size_alloc]; rfl)); (case aP => exact rfl); (case aF => exact (fun k hk => by have := blk_lt BM.out; simp at hk; omega)); (case aO => exact Kd.R_alloc HR10.out _); (case aB => exact below_alloc HX.out _); (case aS => have := HX.out.size; simp; omega); (case aL => have := HLK.out; omega); intro v9 w9 ho hb hg hat; have HO9 := Aside0.mk ho; have HX9 := Aside0.mk hb; have BM9 := Aside0.mk (blk_grown (blk_alloc BM.out _) hg (fun e => HR10.out.1 _ e.symm rfl)); have m10n := blk_cell BM9.out 10; have f10n := blk_frozen BM9.out 10; obtain ⟨An, cn, rfl⟩ := Kd.R_slice ho; clear ho hb hg hat)
          go_roundw
          case rel => exact ⟨_, _, _, _, _, _, _, _, _, _, _, _, _, _, _, ⟨k + 1, _, by omega, by go_num, ⟨below_set HX9.out (by omega)⟩, ⟨blk_put BM9.out 10 _ rfl⟩, ⟨by rw [HT.out]; have h := Kd.R_far (p := ⟨w2.heap.size + 1, 10, none⟩) HO9.out (fun k hk => hk) (.slice An (xs.length + 1) cn); rw [show (xs ++ [x1]).length = xs.length + 1 from by simp] at h; exact h⟩⟩, rfl⟩
          case measure => simp [RowKit.intOf]; omega
        · obtain rfl : k = V.length := by omega
          rw [List.take_length] at HR10
          go_wp2_with fail
          have d12 := pw_cell_below HX.out D12.out
          have d13 := pw_cell_below HX.out D13.out
          have m12 := blk_cell BM.out 12
          have m13 := blk_cell BM.out 13
          have m14 := blk_cell BM.out 14
          have f12 := blk_frozen BM.out 12
          have f13 := blk_frozen BM.out 13
          have f14 := blk_frozen BM.out 14
          go_region_cut (fun w' => w'.cell? ⟨ad.block, ad.off + 49, none⟩ = some (.int .i64 er) ∧ w'.cell? ⟨ad.block, ad.off + 53, none⟩ = some (.int .i64 wa)) (exact ⟨d12, d13⟩) (fail)
          clear d12 d13
          go_wp2_with fail
          obtain ⟨Ao, co, rfl⟩ := Kd.R_slice HR10.out
          obtain ⟨xs, hxs⟩ : ∃ xs, xs = V.map (·.f1) := ⟨_, rfl⟩
          rw [← hxs] at HR10 HP BM
          have HXS := Aside0.mk hxs
          have hglt := blk_lt BM.out
          obtain ⟨S, hS⟩ : ∃ S, S = wr.heap.size := ⟨_, rfl⟩
          have HS0 := Aside0.mk (show w2.heap.size + 1 < S from by rw [hS]; exact hglt)
          have HR0 := Aside0.mk (Kd.R_drew (Kd.R_far (p := ⟨w2.heap.size + 1, 14, none⟩) (Kd.R_far (p := ⟨w2.heap.size + 1, 13, none⟩) (Kd.R_far (p := ⟨w2.heap.size + 1, 12, none⟩) (Kd.R_mono (ok' := fun k => k ≠ w2.heap.size + 1 ∧ k < S) (Kd.R_bound HR10.out) (fun k hk => ⟨hk.1, by rw [hS]; exact hk.2.2.1⟩)) (fun k hk => hk.1) (.int .i64 er)) (fun k hk => hk.1) (.bool (wa == 1))) (fun k hk => hk.1) (.slice none 0 0)))
          have HX0 := Aside0.mk (below_drew (below_set (g := w2.heap.size + 1) (j := 14) (v := .slice none 0 0) (below_set (g := w2.heap.size + 1) (j := 13) (v := .bool (wa == 1)) (below_set (g := w2.heap.size + 1) (j := 12) (v := .int .i64 er) HX.out (by omega)) (by omega)) (by omega)))
          have BM0 := Aside0.mk (blk_drew (blk_put (cs' := #[.int .i64 n0, .int .i64 n1, .int .i64 n2, .int .i64 n3, .int .i64 n4, .int .i64 n5, .int .i64 n6, .int .i64 n7, .int .i64 n8, .int .i64 n9, .slice Ao xs.length co, .int .i64 n10, .int .i64 er, .bool (wa == 1), .slice none 0 0, .string y]) (blk_put (blk_put BM.out 12 (.int .i64 er) rfl) 13 (.bool (wa == 1)) rfl) 14 (.slice none 0 0) rfl))
          have HSZ0 := Aside0.mk (show S ≤ ((((wr.setCell ⟨w2.heap.size + 1, 12, none⟩ (.int .i64 er)).setCell ⟨w2.heap.size + 1, 13, none⟩ (.bool (wa == 1))).setCell ⟨w2.heap.size + 1, 14, none⟩ (.slice none 0 0)).drew).heap.size from by rw [hS]; simp [World.setCell, World.drew])
          clear HX HR10 BM m12 m13 m14 f12 f13 f14 hS hxs hglt
          go_loopw [15] (fun v15 wr => ∃ (i : Nat) (v14 : Value), i ≤ 1000002 ∧ v15 = .int .i64 i ∧ Aside0 (i % 2 = 0 ∧ i ≤ H.length + 1) ∧ Aside0 (Below w2.heap.size w2 wr) ∧ Aside0 (wr.heap[w2.heap.size + 1]? = some (.cells #[.int .i64 n0, .int .i64 n1, .int .i64 n2, .int .i64 n3, .int .i64 n4, .int .i64 n5, .int .i64 n6, .int .i64 n7, .int .i64 n8, .int .i64 n9, .slice Ao xs.length co, .int .i64 n10, .int .i64 er, .bool (wa == 1), v14, .string y] 30 (0, 0))) ∧ Aside0 (Kd.R (Kd.int .i64) 3 wr w2.heap.size (fun k => k ≠ w2.heap.size + 1 ∧ k < S) (.slice Ao xs.length co) xs) ∧ Aside0 (Kd.R P.k52 52 wr w2.heap.size (fun k => S ≤ k) v14 (pairs (H.take i))) ∧ Aside0 (S ≤ wr.heap.size)) (fun v15 _ => 1000004 - (RowKit.intOf v15).toNat)
          case atStart => exact ⟨0, _, by omega, rfl, ⟨rfl, by omega⟩, HX0, BM0, HR0, ⟨by simpa [pairs] using Kd.R_nil P.k52 52 _ _ _⟩, HSZ0⟩
          case round =>
            clear HX0 BM0 HR0 HSZ0
            obtain ⟨i, v14, hi, rfl, HI, HX, BM, HR10, HR14, HSZ⟩ := hrel
            have d14 := pw_cell_below HX.out D14.out
            by_cases hlt : i + 1 < H.length
            · obtain ⟨adh, A3, c3, hadh, -, g1, -, -, -, -⟩ := P.at_T49 HC14.out (i : Int) (by omega) (by omega)
              obtain ⟨adi, A4_, c4_, hadi, -, g2, -, -, -, -⟩ := P.at_T49 HC14.out ((i + 1 : Nat) : Int) (by omega) (by omega)
              rw [hadh] at hadi
              rw [← Option.some.inj hadi] at g2
              rw [Int.toNat_natCast] at g1 g2
              clear hadi
              subst hadh
              have HT := Aside0.mk (pairs_take H i HI.out.1 hlt)
              have HLK := Aside0.mk (show (pairs (H.take i)).length ≤ 1000002 from by have := pairs_len (H.take i); rw [List.length_take] at this; omega)
              obtain ⟨ys, hys⟩ : ∃ ys, ys = pairs (H.take i) := ⟨_, rfl⟩
              rw [← hys] at HR14 HT HLK
              clear hys
              generalize (P.rd_T49 H (i : Int)).f1 = x1 at *
              generalize (P.rd_T49 H ((i + 1 : Nat) : Int)).f1 = x2 at *
              have G1 := Aside0.mk g1
              have G2 := Aside0.mk g2
              clear g1 g2
              have g1 := pw_cell_below HX.out G1.out
              have g2 := pw_cell_below HX.out G2.out
              obtain ⟨Ah, ch, rfl⟩ := Kd.R_slice HR14.out
              have m14 := blk_cell BM.out 14
              have hw1 : IntKind.i64.wrap ((i : Int) + 1) = (i : Int) + 1 := (Go.IntWalk.i64_in ((i : Int) + 1) (And.intro (by omega) (by omega)))
              have h01 : (0 : Int) ≤ (i : Int) + 1 := by omega
              have hlt' : (i : Int) + 1 < (H.length : Int) := by omega
              have hlt2 : (i : Int) < (H.length : Int) := by omega
              go_wp2_with fail
              go_region_cut (fun w' => w'.cell? ⟨w2.heap.size + 1, 14, none⟩ = some (.slice Ah ys.length ch) ∧ w'.cell? ⟨ad.block, ad.off + 59, none⟩ = some (.slice (some adh) H.length c14) ∧ w'.cell? ⟨(adh.add (i * 4)).block, (adh.add (i * 4)).off + 1, none⟩ = some (.int .i64 x1) ∧ w'.cell? ⟨(adh.add ((i + 1) * 4)).block, (adh.add ((i + 1) * 4)).off + 1, none⟩ = some (.int .i64 x2)) (first | exact ⟨m14, d14, g1, g2⟩ | exact ⟨Lib.cell?_alloc_some _ m14, Lib.cell?_alloc_some _ d14, Lib.cell?_alloc_some _ g1, Lib.cell?_alloc_some _ g2⟩ | exact ⟨m14n, pw_cell_below HX9.out D14.out, pw_cell_below HX9.out G1.out, pw_cell_below HX9.out G2.out⟩) ((refine Kd.R_append_step P.k52 (w0 := w2) (W := wr.drew) w2.heap.size (by rfl) (.tmp 120) (.tmp 139) 26 52 (.agg #[.int .i64 0, .int .i64 0]) 16 rfl Tryd.underlying26 P.info52 rfl (by decide) (by decide) (.slice Ah ys.length ch) ys (⟨x1, x2⟩ : P.S52) [.int .i64 x1, .int .i64 x2] (fun k => S ≤ k) (fun _ => False) rfl ?ax (P.k52_mkM _ _ _ _) (fun _ hk => hk.elim) ?aF (Kd.R_drew HR14.out) (below_drew HX.out) HX.out.size ?aL ?_; (case ax => rfl); (case aF => exact (fun k hk => Nat.le_trans HSZ.out hk)); (case aL => have := HLK.out; omega); intro v9 w9 ho hb hg hat; have HO9 := Aside0.mk ho; have HX9 := Aside0.mk hb; have BM9 := Aside0.mk (blk_grown (blk_drew BM.out) hg (fun e => by have := HR14.out.1 _ e.symm; have := HS0.out; omega)); have HR9 := Aside0.mk (Kd.R_grown (Kd.R_drew HR10.out) hg (fun k hk e => by have := HR14.out.1 _ e.symm; omega)); have HSZ9 := Aside0.mk (Nat.le_trans HSZ.out hg.size); have m14n := blk_cell BM9.out 14; have f14n := blk_frozen BM9.out 14; obtain ⟨An, cn, rfl⟩ := Kd.R_slice ho; clear ho hb hg hat))
              clear m14 d14 g1 g2
              go_wp2_with fail
              go_roundw
              case rel => exact ⟨i + 2, _, by have := HHL.out; omega, by simp, ⟨by have := HI.out.1; omega, by omega⟩, ⟨below_set HX9.out (by omega)⟩, ⟨blk_put BM9.out 14 _ rfl⟩, ⟨Kd.R_far (p := ⟨w2.heap.size + 1, 14, none⟩) HR9.out (fun k hk => hk.1) _⟩, ⟨by rw [HT.out]; have h := Kd.R_far (p := ⟨w2.heap.size + 1, 14, none⟩) HO9.out (fun k hk => by have := HS0.out; show k ≠ w2.heap.size + 1; omega) (.slice An (ys.length + 1) cn); rw [show (ys ++ [(⟨x1, x2⟩ : P.S52)]).length = ys.length + 1 from by simp] at h; exact h⟩, ⟨by have := HSZ9.out; simp [World.setCell]; omega⟩⟩
              case measure => simp [RowKit.intOf]; omega
            · have HPE := pairs_end H i HI.out.1 (by omega)
              rw [HPE] at HR14
              obtain ⟨Ah, ch, rfl⟩ := Kd.R_slice HR14.out
              obtain ⟨ys, hys⟩ : ∃ ys, ys = pairs H := ⟨_, rfl⟩
              rw [← hys] at HR14 HP BM
              have HYS := Aside0.mk hys
              have C10 := Aside0.mk (Kd.R_reads' HR10.out)
              have C14 := Aside0.mk (Kd.R_reads' HR14.out)
              clear HPE hys
              have hw1 : IntKind.i64.wrap ((i : Int) + 1) = (i : Int) + 1 := (Go.IntWalk.i64_in ((i : Int) + 1) (And.intro (by omega) (by omega)))
              have hlt' : ¬ (i : Int) + 1 < (H.length : Int) := by omega
              by_cases hpe : pe = 0 ∧ pt.toList = s.toList
              · obtain ⟨rfl, hts⟩ := hpe
                have hp3 : (pt.toList == s.toList) = true := beq_iff_eq.mpr hts
                go_wp2_with (first | ((with_reducible refine gate_dst (N := 144) rfl ?_); refine ev_load rfl 30 (.tmp 8) rfl _ rfl (fun w => by kernel_rfl) (w2.heap.size + 1) 0 rfl [.int .i64 n0, .int .i64 n1, .int .i64 n2, .int .i64 n3, .int .i64 n4, .int .i64 n5, .int .i64 n6, .int .i64 n7, .int .i64 n8, .int .i64 n9, .slice Ao xs.length co, .int .i64 n10, .int .i64 er, .bool (wa == 1), .slice Ah ys.length ch, .string y] (by kernel_rfl) (cells_all BM.out) ?_) | (go_at_call 9; refine (post_Put.calls n0 n1 n2 n3 n4 n5 n6 n7 n8 n9 Ao co xs n10 er (wa == 1) Ah ch ys y _ _ wr (LaidW.below HL.out (below_step HB2.out HX.out)) C10.out.2.2 C10.out.2.1 C14.out.2.2 C14.out.2.1 HP.out).mono ?_; rintro e wp ⟨rfl, hb⟩; have HXP := Aside0.mk (below_step HX.out hb); have BMP := Aside0.mk (blk_below BM.out hb); have HR10P := Aside0.mk (Kd.R_below HR10.out hb); have HR14P := Aside0.mk (Kd.R_below HR14.out hb); have HBP := Aside0.mk (below_step HB2.out HXP.out); have BKP := Aside0.mk (blk_below BK2.out HXP.out); clear hb) | ((with_reducible refine gate_dst (N := 156) rfl ?_); refine ev_load rfl 30 (.tmp 8) rfl _ rfl (fun w => by kernel_rfl) (w2.heap.size + 1) 0 rfl [.int .i64 n0, .int .i64 n1, .int .i64 n2, .int .i64 n3, .int .i64 n4, .int .i64 n5, .int .i64 n6, .int .i64 n7, .int .i64 n8, .int .i64 n9, .slice Ao xs.length co, .int .i64 n10, .int .i64 er, .bool (wa == 1), .slice Ah ys.length ch, .string y] (by kernel_rfl) (cells_all BMP.out) ?_) | ((with_reducible refine gate_store (ty := 30) (x := .tmp 2) rfl ?_); refine ev_store rfl rfl 30 (.tmp 2) _ rfl _ rfl w.heap.size 30 rfl [.int .i64 n0, .int .i64 n1, .int .i64 n2, .int .i64 n3, .int .i64 n4, .int .i64 n5, .int .i64 n6, .int .i64 n7, .int .i64 n8, .int .i64 n9, .slice Ao xs.length co, .int .i64 n10, .int .i64 er, .bool (wa == 1), .slice Ah ys.length ch, .string y] [.int .i64 0, .int .i64 0, .int .i64 0, .int .i64 0, .int .i64 0, .int .i64 0, .int .i64 0, .int .i64 0, .int .i64 0, .int .i64 0, .slice none 0 0, .int .i64 0, .int .i64 0, .bool false, .slice none 0 0, .string ⟨#[]⟩] rfl rfl (one_mn n0 n1 n2 n3 n4 n5 n6 n7 n8 n9 n10 er (wa == 1) Ao xs.length co Ah ys.length ch y) rfl BKP.out ?_; intro w9 a9 b9; have BK9 := Aside0.mk a9; have HB9 := Aside0.mk (b9.1 _ _ HBP.out (Nat.le_refl _)); have HR10F := Aside0.mk (Kd.R_mono (ok' := fun _ => True) (Kd.R_lower (R_butg (Kd.R_bound HR10P.out) (fun k hk => by have := hk.2.1; have := blk_lt BK2.out; omega) b9) HB2.out.size) (fun _ _ => trivial)); have HR14F := Aside0.mk (Kd.R_mono (ok' := fun _ => True) (Kd.R_lower (R_butg (Kd.R_bound HR14P.out) (fun k hk => by have := hk.2.1; have := blk_lt BK2.out; omega) b9) HB2.out.size) (fun _ _ => trivial)); clear a9 b9) | fail)
                refine bodyPost_ret (results_ct rfl _ _ w.heap.size 30 #[.int .i64 n0, .int .i64 n1, .int .i64 n2, .int .i64 n3, .int .i64 n4, .int .i64 n5, .int .i64 n6, .int .i64 n7, .int .i64 n8, .int .i64 n9, .slice Ao xs.length co, .int .i64 n10, .int .i64 er, .bool (wa == 1), .slice Ah ys.length ch, .string y] (0, 0) _ rfl BK9.out Tryd.underlying30 rfl (by kernel_rfl)) rfl ?_
                try rw [if_pos ⟨rfl, hts⟩]
                exact ⟨_, _, rfl, by rw [← HXS.out]; exact HR10F.out, by rw [← HYS.out]; exact HR14F.out, HB9.out⟩
              · cases hp1 : (pe != 0) with
                | true =>
                  go_wp2_with (first | ((with_reducible refine gate_dst (N := 144) rfl ?_); refine ev_load rfl 30 (.tmp 8) rfl _ rfl (fun w => by kernel_rfl) (w2.heap.size + 1) 0 rfl [.int .i64 n0, .int .i64 n1, .int .i64 n2, .int .i64 n3, .int .i64 n4, .int .i64 n5, .int .i64 n6, .int .i64 n7, .int .i64 n8, .int .i64 n9, .slice Ao xs.length co, .int .i64 n10, .int .i64 er, .bool (wa == 1), .slice Ah ys.length ch, .string y] (by kernel_rfl) (cells_all BM.out) ?_) | (go_at_call 9; refine (post_Put.calls n0 n1 n2 n3 n4 n5 n6 n7 n8 n9 Ao co xs n10 er (wa == 1) Ah ch ys y _ _ wr (LaidW.below HL.out (below_step HB2.out HX.out)) C10.out.2.2 C10.out.2.1 C14.out.2.2 C14.out.2.1 HP.out).mono ?_; rintro e wp ⟨rfl, hb⟩; have HXP := Aside0.mk (below_step HX.out hb); have BMP := Aside0.mk (blk_below BM.out hb); have HR10P := Aside0.mk (Kd.R_below HR10.out hb); have HR14P := Aside0.mk (Kd.R_below HR14.out hb); have HBP := Aside0.mk (below_step HB2.out HXP.out); have BKP := Aside0.mk (blk_below BK2.out HXP.out); clear hb) | ((with_reducible refine gate_store (ty := 30) (x := .tmp 2) rfl ?_); refine ev_store rfl rfl 30 (.tmp 2) _ rfl _ rfl w.heap.size 30 rfl [.int .i64 0, .int .i64 0, .int .i64 0, .int .i64 0, .int .i64 0, .int .i64 0, .int .i64 0, .int .i64 0, .int .i64 0, .int .i64 0, .slice none 0 0, .int .i64 0, .int .i64 0, .bool false, .slice none 0 0, .string ⟨#[]⟩] [.int .i64 0, .int .i64 0, .int .i64 0, .int .i64 0, .int .i64 0, .int .i64 0, .int .i64 0, .int .i64 0, .int .i64 0, .int .i64 0, .slice none 0 0, .int .i64 0, .int .i64 0, .bool false, .slice none 0 0, .string ⟨#[]⟩] rfl rfl (by decide) rfl BKP.out ?_; intro w9 a9 b9; have BK9 := Aside0.mk a9; have HB9 := Aside0.mk (b9.1 _ _ HBP.out (Nat.le_refl _)); clear a9 b9) | fail)
                  refine bodyPost_ret (results_ct rfl _ _ w.heap.size 30 #[.int .i64 0, .int .i64 0, .int .i64 0, .int .i64 0, .int .i64 0, .int .i64 0, .int .i64 0, .int .i64 0, .int .i64 0, .int .i64 0, .slice none 0 0, .int .i64 0, .int .i64 0, .bool false, .slice none 0 0, .string ⟨#[]⟩] (0, 0) _ rfl BK9.out Tryd.underlying30 rfl (by kernel_rfl)) rfl ?_
                  try rw [if_neg hpe]
                  exact ⟨rfl, HB9.out⟩
                | false =>
                  have hp2 : ¬ pt.toList = s.toList := fun h => hpe ⟨by simpa using hp1, h⟩
                  have hp3 : (pt.toList == s.toList) = false := beq_eq_false_iff_ne.mpr hp2
                  go_wp2_with (first | ((with_reducible refine gate_dst (N := 144) rfl ?_); refine ev_load rfl 30 (.tmp 8) rfl _ rfl (fun w => by kernel_rfl) (w2.heap.size + 1) 0 rfl [.int .i64 n0, .int .i64 n1, .int .i64 n2, .int .i64 n3, .int .i64 n4, .int .i64 n5, .int .i64 n6, .int .i64 n7, .int .i64 n8, .int .i64 n9, .slice Ao xs.length co, .int .i64 n10, .int .i64 er, .bool (wa == 1), .slice Ah ys.length ch, .string y] (by kernel_rfl) (cells_all BM.out) ?_) | (go_at_call 9; refine (post_Put.calls n0 n1 n2 n3 n4 n5 n6 n7 n8 n9 Ao co xs n10 er (wa == 1) Ah ch ys y _ _ wr (LaidW.below HL.out (below_step HB2.out HX.out)) C10.out.2.2 C10.out.2.1 C14.out.2.2 C14.out.2.1 HP.out).mono ?_; rintro e wp ⟨rfl, hb⟩; have HXP := Aside0.mk (below_step HX.out hb); have BMP := Aside0.mk (blk_below BM.out hb); have HR10P := Aside0.mk (Kd.R_below HR10.out hb); have HR14P := Aside0.mk (Kd.R_below HR14.out hb); have HBP := Aside0.mk (below_step HB2.out HXP.out); have BKP := Aside0.mk (blk_below BK2.out HXP.out); clear hb) | ((with_reducible refine gate_store (ty := 30) (x := .tmp 2) rfl ?_); refine ev_store rfl rfl 30 (.tmp 2) _ rfl _ rfl w.heap.size 30 rfl [.int .i64 0, .int .i64 0, .int .i64 0, .int .i64 0, .int .i64 0, .int .i64 0, .int .i64 0, .int .i64 0, .int .i64 0, .int .i64 0, .slice none 0 0, .int .i64 0, .int .i64 0, .bool false, .slice none 0 0, .string ⟨#[]⟩] [.int .i64 0, .int .i64 0, .int .i64 0, .int .i64 0, .int .i64 0, .int .i64 0, .int .i64 0, .int .i64 0, .int .i64 0, .int .i64 0, .slice none 0 0, .int .i64 0, .int .i64 0, .bool false, .slice none 0 0, .string ⟨#[]⟩] rfl rfl (by decide) rfl BKP.out ?_; intro w9 a9 b9; have BK9 := Aside0.mk a9; have HB9 := Aside0.mk (b9.1 _ _ HBP.out (Nat.le_refl _)); clear a9 b9) | fail)
                  refine bodyPost_ret (results_ct rfl _ _ w.heap.size 30 #[.int .i64 0, .int .i64 0, .int .i64 0, .int .i64 0, .int .i64 0, .int .i64 0, .int .i64 0, .int .i64 0, .int .i64 0, .int .i64 0, .slice none 0 0, .int .i64 0, .int .i64 0, .bool false, .slice none 0 0, .string ⟨#[]⟩] (0, 0) _ rfl BK9.out Tryd.underlying30 rfl (by kernel_rfl)) rfl ?_
                  try rw [if_neg hpe]
                  exact ⟨rfl, HB9.out⟩
end Go.Proofs.YtlggihnkhimfkaaDoor.Giv
namespace Go.Proofs.YtlggihnkhimfkaaDoor.Giv
open Go.RowKit Go.Lib Go.Proofs.YtlggihnkhimfkaaDoorW.PrintWords Go.Proofs.YtlggihnkhimfkaaDoorW.PrintLast Go.Proofs.YtlggihnkhimfkaaDoorW.PrintMore
set_option linter.unusedVariables false
def zeroT : Int × Int × Int × Int × Int × Int × Int × Int × Int × Int × List Int × Int × Int × Bool × List P.S52 × ByteArray × Int := (0, 0, 0, 0, 0, 0, 0, 0, 0, 0, [], 0, 0, false, [], ⟨#[]⟩, 130)
def post_Take.g (y : ByteArray) (L : List P.S49) (s : ByteArray) : Option (Int × Int × Int × Int × Int × Int × Int × Int × Int × Int × List Int × Int × Int × Bool × List P.S52 × ByteArray × Int) :=
  if (P.rd_T49 L 11).f3.length ≤ 1000000 ∧ (P.rd_T49 L 14).f3.length ≤ 1000000 then
    (post_Put.f (P.rd_T49 L 0).f1 (P.rd_T49 L 1).f1 (P.rd_T49 L 2).f1 (P.rd_T49 L 3).f1 (P.rd_T49 L 4).f1 (P.rd_T49 L 5).f1 (P.rd_T49 L 6).f1 (P.rd_T49 L 7).f1 (P.rd_T49 L 8).f1 (P.rd_T49 L 9).f1 ((P.rd_T49 L 11).f3.map (·.f1)) (P.rd_T49 L 10).f1 (P.rd_T49 L 12).f1 ((P.rd_T49 L 13).f1 == 1) (pairs (P.rd_T49 L 14).f3) y).bind fun p => if p.2 = 0 ∧ p.1.toList = s.toList then some ((P.rd_T49 L 0).f1, (P.rd_T49 L 1).f1, (P.rd_T49 L 2).f1, (P.rd_T49 L 3).f1, (P.rd_T49 L 4).f1, (P.rd_T49 L 5).f1, (P.rd_T49 L 6).f1, (P.rd_T49 L 7).f1, (P.rd_T49 L 8).f1, (P.rd_T49 L 9).f1, ((P.rd_T49 L 11).f3.map (·.f1)), (P.rd_T49 L 10).f1, (P.rd_T49 L 12).f1, ((P.rd_T49 L 13).f1 == 1), (pairs (P.rd_T49 L 14).f3), y, 0) else some zeroT
  else none
def post_Take.f (s : ByteArray) : Option (Int × Int × Int × Int × Int × Int × Int × Int × Int × Int × List Int × Int × Int × Bool × List P.S52 × ByteArray × Int) :=
  (frame_All.f s).bind fun p => match p.1 with
    | [x, y] => if p.2 = (s.size : Int) then (P.benc_Only.f x).bind fun q => if q.2.2.2.2 = 0 ∧ q.2.2.2.1.length = 15 then post_Take.g y q.2.2.2.1 s else some zeroT else some zeroT
    | _ => some zeroT
theorem nums_eq (L : List P.S49) (h : L.length = 15) : (L.take 11).map (·.f1) = [(P.rd_T49 L 0).f1, (P.rd_T49 L 1).f1, (P.rd_T49 L 2).f1, (P.rd_T49 L 3).f1, (P.rd_T49 L 4).f1, (P.rd_T49 L 5).f1, (P.rd_T49 L 6).f1, (P.rd_T49 L 7).f1, (P.rd_T49 L 8).f1, (P.rd_T49 L 9).f1, (P.rd_T49 L 10).f1] := by
  obtain ⟨y0, y1, y2, y3, y4, y5, y6, y7, y8, y9, y10, y11, y12, y13, y14, rfl⟩ := list15 L h
  rfl
theorem post_Take.calls (s : ByteArray) (r0 r1 r2 r3 r4 r5 r6 r7 r8 r9 : Int) (r10 : List Int) (r11 r12 : Int) (r13 : Bool) (r14 : List P.S52) (r15 : ByteArray) (r16 : Int) (w : World) (hL : LaidW w) (h : post_Take.f s = some (r0, r1, r2, r3, r4, r5, r6, r7, r8, r9, r10, r11, r12, r13, r14, r15, r16)) :
    Calls Tryd.prog 12 #[.string s] w fun e w' => ∃ v10 v14 : Value, e = .returned (.tuple #[.agg #[.int .i64 r0, .int .i64 r1, .int .i64 r2, .int .i64 r3, .int .i64 r4, .int .i64 r5, .int .i64 r6, .int .i64 r7, .int .i64 r8, .int .i64 r9, v10, .int .i64 r11, .int .i64 r12, .bool r13, v14, .string r15], .int .i64 r16]) ∧ Kd.R (Kd.int .i64) 3 w' w.heap.size (fun _ => True) v10 r10 ∧ Kd.R P.k52 52 w' w.heap.size (fun _ => True) v14 r14 ∧ Below w.heap.size w w' := by
  unfold post_Take.f at h
  obtain ⟨⟨l, n⟩, hA, h⟩ := Option.bind_eq_some_iff.1 h
  have bad : ∀ {e : Ending} {w' : World}, zeroT = (r0, r1, r2, r3, r4, r5, r6, r7, r8, r9, r10, r11, r12, r13, r14, r15, r16) → (e = .returned (.tuple #[.agg #[.int .i64 0, .int .i64 0, .int .i64 0, .int .i64 0, .int .i64 0, .int .i64 0, .int .i64 0, .int .i64 0, .int .i64 0, .int .i64 0, .slice none 0 0, .int .i64 0, .int .i64 0, .bool false, .slice none 0 0, .string ⟨#[]⟩], .int .i64 130]) ∧ Below w.heap.size w w') → ∃ v10 v14 : Value, e = .returned (.tuple #[.agg #[.int .i64 r0, .int .i64 r1, .int .i64 r2, .int .i64 r3, .int .i64 r4, .int .i64 r5, .int .i64 r6, .int .i64 r7, .int .i64 r8, .int .i64 r9, v10, .int .i64 r11, .int .i64 r12, .bool r13, v14, .string r15], .int .i64 r16]) ∧ Kd.R (Kd.int .i64) 3 w' w.heap.size (fun _ => True) v10 r10 ∧ Kd.R P.k52 52 w' w.heap.size (fun _ => True) v14 r14 ∧ Below w.heap.size w w' := by
    intro e w' hz hh
    simp only [zeroT, Prod.mk.injEq] at hz
    obtain ⟨rfl, rfl, rfl, rfl, rfl, rfl, rfl, rfl, rfl, rfl, rfl, rfl, rfl, rfl, rfl, rfl, rfl⟩ := hz
    exact ⟨_, _, hh.1, Kd.R_nil _ _ _ _ _, Kd.R_nil _ _ _ _ _, hh.2⟩
  have short : l.length ≠ 2 ∨ n ≠ (s.size : Int) → some zeroT = some (r0, r1, r2, r3, r4, r5, r6, r7, r8, r9, r10, r11, r12, r13, r14, r15, r16) → _ := fun hs hz => (take_short s l n w hL hA hs).mono (fun e w' hh => bad (Option.some.inj hz) hh)
  match l, hA, h, short with
  | [], hA, h, short => exact short (.inl (by simp)) h
  | [a], hA, h, short => exact short (.inl (by simp)) h
  | a :: b :: c :: t, hA, h, short => exact short (.inl (by simp)) h
  | [x, y], hA, h, short =>
    simp only at h
    by_cases hn : n = (s.size : Int)
    · rw [if_pos hn] at h
      rw [hn] at hA
      obtain ⟨⟨q1, q2, q3, L, q5⟩, hO, h⟩ := Option.bind_eq_some_iff.1 h
      simp only at h
      by_cases h5 : q5 = 0 ∧ L.length = 15
      · rw [if_pos h5] at h
        obtain ⟨rfl, hq⟩ := h5
        unfold post_Take.g at h
        split at h
        · rename_i hb
          obtain ⟨⟨pt, pe⟩, hP, h⟩ := Option.bind_eq_some_iff.1 h
          simp only at h
          refine (take_long s x y q1 q2 q3 L _ _ _ _ _ _ _ _ _ _ _ _ _ _ _ pt pe w hL hA hO hq (nums_eq L hq) rfl rfl rfl rfl hb.1 hb.2 hP).mono ?_
          intro e w' hh
          by_cases hpe : pe = 0 ∧ pt.toList = s.toList
          · rw [if_pos hpe] at h hh
            simp only [Option.some.injEq, Prod.mk.injEq] at h
            obtain ⟨rfl, rfl, rfl, rfl, rfl, rfl, rfl, rfl, rfl, rfl, rfl, rfl, rfl, rfl, rfl, rfl, rfl⟩ := h
            exact hh
          · rw [if_neg hpe] at h hh
            exact bad (Option.some.inj h) hh
        · cases h
      · rw [if_neg h5] at h
        exact (take_odd s x y q1 q2 q3 L q5 w hL hA hO (by by_cases h0 : q5 = 0
                                                           · exact .inr (fun hl => h5 ⟨h0, hl⟩)
                                                           · exact .inl h0)).mono (fun e w' hh => bad (Option.some.inj h) hh)
    · rw [if_neg hn] at h
      exact short (.inr hn) h
end Go.Proofs.YtlggihnkhimfkaaDoor.Giv
