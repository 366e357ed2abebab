-- Written by a program of this session (gprint.py), by the kit's print with given contracts.
import Derived.Test.YtnfjhfhdiknccaaDoorPx0
import Derived.Test.YtnfjhfhdiknccaaDoorPx1
namespace Go.Proofs.YtnfjhfhdiknccaaDoor.P
open Go.RowKit Go.Proofs.YtnfjhfhdiknccaaDoor.Giv Go.Proofs.YtnfjhfhdiknccaaDoorW.PrintWords Go.Proofs.YtnfjhfhdiknccaaDoorW.PrintLast Go.Proofs.YtnfjhfhdiknccaaDoorW.PrintMore
attribute [local go_sem] max2_int min2_int max_two min_two max_three min_three max_four min_four   -- for this text's walks alone
set_option linter.unusedVariables false
set_option linter.unusedSimpArgs false

/-! ### ploverlaw01_GlyphJoins: function 4 -/
mutual
def ploverlaw01_GlyphJoins.j0 : Nat → ByteArray → ByteArray → Int → List ByteArray → Bool → Option (Bool)
  | 0, _, _, _, _, _ => none
  | k + 1, x0, x1, x2, x7, x22 => if x22 = true then ((ploverlaw01_words.f k).bind fun t169 => (some t169)) else ((glyph_Words.f x0).bind fun bt170 => ((glyph_Words.f x1).bind fun bt174 => (if 0 ≤ (Int.tmod (Go.bits .and .i64 x2 65535) 7) then (if (Int.tmod (Go.bits .and .i64 x2 65535) 7) < (x7.length : Int) then (if x0.size + (rdOf ByteArray.empty x7 (Int.tmod (Go.bits .and .i64 x2 65535) 7)).size ≤ 9223372036854775807 then (if (x0 ++ (rdOf ByteArray.empty x7 (Int.tmod (Go.bits .and .i64 x2 65535) 7))).size + x1.size ≤ 9223372036854775807 then ((glyph_Words.f ((x0 ++ (rdOf ByteArray.empty x7 (Int.tmod (Go.bits .and .i64 x2 65535) 7))) ++ x1)).bind fun bt179 => (if bt170.2 = 0 then (ploverlaw01_GlyphJoins.j1 k bt170.1 bt174.1 bt179.1 bt179.2 (bt174.2 != 0)) else (ploverlaw01_GlyphJoins.j1 k bt170.1 bt174.1 bt179.1 bt179.2 true))) else (none)) else (none)) else (none)) else (none))))
def ploverlaw01_GlyphJoins.j1 : Nat → List ByteArray → List ByteArray → List ByteArray → Int → Bool → Option (Bool)
  | 0, _, _, _, _, _ => none
  | k + 1, x8, x10, x12, x13, x53 => if x53 = true then (if x13 = 10 then (if (x12.length : Int) = 0 then ((ploverlaw01_words.f k).bind fun t183 => (some t183)) else (some false)) else (some false)) else (if x13 = 0 then (if (x12.length : Int) = (wrap64 ((x8.length : Int) + (x10.length : Int))) then (if 0 ≤ (x8.length : Int) then (if (x8.length : Int) ≤ (x12.length : Int) then ((ploverref01_Same.f k (x12.take ((x8.length : Int) : Int).toNat) x8).bind fun t188 => (if t188 = true then ((ploverref01_Same.f k (x12.drop ((x8.length : Int) : Int).toNat) x10).bind fun t193 => (if t193 = true then ((ploverlaw01_words.f k).bind fun t194 => (some t194)) else (some false))) else (some false))) else (none)) else (none)) else (some false)) else (some false))
end
def ploverlaw01_GlyphJoins.f (k : Nat) (a0 : ByteArray) (a1 : ByteArray) (a2 : Int) : Option (Bool) := (some (([(⟨#[32]⟩ : ByteArray), (⟨#[9]⟩ : ByteArray), (⟨#[10]⟩ : ByteArray), (⟨#[13]⟩ : ByteArray), (⟨#[194, 160]⟩ : ByteArray), (⟨#[226, 128, 131]⟩ : ByteArray), (⟨#[227, 128, 128]⟩ : ByteArray)] : List ByteArray) : List ByteArray)).bind fun y166 => (if (a0.size : Int) > 2048 then (ploverlaw01_GlyphJoins.j0 k a0 a1 a2 y166 true) else (ploverlaw01_GlyphJoins.j0 k a0 a1 a2 y166 (decide ((a1.size : Int) > 2048))))
theorem ploverlaw01_GlyphJoins.mono_l : ∀ k, (∀ y0 y1 y2 y3 y4, LeO (ploverlaw01_GlyphJoins.j0 k y0 y1 y2 y3 y4) (ploverlaw01_GlyphJoins.j0 (k + 1) y0 y1 y2 y3 y4)) ∧ (∀ y0 y1 y2 y3 y4, LeO (ploverlaw01_GlyphJoins.j1 k y0 y1 y2 y3 y4) (ploverlaw01_GlyphJoins.j1 (k + 1) y0 y1 y2 y3 y4))
  | 0 => ⟨fun _ _ _ _ _ r h => by simp [ploverlaw01_GlyphJoins.j0] at h, fun _ _ _ _ _ r h => by simp [ploverlaw01_GlyphJoins.j1] at h⟩
  | k + 1 => by
    obtain ⟨ih0, ih1⟩ := ploverlaw01_GlyphJoins.mono_l k
    refine ⟨?_, ?_⟩
    · intro y0 y1 y2 y3 y4
      unfold ploverlaw01_GlyphJoins.j0
      repeat' first
      | (with_reducible exact ih0 _ _ _ _ _)
      | (with_reducible exact ih1 _ _ _ _ _)
      | (with_reducible exact ploverlaw01_words.mono _)
      | (with_reducible exact ploverref01_Same.mono _ _ _)
      | (with_reducible exact LeO.refl _)
      | (with_reducible exact LeO.none _)
      | (with_reducible refine LeO.ite ?_ ?_)
      | (with_reducible refine LeO.bind ?_ (fun _ => ?_))
      | exact ih0 _ _ _ _ _
      | exact ih1 _ _ _ _ _
      | exact ploverlaw01_words.mono _
      | exact ploverref01_Same.mono _ _ _
      | exact LeO.none _
      | refine LeO.ite ?_ ?_
      | refine LeO.bind ?_ (fun _ => ?_)
    · intro y0 y1 y2 y3 y4
      unfold ploverlaw01_GlyphJoins.j1
      repeat' first
      | (with_reducible exact ih0 _ _ _ _ _)
      | (with_reducible exact ih1 _ _ _ _ _)
      | (with_reducible exact ploverlaw01_words.mono _)
      | (with_reducible exact ploverref01_Same.mono _ _ _)
      | (with_reducible exact LeO.refl _)
      | (with_reducible exact LeO.none _)
      | (with_reducible refine LeO.ite ?_ ?_)
      | (with_reducible refine LeO.bind ?_ (fun _ => ?_))
      | exact ih0 _ _ _ _ _
      | exact ih1 _ _ _ _ _
      | exact ploverlaw01_words.mono _
      | exact ploverref01_Same.mono _ _ _
      | exact LeO.none _
      | refine LeO.ite ?_ ?_
      | refine LeO.bind ?_ (fun _ => ?_)
theorem ploverlaw01_GlyphJoins.mono : ∀ a0 a1 a2 k, LeO (ploverlaw01_GlyphJoins.f k a0 a1 a2) (ploverlaw01_GlyphJoins.f (k + 1) a0 a1 a2) := by
  intro a0 a1 a2 k
  obtain ⟨ih0, ih1⟩ := ploverlaw01_GlyphJoins.mono_l k
  unfold ploverlaw01_GlyphJoins.f
  repeat' first
      | (with_reducible exact ih0 _ _ _ _ _)
      | (with_reducible exact ih1 _ _ _ _ _)
      | (with_reducible exact ploverlaw01_words.mono _)
      | (with_reducible exact ploverref01_Same.mono _ _ _)
      | (with_reducible exact LeO.refl _)
      | (with_reducible exact LeO.none _)
      | (with_reducible refine LeO.ite ?_ ?_)
      | (with_reducible refine LeO.bind ?_ (fun _ => ?_))
      | exact ih0 _ _ _ _ _
      | exact ih1 _ _ _ _ _
      | exact ploverlaw01_words.mono _
      | exact ploverref01_Same.mono _ _ _
      | exact LeO.none _
      | refine LeO.ite ?_ ?_
      | refine LeO.bind ?_ (fun _ => ?_)
set_option maxHeartbeats 8000000 in
set_option maxRecDepth 100000 in
theorem ploverlaw01_GlyphJoins.calls (k : Nat) (a0 : ByteArray) (a1 : ByteArray) (a2 : Int) (r : Bool) (w : World) (hL : LaidW w) (h : ploverlaw01_GlyphJoins.f k a0 a1 a2 = some r) :
    Calls Tryd.prog 4 #[.string a0, .string a1, .int .i64 a2] w fun e w' => e = .returned (.bool r) ∧ Below w.heap.size w w' := by
  have HB := Aside0.mk (Below.refl w.heap.size w)
  have H : ((some (([(⟨#[32]⟩ : ByteArray), (⟨#[9]⟩ : ByteArray), (⟨#[10]⟩ : ByteArray), (⟨#[13]⟩ : ByteArray), (⟨#[194, 160]⟩ : ByteArray), (⟨#[226, 128, 131]⟩ : ByteArray), (⟨#[227, 128, 128]⟩ : ByteArray)] : List ByteArray) : List ByteArray)).bind fun y166 => (if (a0.size : Int) > 2048 then (ploverlaw01_GlyphJoins.j0 k a0 a1 a2 y166 true) else (ploverlaw01_GlyphJoins.j0 k a0 a1 a2 y166 (decide ((a1.size : Int) > 2048))))) = some r := h
  clear h
  obtain ⟨y166, hy166⟩ : ∃ y_ : List ByteArray, y_ = (([(⟨#[32]⟩ : ByteArray), (⟨#[9]⟩ : ByteArray), (⟨#[10]⟩ : ByteArray), (⟨#[13]⟩ : ByteArray), (⟨#[194, 160]⟩ : ByteArray), (⟨#[226, 128, 131]⟩ : ByteArray), (⟨#[227, 128, 128]⟩ : ByteArray)] : List ByteArray)) := ⟨_, rfl⟩
  replace H : (if (a0.size : Int) > 2048 then (ploverlaw01_GlyphJoins.j0 k a0 a1 a2 y166 true) else (ploverlaw01_GlyphJoins.j0 k a0 a1 a2 y166 (decide ((a1.size : Int) > 2048)))) = some r := by first | (rw [hy166]; with_reducible exact H) | (have H2_ := (Option.bind_some _ _).symm.trans H; rw [hy166]; with_reducible exact H2_) | (have H2_ := (Option.bind_some _ _).symm.trans H; with_reducible exact H2_) | with_reducible exact H | (rw [hy166]; exact H) | exact H
  have Ny166 := Aside0.mk hy166
  clear hy166
  have HC4 := Aside0.mk H
  clear H
  go_enter Tryd.func4, Tryd.ntmps4
  go_upto_region 2 with (first | ((with_reducible refine gate_dst (N := 14) rfl ?_); (try (refine gate_guard (by rfl) ?_; dsimp only)); refine Kd.R_lit Kd.string _ 9 ?hg (N := 14) ?hd (xs := ([(⟨#[32]⟩ : ByteArray), (⟨#[9]⟩ : ByteArray), (⟨#[10]⟩ : ByteArray), (⟨#[13]⟩ : ByteArray), (⟨#[194, 160]⟩ : ByteArray), (⟨#[226, 128, 131]⟩ : ByteArray), (⟨#[227, 128, 128]⟩ : ByteArray)] : List ByteArray)) (inner := [.string (⟨#[32]⟩ : ByteArray), .string (⟨#[9]⟩ : ByteArray), .string (⟨#[10]⟩ : ByteArray), .string (⟨#[13]⟩ : ByteArray), .string (⟨#[194, 160]⟩ : ByteArray), .string (⟨#[226, 128, 131]⟩ : ByteArray), .string (⟨#[227, 128, 128]⟩ : ByteArray)]) (ok := fun _ => True) (okp := fun _ => True) ?hr ?hp (fun _ hk => hk) trivial (Below.refl _ _) (Nat.le_refl _) (by simp) ?_; (case hd => rfl); (case hg => rfl); (case hr => first | (go_simp; done) | (go_simp; rfl)); (case hp => exact (Reps.one (show Kd.M Kd.string _ _ _ (⟨#[32]⟩ : ByteArray) [.string (⟨#[32]⟩ : ByteArray)] from rfl) (Reps.one (show Kd.M Kd.string _ _ _ (⟨#[9]⟩ : ByteArray) [.string (⟨#[9]⟩ : ByteArray)] from rfl) (Reps.one (show Kd.M Kd.string _ _ _ (⟨#[10]⟩ : ByteArray) [.string (⟨#[10]⟩ : ByteArray)] from rfl) (Reps.one (show Kd.M Kd.string _ _ _ (⟨#[13]⟩ : ByteArray) [.string (⟨#[13]⟩ : ByteArray)] from rfl) (Reps.one (show Kd.M Kd.string _ _ _ (⟨#[194, 160]⟩ : ByteArray) [.string (⟨#[194, 160]⟩ : ByteArray)] from rfl) (Reps.one (show Kd.M Kd.string _ _ _ (⟨#[226, 128, 131]⟩ : ByteArray) [.string (⟨#[226, 128, 131]⟩ : ByteArray)] from rfl) (Reps.one (show Kd.M Kd.string _ _ _ (⟨#[227, 128, 128]⟩ : ByteArray) [.string (⟨#[227, 128, 128]⟩ : ByteArray)] from rfl) (Reps.none _ _))))))))); intro v167 w5 ho6 hb hg_ hnew_; clear hg_ hnew_; (first | rw [← Ny166.out] at ho6 | (simp only [Int.reduceToNat] at ho6; rw [← Ny166.out] at ho6)); have n0_ := Aside0.mk (Kd.R_lower ho6 (below_size (by repeat (first | (with_reducible first | exact HB.out | apply below_alloc | apply pw_below_drewN | apply below_drew1) | exact HB.out)))); have n1_ := Aside0.mk (below_step (by repeat (first | (with_reducible first | exact HB.out | apply below_alloc | apply pw_below_drewN | apply below_drew1) | exact HB.out)) hb); clear HB; have HO168 := n0_; have HB := n1_; clear n0_ n1_; clear hb ho6))
  (try simp only [Act.put, List.setIfInBounds_toArray, List.set_cons_zero, List.set_cons_succ])
  go_cut [22] (fun v22 wc => ∃ (kq : Nat) (x22_3 : Bool), v22 = .bool x22_3 ∧ Aside0 (ploverlaw01_GlyphJoins.j0 kq a0 a1 a2 y166 x22_3 = some r) ∧ Aside0 (kq ≤ k) ∧ Aside0 (Kd.R Kd.string 9 wc w.heap.size (fun _ => True) v167 y166) ∧ Aside0 (Below w.heap.size w wc))
  case first =>
    have H := HC4.out
    clear HC4
    by_cases c7 : (a0.size : Int) > 2048
    · rw [if_pos c7] at H
      have c7b0 : decide (2048 < (a0.size : Int)) = true := decide_eq_true c7
      have c7b1 : decide (2048 < a0.size) = true := decide_eq_true (by omega)
      clear c7
      (first | rw [c7b0] | (simp only [i64_w, i32_w]; rw [c7b0]) | skip)
      have H' := Aside0.mk H
      clear H
      go_wp2
      go_meet
      case rel => exact ⟨_, (true), (by first | rfl | (simp; done) | (simp [*]; done)), H', ⟨by first | omega | exact Nat.le_refl _⟩, ⟨by (with_reducible repeat (first | apply Kd.R_alloc | apply Kd.R_drewN | apply Kd.R_drew)); exact HO168.out⟩, ⟨by repeat (first | (with_reducible first | exact HB.out | apply below_alloc | apply pw_below_drewN | apply below_drew1) | exact HB.out)⟩⟩
    · rw [if_neg c7] at H
      have c7b0 : decide (2048 < (a0.size : Int)) = false := decide_eq_false c7
      have c7b1 : decide (2048 < a0.size) = false := decide_eq_false (by omega)
      clear c7
      (first | rw [c7b0] | (simp only [i64_w, i32_w]; rw [c7b0]) | skip)
      have H' := Aside0.mk H
      clear H
      go_wp2
      go_meet
      case rel => exact ⟨_, (decide ((a1.size : Int) > 2048)), (by first | rfl | (simp; done) | (simp [*]; done)), H', ⟨by first | omega | exact Nat.le_refl _⟩, ⟨by (with_reducible repeat (first | apply Kd.R_alloc | apply Kd.R_drewN | apply Kd.R_drew)); exact HO168.out⟩, ⟨by repeat (first | (with_reducible first | exact HB.out | apply below_alloc | apply pw_below_drewN | apply below_drew1) | exact HB.out)⟩⟩
  case rest =>
    clear HC4
    try clear p2
    try clear c4
    try clear c7
    try clear c7b0
    try clear c7b1
    obtain ⟨kq, x22_3, rfl, HA, HJ3, HO_7, HB⟩ := hcut
    cases kq with
    | zero => exact absurd HA.out (by simp [ploverlaw01_GlyphJoins.j0])
    | succ kj3 =>
      have H := HA.out
      clear HA
      simp only [ploverlaw01_GlyphJoins.j0] at H
      by_cases c8 : x22_3 = true
      · subst c8
        have H1 : ((ploverlaw01_words.f kj3).bind fun t169 => (some t169)) = some r := by rw [if_pos rfl] at H; exact H
        clear H
        have H := H1
        clear H1
        replace H := Option.bind_eq_some_iff.mp H
        obtain ⟨t169, A90, H⟩ := H
        replace H : (some t169) = some r := H
        have A9 := Aside0.mk A90
        clear A90
        obtain rfl := Option.some.inj H
        go_wp2_with (first | ((with_reducible refine gate_callee (f := 12) rfl ?_); refine goesL_ (some 23) rfl rfl Tryd.func12 (by kernel_rfl) rfl #[] rfl (by (try simp only [List.map_toArray, List.map_cons, List.map_nil]); first | done | rfl | (simp only [List.length_drop, List.length_take]; rfl)) ?_; (with_reducible refine (ploverlaw01_words.calls kj3  t169 _ (LaidW.below hL (by repeat (first | (with_reducible first | exact HB.out | apply below_alloc | apply pw_below_drewN | apply below_drew1) | exact HB.out))) A9.out).mono ?_); rintro e w10 ⟨rfl, hb⟩; refine ⟨_, rfl, ?_⟩; have n0_ := Aside0.mk (Kd.R_below (by (with_reducible repeat (first | apply Kd.R_alloc | apply Kd.R_drewN | apply Kd.R_drew)); exact HO_7.out) hb); have n1_ := Aside0.mk (below_step (by repeat (first | (with_reducible first | exact HB.out | apply below_alloc | apply pw_below_drewN | apply below_drew1) | exact HB.out)) hb); clear HO_7; clear HB; have HO_7 := n0_; have HB := n1_; clear n0_ n1_; (try clear hb); (try clear hb2); (try clear hk); (try clear hi)))
        go_ret
        exact ⟨by first | rfl | (simp [errW_none, errW_some] <;> rfl) | (simp [*, errW_none, errW_some] <;> rfl), by repeat (first | (with_reducible first | exact HB.out | apply below_alloc | apply pw_below_drewN | apply below_drew1) | exact HB.out)⟩
      · replace c8 := Bool.eq_false_iff.mpr c8
        subst c8
        have H1 : ((glyph_Words.f a0).bind fun bt170 => ((glyph_Words.f a1).bind fun bt174 => (if 0 ≤ (Int.tmod (Go.bits .and .i64 a2 65535) 7) then (if (Int.tmod (Go.bits .and .i64 a2 65535) 7) < (y166.length : Int) then (if a0.size + (rdOf ByteArray.empty y166 (Int.tmod (Go.bits .and .i64 a2 65535) 7)).size ≤ 9223372036854775807 then (if (a0 ++ (rdOf ByteArray.empty y166 (Int.tmod (Go.bits .and .i64 a2 65535) 7))).size + a1.size ≤ 9223372036854775807 then ((glyph_Words.f ((a0 ++ (rdOf ByteArray.empty y166 (Int.tmod (Go.bits .and .i64 a2 65535) 7))) ++ a1)).bind fun bt179 => (if bt170.2 = 0 then (ploverlaw01_GlyphJoins.j1 kj3 bt170.1 bt174.1 bt179.1 bt179.2 (bt174.2 != 0)) else (ploverlaw01_GlyphJoins.j1 kj3 bt170.1 bt174.1 bt179.1 bt179.2 true))) else (none)) else (none)) else (none)) else (none)))) = some r := by rw [if_neg (show ¬ (false = true) by decide)] at H; exact H
        clear H
        have H := H1
        clear H1
        replace H := Option.bind_eq_some_iff.mp H
        obtain ⟨⟨t170, t171⟩, A110, H⟩ := H
        replace H : ((glyph_Words.f a1).bind fun bt174 => (if 0 ≤ (Int.tmod (Go.bits .and .i64 a2 65535) 7) then (if (Int.tmod (Go.bits .and .i64 a2 65535) 7) < (y166.length : Int) then (if a0.size + (rdOf ByteArray.empty y166 (Int.tmod (Go.bits .and .i64 a2 65535) 7)).size ≤ 9223372036854775807 then (if (a0 ++ (rdOf ByteArray.empty y166 (Int.tmod (Go.bits .and .i64 a2 65535) 7))).size + a1.size ≤ 9223372036854775807 then ((glyph_Words.f ((a0 ++ (rdOf ByteArray.empty y166 (Int.tmod (Go.bits .and .i64 a2 65535) 7))) ++ a1)).bind fun bt179 => (if t171 = 0 then (ploverlaw01_GlyphJoins.j1 kj3 t170 bt174.1 bt179.1 bt179.2 (bt174.2 != 0)) else (ploverlaw01_GlyphJoins.j1 kj3 t170 bt174.1 bt179.1 bt179.2 true))) else (none)) else (none)) else (none)) else (none))) = some r := H
        have A11 := Aside0.mk A110
        clear A110
        replace H := Option.bind_eq_some_iff.mp H
        obtain ⟨⟨t174, t175⟩, A120, H⟩ := H
        replace H : (if 0 ≤ (Int.tmod (Go.bits .and .i64 a2 65535) 7) then (if (Int.tmod (Go.bits .and .i64 a2 65535) 7) < (y166.length : Int) then (if a0.size + (rdOf ByteArray.empty y166 (Int.tmod (Go.bits .and .i64 a2 65535) 7)).size ≤ 9223372036854775807 then (if (a0 ++ (rdOf ByteArray.empty y166 (Int.tmod (Go.bits .and .i64 a2 65535) 7))).size + a1.size ≤ 9223372036854775807 then ((glyph_Words.f ((a0 ++ (rdOf ByteArray.empty y166 (Int.tmod (Go.bits .and .i64 a2 65535) 7))) ++ a1)).bind fun bt179 => (if t171 = 0 then (ploverlaw01_GlyphJoins.j1 kj3 t170 t174 bt179.1 bt179.2 (t175 != 0)) else (ploverlaw01_GlyphJoins.j1 kj3 t170 t174 bt179.1 bt179.2 true))) else (none)) else (none)) else (none)) else (none)) = some r := H
        have A12 := Aside0.mk A120
        clear A120
        obtain ⟨ji13, hji13⟩ : ∃ j_ : Int, (Int.tmod (Go.bits .and .i64 a2 65535) 7) = j_ := ⟨_, rfl⟩
        replace H : (if 0 ≤ (ji13) then (if (ji13) < (y166.length : Int) then (if a0.size + (rdOf ByteArray.empty y166 (ji13)).size ≤ 9223372036854775807 then (if (a0 ++ (rdOf ByteArray.empty y166 (ji13))).size + a1.size ≤ 9223372036854775807 then ((glyph_Words.f ((a0 ++ (rdOf ByteArray.empty y166 (ji13))) ++ a1)).bind fun bt179 => (if t171 = 0 then (ploverlaw01_GlyphJoins.j1 kj3 t170 t174 bt179.1 bt179.2 (t175 != 0)) else (ploverlaw01_GlyphJoins.j1 kj3 t170 t174 bt179.1 bt179.2 true))) else (none)) else (none)) else (none)) else (none)) = some r := by first | (rw [hji13] at H; exact H) | (simp only [hji13] at H ⊢; exact H)
        (try rw [hji13] at A11)
        (try rw [hji13] at A12)
        by_cases c14 : 0 ≤ (ji13)
        · rw [if_pos c14] at H
          have c14b0 : decide (0 ≤ (ji13)) = true := decide_eq_true c14
          clear c14
          by_cases c15 : (ji13) < (y166.length : Int)
          · rw [if_pos c15] at H
            have c15b0 : decide ((ji13) < (y166.length : Int)) = true := decide_eq_true c15
            clear c15
            by_cases c16 : a0.size + (rdOf ByteArray.empty y166 (ji13)).size ≤ 9223372036854775807
            · rw [if_pos c16] at H
              have c16b0 := eq_true c16
              have c16b1 : decide (a0.size + (rdOf ByteArray.empty y166 (ji13)).size ≤ 9223372036854775807) = true := decide_eq_true c16
              try have c16b2 : (9223372036854775807 < a0.size + (rdOf ByteArray.empty y166 (ji13)).size) = False := eq_false (Nat.not_lt.2 c16)
              by_cases c17 : (a0 ++ (rdOf ByteArray.empty y166 (ji13))).size + a1.size ≤ 9223372036854775807
              · rw [if_pos c17] at H
                have c17b0 := eq_true c17
                have c17b1 : decide ((a0 ++ (rdOf ByteArray.empty y166 (ji13))).size + a1.size ≤ 9223372036854775807) = true := decide_eq_true c17
                try have c17b2 : (9223372036854775807 < (a0 ++ (rdOf ByteArray.empty y166 (ji13))).size + a1.size) = False := eq_false (Nat.not_lt.2 c17)
                replace H := Option.bind_eq_some_iff.mp H
                obtain ⟨⟨t179, t180⟩, A180, H⟩ := H
                replace H : (if t171 = 0 then (ploverlaw01_GlyphJoins.j1 kj3 t170 t174 t179 t180 (t175 != 0)) else (ploverlaw01_GlyphJoins.j1 kj3 t170 t174 t179 t180 true)) = some r := H
                have A18 := Aside0.mk A180
                clear A180
                have HC19 := Aside0.mk H
                clear H
                go_upto_region 7 with (first | ((with_reducible refine gate_callee (f := 13) rfl ?_); refine goesL_ (some 26) rfl rfl Tryd.func13 (by kernel_rfl) rfl #[.string a0] rfl (by (try simp only [List.map_toArray, List.map_cons, List.map_nil]); first | done | rfl | (simp only [List.length_drop, List.length_take]; rfl)) ?_; (with_reducible refine (glyph_Words.calls a0 t170 t171 _ (LaidW.below hL (by repeat (first | (with_reducible first | exact HB.out | apply below_alloc | apply pw_below_drewN | apply below_drew1) | exact HB.out))) A11.out).mono ?_); rintro e w20 ⟨v172, rfl, ho0, hb⟩; refine ⟨_, rfl, ?_⟩; have n0_ := Aside0.mk (Kd.R_elder' (by (with_reducible repeat (first | apply Kd.R_alloc | apply Kd.R_drewN | apply Kd.R_drew)); exact HO_7.out) (Kd.R_base ho0) hb); have n1_ := Aside0.mk (Kd.R_lower (Kd.R_new' ho0 (Kd.R_lt (by (with_reducible repeat (first | apply Kd.R_alloc | apply Kd.R_drewN | apply Kd.R_drew)); exact HO_7.out))) (below_size (by repeat (first | (with_reducible first | exact HB.out | apply below_alloc | apply pw_below_drewN | apply below_drew1) | exact HB.out)))); have n2_ := Aside0.mk (below_step (by repeat (first | (with_reducible first | exact HB.out | apply below_alloc | apply pw_below_drewN | apply below_drew1) | exact HB.out)) hb); clear HO_7; clear HB; have HO_7 := n0_; have HO173 := n1_; have HB := n2_; clear n0_ n1_ n2_; (try clear hb); (try clear hb2); (try clear hk); (try clear hi); (try clear ho0)) | ((with_reducible refine gate_callee (f := 13) rfl ?_); refine goesL_ (some 31) rfl rfl Tryd.func13 (by kernel_rfl) rfl #[.string a1] rfl (by (try simp only [List.map_toArray, List.map_cons, List.map_nil]); first | done | rfl | (simp only [List.length_drop, List.length_take]; rfl)) ?_; (with_reducible refine (glyph_Words.calls a1 t174 t175 _ (LaidW.below hL (by repeat (first | (with_reducible first | exact HB.out | apply below_alloc | apply pw_below_drewN | apply below_drew1) | exact HB.out))) A12.out).mono ?_); rintro e w21 ⟨v176, rfl, ho0, hb⟩; refine ⟨_, rfl, ?_⟩; have n0_ := Aside0.mk (Kd.R_elder' (by (with_reducible repeat (first | apply Kd.R_alloc | apply Kd.R_drewN | apply Kd.R_drew)); exact HO_7.out) (Kd.R_base ho0) hb); have n1_ := Aside0.mk (Kd.R_elder' (by (with_reducible repeat (first | apply Kd.R_alloc | apply Kd.R_drewN | apply Kd.R_drew)); exact HO173.out) (Kd.R_base ho0) hb); have n2_ := Aside0.mk (Kd.R_lower (Kd.R_new' (Kd.R_new' ho0 (Kd.R_lt (by (with_reducible repeat (first | apply Kd.R_alloc | apply Kd.R_drewN | apply Kd.R_drew)); exact HO_7.out))) (Kd.R_lt (by (with_reducible repeat (first | apply Kd.R_alloc | apply Kd.R_drewN | apply Kd.R_drew)); exact HO173.out))) (below_size (by repeat (first | (with_reducible first | exact HB.out | apply below_alloc | apply pw_below_drewN | apply below_drew1) | exact HB.out)))); have n3_ := Aside0.mk (below_step (by repeat (first | (with_reducible first | exact HB.out | apply below_alloc | apply pw_below_drewN | apply below_drew1) | exact HB.out)) hb); clear HO_7; clear HO173; clear HB; have HO_7 := n0_; have HO173 := n1_; have HO177 := n2_; have HB := n3_; clear n0_ n1_ n2_ n3_; (try clear hb); (try clear hb2); (try clear hk); (try clear hi); (try clear ho0); obtain ⟨Ao22, co22, eo22⟩ := Kd.R_slice HO_7.out; subst eo22; have p178 : 0 ≤ ((ji13) : Int) := of_decide_eq_true (by first | (with_reducible assumption) | assumption); have q178 : (ji13) < (y166.length : Int) := of_decide_eq_true (by first | (with_reducible assumption) | assumption); obtain ⟨ad178, e178, hx178_0⟩ := Kd.at_string (Kd.R_reads' HO_7.out).2.2 (ji13) p178 q178; cases e178; replace p178 := eq_true p178; replace q178 := eq_true q178) | ((with_reducible refine gate_callee (f := 13) rfl ?_); refine goesL_ (some 45) rfl rfl Tryd.func13 (by kernel_rfl) rfl #[.string ((a0 ++ (rdOf ByteArray.empty y166 (ji13))) ++ a1)] rfl (by (try simp only [List.map_toArray, List.map_cons, List.map_nil]); first | done | (simp only [hji13]; rfl) | rfl | (simp only [List.length_drop, List.length_take]; rfl)) ?_; (with_reducible refine (glyph_Words.calls ((a0 ++ (rdOf ByteArray.empty y166 (ji13))) ++ a1) t179 t180 _ (LaidW.below hL (by repeat (first | (with_reducible first | exact HB.out | apply below_alloc | apply pw_below_drewN | apply below_drew1) | exact HB.out))) A18.out).mono ?_); rintro e w23 ⟨v181, rfl, ho0, hb⟩; refine ⟨_, rfl, ?_⟩; have n0_ := Aside0.mk (Kd.R_elder' (by (with_reducible repeat (first | apply Kd.R_alloc | apply Kd.R_drewN | apply Kd.R_drew)); exact HO_7.out) (Kd.R_base ho0) hb); have n1_ := Aside0.mk (Kd.R_elder' (by (with_reducible repeat (first | apply Kd.R_alloc | apply Kd.R_drewN | apply Kd.R_drew)); exact HO173.out) (Kd.R_base ho0) hb); have n2_ := Aside0.mk (Kd.R_elder' (by (with_reducible repeat (first | apply Kd.R_alloc | apply Kd.R_drewN | apply Kd.R_drew)); exact HO177.out) (Kd.R_base ho0) hb); have n3_ := Aside0.mk (Kd.R_lower (Kd.R_new' (Kd.R_new' (Kd.R_new' ho0 (Kd.R_lt (by (with_reducible repeat (first | apply Kd.R_alloc | apply Kd.R_drewN | apply Kd.R_drew)); exact HO_7.out))) (Kd.R_lt (by (with_reducible repeat (first | apply Kd.R_alloc | apply Kd.R_drewN | apply Kd.R_drew)); exact HO173.out))) (Kd.R_lt (by (with_reducible repeat (first | apply Kd.R_alloc | apply Kd.R_drewN | apply Kd.R_drew)); exact HO177.out))) (below_size (by repeat (first | (with_reducible first | exact HB.out | apply below_alloc | apply pw_below_drewN | apply below_drew1) | exact HB.out)))); have n4_ := Aside0.mk (below_step (by repeat (first | (with_reducible first | exact HB.out | apply below_alloc | apply pw_below_drewN | apply below_drew1) | exact HB.out)) hb); clear HO_7; clear HO173; clear HO177; clear HB; have HO_7 := n0_; have HO173 := n1_; have HO177 := n2_; have HO182 := n3_; have HB := n4_; clear n0_ n1_ n2_ n3_ n4_; (try clear hb); (try clear hb2); (try clear hk); (try clear hi); (try clear ho0)))
                (try simp only [Act.put, List.setIfInBounds_toArray, List.set_cons_zero, List.set_cons_succ])
                go_cut [53] (fun v53 wc => ∃ (kq : Nat) (x53_18 : Bool), v53 = .bool x53_18 ∧ Aside0 (ploverlaw01_GlyphJoins.j1 kq t170 t174 t179 t180 x53_18 = some r) ∧ Aside0 (kq ≤ kj3) ∧ Aside0 (Kd.R Kd.string 9 wc w.heap.size (fun k_ => some k_ ≠ (v176 : Value).ownBlock ∧ some k_ ≠ (v181 : Value).ownBlock) v172 t170) ∧ Aside0 (Kd.R Kd.string 9 wc w.heap.size (fun k_ => some k_ ≠ (v172 : Value).ownBlock ∧ some k_ ≠ (v181 : Value).ownBlock) v176 t174) ∧ Aside0 (Kd.R Kd.string 9 wc w.heap.size (fun k_ => some k_ ≠ (v172 : Value).ownBlock ∧ some k_ ≠ (v176 : Value).ownBlock) v181 t179) ∧ Aside0 (Below w.heap.size w wc))
                case first =>
                  have H := HC19.out
                  clear HC19
                  by_cases c24 : t171 = 0
                  · rw [if_pos c24] at H
                    have c24b0 : (t171 == 0) = true := beq_iff_eq.mpr c24
                    have c24b1 : (t171 != 0) = false := bne_eq_false_iff_eq.mpr c24
                    clear c24
                    (first | rw [c24b0] | (simp only [i64_w, i32_w]; rw [c24b0]) | skip)
                    have H' := Aside0.mk H
                    clear H
                    go_wp2
                    go_meet
                    case rel => exact ⟨_, ((t175 != 0)), (by first | rfl | (simp; done) | (simp [*]; done)), H', ⟨by have := HJ3.out; first | omega | exact Nat.le_refl _⟩, ⟨by (with_reducible repeat (first | apply Kd.R_alloc | apply Kd.R_drewN | apply Kd.R_drew)); exact Kd.R_mono HO173.out (fun _ hk => ⟨hk.1.2, hk.2⟩)⟩, ⟨by (with_reducible repeat (first | apply Kd.R_alloc | apply Kd.R_drewN | apply Kd.R_drew)); exact Kd.R_mono HO177.out (fun _ hk => ⟨hk.1.2, hk.2⟩)⟩, ⟨by (with_reducible repeat (first | apply Kd.R_alloc | apply Kd.R_drewN | apply Kd.R_drew)); exact Kd.R_mono HO182.out (fun _ hk => ⟨hk.1.2, hk.2⟩)⟩, ⟨by repeat (first | (with_reducible first | exact HB.out | apply below_alloc | apply pw_below_drewN | apply below_drew1) | exact HB.out)⟩⟩
                  · rw [if_neg c24] at H
                    have c24b0 : (t171 == 0) = false := beq_eq_false_iff_ne.mpr c24
                    have c24b1 : (t171 != 0) = true := bne_iff_ne.mpr c24
                    (first | rw [c24b0] | (simp only [i64_w, i32_w]; rw [c24b0]) | skip)
                    have H' := Aside0.mk H
                    clear H
                    go_wp2
                    go_meet
                    case rel => exact ⟨_, (true), (by first | rfl | (simp; done) | (simp [*]; done)), H', ⟨by have := HJ3.out; first | omega | exact Nat.le_refl _⟩, ⟨by (with_reducible repeat (first | apply Kd.R_alloc | apply Kd.R_drewN | apply Kd.R_drew)); exact Kd.R_mono HO173.out (fun _ hk => ⟨hk.1.2, hk.2⟩)⟩, ⟨by (with_reducible repeat (first | apply Kd.R_alloc | apply Kd.R_drewN | apply Kd.R_drew)); exact Kd.R_mono HO177.out (fun _ hk => ⟨hk.1.2, hk.2⟩)⟩, ⟨by (with_reducible repeat (first | apply Kd.R_alloc | apply Kd.R_drewN | apply Kd.R_drew)); exact Kd.R_mono HO182.out (fun _ hk => ⟨hk.1.2, hk.2⟩)⟩, ⟨by repeat (first | (with_reducible first | exact HB.out | apply below_alloc | apply pw_below_drewN | apply below_drew1) | exact HB.out)⟩⟩
                case rest =>
                  clear HC19
                  try clear c1
                  try clear p1
                  try clear q1
                  try clear hx1
                  try clear c2
                  try clear p2
                  try clear c4
                  try clear c7
                  try clear c7b0
                  try clear c7b1
                  try clear c8
                  try clear c12
                  try clear c13
                  try clear c14
                  try clear c14b0
                  try clear c15
                  try clear c15b0
                  try clear c16
                  try clear c16b0
                  try clear c16b1
                  try clear c16b2
                  try clear c17
                  try clear c17b0
                  try clear c17b1
                  try clear c17b2
                  try clear p17
                  try clear q17
                  try clear hx17
                  try clear c24
                  try clear c24b0
                  try clear c24b1
                  try clear hx178_0
                  try clear p178
                  try clear p2
                  try clear q178
                  obtain ⟨kq, x53_18, rfl, HA, HJ18, HO_8, HO_10, HO_12, HB⟩ := hcut
                  cases kq with
                  | zero => exact absurd HA.out (by simp [ploverlaw01_GlyphJoins.j1])
                  | succ kj18 =>
                    have H := HA.out
                    clear HA
                    simp only [ploverlaw01_GlyphJoins.j1] at H
                    by_cases c25 : x53_18 = true
                    · subst c25
                      have H1 : (if t180 = 10 then (if (t179.length : Int) = 0 then ((ploverlaw01_words.f kj18).bind fun t183 => (some t183)) else (some false)) else (some false)) = some r := by rw [if_pos rfl] at H; exact H
                      clear H
                      have H := H1
                      clear H1
                      by_cases c26 : t180 = 10
                      · rw [if_pos c26] at H
                        have c26b0 : (t180 == 10) = true := beq_iff_eq.mpr c26
                        have c26b1 : (t180 != 10) = false := bne_eq_false_iff_eq.mpr c26
                        clear c26
                        by_cases c27 : (t179.length : Int) = 0
                        · rw [if_pos c27] at H
                          have c27b0 : ((t179.length : Int) == 0) = true := beq_iff_eq.mpr c27
                          have c27b1 : ((t179.length : Int) != 0) = false := bne_eq_false_iff_eq.mpr c27
                          clear c27
                          replace H := Option.bind_eq_some_iff.mp H
                          obtain ⟨t183, A280, H⟩ := H
                          replace H : (some t183) = some r := H
                          have A28 := Aside0.mk A280
                          clear A280
                          obtain rfl := Option.some.inj H
                          obtain ⟨Ao29, co29, eo29⟩ := Kd.R_slice HO_12.out
                          subst eo29
                          go_wp2_with (first | (go_at_call 12; (with_reducible refine (ploverlaw01_words.calls kj18  t183 _ (LaidW.below hL (by repeat (first | (with_reducible first | exact HB.out | apply below_alloc | apply pw_below_drewN | apply below_drew1) | exact HB.out))) A28.out).mono ?_); rintro e w30 ⟨rfl, hb⟩; have n0_ := Aside0.mk (Kd.R_below (by (with_reducible repeat (first | apply Kd.R_alloc | apply Kd.R_drewN | apply Kd.R_drew)); exact HO_8.out) hb); have n1_ := Aside0.mk (Kd.R_below (by (with_reducible repeat (first | apply Kd.R_alloc | apply Kd.R_drewN | apply Kd.R_drew)); exact HO_10.out) hb); have n2_ := Aside0.mk (Kd.R_below (by (with_reducible repeat (first | apply Kd.R_alloc | apply Kd.R_drewN | apply Kd.R_drew)); exact HO_12.out) hb); have n3_ := Aside0.mk (below_step (by repeat (first | (with_reducible first | exact HB.out | apply below_alloc | apply pw_below_drewN | apply below_drew1) | exact HB.out)) hb); clear HO_8; clear HO_10; clear HO_12; clear HB; have HO_8 := n0_; have HO_10 := n1_; have HO_12 := n2_; have HB := n3_; clear n0_ n1_ n2_ n3_; (try clear hb); (try clear hb2); (try clear hk); (try clear hi)))
                          go_ret
                          exact ⟨by first | rfl | (simp [errW_none, errW_some] <;> rfl) | (simp only [← hji13]; first | rfl | (simp [errW_none, errW_some] <;> rfl)) | (simp [*, errW_none, errW_some] <;> rfl), by repeat (first | (with_reducible first | exact HB.out | apply below_alloc | apply pw_below_drewN | apply below_drew1) | exact HB.out)⟩
                        · rw [if_neg c27] at H
                          have c27b0 : ((t179.length : Int) == 0) = false := beq_eq_false_iff_ne.mpr c27
                          have c27b1 : ((t179.length : Int) != 0) = true := bne_iff_ne.mpr c27
                          have c27b2 : ¬ (t179 = []) := fun h_ => c27 (by rw [h_]; rfl)
                          obtain rfl := Option.some.inj H
                          obtain ⟨Ao31, co31, eo31⟩ := Kd.R_slice HO_12.out
                          subst eo31
                          go_wp2
                          go_ret
                          exact ⟨by first | rfl | (simp [errW_none, errW_some] <;> rfl) | (simp only [← hji13]; first | rfl | (simp [errW_none, errW_some] <;> rfl)) | (simp [*, errW_none, errW_some] <;> rfl), by repeat (first | (with_reducible first | exact HB.out | apply below_alloc | apply pw_below_drewN | apply below_drew1) | exact HB.out)⟩
                      · rw [if_neg c26] at H
                        have c26b0 : (t180 == 10) = false := beq_eq_false_iff_ne.mpr c26
                        have c26b1 : (t180 != 10) = true := bne_iff_ne.mpr c26
                        obtain rfl := Option.some.inj H
                        go_wp2
                        go_ret
                        exact ⟨by first | rfl | (simp [errW_none, errW_some] <;> rfl) | (simp only [← hji13]; first | rfl | (simp [errW_none, errW_some] <;> rfl)) | (simp [*, errW_none, errW_some] <;> rfl), by repeat (first | (with_reducible first | exact HB.out | apply below_alloc | apply pw_below_drewN | apply below_drew1) | exact HB.out)⟩
                    · replace c25 := Bool.eq_false_iff.mpr c25
                      subst c25
                      have H1 : (if t180 = 0 then (if (t179.length : Int) = (wrap64 ((t170.length : Int) + (t174.length : Int))) then (if 0 ≤ (t170.length : Int) then (if (t170.length : Int) ≤ (t179.length : Int) then ((ploverref01_Same.f kj18 (t179.take ((t170.length : Int) : Int).toNat) t170).bind fun t188 => (if t188 = true then ((ploverref01_Same.f kj18 (t179.drop ((t170.length : Int) : Int).toNat) t174).bind fun t193 => (if t193 = true then ((ploverlaw01_words.f kj18).bind fun t194 => (some t194)) else (some false))) else (some false))) else (none)) else (none)) else (some false)) else (some false)) = some r := by rw [if_neg (show ¬ (false = true) by decide)] at H; exact H
                      clear H
                      have H := H1
                      clear H1
                      by_cases c32 : t180 = 0
                      · rw [if_pos c32] at H
                        have c32b0 : (t180 == 0) = true := beq_iff_eq.mpr c32
                        have c32b1 : (t180 != 0) = false := bne_eq_false_iff_eq.mpr c32
                        clear c32
                        by_cases c33 : (t179.length : Int) = (wrap64 ((t170.length : Int) + (t174.length : Int)))
                        · rw [if_pos c33] at H
                          have c33b0 : ((t179.length : Int) == (wrap64 ((t170.length : Int) + (t174.length : Int)))) = true := beq_iff_eq.mpr c33
                          have c33b1 : ((t179.length : Int) != (wrap64 ((t170.length : Int) + (t174.length : Int)))) = false := bne_eq_false_iff_eq.mpr c33
                          clear c33
                          by_cases c34 : 0 ≤ (t170.length : Int)
                          · rw [if_pos c34] at H
                            have c34b0 := eq_true c34
                            have c34b1 : decide (0 ≤ (t170.length : Int)) = true := decide_eq_true c34
                            clear c34
                            by_cases c35 : (t170.length : Int) ≤ (t179.length : Int)
                            · rw [if_pos c35] at H
                              have c35b0 := eq_true c35
                              have c35b1 : decide ((t170.length : Int) ≤ (t179.length : Int)) = true := decide_eq_true c35
                              clear c35
                              obtain ⟨y184, hy184⟩ : ∃ y_ : List ByteArray, y_ = (t179.take ((t170.length : Int) : Int).toNat) := ⟨_, rfl⟩
                              replace H : ((ploverref01_Same.f kj18 y184 t170).bind fun t188 => (if t188 = true then ((ploverref01_Same.f kj18 (t179.drop ((t170.length : Int) : Int).toNat) t174).bind fun t193 => (if t193 = true then ((ploverlaw01_words.f kj18).bind fun t194 => (some t194)) else (some false))) else (some false))) = some r := by first | (rw [hy184]; with_reducible exact H) | (have H2_ := (Option.bind_some _ _).symm.trans H; rw [hy184]; with_reducible exact H2_) | (have H2_ := (Option.bind_some _ _).symm.trans H; with_reducible exact H2_) | with_reducible exact H | (rw [hy184]; exact H) | exact H
                              have Ny184 := Aside0.mk hy184
                              clear hy184
                              replace H := Option.bind_eq_some_iff.mp H
                              obtain ⟨t188, A360, H⟩ := H
                              replace H : (if t188 = true then ((ploverref01_Same.f kj18 (t179.drop ((t170.length : Int) : Int).toNat) t174).bind fun t193 => (if t193 = true then ((ploverlaw01_words.f kj18).bind fun t194 => (some t194)) else (some false))) else (some false)) = some r := H
                              have A36 := Aside0.mk A360
                              clear A360
                              by_cases c37 : t188 = true
                              · subst c37
                                have H1 : ((ploverref01_Same.f kj18 (t179.drop ((t170.length : Int) : Int).toNat) t174).bind fun t193 => (if t193 = true then ((ploverlaw01_words.f kj18).bind fun t194 => (some t194)) else (some false))) = some r := by rw [if_pos rfl] at H; exact H
                                clear H
                                have H := H1
                                clear H1
                                have c38b0 := eq_true (of_decide_eq_true (by first | (with_reducible assumption) | assumption) : 0 ≤ (t170.length : Int))
                                have c39b0 := eq_true (of_decide_eq_true (by first | (with_reducible assumption) | assumption) : (t170.length : Int) ≤ (t179.length : Int))
                                obtain ⟨y189, hy189⟩ : ∃ y_ : List ByteArray, y_ = (t179.drop ((t170.length : Int) : Int).toNat) := ⟨_, rfl⟩
                                replace H : ((ploverref01_Same.f kj18 y189 t174).bind fun t193 => (if t193 = true then ((ploverlaw01_words.f kj18).bind fun t194 => (some t194)) else (some false))) = some r := by first | (rw [hy189]; with_reducible exact H) | (have H2_ := (Option.bind_some _ _).symm.trans H; rw [hy189]; with_reducible exact H2_) | (have H2_ := (Option.bind_some _ _).symm.trans H; with_reducible exact H2_) | with_reducible exact H | (rw [hy189]; exact H) | exact H
                                have Ny189 := Aside0.mk hy189
                                clear hy189
                                replace H := Option.bind_eq_some_iff.mp H
                                obtain ⟨t193, A400, H⟩ := H
                                replace H : (if t193 = true then ((ploverlaw01_words.f kj18).bind fun t194 => (some t194)) else (some false)) = some r := H
                                have A40 := Aside0.mk A400
                                clear A400
                                by_cases c41 : t193 = true
                                · subst c41
                                  have H1 : ((ploverlaw01_words.f kj18).bind fun t194 => (some t194)) = some r := by rw [if_pos rfl] at H; exact H
                                  clear H
                                  have H := H1
                                  clear H1
                                  replace H := Option.bind_eq_some_iff.mp H
                                  obtain ⟨t194, A420, H⟩ := H
                                  replace H : (some t194) = some r := H
                                  have A42 := Aside0.mk A420
                                  clear A420
                                  obtain rfl := Option.some.inj H
                                  obtain ⟨Ao43, co43, eo43⟩ := Kd.R_slice HO_12.out
                                  subst eo43
                                  obtain ⟨Ao44, co44, eo44⟩ := Kd.R_slice HO_8.out
                                  subst eo44
                                  obtain ⟨Ao45, co45, eo45⟩ := Kd.R_slice HO_10.out
                                  subst eo45
                                  have q46 : ((t170.length : Int) : Int) ≤ ((t179.length : Int) : Int) := of_decide_eq_true (by first | (with_reducible assumption) | assumption)
                                  obtain ⟨i046, hi046, _, hsz46, _⟩ := info_parts info9
                                  have hroom46 : t179.length ≤ co43 := (Kd.R_reads' HO_12.out).2.1
                                  have hC46 : Kd.C Kd.string _ Ao43 t179.length t179 := (Kd.R_reads' HO_12.out).2.2
                                  have hcut46 := cut_to (P := Tryd.prog) 23 9 .i64 Tryd.underlying23 hi046 Ao43 t179.length co43 (t170.length : Int) (of_decide_eq_true (by first | (with_reducible assumption) | assumption)) q46 hroom46
                                  have hr46 := Kd.C_take (m := ((t170.length : Int) : Int).toNat) hC46 (by omega)
                                  have hy46 : y184.length = ((t170.length : Int) : Int).toNat := (by rw [Ny184.out, List.length_take]; omega)
                                  rw [← Ny184.out] at hr46
                                  rw [← hy46] at hcut46
                                  have HR187 := Aside0.mk hr46
                                  have HC187 := Aside0.mk (show y184.length ≤ co43 from by omega)
                                  clear hr46 hC46 hroom46 hi046 hsz46
                                  have KY46 := Aside0.mk hy46
                                  clear hy46
                                  have KL46 := Aside0.mk (show ((t170.length : Int) : Int).toNat ≤ t179.length from by omega)
                                  replace q46 := eq_true q46
                                  go_wp2_with (first | (go_at_call 15; (with_reducible refine (ploverref01_Same.calls kj18 _ _ y184 _ _ t170 true _ ?side1 ?side2 ?side3 ?side4 A36.out).mono ?_); (case side1 => repeat (first | exact (by repeat (first | (with_reducible exact HR187.out) | (with_reducible refine Kd.C_alloc ?_ _) | (with_reducible refine Kd.C_drewN ?_ _) | (with_reducible refine Kd.C_drew ?_) | exact HR187.out)) | (with_reducible refine Kd.C_alloc ?_ _) | (with_reducible refine Kd.C_drewN ?_ _) | (with_reducible refine Kd.C_drew ?_))); (case side2 => exact HC187.out); (case side3 => repeat (first | exact (Kd.R_reads' HO_8.out).2.2 | (with_reducible refine Kd.C_alloc ?_ _) | (with_reducible refine Kd.C_drewN ?_ _) | (with_reducible refine Kd.C_drew ?_))); (case side4 => exact (Kd.R_reads' HO_8.out).2.1); rintro e w' ⟨rfl, ⟨nd, rfl⟩⟩; have q47 : ((t170.length : Int) : Int) ≤ ((t179.length : Int) : Int) := of_decide_eq_true (by first | (with_reducible assumption) | assumption); obtain ⟨i047, hi047, _, hsz47, _⟩ := info_parts info9; have hroom47 : t179.length ≤ co43 := (Kd.R_reads' HO_12.out).2.1; have hC47 : Kd.C Kd.string _ Ao43 t179.length t179 := (Kd.R_reads' HO_12.out).2.2; have q047 : (0 : Int) ≤ ((t170.length : Int) : Int) := of_decide_eq_true (by first | (with_reducible assumption) | assumption); have hcut47 := cut_from (P := Tryd.prog) 23 9 .i64 Tryd.underlying23 hi047 1 hsz47 Ao43 t179.length co43 (t170.length : Int) q047 q47; have hr47 := Kd.C_drop (m := ((t170.length : Int) : Int).toNat) (c := co43) hC47 (by omega) hroom47; obtain ⟨A47, hA47⟩ : ∃ A1, A1 = (if co43 = ((t170.length : Int) : Int).toNat then Ao43 else (Ao43 : Option Addr).map (·.add (((t170.length : Int) : Int).toNat * 1))) := ⟨_, rfl⟩; obtain ⟨c47, hc47⟩ : ∃ c1, c1 = co43 - ((t170.length : Int) : Int).toNat := ⟨_, rfl⟩; have hy47 : y189.length = t179.length - ((t170.length : Int) : Int).toNat := (by rw [Ny189.out, List.length_drop] <;> omega); rw [show (t179).drop ((t170.length : Int) : Int).toNat = y189 from Ny189.out.symm] at hr47; replace hr47 : Kd.C Kd.string _ A47 y189.length y189 := (by rw [hA47]; exact hr47); rw [← hy47, ← hA47, ← hc47] at hcut47; have HR192 := Aside0.mk hr47; have HC192 := Aside0.mk (show y189.length ≤ c47 from by rw [hy47, hc47]; exact Nat.sub_le_sub_right hroom47 _); clear hr47 hC47 hroom47 hi047 hsz47 hc47; have KY47 := Aside0.mk hy47; have KA47 := Aside0.mk hA47; clear hy47 hA47; have KL47 := Aside0.mk (show ((t170.length : Int) : Int).toNat ≤ t179.length from by omega); replace q47 := eq_true q47) | (go_at_call 15; (with_reducible refine (ploverref01_Same.calls kj18 _ _ y189 _ _ t174 true _ ?side1 ?side2 ?side3 ?side4 A40.out).mono ?_); (case side1 => repeat (first | exact (by repeat (first | (with_reducible exact HR192.out) | (with_reducible refine Kd.C_alloc ?_ _) | (with_reducible refine Kd.C_drewN ?_ _) | (with_reducible refine Kd.C_drew ?_) | exact HR192.out)) | (with_reducible refine Kd.C_alloc ?_ _) | (with_reducible refine Kd.C_drewN ?_ _) | (with_reducible refine Kd.C_drew ?_))); (case side2 => exact HC192.out); (case side3 => repeat (first | exact (Kd.R_reads' HO_10.out).2.2 | (with_reducible refine Kd.C_alloc ?_ _) | (with_reducible refine Kd.C_drewN ?_ _) | (with_reducible refine Kd.C_drew ?_))); (case side4 => exact (Kd.R_reads' HO_10.out).2.1); rintro e w' ⟨rfl, ⟨nd, rfl⟩⟩) | (go_at_call 12; (with_reducible refine (ploverlaw01_words.calls kj18  t194 _ (LaidW.below hL (by repeat (first | (with_reducible first | exact HB.out | apply below_alloc | apply pw_below_drewN | apply below_drew1) | exact HB.out))) A42.out).mono ?_); rintro e w48 ⟨rfl, hb⟩; have n0_ := Aside0.mk (Kd.R_below (by (with_reducible repeat (first | apply Kd.R_alloc | apply Kd.R_drewN | apply Kd.R_drew)); exact HO_8.out) hb); have n1_ := Aside0.mk (Kd.R_below (by (with_reducible repeat (first | apply Kd.R_alloc | apply Kd.R_drewN | apply Kd.R_drew)); exact HO_10.out) hb); have n2_ := Aside0.mk (Kd.R_below (by (with_reducible repeat (first | apply Kd.R_alloc | apply Kd.R_drewN | apply Kd.R_drew)); exact HO_12.out) hb); have n3_ := Aside0.mk (Kd.C_below (by repeat (first | (with_reducible exact HR187.out) | (with_reducible refine Kd.C_alloc ?_ _) | (with_reducible refine Kd.C_drewN ?_ _) | (with_reducible refine Kd.C_drew ?_) | exact HR187.out)) hb); have n4_ := Aside0.mk (Kd.C_below (by repeat (first | (with_reducible exact HR192.out) | (with_reducible refine Kd.C_alloc ?_ _) | (with_reducible refine Kd.C_drewN ?_ _) | (with_reducible refine Kd.C_drew ?_) | exact HR192.out)) hb); have n5_ := Aside0.mk (below_step (by repeat (first | (with_reducible first | exact HB.out | apply below_alloc | apply pw_below_drewN | apply below_drew1) | exact HB.out)) hb); clear HO_8; clear HO_10; clear HO_12; clear HR187; clear HR192; clear HB; have HO_8 := n0_; have HO_10 := n1_; have HO_12 := n2_; have HR187 := n3_; have HR192 := n4_; have HB := n5_; clear n0_ n1_ n2_ n3_ n4_ n5_; (try clear hb); (try clear hb2); (try clear hk); (try clear hi)))
                                  go_ret
                                  exact ⟨by first | rfl | (simp [errW_none, errW_some] <;> rfl) | (simp only [← hji13]; first | rfl | (simp [errW_none, errW_some] <;> rfl)) | (simp [*, errW_none, errW_some] <;> rfl), by repeat (first | (with_reducible first | exact HB.out | apply below_alloc | apply pw_below_drewN | apply below_drew1) | exact HB.out)⟩
                                · replace c41 := Bool.eq_false_iff.mpr c41
                                  subst c41
                                  have H1 : (some false) = some r := by rw [if_neg (show ¬ (false = true) by decide)] at H; exact H
                                  clear H
                                  have H := H1
                                  clear H1
                                  obtain rfl := Option.some.inj H
                                  obtain ⟨Ao49, co49, eo49⟩ := Kd.R_slice HO_12.out
                                  subst eo49
                                  obtain ⟨Ao50, co50, eo50⟩ := Kd.R_slice HO_8.out
                                  subst eo50
                                  obtain ⟨Ao51, co51, eo51⟩ := Kd.R_slice HO_10.out
                                  subst eo51
                                  have q52 : ((t170.length : Int) : Int) ≤ ((t179.length : Int) : Int) := of_decide_eq_true (by first | (with_reducible assumption) | assumption)
                                  obtain ⟨i052, hi052, _, hsz52, _⟩ := info_parts info9
                                  have hroom52 : t179.length ≤ co49 := (Kd.R_reads' HO_12.out).2.1
                                  have hC52 : Kd.C Kd.string _ Ao49 t179.length t179 := (Kd.R_reads' HO_12.out).2.2
                                  have hcut52 := cut_to (P := Tryd.prog) 23 9 .i64 Tryd.underlying23 hi052 Ao49 t179.length co49 (t170.length : Int) (of_decide_eq_true (by first | (with_reducible assumption) | assumption)) q52 hroom52
                                  have hr52 := Kd.C_take (m := ((t170.length : Int) : Int).toNat) hC52 (by omega)
                                  have hy52 : y184.length = ((t170.length : Int) : Int).toNat := (by rw [Ny184.out, List.length_take]; omega)
                                  rw [← Ny184.out] at hr52
                                  rw [← hy52] at hcut52
                                  have HR187 := Aside0.mk hr52
                                  have HC187 := Aside0.mk (show y184.length ≤ co49 from by omega)
                                  clear hr52 hC52 hroom52 hi052 hsz52
                                  have KY52 := Aside0.mk hy52
                                  clear hy52
                                  have KL52 := Aside0.mk (show ((t170.length : Int) : Int).toNat ≤ t179.length from by omega)
                                  replace q52 := eq_true q52
                                  go_wp2_with (first | (go_at_call 15; (with_reducible refine (ploverref01_Same.calls kj18 _ _ y184 _ _ t170 true _ ?side1 ?side2 ?side3 ?side4 A36.out).mono ?_); (case side1 => repeat (first | exact (by repeat (first | (with_reducible exact HR187.out) | (with_reducible refine Kd.C_alloc ?_ _) | (with_reducible refine Kd.C_drewN ?_ _) | (with_reducible refine Kd.C_drew ?_) | exact HR187.out)) | (with_reducible refine Kd.C_alloc ?_ _) | (with_reducible refine Kd.C_drewN ?_ _) | (with_reducible refine Kd.C_drew ?_))); (case side2 => exact HC187.out); (case side3 => repeat (first | exact (Kd.R_reads' HO_8.out).2.2 | (with_reducible refine Kd.C_alloc ?_ _) | (with_reducible refine Kd.C_drewN ?_ _) | (with_reducible refine Kd.C_drew ?_))); (case side4 => exact (Kd.R_reads' HO_8.out).2.1); rintro e w' ⟨rfl, ⟨nd, rfl⟩⟩; have q53 : ((t170.length : Int) : Int) ≤ ((t179.length : Int) : Int) := of_decide_eq_true (by first | (with_reducible assumption) | assumption); obtain ⟨i053, hi053, _, hsz53, _⟩ := info_parts info9; have hroom53 : t179.length ≤ co49 := (Kd.R_reads' HO_12.out).2.1; have hC53 : Kd.C Kd.string _ Ao49 t179.length t179 := (Kd.R_reads' HO_12.out).2.2; have q053 : (0 : Int) ≤ ((t170.length : Int) : Int) := of_decide_eq_true (by first | (with_reducible assumption) | assumption); have hcut53 := cut_from (P := Tryd.prog) 23 9 .i64 Tryd.underlying23 hi053 1 hsz53 Ao49 t179.length co49 (t170.length : Int) q053 q53; have hr53 := Kd.C_drop (m := ((t170.length : Int) : Int).toNat) (c := co49) hC53 (by omega) hroom53; obtain ⟨A53, hA53⟩ : ∃ A1, A1 = (if co49 = ((t170.length : Int) : Int).toNat then Ao49 else (Ao49 : Option Addr).map (·.add (((t170.length : Int) : Int).toNat * 1))) := ⟨_, rfl⟩; obtain ⟨c53, hc53⟩ : ∃ c1, c1 = co49 - ((t170.length : Int) : Int).toNat := ⟨_, rfl⟩; have hy53 : y189.length = t179.length - ((t170.length : Int) : Int).toNat := (by rw [Ny189.out, List.length_drop] <;> omega); rw [show (t179).drop ((t170.length : Int) : Int).toNat = y189 from Ny189.out.symm] at hr53; replace hr53 : Kd.C Kd.string _ A53 y189.length y189 := (by rw [hA53]; exact hr53); rw [← hy53, ← hA53, ← hc53] at hcut53; have HR192 := Aside0.mk hr53; have HC192 := Aside0.mk (show y189.length ≤ c53 from by rw [hy53, hc53]; exact Nat.sub_le_sub_right hroom53 _); clear hr53 hC53 hroom53 hi053 hsz53 hc53; have KY53 := Aside0.mk hy53; have KA53 := Aside0.mk hA53; clear hy53 hA53; have KL53 := Aside0.mk (show ((t170.length : Int) : Int).toNat ≤ t179.length from by omega); replace q53 := eq_true q53) | (go_at_call 15; (with_reducible refine (ploverref01_Same.calls kj18 _ _ y189 _ _ t174 false _ ?side1 ?side2 ?side3 ?side4 A40.out).mono ?_); (case side1 => repeat (first | exact (by repeat (first | (with_reducible exact HR192.out) | (with_reducible refine Kd.C_alloc ?_ _) | (with_reducible refine Kd.C_drewN ?_ _) | (with_reducible refine Kd.C_drew ?_) | exact HR192.out)) | (with_reducible refine Kd.C_alloc ?_ _) | (with_reducible refine Kd.C_drewN ?_ _) | (with_reducible refine Kd.C_drew ?_))); (case side2 => exact HC192.out); (case side3 => repeat (first | exact (Kd.R_reads' HO_10.out).2.2 | (with_reducible refine Kd.C_alloc ?_ _) | (with_reducible refine Kd.C_drewN ?_ _) | (with_reducible refine Kd.C_drew ?_))); (case side4 => exact (Kd.R_reads' HO_10.out).2.1); rintro e w' ⟨rfl, ⟨nd, rfl⟩⟩))
                                  go_ret
                                  exact ⟨by first | rfl | (simp [errW_none, errW_some] <;> rfl) | (simp only [← hji13]; first | rfl | (simp [errW_none, errW_some] <;> rfl)) | (simp [*, errW_none, errW_some] <;> rfl), by repeat (first | (with_reducible first | exact HB.out | apply below_alloc | apply pw_below_drewN | apply below_drew1) | exact HB.out)⟩
                              · replace c37 := Bool.eq_false_iff.mpr c37
                                subst c37
                                have H1 : (some false) = some r := by rw [if_neg (show ¬ (false = true) by decide)] at H; exact H
                                clear H
                                have H := H1
                                clear H1
                                obtain rfl := Option.some.inj H
                                obtain ⟨Ao54, co54, eo54⟩ := Kd.R_slice HO_12.out
                                subst eo54
                                obtain ⟨Ao55, co55, eo55⟩ := Kd.R_slice HO_8.out
                                subst eo55
                                obtain ⟨Ao56, co56, eo56⟩ := Kd.R_slice HO_10.out
                                subst eo56
                                have q57 : ((t170.length : Int) : Int) ≤ ((t179.length : Int) : Int) := of_decide_eq_true (by first | (with_reducible assumption) | assumption)
                                obtain ⟨i057, hi057, _, hsz57, _⟩ := info_parts info9
                                have hroom57 : t179.length ≤ co54 := (Kd.R_reads' HO_12.out).2.1
                                have hC57 : Kd.C Kd.string _ Ao54 t179.length t179 := (Kd.R_reads' HO_12.out).2.2
                                have hcut57 := cut_to (P := Tryd.prog) 23 9 .i64 Tryd.underlying23 hi057 Ao54 t179.length co54 (t170.length : Int) (of_decide_eq_true (by first | (with_reducible assumption) | assumption)) q57 hroom57
                                have hr57 := Kd.C_take (m := ((t170.length : Int) : Int).toNat) hC57 (by omega)
                                have hy57 : y184.length = ((t170.length : Int) : Int).toNat := (by rw [Ny184.out, List.length_take]; omega)
                                rw [← Ny184.out] at hr57
                                rw [← hy57] at hcut57
                                have HR187 := Aside0.mk hr57
                                have HC187 := Aside0.mk (show y184.length ≤ co54 from by omega)
                                clear hr57 hC57 hroom57 hi057 hsz57
                                have KY57 := Aside0.mk hy57
                                clear hy57
                                have KL57 := Aside0.mk (show ((t170.length : Int) : Int).toNat ≤ t179.length from by omega)
                                replace q57 := eq_true q57
                                go_wp2_with (first | (go_at_call 15; (with_reducible refine (ploverref01_Same.calls kj18 _ _ y184 _ _ t170 false _ ?side1 ?side2 ?side3 ?side4 A36.out).mono ?_); (case side1 => repeat (first | exact (by repeat (first | (with_reducible exact HR187.out) | (with_reducible refine Kd.C_alloc ?_ _) | (with_reducible refine Kd.C_drewN ?_ _) | (with_reducible refine Kd.C_drew ?_) | exact HR187.out)) | (with_reducible refine Kd.C_alloc ?_ _) | (with_reducible refine Kd.C_drewN ?_ _) | (with_reducible refine Kd.C_drew ?_))); (case side2 => exact HC187.out); (case side3 => repeat (first | exact (Kd.R_reads' HO_8.out).2.2 | (with_reducible refine Kd.C_alloc ?_ _) | (with_reducible refine Kd.C_drewN ?_ _) | (with_reducible refine Kd.C_drew ?_))); (case side4 => exact (Kd.R_reads' HO_8.out).2.1); rintro e w' ⟨rfl, ⟨nd, rfl⟩⟩))
                                go_ret
                                exact ⟨by first | rfl | (simp [errW_none, errW_some] <;> rfl) | (simp only [← hji13]; first | rfl | (simp [errW_none, errW_some] <;> rfl)) | (simp [*, errW_none, errW_some] <;> rfl), by repeat (first | (with_reducible first | exact HB.out | apply below_alloc | apply pw_below_drewN | apply below_drew1) | exact HB.out)⟩
                            · rw [if_neg c35] at H
                              exact absurd H (by simp)
                          · rw [if_neg c34] at H
                            exact absurd H (by simp)
                        · rw [if_neg c33] at H
                          have c33b0 : ((t179.length : Int) == (wrap64 ((t170.length : Int) + (t174.length : Int)))) = false := beq_eq_false_iff_ne.mpr c33
                          have c33b1 : ((t179.length : Int) != (wrap64 ((t170.length : Int) + (t174.length : Int)))) = true := bne_iff_ne.mpr c33
                          obtain rfl := Option.some.inj H
                          obtain ⟨Ao58, co58, eo58⟩ := Kd.R_slice HO_12.out
                          subst eo58
                          obtain ⟨Ao59, co59, eo59⟩ := Kd.R_slice HO_8.out
                          subst eo59
                          obtain ⟨Ao60, co60, eo60⟩ := Kd.R_slice HO_10.out
                          subst eo60
                          go_wp2
                          go_ret
                          exact ⟨by first | rfl | (simp [errW_none, errW_some] <;> rfl) | (simp only [← hji13]; first | rfl | (simp [errW_none, errW_some] <;> rfl)) | (simp [*, errW_none, errW_some] <;> rfl), by repeat (first | (with_reducible first | exact HB.out | apply below_alloc | apply pw_below_drewN | apply below_drew1) | exact HB.out)⟩
                      · rw [if_neg c32] at H
                        have c32b0 : (t180 == 0) = false := beq_eq_false_iff_ne.mpr c32
                        have c32b1 : (t180 != 0) = true := bne_iff_ne.mpr c32
                        obtain rfl := Option.some.inj H
                        go_wp2
                        go_ret
                        exact ⟨by first | rfl | (simp [errW_none, errW_some] <;> rfl) | (simp only [← hji13]; first | rfl | (simp [errW_none, errW_some] <;> rfl)) | (simp [*, errW_none, errW_some] <;> rfl), by repeat (first | (with_reducible first | exact HB.out | apply below_alloc | apply pw_below_drewN | apply below_drew1) | exact HB.out)⟩
              · rw [if_neg c17] at H
                exact absurd H (by simp)
            · rw [if_neg c16] at H
              exact absurd H (by simp)
          · rw [if_neg c15] at H
            exact absurd H (by simp)
        · rw [if_neg c14] at H
          exact absurd H (by simp)

/-- THE ONE PURE STATEMENT of ploverlaw01_GlyphJoins: yours. -/
def ploverlaw01_GlyphJoins.Pure : Prop := ∀ (a0 : ByteArray) (a1 : ByteArray) (a2 : Int), a0.size ≤ 140737488351232 → a1.size ≤ 140737488351232 → (Lit.int .i64 a2).wf = true → ∃ k, ploverlaw01_GlyphJoins.f k a0 a1 a2 = some true
theorem ploverlaw01_GlyphJoins.walk (P : ploverlaw01_GlyphJoins.Pure) (a0 : ByteArray) (a1 : ByteArray) (a2 : Int) (w : World) (hL : LaidW w) (w0 : a0.size ≤ 140737488351232) (w1 : a1.size ≤ 140737488351232) (w2 : (Lit.int .i64 a2).wf = true) :
    Calls Tryd.prog 4 #[.string a0, .string a1, .int .i64 a2] w fun e w' => e = .returned (.bool true) ∧ Below w.heap.size w w' := by
  obtain ⟨k, h⟩ := P a0 a1 a2 w0 w1 w2
  refine (ploverlaw01_GlyphJoins.calls k a0 a1 a2 true w hL h).mono ?_
  rintro e w' ⟨rfl, hd⟩
  exact ⟨rfl, hd⟩

end Go.Proofs.YtnfjhfhdiknccaaDoor.P
