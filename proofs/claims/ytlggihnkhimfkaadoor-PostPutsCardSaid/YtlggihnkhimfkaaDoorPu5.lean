/- Texts put together by prune.py: BncL, BncQ, Px1, Px8, PxI, PxJ, BncO, BncG, BncT, BncR. -/
import Derived.Handy
import Derived.Outline
import Derived.Deep.RegionHeld3
import Derived.Deep.DrawnRows
import Derived.Test.YtlggihnkhimfkaaDoorPu4
namespace Go.Proofs.YtlggihnkhimfkaaDoor.Giv
open Go.RowKit Go.Lib Go.Sort Go.Proofs.YtlggihnkhimfkaaDoorW.PrintWords Go.Proofs.YtlggihnkhimfkaaDoorW.PrintLast Go.Proofs.YtlggihnkhimfkaaDoorW.PrintMore
set_option linter.unusedVariables false
set_option linter.unusedSimpArgs false
def LInv (d : Nat) (s : ByteArray) (a a' : Nat) (xs : List V) (LR : Int × List V × Nat) : Prop :=
  a + 1 ≤ a' ∧ a' ≤ s.size ∧ xs.length + (a + 1) ≤ a' ∧ ∃ k, s.size - a' ≤ k ∧ ((listL (valL d) k (s.data.toList.drop a')).1 = 0 → LR = (0, xs ++ (listL (valL d) k (s.data.toList.drop a')).2.1, (a' - (a + 1)) + (listL (valL d) k (s.data.toList.drop a')).2.2)) ∧ ((listL (valL d) k (s.data.toList.drop a')).1 ≠ 0 → LR.1 = (listL (valL d) k (s.data.toList.drop a')).1)
theorem drop_length (s : ByteArray) (a : Nat) : (s.data.toList.drop a).length = s.size - a := by rw [List.length_drop, data_size]
theorem LInv_start (d : Nat) (s : ByteArray) (a : Nat) (h : a < s.size) : LInv d s a (a + 1) [] (listL (valL d) (s.data.toList.drop (a + 1)).length (s.data.toList.drop (a + 1))) := by
  refine ⟨Nat.le_refl _, by omega, by simp, _, by rw [drop_length]; exact Nat.le_refl _, fun h => ?_, fun h => rfl⟩
  rw [List.nil_append, Nat.sub_self, Nat.zero_add, ← h]
theorem LInv_end {d : Nat} {s : ByteArray} {a : Nat} {xs : List V} {LR : Int × List V × Nat} (h : LInv d s a s.size xs LR) : LR.1 = 21 := by
  obtain ⟨_, _, _, k, _, _, h2⟩ := h
  rw [List.drop_of_length_le (by rw [data_size]; omega)] at h2
  rw [listL] at h2
  exact h2 (by decide)
theorem LInv_stop {d : Nat} {s : ByteArray} {a a' : Nat} {xs : List V} {LR : Int × List V × Nat} (h : LInv d s a a' xs LR) (ha : a' < s.size) (hc : bt s (a' : Int) = 101) : LR = (0, xs, a' - (a + 1) + 1) := by
  obtain ⟨_, _, _, k, hk, h1, _⟩ := h
  obtain ⟨c, hd, hc2⟩ := bt_drop s a' ha
  obtain ⟨k, rfl⟩ : ∃ j, k = j + 1 := ⟨k - 1, by omega⟩
  have e : c = 101 := (u8_eq _ _).2 (by rw [← hc2, hc]; rfl)
  have hL : listL (valL d) (k + 1) (s.data.toList.drop a') = (0, [], 1) := by rw [hd, listL, if_pos e]
  rw [hL] at h1
  have := h1 rfl
  rw [List.append_nil] at this
  exact this
theorem LInv_step {d : Nat} {s : ByteArray} {a a' : Nat} {xs : List V} {LR : Int × List V × Nat} (h : LInv d s a a' xs LR) (ha : a' < s.size) (hc : bt s (a' : Int) ≠ 101) :
  ((valL d (s.data.toList.drop a')).1 = 0 → LInv d s a (a' + (valL d (s.data.toList.drop a')).2.2) (xs ++ [(valL d (s.data.toList.drop a')).2.1]) LR) ∧ ((valL d (s.data.toList.drop a')).1 ≠ 0 → LR.1 = (valL d (s.data.toList.drop a')).1) := by
 obtain ⟨h3, h4, h5, k, hk, h1, h2⟩ := h
 obtain ⟨c, hd, hc2⟩ := bt_drop s a' ha
 obtain ⟨k, rfl⟩ : ∃ j, k = j + 1 := ⟨k - 1, by omega⟩
 have e : ¬ c = 101 := fun e => hc (by rw [hc2, e]; rfl)
 have hL : listL (valL d) (k + 1) (s.data.toList.drop a') = if (valL d (s.data.toList.drop a')).1 = 0 then (if (listL (valL d) k ((s.data.toList.drop a').drop (valL d (s.data.toList.drop a')).2.2)).1 = 0 then (0, (valL d (s.data.toList.drop a')).2.1 :: (listL (valL d) k ((s.data.toList.drop a').drop (valL d (s.data.toList.drop a')).2.2)).2.1, (valL d (s.data.toList.drop a')).2.2 + (listL (valL d) k ((s.data.toList.drop a').drop (valL d (s.data.toList.drop a')).2.2)).2.2) else ((listL (valL d) k ((s.data.toList.drop a').drop (valL d (s.data.toList.drop a')).2.2)).1, [], 0)) else ((valL d (s.data.toList.drop a')).1, [], 0) := by
  conv => lhs; rw [hd, listL, if_neg e, ← hd]
 have hu := valL_used d (s.data.toList.drop a')
 rw [drop_length] at hu
 generalize valL d (s.data.toList.drop a') = R at *
 rw [hL] at h1 h2
 rw [List.drop_drop] at h1 h2
 constructor
 ·
  intro hz
  obtain ⟨u1, u2⟩ := hu hz
  rw [if_pos hz] at h1 h2
  generalize hr : listL (valL d) k (s.data.toList.drop (a' + R.2.2)) = r at *
  refine ⟨by omega, by omega, by rw [List.length_append]; simp; omega, k, by omega, ?_, ?_⟩
  ·
   intro hr0
   rw [hr] at hr0 ⊢
   rw [if_pos hr0] at h1
   rw [h1 rfl, List.append_assoc]
   simp
   omega
  ·
   intro hr0
   rw [hr] at hr0 ⊢
   rw [if_neg hr0] at h2
   exact h2 hr0
 ·
  intro hz
  rw [if_neg hz] at h1 h2
  exact h2 hz
theorem info_any : (Tryd.prog.info? 20).map (fun i => (i.zero, i.size, i.bytes)) = some (some .nilIface, 1, 16) := by kernel_rfl
theorem any_empty (n : Nat) (W : World) (base : Nat) (ok : Nat → Prop) (hb : base ≤ W.heap.size) (hok : ok W.heap.size) : (anyK n).R 20 (W.alloc (.cells #[] 20)) base ok (.slice (some ⟨W.heap.size, 0, none⟩) 0 0) [] := by
  refine ⟨fun k hk => ?_, [], ?_, ?_⟩
  · have : W.heap.size = k := by simpa [Value.ownBlock] using hk
    rw [← this]; exact hok
  · have h := World.ownsRow_lit (base := base) (e := 20) (size := (anyK n).sz) W #[] 0 hb (by simp [maxLen]) (by simp)
    simpa using h
  · exact ⟨by simp, fun j p h => by simp at h⟩
theorem any_new {n : Nat} {w2 w3 : World} {base g : Nat} {u : Value} {x : V} {cs : List Value} (h : (anyK n).M w3 w2.heap.size (fun _ => True) x cs) (hb : base ≤ w2.heap.size) (hg : g < w2.heap.size) (hu : ∀ k, u.ownBlock = some k → k < w2.heap.size) : (anyK n).M w3 base (fun k => k ≠ g ∧ some k ≠ u.ownBlock) x cs :=
  (anyK n).M_lower hb ((anyK n).M_mono (fun k hk => ⟨by rintro rfl; omega, fun e => by have := hu k e.symm; omega⟩) ((anyK n).M_bound h))
theorem keep_append {w W w1 : World} {g : Nat} {v : Value} (h : KeepBut w W g none) (hg : W.grownBy w1 v.ownBlock) (hv : ∀ k, v.ownBlock = some k → w.heap.size ≤ k) : KeepBut w w1 g none := by
  refine h.trans (KeepBut.of_grown hg g) ?_
  cases hv2 : v.ownBlock with
  | none => exact .inl rfl
  | some k => exact .inr ⟨k, rfl, hv k hv2⟩
theorem below_append {w0 w W w1 : World} {v : Value} (h : Below w0.heap.size w0 W) (hg : W.grownBy w1 v.ownBlock) (hw : w0.heap.size ≤ w.heap.size) (hv : ∀ k, v.ownBlock = some k → w.heap.size ≤ k) : Below w0.heap.size w0 w1 :=
  h.grown hg h.size (fun k hk => Nat.le_trans hw (hv k hk))
set_option maxHeartbeats 8000000 in
set_option maxRecDepth 100000 in
theorem value_list (d : Nat) (i : Int) (hi0 : 0 ≤ i) (hi : i < 8) {w0 w : World} {g : Nat} {s : ByteArray} (hs : s.size ≤ 1099511627776) (a : Nat) (ha : a < s.size) (hc : bt s (a : Int) = 108) (hI : Rdr w0 w g s (a : Int) 0) (hB : Below w0.heap.size w0 w)
  (LR : Int × List V × Nat) (hLR : LInv d s a (a + 1) [] LR)
  (ih : ∀ (b : Nat), b < s.size → ∀ W, Rdr w0 W g s (b : Int) 0 → Below w0.heap.size w0 W → Calls Tryd.prog 60 #[.pointer (some ⟨g, 0, none⟩), .int .i64 (i + 1)] W (VPost s g (d + 1) (valL d (s.data.toList.drop b)) b w0 W))
  (RR : Int × V × Nat) (hRR : (if LR.1 = 0 then (0, lisV LR.2.1, LR.2.2 + 1) else (LR.1, zV, 0)) = RR) :
  Calls Tryd.prog 60 #[.pointer (some ⟨g, 0, none⟩), .int .i64 i] w (VPost s g (d + 2) RR a w0 w) := by
 have HN := Aside0.mk (nxt_at a ha hI hB)
 have HE := Aside0.mk (fun (W : World) h1 h2 => nxt_end (w0 := w0) (w := W) (g := g) (s := s) 0 (.inl rfl) h1 h2)
 have HA := Aside0.mk (fun (b : Nat) (W : World) hb h1 h2 => nxt_at (w0 := w0) (w := W) (g := g) (s := s) b hb h1 h2)
 have HVE := Aside0.mk (fun (W : World) h1 h2 => value_end d (i + 1) 21 (.inr rfl) (w0 := w0) (w := W) (g := g) (s := s) h1 h2)
 have HIH := Aside0.mk ih
 have HLR := Aside0.mk hLR
 have HRR := Aside0.mk hRR
 have c3 : decide (8 ≤ i) = false := decide_eq_false (by omega)
 have q0 : (a : Int) ≤ 1099511627776 := by omega
 have hcc := Aside0.mk hc
 have hlg := hI.ge
 have hgw := hI.lt
 have hw0 := hB.size
 clear hI hB hc ih hLR hRR
 go_enter Tryd.func60, Tryd.ntmps60
 go_wp2_with fail
 refine HN.out.mono ?_
 rw [hcc.out]
 rintro e w1 ⟨rfl, h1, h2, h3⟩
 obtain ⟨x0, x1, x2, y0, y1, y2⟩ := h1.facts
 have H1 := Aside0.mk (h1.set_1 ((a : Int) + 1))
 have H2 := Aside0.mk (set_below h2 hlg 1 (.int .i64 ((a : Int) + 1)))
 have H3 := Aside0.mk (h3.set_ 1 (.int .i64 ((a : Int) + 1)))
 clear h1 h2 h3
 have H4 := Aside0.mk (any_empty (d + 1) (w1.setCell ⟨g, 1, none⟩ (.int .i64 ((a : Int) + 1))) w.heap.size (fun k => k ≠ g) (keep_size H3.out) (Nat.ne_of_gt H1.out.lt))
 have hkz := keep_size H3.out
 go_wp2_with fail
 clear x0 x1 x2 y0 y1 y2
 go_loopg [7] (s.size + 3) (fun kq v7 wr => ∃ (xs : List V) (b er : Int), Aside0 ((anyK (d + 1)).R 20 wr w.heap.size (fun k => k ≠ g) v7 xs) ∧ Aside0 (Rdr w0 wr g s b er) ∧ Aside0 (Below w0.heap.size w0 wr) ∧ Aside0 (KeepBut w wr g none) ∧ Aside0 (xs.length ≤ s.size + 1) ∧ Aside0 ((er = 0 ∧ ∃ a' : Nat, b = (a' : Int) ∧ LInv d s a a' xs LR ∧ s.size + 1 < a' + kq) ∨ (er ≠ 0 ∧ LR.1 = er)))
 case atStart =>
  refine ⟨[], (a : Int) + 1, 0, ⟨?_⟩, ⟨H1.out.alloc _⟩, ⟨below_alloc H2.out _⟩, ⟨keep_alloc H3.out _⟩, ⟨by simp⟩, ⟨.inl ⟨rfl, a + 1, by omega, HLR.out, by omega⟩⟩⟩
  simpa using H4.out
 case round =>
  obtain ⟨xs, b, er, R1, R2, R3, R4, R5, HS⟩ := hrel
  clear H1 H2 H3 H4
  rcases HS.out with ⟨rfl, a', rfl, hinv, hkq⟩ | ⟨her, hLe⟩
  ·
   have HI := Aside0.mk hinv
   obtain ⟨i1, i2, i3, -⟩ := hinv
   have hK := Aside0.mk hkq
   obtain ⟨x0, x1, x2, y0, y1, y2⟩ := R2.out.facts
   clear HS
   have hRb := Aside0.mk (Kd.R_base R1.out)
   have hRl := Aside0.mk (Kd.R_lt R1.out)
   have hRb := Aside0.mk (Kd.R_base R1.out)
   by_cases he : a' = s.size
   ·
    subst he
    have HLe := Aside0.mk (LInv_end HI.out)
    go_wp2_with fail
    refine (HE.out _ R2.out R3.out).mono ?_
    rintro e w2 ⟨rfl, h1, h2, h3⟩
    have J1 := Aside0.mk h1
    have J2 := Aside0.mk h2
    have J3 := Aside0.mk (keep_trans R4.out h3)
    have RJ := Aside0.mk (Kd.R_keep R1.out h3 (fun k hk => hk))
    clear x0 x1 x2 y0 y1 y2 h1 h2 h3
    go_wp2_with fail
    refine (HVE.out _ J1.out J2.out).mono ?_
    rintro e w3 ⟨rv, rb, rfl, h1, h2, h3, h4, h5⟩
    have L1 := Aside0.mk (show Rdr w0 w3 g s rb 21 from h1)
    have L2 := Aside0.mk h2
    have L3 := Aside0.mk (keep_trans J3.out h3)
    have MX := Aside0.mk (any_new h4 (keep_size J3.out) J1.out.lt (fun k hk => Kd.R_lt RJ.out k hk) (u := u7) (base := w.heap.size))
    have RO := Aside0.mk (Kd.R_keep RJ.out h3 (fun k hk => hk))
    have BW := Aside0.mk (Below.refl w.heap.size w3)
    clear h1 h2 h3 h4
    rcases h5 with rfl | ⟨ty, uv, rfl⟩
    ·
     go_wp2_with (at_builtin; refine Kd.R_append (anyK (d + 1)) (w0 := w3) w.heap.size rfl (.tmp 28) (.tmp 33) 110 20 .nilIface 16 rfl Tryd.underlying110 info_any rfl Nat.one_pos (by decide) u7 xs zV [.nilIface] (fun k => k ≠ g) (fun k => k ≠ g ∧ some k ≠ u7.ownBlock) rfl rfl ?aP (fun _ hk => hk) ?aF ?aO ?aB ?aS ?aL ?_; (case aP => exact MX.out); (case aF => exact (fun k hk => by have := L1.out.lt; omega)); (case aO => exact RO.out); (case aB => exact BW.out); (case aS => exact keep_size L3.out); (case aL => have := R5.out; omega); intro v9 w9 ho hb9 hg9 hat9; have HO9 := Aside0.mk ho; have HG9 := Aside0.mk hg9; clear ho hb9 hg9 hat9)
     have P1 := Aside0.mk (P.IsS102.grown L1.out HG9.out (Kd.R_away RO.out (fun k hk => hk)))
     have P2 := Aside0.mk (below_append L2.out HG9.out hw0 hRb.out)
     have P3 := Aside0.mk (keep_append L3.out HG9.out hRb.out)
     go_wp2
     go_roundg (gk - 1)
     case measure => have := hK.out; omega
     case rel => exact ⟨xs ++ [zV], rb, 21, HO9, P1, P2, P3, ⟨by rw [List.length_append]; simp; omega⟩, ⟨.inr ⟨by decide, HLe.out⟩⟩⟩
    ·
     go_wp2_with (at_builtin; refine Kd.R_append (anyK (d + 1)) (w0 := w3) w.heap.size rfl (.tmp 28) (.tmp 33) 110 20 .nilIface 16 rfl Tryd.underlying110 info_any rfl Nat.one_pos (by decide) u7 xs zV [.iface ty uv] (fun k => k ≠ g) (fun k => k ≠ g ∧ some k ≠ u7.ownBlock) rfl rfl ?aP (fun _ hk => hk) ?aF ?aO ?aB ?aS ?aL ?_; (case aP => exact MX.out); (case aF => exact (fun k hk => by have := L1.out.lt; omega)); (case aO => exact RO.out); (case aB => exact BW.out); (case aS => exact keep_size L3.out); (case aL => have := R5.out; omega); intro v9 w9 ho hb9 hg9 hat9; have HO9 := Aside0.mk ho; have HG9 := Aside0.mk hg9; clear ho hb9 hg9 hat9)
     have P1 := Aside0.mk (P.IsS102.grown L1.out HG9.out (Kd.R_away RO.out (fun k hk => hk)))
     have P2 := Aside0.mk (below_append L2.out HG9.out hw0 hRb.out)
     have P3 := Aside0.mk (keep_append L3.out HG9.out hRb.out)
     go_wp2
     go_roundg (gk - 1)
     case measure => have := hK.out; omega
     case rel => exact ⟨xs ++ [zV], rb, 21, HO9, P1, P2, P3, ⟨by rw [List.length_append]; simp; omega⟩, ⟨.inr ⟨by decide, HLe.out⟩⟩⟩
   ·
    have hlt : a' < s.size := by omega
    by_cases h101 : bt s (a' : Int) = 101
    ·
     have q1 : (bt s (a' : Int) != 101) = false := bne_eq_false_iff_eq.2 h101
     have HLs := Aside0.mk (LInv_stop HI.out hlt h101)
     clear h101
     go_wp2_with fail
     refine (HA.out a' _ hlt R2.out R3.out).mono ?_
     rintro e w2 ⟨rfl, h1, h2, h3⟩
     have J1 := Aside0.mk h1
     have J2 := Aside0.mk h2
     have J3 := Aside0.mk (keep_trans R4.out h3)
     have RJ := Aside0.mk (Kd.R_keep R1.out h3 (fun k hk => hk))
     clear x0 x1 x2 y0 y1 y2 h1 h2 h3
     obtain ⟨x0, x1, x2, y0, y1, y2⟩ := J1.out.facts
     have q2 : (a' : Int) ≤ 1099511627776 := by omega
     go_wp2
     go_returns
     have e1 := HRR.out
     rw [HLs.out, if_pos rfl] at e1
     subst e1
     refine ⟨_, 0, rfl, ?_, set_below J2.out hlg 1 _, J3.out.set_ 1 _, any_lis (d + 1) ?_, .inr ⟨_, _, rfl⟩⟩
     ·
      have := J1.out.set_1 ((a' : Int) + 1)
      rw [if_pos rfl]
      show Rdr w0 _ g s ((a + (a' - (a + 1) + 1 + 1) : Nat) : Int) 0
      rw [show a + (a' - (a + 1) + 1 + 1) = a' + 1 by omega]
      exact this
     ·
      exact Kd.R_mono (Kd.R_far RJ.out (fun k hk => hk) _) (fun _ _ => trivial)
    ·
     have q1 : (bt s (a' : Int) != 101) = true := bne_iff_ne.2 h101
     have HLs := Aside0.mk (LInv_step HI.out hlt h101)
     have HLu := Aside0.mk (valL_used d (s.data.toList.drop a'))
     have HV := Aside0.mk (fun W h1 h2 => HIH.out a' hlt W h1 h2)
     generalize valL d (s.data.toList.drop a') = R at *
     clear h101
     go_wp2_with fail
     refine (HA.out a' _ hlt R2.out R3.out).mono ?_
     rintro e w2 ⟨rfl, h1, h2, h3⟩
     have J1 := Aside0.mk h1
     have J2 := Aside0.mk h2
     have J3 := Aside0.mk (keep_trans R4.out h3)
     have RJ := Aside0.mk (Kd.R_keep R1.out h3 (fun k hk => hk))
     clear x0 x1 x2 y0 y1 y2 h1 h2 h3
     go_wp2_with fail
     refine (HV.out _ J1.out J2.out).mono ?_
     rintro e w3 ⟨rv, rb, rfl, h1, h2, h3, h4, h5⟩
     have HS2 := Aside0.mk (show (R.1 = 0 ∧ ∃ a2 : Nat, (if R.1 = 0 then ((a' + R.2.2 : Nat) : Int) else rb) = (a2 : Int) ∧ LInv d s a a2 (xs ++ [R.2.1]) LR ∧ s.size + 1 < a2 + (gk - 1)) ∨ (R.1 ≠ 0 ∧ LR.1 = R.1) by
      by_cases c : R.1 = 0
      ·
       have := HLu.out c
       have := hK.out
       exact .inl ⟨c, a' + R.2.2, by rw [if_pos c], HLs.out.1 c, by omega⟩
      ·
       exact .inr ⟨c, HLs.out.2 c⟩)
     generalize (if R.1 = 0 then ((a' + R.2.2 : Nat) : Int) else rb) = rb2 at *
     have L1 := Aside0.mk h1
     have L2 := Aside0.mk h2
     have L3 := Aside0.mk (keep_trans J3.out h3)
     have MX := Aside0.mk (any_new h4 (keep_size J3.out) J1.out.lt (fun k hk => Kd.R_lt RJ.out k hk) (u := u7) (base := w.heap.size))
     have RO := Aside0.mk (Kd.R_keep RJ.out h3 (fun k hk => hk))
     have BW := Aside0.mk (Below.refl w.heap.size w3)
     clear h1 h2 h3 h4
     rcases h5 with rfl | ⟨ty, uv, rfl⟩
     ·
      go_wp2_with (at_builtin; refine Kd.R_append (anyK (d + 1)) (w0 := w3) w.heap.size rfl (.tmp 28) (.tmp 33) 110 20 .nilIface 16 rfl Tryd.underlying110 info_any rfl Nat.one_pos (by decide) u7 xs R.2.1 [.nilIface] (fun k => k ≠ g) (fun k => k ≠ g ∧ some k ≠ u7.ownBlock) rfl rfl ?aP (fun _ hk => hk) ?aF ?aO ?aB ?aS ?aL ?_; (case aP => exact MX.out); (case aF => exact (fun k hk => by have := L1.out.lt; omega)); (case aO => exact RO.out); (case aB => exact BW.out); (case aS => exact keep_size L3.out); (case aL => have := R5.out; omega); intro v9 w9 ho hb9 hg9 hat9; have HO9 := Aside0.mk ho; have HG9 := Aside0.mk hg9; clear ho hb9 hg9 hat9)
      have P1 := Aside0.mk (P.IsS102.grown L1.out HG9.out (Kd.R_away RO.out (fun k hk => hk)))
      have P2 := Aside0.mk (below_append L2.out HG9.out hw0 hRb.out)
      have P3 := Aside0.mk (keep_append L3.out HG9.out hRb.out)
      go_wp2
      go_roundg (gk - 1)
      case measure => have := hK.out; omega
      case rel => exact ⟨xs ++ [R.2.1], rb2, R.1, HO9, P1, P2, P3, ⟨by rw [List.length_append]; simp; omega⟩, HS2⟩
     ·
      go_wp2_with (at_builtin; refine Kd.R_append (anyK (d + 1)) (w0 := w3) w.heap.size rfl (.tmp 28) (.tmp 33) 110 20 .nilIface 16 rfl Tryd.underlying110 info_any rfl Nat.one_pos (by decide) u7 xs R.2.1 [.iface ty uv] (fun k => k ≠ g) (fun k => k ≠ g ∧ some k ≠ u7.ownBlock) rfl rfl ?aP (fun _ hk => hk) ?aF ?aO ?aB ?aS ?aL ?_; (case aP => exact MX.out); (case aF => exact (fun k hk => by have := L1.out.lt; omega)); (case aO => exact RO.out); (case aB => exact BW.out); (case aS => exact keep_size L3.out); (case aL => have := R5.out; omega); intro v9 w9 ho hb9 hg9 hat9; have HO9 := Aside0.mk ho; have HG9 := Aside0.mk hg9; clear ho hb9 hg9 hat9)
      have P1 := Aside0.mk (P.IsS102.grown L1.out HG9.out (Kd.R_away RO.out (fun k hk => hk)))
      have P2 := Aside0.mk (below_append L2.out HG9.out hw0 hRb.out)
      have P3 := Aside0.mk (keep_append L3.out HG9.out hRb.out)
      go_wp2
      go_roundg (gk - 1)
      case measure => have := hK.out; omega
      case rel => exact ⟨xs ++ [R.2.1], rb2, R.1, HO9, P1, P2, P3, ⟨by rw [List.length_append]; simp; omega⟩, HS2⟩
  ·
   have q1 : (er == 0) = false := beq_eq_false_iff_ne.2 her
   obtain ⟨x0, x1, x2, y0, y1, y2⟩ := R2.out.facts
   have HER := Aside0.mk her
   have HLe := Aside0.mk hLe
   clear HS her hLe
   go_wp2
   go_returns
   have e1 := HRR.out
   rw [HLe.out, if_neg HER.out] at e1
   subst e1
   refine ⟨_, wrap64 (b + 1), rfl, ?_, set_below R3.out hlg 1 _, R4.out.set_ 1 _, any_z (d + 1) rfl _ _ _, .inr ⟨_, _, rfl⟩⟩
   rw [if_neg HER.out]
   exact R2.out.set_1 _
theorem extract_list (s : ByteArray) (a b : Nat) : (s.extract a b).data.toList = (s.data.toList.drop a).take (b - a) := by
  rw [ByteArray.data_extract, Array.toList_extract, List.extract_eq_take_drop]
theorem extract_mk (s : ByteArray) (a n : Nat) : s.extract a (a + n) = ⟨((s.data.toList.drop a).take n).toArray⟩ := by
  have h := extract_list s a (a + n)
  rw [show a + n - a = n by omega] at h
  have : (s.extract a (a + n)).data = ((s.data.toList.drop a).take n).toArray := by rw [← h]
  cases hx : s.extract a (a + n)
  rw [hx] at this
  simp only at this
  rw [this]
theorem u8_digit (c : UInt8) (x : Int) (hc : x = (c.toNat : Int)) : (48 ≤ c ∧ c ≤ 57) ↔ (48 ≤ x ∧ x ≤ 57) := by
  rw [UInt8.le_iff_toNat_le, UInt8.le_iff_toNat_le, hc]
  show 48 ≤ c.toNat ∧ c.toNat ≤ 57 ↔ _
  omega
theorem value_i (d : Nat) (i : Int) {w0 w : World} {g : Nat} {s : ByteArray} (hs : s.size ≤ 140737488351232) (a : Nat) (ha : a < s.size) (hc : bt s (a : Int) = 105) (hI : Rdr w0 w g s (a : Int) 0) (hB : Below w0.heap.size w0 w) :
    Calls Tryd.prog 60 #[.pointer (some ⟨g, 0, none⟩), .int .i64 i] w (VPost s g (d + 1) (if (intL (s.data.toList.drop (a + 1))).1 = 0 then (0, intV (intL (s.data.toList.drop (a + 1))).2.1, (intL (s.data.toList.drop (a + 1))).2.2 + 1) else ((intL (s.data.toList.drop (a + 1))).1, zV, 0)) a w0 w) := by
  by_cases h2 : a + 1 < s.size
  · obtain ⟨c, hd, hc2⟩ := bt_drop s (a + 1) h2
    by_cases hm : c = 45
    · have hi : intL (s.data.toList.drop (a + 1)) = ((numL true false false 0 (s.data.toList.drop (a + 2))).1, (numL true false false 0 (s.data.toList.drop (a + 2))).2.1, (numL true false false 0 (s.data.toList.drop (a + 2))).2.2 + 1) := by
        unfold intL
        rw [if_pos (by rw [hd, hm]; rfl), List.tail_drop]
      rw [hi]
      exact value_neg d i hs a hc h2 (by rw [show (a : Int) + 1 = ((a + 1 : Nat) : Int) by omega, hc2, hm]; rfl) hI hB _ rfl _ rfl
    · have hi : intL (s.data.toList.drop (a + 1)) = numL false false false 0 (s.data.toList.drop (a + 1)) := by
        unfold intL
        rw [if_neg (by rw [hd]; simpa using hm)]
      rw [hi]
      exact value_pos d i hs a hc h2 (fun h => hm ((u8_eq _ _).2 (by rw [← hc2, ← show (a : Int) + 1 = ((a + 1 : Nat) : Int) by omega, h]; rfl))) hI hB _ rfl _ rfl
  · have hi : intL (s.data.toList.drop (a + 1)) = numL false false false 0 (s.data.toList.drop (a + 1)) := by
      unfold intL
      rw [if_neg (by rw [List.drop_of_length_le (by rw [data_size]; omega)]; simp)]
    rw [hi]
    exact value_one d i hs a hc (by omega) hI hB _ rfl _ rfl
theorem value_t (d : Nat) (i : Int) {w0 w : World} {g : Nat} {s : ByteArray} (hs : s.size ≤ 140737488351232) (a : Nat) (ha : a < s.size) (c : UInt8) (hd : s.data.toList.drop a = c :: s.data.toList.drop (a + 1)) (hc : bt s (a : Int) = (c.toNat : Int)) (hc2 : 48 ≤ c ∧ c ≤ 57) (hI : Rdr w0 w g s (a : Int) 0) (hB : Below w0.heap.size w0 w) :
    Calls Tryd.prog 60 #[.pointer (some ⟨g, 0, none⟩), .int .i64 i] w (VPost s g (d + 1) (if (lenL false false 0 (s.data.toList.drop a)).1 = 0 then
        (if (s.data.toList.drop a).length < (lenL false false 0 (s.data.toList.drop a)).2.2 + (lenL false false 0 (s.data.toList.drop a)).2.1 then (21, zV, 0)
         else (0, strV ⟨(((s.data.toList.drop a).drop (lenL false false 0 (s.data.toList.drop a)).2.2).take (lenL false false 0 (s.data.toList.drop a)).2.1).toArray⟩, (lenL false false 0 (s.data.toList.drop a)).2.2 + (lenL false false 0 (s.data.toList.drop a)).2.1))
       else ((lenL false false 0 (s.data.toList.drop a)).1, zV, 0)) a w0 w) := by
  have hdg := (u8_digit c _ hc).1 hc2
  have hu := lenL_used (s.data.toList.drop a) false false 0
  rw [drop_length] at hu ⊢
  generalize hR : lenL false false 0 (s.data.toList.drop a) = R at *
  by_cases hz : R.1 = 0
  · obtain ⟨u1, u2, u3, u4⟩ := hu hz
    rw [if_pos hz]
    by_cases hcut : s.size - a < R.2.2 + R.2.1
    · rw [if_pos hcut]
      exact value_cut d i hs a ha hdg hI hB R hR hz (by omega) (u4 (by omega)) (by omega)
    · rw [if_neg hcut, List.drop_drop, ← extract_mk]
      exact value_str d i hs a ha hdg hI hB R hR hz (by omega) (u4 (by omega)) (by omega)
  · rw [if_neg hz]
    exact value_len d i hs a ha hdg hI hB R hR hz
theorem value_calls (s : ByteArray) (hs : s.size ≤ 1099511627776) (d : Nat) : ∀ (i : Int), i + d = 8 → 0 ≤ i → ∀ (a : Nat), a ≤ s.size → ∀ {w0 w : World} {g : Nat}, Rdr w0 w g s (a : Int) 0 → Below w0.heap.size w0 w →
  Calls Tryd.prog 60 #[.pointer (some ⟨g, 0, none⟩), .int .i64 i] w (VPost s g (d + 1) (valL d (s.data.toList.drop a)) a w0 w) := by
 induction d with
 | zero =>
  intro i hi hi0 a ha w0 w g hI hB
  by_cases he : a = s.size
  ·
   subst he
   rw [List.drop_of_length_le (by rw [data_size]; omega), valL_nil]
   exact value_end 0 i 0 (.inl rfl) hI hB
  ·
   obtain ⟨c, hd, hc⟩ := bt_drop s a (by omega)
   rw [hd, valL_cons]
   by_cases c1 : c = 105
   ·
    rw [if_pos c1]
    exact value_i 0 i (by omega) a (by omega) (by rw [hc, c1]; rfl) hI hB
   ·
    rw [if_neg c1]
    have c1' : bt s (a : Int) ≠ 105 := fun h => c1 ((u8_eq _ _).2 (by rw [← hc, h]; rfl))
    by_cases c2 : 48 ≤ c ∧ c ≤ 57
    ·
     rw [if_pos c2, ← hd]
     exact value_t 0 i (by omega) a (by omega) c hd hc c2 hI hB
    ·
     rw [if_neg c2]
     have c2' : ¬(48 ≤ bt s (a : Int) ∧ bt s (a : Int) ≤ 57) := fun h => c2 ((u8_digit c _ hc).2 h)
     by_cases c3 : c ≠ 108
     ·
      rw [if_pos c3]
      exact value_bad 0 i a (by omega) c1' c2' (fun h => c3 ((u8_eq _ _).2 (by rw [← hc, h]; rfl))) hI hB
     ·
      rw [if_neg c3]
      exact value_deep 0 i (by omega) a (by omega) (by rw [hc, Decidable.not_not.1 c3]; rfl) hI hB
 | succ d ih =>
  intro i hi hi0 a ha w0 w g hI hB
  by_cases he : a = s.size
  ·
   subst he
   rw [List.drop_of_length_le (by rw [data_size]; omega), valL_nil]
   exact value_end (d + 1) i 0 (.inl rfl) hI hB
  ·
   obtain ⟨c, hd, hc⟩ := bt_drop s a (by omega)
   rw [hd, valL_cons]
   by_cases c1 : c = 105
   ·
    rw [if_pos c1]
    exact value_i (d + 1) i (by omega) a (by omega) (by rw [hc, c1]; rfl) hI hB
   ·
    rw [if_neg c1]
    have c1' : bt s (a : Int) ≠ 105 := fun h => c1 ((u8_eq _ _).2 (by rw [← hc, h]; rfl))
    by_cases c2 : 48 ≤ c ∧ c ≤ 57
    ·
     rw [if_pos c2, ← hd]
     exact value_t (d + 1) i (by omega) a (by omega) c hd hc c2 hI hB
    ·
     rw [if_neg c2]
     have c2' : ¬(48 ≤ bt s (a : Int) ∧ bt s (a : Int) ≤ 57) := fun h => c2 ((u8_digit c _ hc).2 h)
     by_cases c3 : c ≠ 108
     ·
      rw [if_pos c3]
      exact value_bad (d + 1) i a (by omega) c1' c2' (fun h => c3 ((u8_eq _ _).2 (by rw [← hc, h]; rfl))) hI hB
     ·
      rw [if_neg c3]
      exact value_list d i hi0 (by omega) hs a (by omega) (by rw [hc, Decidable.not_not.1 c3]; rfl) hI hB _ (LInv_start d s a (by omega)) (fun b hb W h1 h2 => ih (i + 1) (by omega) (by omega) b (by omega) h1 h2) _ rfl
end Go.Proofs.YtlggihnkhimfkaaDoor.Giv
namespace Go.Proofs.YtlggihnkhimfkaaDoor.P
open Go.RowKit Go.Proofs.YtlggihnkhimfkaaDoorW.PrintWords Go.Proofs.YtlggihnkhimfkaaDoorW.PrintLast Go.Proofs.YtlggihnkhimfkaaDoorW.PrintMore
attribute [local go_sem] max2_int min2_int max_two min_two max_three min_three max_four min_four   -- for this text's walks alone
set_option linter.unusedVariables false
set_option linter.unusedSimpArgs false
theorem eqA52 (d : Nat) (w : World) (x0 y0 : Int) (x1 y1 : Int) :
    (Op.equalIn (d + 2) 52 (.agg #[.int .i64 x0, .int .i64 x1]) (.agg #[.int .i64 y0, .int .i64 y1])).run Tryd.prog w = .ok (x0 == y0 && (x1 == y1)) w := by
  refine eqA_of Tryd.underlying52 (by kernel_rfl) ?_
  refine eqf_cons (by rfl) (by go_simp; rfl) (by go_simp; rfl) (by go_simp) ?_
  exact eqf_last (by rfl) (by go_simp; rfl) (by go_simp; rfl) (by go_simp)
end Go.Proofs.YtlggihnkhimfkaaDoor.P
namespace Go.Proofs.YtlggihnkhimfkaaDoor.P
open Go.RowKit Go.Proofs.YtlggihnkhimfkaaDoorW.PrintWords Go.Proofs.YtlggihnkhimfkaaDoorW.PrintLast Go.Proofs.YtlggihnkhimfkaaDoorW.PrintMore
attribute [local go_sem] max2_int min2_int max_two min_two max_three min_three max_four min_four   -- for this text's walks alone
set_option linter.unusedVariables false
set_option linter.unusedSimpArgs false
attribute [local go_sem high] eqA52
def ploverref01_SameInts.l0 : Nat → List Int → List Int → Int → Option (Bool)
  | 0, _, _, _ => none
  | k + 1, x0, x1, x5 => if x5 < (x0.length : Int) then (if 0 ≤ x5 then (if x5 < (x1.length : Int) then (if (rd x0 x5) = (rd x1 x5) then (ploverref01_SameInts.l0 k x0 x1 (wrap64 (x5 + 1))) else (some false)) else (none)) else (none)) else (some true)
def ploverref01_SameInts.f (k : Nat) (l0 : List Int) (l1 : List Int) : Option (Bool) := if (l0.length : Int) = (l1.length : Int) then (ploverref01_SameInts.l0 k l0 l1 0) else (some false)
set_option maxHeartbeats 8000000 in
set_option maxRecDepth 100000 in
theorem ploverref01_SameInts.calls (k : Nat) (A0 : Option Addr) (c0 : Nat) (l0 : List Int) (A1 : Option Addr) (c1 : Nat) (l1 : List Int) (r : Bool) (w : World) (hr0 : Kd.C (Kd.int .i64) w A0 l0.length l0) (hc0 : l0.length ≤ c0) (hr1 : Kd.C (Kd.int .i64) w A1 l1.length l1) (hc1 : l1.length ≤ c1) (h : ploverref01_SameInts.f k l0 l1 = some r) :
  Calls Tryd.prog 52 #[.slice A0 l0.length c0, .slice A1 l1.length c1] w fun e w' => e = .returned (.bool r) ∧ Drawn0 w w' := by
 have HR0 := Aside0.mk hr0
 have HC0 := Aside0.mk hc0
 clear hr0 hc0
 have HR1 := Aside0.mk hr1
 have HC1 := Aside0.mk hc1
 clear hr1 hc1
 have H : (if (l0.length : Int) = (l1.length : Int) then (ploverref01_SameInts.l0 k l0 l1 0) else (some false)) = some r := h
 clear h
 by_cases c3 : (l0.length : Int) = (l1.length : Int)
 ·
  rw [if_pos c3] at H
  have c3b0 : ((l0.length : Int) == (l1.length : Int)) = true := beq_iff_eq.mpr c3
  have c3b1 : ((l0.length : Int) != (l1.length : Int)) = false := bne_eq_false_iff_eq.mpr c3
  have c3b2 : (l0.length == l1.length) = true := by first | simpa using c3 | (simp at c3 ⊢; omega)
  clear c3
  have H' := Aside0.mk H
  clear H
  go_enter Tryd.func52, Tryd.ntmps52
  go_wp2
  repeat (go_quiet (fail); try go_wp2)
  go_loopg [5] k (fun kq v5 w' => ∃ (x5_1 : Int), v5 = .int .i64 x5_1 ∧ Aside0 (ploverref01_SameInts.l0 kq l0 l1 x5_1 = some r) ∧ Aside0 (kq ≤ k) ∧ Drawn0 w w')
  case atStart => exact ⟨(0), (by first | rfl | (simp; done) | (simp [*]; done)), H', ⟨Nat.le_refl _⟩, by repeat (first | exact Drawn0.refl _ | apply Drawn0.step)⟩
  case round =>
   clear H'
   try clear c1
   try clear p2
   try clear c3
   try clear c3b0
   try clear c3b1
   try clear c3b2
   obtain ⟨x5_1, rfl, HA, HK1, ⟨m1, rfl⟩⟩ := hrel
   cases gk with
   | zero => exact absurd HA.out (by simp [ploverref01_SameInts.l0])
   | succ k1 =>
    have H := HA.out
    clear HA
    simp only [ploverref01_SameInts.l0] at H
    by_cases c4 : x5_1 < (l0.length : Int)
    ·
     rw [if_pos c4] at H
     have c4b0 : decide (x5_1 < (l0.length : Int)) = true := decide_eq_true c4
     clear c4
     by_cases c5 : 0 ≤ x5_1
     ·
      rw [if_pos c5] at H
      have c5b0 : decide (0 ≤ x5_1) = true := decide_eq_true c5
      clear c5
      by_cases c6 : x5_1 < (l1.length : Int)
      ·
       rw [if_pos c6] at H
       have c6b0 : decide (x5_1 < (l1.length : Int)) = true := decide_eq_true c6
       clear c6
       by_cases c7 : (rd l0 x5_1) = (rd l1 x5_1)
       ·
        rw [if_pos c7] at H
        have c7b0 : ((rd l0 x5_1) == (rd l1 x5_1)) = true := beq_iff_eq.mpr c7
        have c7b1 : ((rd l0 x5_1) != (rd l1 x5_1)) = false := bne_eq_false_iff_eq.mpr c7
        clear c7
        have H' := Aside0.mk H
        clear H
        have p223 : 0 ≤ (x5_1 : Int) := of_decide_eq_true (by first | (with_reducible assumption) | assumption)
        have q223 : x5_1 < (l0.length : Int) := of_decide_eq_true (by first | (with_reducible assumption) | assumption)
        obtain ⟨ad223, e223, hx223_0⟩ := Kd.at_int HR0.out x5_1 p223 q223
        cases e223
        replace p223 := eq_true p223
        replace q223 := eq_true q223
        have p224 : 0 ≤ (x5_1 : Int) := of_decide_eq_true (by first | (with_reducible assumption) | assumption)
        have q224 : x5_1 < (l1.length : Int) := of_decide_eq_true (by first | (with_reducible assumption) | assumption)
        obtain ⟨ad224, e224, hx224_0⟩ := Kd.at_int HR1.out x5_1 p224 q224
        cases e224
        replace p224 := eq_true p224
        replace q224 := eq_true q224
        go_wp2
        repeat (go_quiet (fail); try go_wp2)
        go_roundg k1
        case measure => have := HK1.out; omega
        case rel => exact ⟨(wrap64 (x5_1 + 1)), (by first | rfl | (simp; done) | (simp [*]; done)), H', ⟨by have := HK1.out; omega⟩, by repeat (first | exact Drawn0.refl _ | apply Drawn0.step)⟩
       ·
        rw [if_neg c7] at H
        have c7b0 : ((rd l0 x5_1) == (rd l1 x5_1)) = false := beq_eq_false_iff_ne.mpr c7
        have c7b1 : ((rd l0 x5_1) != (rd l1 x5_1)) = true := bne_iff_ne.mpr c7
        obtain rfl := Option.some.inj H
        have p223 : 0 ≤ (x5_1 : Int) := of_decide_eq_true (by first | (with_reducible assumption) | assumption)
        have q223 : x5_1 < (l0.length : Int) := of_decide_eq_true (by first | (with_reducible assumption) | assumption)
        obtain ⟨ad223, e223, hx223_0⟩ := Kd.at_int HR0.out x5_1 p223 q223
        cases e223
        replace p223 := eq_true p223
        replace q223 := eq_true q223
        have p224 : 0 ≤ (x5_1 : Int) := of_decide_eq_true (by first | (with_reducible assumption) | assumption)
        have q224 : x5_1 < (l1.length : Int) := of_decide_eq_true (by first | (with_reducible assumption) | assumption)
        obtain ⟨ad224, e224, hx224_0⟩ := Kd.at_int HR1.out x5_1 p224 q224
        cases e224
        replace p224 := eq_true p224
        replace q224 := eq_true q224
        go_wp2
        repeat (go_quiet (fail); try go_wp2)
        go_ret
        exact ⟨by first | rfl | (simp; done) | (simp [*]; done), by repeat (first | exact Drawn0.refl _ | apply Drawn0.step)⟩
      ·
       rw [if_neg c6] at H
       exact absurd H (by simp)
     ·
      rw [if_neg c5] at H
      exact absurd H (by simp)
    ·
     rw [if_neg c4] at H
     have c4b0 : decide (x5_1 < (l0.length : Int)) = false := decide_eq_false c4
     clear c4
     obtain rfl := Option.some.inj H
     go_wp2
     repeat (go_quiet (fail); try go_wp2)
     go_ret
     exact ⟨by first | rfl | (simp; done) | (simp [*]; done), by repeat (first | exact Drawn0.refl _ | apply Drawn0.step)⟩
 ·
  rw [if_neg c3] at H
  have c3b0 : ((l0.length : Int) == (l1.length : Int)) = false := beq_eq_false_iff_ne.mpr c3
  have c3b1 : ((l0.length : Int) != (l1.length : Int)) = true := bne_iff_ne.mpr c3
  have c3b2 : (l0.length == l1.length) = false := by first | simpa using c3 | (simp at c3 ⊢; omega)
  obtain rfl := Option.some.inj H
  go_enter Tryd.func52, Tryd.ntmps52
  go_wp2
  repeat (go_quiet (fail); try go_wp2)
  go_ret
  exact ⟨by first | rfl | (simp; done) | (simp [*]; done), by repeat (first | exact Drawn0.refl _ | apply Drawn0.step)⟩
def ploverref05_Same.l0 : Nat → List (S52) → List (S52) → Int → Option (Bool)
  | 0, _, _, _ => none
  | k + 1, x0, x1, x5 => if x5 < (x0.length : Int) then (if 0 ≤ x5 then (if x5 < (x1.length : Int) then (if (!(((rd_T52 x0 x5).f0) == ((rd_T52 x1 x5).f0)) || (!(((rd_T52 x0 x5).f1) == ((rd_T52 x1 x5).f1)))) = true then (some false) else (ploverref05_Same.l0 k x0 x1 (wrap64 (x5 + 1)))) else (none)) else (none)) else (some true)
def ploverref05_Same.f (k : Nat) (l0 : List (S52)) (l1 : List (S52)) : Option (Bool) := if (l0.length : Int) = (l1.length : Int) then (ploverref05_Same.l0 k l0 l1 0) else (some false)
set_option maxHeartbeats 8000000 in
set_option maxRecDepth 100000 in
theorem ploverref05_Same.calls (k : Nat) (A0 : Option Addr) (c0 : Nat) (l0 : List (S52)) (A1 : Option Addr) (c1 : Nat) (l1 : List (S52)) (r : Bool) (w : World) (hr0 : Kd.C k52 w A0 l0.length l0) (hc0 : l0.length ≤ c0) (hr1 : Kd.C k52 w A1 l1.length l1) (hc1 : l1.length ≤ c1) (h : ploverref05_Same.f k l0 l1 = some r) :
  Calls Tryd.prog 33 #[.slice A0 l0.length c0, .slice A1 l1.length c1] w fun e w' => e = .returned (.bool r) ∧ Drawn0 w w' := by
 have hu52 := Tryd.underlying52
 have HR0 := Aside0.mk hr0
 have HC0 := Aside0.mk hc0
 clear hr0 hc0
 have HR1 := Aside0.mk hr1
 have HC1 := Aside0.mk hc1
 clear hr1 hc1
 have H : (if (l0.length : Int) = (l1.length : Int) then (ploverref05_Same.l0 k l0 l1 0) else (some false)) = some r := h
 clear h
 by_cases c3 : (l0.length : Int) = (l1.length : Int)
 ·
  rw [if_pos c3] at H
  have c3b0 : ((l0.length : Int) == (l1.length : Int)) = true := beq_iff_eq.mpr c3
  have c3b1 : ((l0.length : Int) != (l1.length : Int)) = false := bne_eq_false_iff_eq.mpr c3
  have c3b2 : (l0.length == l1.length) = true := by first | simpa using c3 | (simp at c3 ⊢; omega)
  clear c3
  have H' := Aside0.mk H
  clear H
  go_enter Tryd.func33, Tryd.ntmps33
  go_wp2
  repeat (go_quiet (fail); try go_wp2)
  go_loopg [5] k (fun kq v5 w' => ∃ (x5_1 : Int), v5 = .int .i64 x5_1 ∧ Aside0 (ploverref05_Same.l0 kq l0 l1 x5_1 = some r) ∧ Aside0 (kq ≤ k) ∧ Drawn0 w w')
  case atStart => exact ⟨(0), (by first | rfl | (simp; done) | (simp [*]; done)), H', ⟨Nat.le_refl _⟩, by repeat (first | exact Drawn0.refl _ | apply Drawn0.step)⟩
  case round =>
   clear H'
   try clear c1
   try clear p2
   try clear c3
   try clear c3b0
   try clear c3b1
   try clear c3b2
   obtain ⟨x5_1, rfl, HA, HK1, ⟨m1, rfl⟩⟩ := hrel
   cases gk with
   | zero => exact absurd HA.out (by simp [ploverref05_Same.l0])
   | succ k1 =>
    have H := HA.out
    clear HA
    simp only [ploverref05_Same.l0] at H
    by_cases c4 : x5_1 < (l0.length : Int)
    ·
     rw [if_pos c4] at H
     have c4b0 : decide (x5_1 < (l0.length : Int)) = true := decide_eq_true c4
     clear c4
     by_cases c5 : 0 ≤ x5_1
     ·
      rw [if_pos c5] at H
      have c5b0 : decide (0 ≤ x5_1) = true := decide_eq_true c5
      clear c5
      by_cases c6 : x5_1 < (l1.length : Int)
      ·
       rw [if_pos c6] at H
       have c6b0 : decide (x5_1 < (l1.length : Int)) = true := decide_eq_true c6
       clear c6
       by_cases c7 : (!(((rd_T52 l0 x5_1).f0) == ((rd_T52 l1 x5_1).f0)) || (!(((rd_T52 l0 x5_1).f1) == ((rd_T52 l1 x5_1).f1)))) = true
       ·
        rw [if_pos c7] at H
        have c7b0 : (!(((rd_T52 l0 x5_1).f0) == ((rd_T52 l1 x5_1).f0)) || (!(((rd_T52 l0 x5_1).f1) == ((rd_T52 l1 x5_1).f1)))) = true := c7
        clear c7
        obtain rfl := Option.some.inj H
        have p228 : 0 ≤ (x5_1 : Int) := of_decide_eq_true (by first | (with_reducible assumption) | assumption)
        have q228 : x5_1 < (l0.length : Int) := of_decide_eq_true (by first | (with_reducible assumption) | assumption)
        obtain ⟨ad228, e228, hx228_0, hx228_1⟩ := at_T52 HR0.out x5_1 p228 q228
        cases e228
        replace p228 := eq_true p228
        replace q228 := eq_true q228
        have p229 : 0 ≤ (x5_1 : Int) := of_decide_eq_true (by first | (with_reducible assumption) | assumption)
        have q229 : x5_1 < (l1.length : Int) := of_decide_eq_true (by first | (with_reducible assumption) | assumption)
        obtain ⟨ad229, e229, hx229_0, hx229_1⟩ := at_T52 HR1.out x5_1 p229 q229
        cases e229
        replace p229 := eq_true p229
        replace q229 := eq_true q229
        go_wp2
        repeat (go_quiet (fail); try go_wp2)
        go_ret
        exact ⟨by first | rfl | (simp; done) | (simp [*]; done), by repeat (first | exact Drawn0.refl _ | apply Drawn0.step)⟩
       ·
        rw [if_neg c7] at H
        have c7b0 : (!(((rd_T52 l0 x5_1).f0) == ((rd_T52 l1 x5_1).f0)) || (!(((rd_T52 l0 x5_1).f1) == ((rd_T52 l1 x5_1).f1)))) = false := by simpa using c7
        clear c7
        have H' := Aside0.mk H
        clear H
        have p228 : 0 ≤ (x5_1 : Int) := of_decide_eq_true (by first | (with_reducible assumption) | assumption)
        have q228 : x5_1 < (l0.length : Int) := of_decide_eq_true (by first | (with_reducible assumption) | assumption)
        obtain ⟨ad228, e228, hx228_0, hx228_1⟩ := at_T52 HR0.out x5_1 p228 q228
        cases e228
        replace p228 := eq_true p228
        replace q228 := eq_true q228
        have p229 : 0 ≤ (x5_1 : Int) := of_decide_eq_true (by first | (with_reducible assumption) | assumption)
        have q229 : x5_1 < (l1.length : Int) := of_decide_eq_true (by first | (with_reducible assumption) | assumption)
        obtain ⟨ad229, e229, hx229_0, hx229_1⟩ := at_T52 HR1.out x5_1 p229 q229
        cases e229
        replace p229 := eq_true p229
        replace q229 := eq_true q229
        go_wp2
        repeat (go_quiet (fail); try go_wp2)
        go_roundg k1
        case measure => have := HK1.out; omega
        case rel => exact ⟨(wrap64 (x5_1 + 1)), (by first | rfl | (simp; done) | (simp [*]; done)), H', ⟨by have := HK1.out; omega⟩, by repeat (first | exact Drawn0.refl _ | apply Drawn0.step)⟩
      ·
       rw [if_neg c6] at H
       exact absurd H (by simp)
     ·
      rw [if_neg c5] at H
      exact absurd H (by simp)
    ·
     rw [if_neg c4] at H
     have c4b0 : decide (x5_1 < (l0.length : Int)) = false := decide_eq_false c4
     clear c4
     obtain rfl := Option.some.inj H
     go_wp2
     repeat (go_quiet (fail); try go_wp2)
     go_ret
     exact ⟨by first | rfl | (simp; done) | (simp [*]; done), by repeat (first | exact Drawn0.refl _ | apply Drawn0.step)⟩
 ·
  rw [if_neg c3] at H
  have c3b0 : ((l0.length : Int) == (l1.length : Int)) = false := beq_eq_false_iff_ne.mpr c3
  have c3b1 : ((l0.length : Int) != (l1.length : Int)) = true := bne_iff_ne.mpr c3
  have c3b2 : (l0.length == l1.length) = false := by first | simpa using c3 | (simp at c3 ⊢; omega)
  obtain rfl := Option.some.inj H
  go_enter Tryd.func33, Tryd.ntmps33
  go_wp2
  repeat (go_quiet (fail); try go_wp2)
  go_ret
  exact ⟨by first | rfl | (simp; done) | (simp [*]; done), by repeat (first | exact Drawn0.refl _ | apply Drawn0.step)⟩
end Go.Proofs.YtlggihnkhimfkaaDoor.P
namespace Go.Proofs.YtlggihnkhimfkaaDoor.P
open Go.RowKit Go.Proofs.YtlggihnkhimfkaaDoorW.PrintWords Go.Proofs.YtlggihnkhimfkaaDoorW.PrintLast Go.Proofs.YtlggihnkhimfkaaDoorW.PrintMore
attribute [local go_sem] max2_int min2_int max_two min_two max_three min_three max_four min_four   -- for this text's walks alone
set_option linter.unusedVariables false
set_option linter.unusedSimpArgs false
def benc_Int.f (a0 : Int) : Option (Int × Int × ByteArray × (List (S49))) := some (1, a0, (⟨#[]⟩ : ByteArray), ([] : List (S49)))
set_option maxHeartbeats 8000000 in
set_option maxRecDepth 100000 in
theorem benc_Int.calls (a0 : Int) (r1 : Int) (r2 : Int) (r3 : ByteArray) (r4 : List (S49)) (w : World) (h : benc_Int.f a0 = some (r1, r2, r3, r4)) :
    Calls Tryd.prog 16 #[.int .i64 a0] w fun e w' => ∃ v3_ : Value, e = .returned (.agg #[.int .i64 r1, .int .i64 r2, .string r3, v3_]) ∧ Kd.R k49 49 w' w.heap.size (fun _ => True) v3_ r4 ∧ Below w.heap.size w w' := by
  have hu49 := Tryd.underlying49
  have HB := Aside0.mk (Below.refl w.heap.size w)
  have H : (some (1, a0, (⟨#[]⟩ : ByteArray), ([] : List (S49)))) = some (r1, r2, r3, r4) := h
  clear h
  simp only [Option.some.injEq, Prod.mk.injEq] at H
  obtain ⟨rfl, rfl, rfl, rfl⟩ := H
  go_enter Tryd.func16, Tryd.ntmps16
  go_wp2_with (first | ((with_reducible refine gate_dst (N := 2) rfl ?_); refine box_event ?hg (N := 2) ?hd (cs := #[.int .i64 0, .int .i64 0, .string (⟨#[]⟩ : ByteArray), .slice none 0 0]) (t := 49) ?hr ?_; (case hd => rfl); (case hg => rfl); (case hr => first | (go_simp; done) | (go_simp; rfl)); intro gb368 hg w2 hbox hb; have n0_ := Aside0.mk (below_step (by repeat (first | (with_reducible first | exact HB.out | apply below_alloc | apply pw_below_drewN | apply below_drew1) | exact HB.out)) hb); have n1_ := Aside0.mk (hbox); have n2_ := Aside0.mk ((by rw [hg]; exact (below_size (by repeat (first | (with_reducible first | exact HB.out | apply below_alloc | apply pw_below_drewN | apply below_drew1) | exact HB.out))) : w.heap.size ≤ gb368)); have n3_ := Aside0.mk ((by rw [hg]; exact (below_size (by repeat (first | (with_reducible first | exact HB.out | apply below_alloc | apply pw_below_drewN | apply below_drew1) | exact HB.out))) : w.heap.size ≤ gb368)); clear HB; have HB := n0_; have BK368 := n1_; have GW368 := n2_; have GE368 := n3_; clear n0_ n1_ n2_ n3_; clear hb hbox hg; have hcz3_0 : w2.cell? ⟨gb368, 0, none⟩ = some (.int .i64 0) := (blk_cell BK368.out 0).trans rfl; have hcz3_1 : w2.cell? ⟨gb368, 1, none⟩ = some (.int .i64 0) := (blk_cell BK368.out 1).trans rfl; have hcz3_2 : w2.cell? ⟨gb368, 2, none⟩ = some (.string (⟨#[]⟩ : ByteArray)) := (blk_cell BK368.out 2).trans rfl; have hcz3_3 : w2.cell? ⟨gb368, 3, none⟩ = some (.slice none 0 0) := (blk_cell BK368.out 3).trans rfl; have hfz3_0 := blk_frozen BK368.out 0; have hfz3_1 := blk_frozen BK368.out 1; have hfz3_2 := blk_frozen BK368.out 2; have hfz3_3 := blk_frozen BK368.out 3))
  refine bodyPost_ret (results_cell_row rfl _ _ gb368 49 #[.int .i64 1, .int .i64 a0, .string (⟨#[]⟩ : ByteArray), .slice none 0 0] (0, 0) _ rfl (by (with_reducible repeat (first | refine blk_drewN ?_ _ | refine blk_drew ?_ | refine blk_alloc ?_ _)); refine blk_put (cs := #[.int .i64 1, .int .i64 a0, .string (⟨#[]⟩ : ByteArray), .slice none 0 0]) ?_ 3 _ rfl; (with_reducible repeat (first | refine blk_drewN ?_ _ | refine blk_drew ?_ | refine blk_alloc ?_ _)); refine blk_put (cs := #[.int .i64 1, .int .i64 a0, .string (⟨#[]⟩ : ByteArray), .slice none 0 0]) ?_ 2 _ rfl; (with_reducible repeat (first | refine blk_drewN ?_ _ | refine blk_drew ?_ | refine blk_alloc ?_ _)); refine blk_put (cs := #[.int .i64 1, .int .i64 0, .string (⟨#[]⟩ : ByteArray), .slice none 0 0]) ?_ 1 _ rfl; (with_reducible repeat (first | refine blk_drewN ?_ _ | refine blk_drew ?_ | refine blk_alloc ?_ _)); refine blk_put (cs := #[.int .i64 0, .int .i64 0, .string (⟨#[]⟩ : ByteArray), .slice none 0 0]) ?_ 0 _ rfl; (with_reducible repeat (first | refine blk_drewN ?_ _ | refine blk_drew ?_ | refine blk_alloc ?_ _)); exact BK368.out) Tryd.underlying49 rfl (by kernel_rfl)) rfl ?_
  exact ⟨_, by first | rfl | (simp [errW_none, errW_some] <;> rfl) | (simp [*, errW_none, errW_some] <;> rfl), by first | exact Kd.R_nil _ _ _ _ _ | exact Kd.N_nil _ _ _ _ _ | exact Kd.V_nil _ _ _ _ _ | exact Kd.Q_nil _ _ _ _ _ | exact Kd.S_nil _ _ _ _ _, by repeat (first | (with_reducible first | exact HB.out | apply below_alloc | apply pw_below_drewN | apply below_drew1 | refine below_set ?_ GE368.out) | exact HB.out)⟩
end Go.Proofs.YtlggihnkhimfkaaDoor.P
namespace Go.Proofs.YtlggihnkhimfkaaDoor.P
open Go.RowKit Go.Proofs.YtlggihnkhimfkaaDoorW.PrintWords Go.Proofs.YtlggihnkhimfkaaDoorW.PrintLast Go.Proofs.YtlggihnkhimfkaaDoorW.PrintMore
attribute [local go_sem] max2_int min2_int max_two min_two max_three min_three max_four min_four   -- for this text's walks alone
set_option linter.unusedVariables false
set_option linter.unusedSimpArgs false
def benc_Str.f (a0 : ByteArray) : Option (Int × Int × ByteArray × (List (S49))) := some (2, 0, a0, ([] : List (S49)))
set_option maxHeartbeats 8000000 in
set_option maxRecDepth 100000 in
theorem benc_Str.calls (a0 : ByteArray) (r1 : Int) (r2 : Int) (r3 : ByteArray) (r4 : List (S49)) (w : World) (h : benc_Str.f a0 = some (r1, r2, r3, r4)) :
    Calls Tryd.prog 69 #[.string a0] w fun e w' => ∃ v3_ : Value, e = .returned (.agg #[.int .i64 r1, .int .i64 r2, .string r3, v3_]) ∧ Kd.R k49 49 w' w.heap.size (fun _ => True) v3_ r4 ∧ Below w.heap.size w w' := by
  have hu49 := Tryd.underlying49
  have HB := Aside0.mk (Below.refl w.heap.size w)
  have H : (some (2, 0, a0, ([] : List (S49)))) = some (r1, r2, r3, r4) := h
  clear h
  simp only [Option.some.injEq, Prod.mk.injEq] at H
  obtain ⟨rfl, rfl, rfl, rfl⟩ := H
  go_enter Tryd.func69, Tryd.ntmps69
  go_wp2_with (first | ((with_reducible refine gate_dst (N := 2) rfl ?_); refine box_event ?hg (N := 2) ?hd (cs := #[.int .i64 0, .int .i64 0, .string (⟨#[]⟩ : ByteArray), .slice none 0 0]) (t := 49) ?hr ?_; (case hd => rfl); (case hg => rfl); (case hr => first | (go_simp; done) | (go_simp; rfl)); intro gb369 hg w2 hbox hb; have n0_ := Aside0.mk (below_step (by repeat (first | (with_reducible first | exact HB.out | apply below_alloc | apply pw_below_drewN | apply below_drew1) | exact HB.out)) hb); have n1_ := Aside0.mk (hbox); have n2_ := Aside0.mk ((by rw [hg]; exact (below_size (by repeat (first | (with_reducible first | exact HB.out | apply below_alloc | apply pw_below_drewN | apply below_drew1) | exact HB.out))) : w.heap.size ≤ gb369)); have n3_ := Aside0.mk ((by rw [hg]; exact (below_size (by repeat (first | (with_reducible first | exact HB.out | apply below_alloc | apply pw_below_drewN | apply below_drew1) | exact HB.out))) : w.heap.size ≤ gb369)); clear HB; have HB := n0_; have BK369 := n1_; have GW369 := n2_; have GE369 := n3_; clear n0_ n1_ n2_ n3_; clear hb hbox hg; have hcz3_0 : w2.cell? ⟨gb369, 0, none⟩ = some (.int .i64 0) := (blk_cell BK369.out 0).trans rfl; have hcz3_1 : w2.cell? ⟨gb369, 1, none⟩ = some (.int .i64 0) := (blk_cell BK369.out 1).trans rfl; have hcz3_2 : w2.cell? ⟨gb369, 2, none⟩ = some (.string (⟨#[]⟩ : ByteArray)) := (blk_cell BK369.out 2).trans rfl; have hcz3_3 : w2.cell? ⟨gb369, 3, none⟩ = some (.slice none 0 0) := (blk_cell BK369.out 3).trans rfl; have hfz3_0 := blk_frozen BK369.out 0; have hfz3_1 := blk_frozen BK369.out 1; have hfz3_2 := blk_frozen BK369.out 2; have hfz3_3 := blk_frozen BK369.out 3))
  refine bodyPost_ret (results_cell_row rfl _ _ gb369 49 #[.int .i64 2, .int .i64 0, .string a0, .slice none 0 0] (0, 0) _ rfl (by (with_reducible repeat (first | refine blk_drewN ?_ _ | refine blk_drew ?_ | refine blk_alloc ?_ _)); refine blk_put (cs := #[.int .i64 2, .int .i64 0, .string a0, .slice none 0 0]) ?_ 3 _ rfl; (with_reducible repeat (first | refine blk_drewN ?_ _ | refine blk_drew ?_ | refine blk_alloc ?_ _)); refine blk_put (cs := #[.int .i64 2, .int .i64 0, .string (⟨#[]⟩ : ByteArray), .slice none 0 0]) ?_ 2 _ rfl; (with_reducible repeat (first | refine blk_drewN ?_ _ | refine blk_drew ?_ | refine blk_alloc ?_ _)); refine blk_put (cs := #[.int .i64 2, .int .i64 0, .string (⟨#[]⟩ : ByteArray), .slice none 0 0]) ?_ 1 _ rfl; (with_reducible repeat (first | refine blk_drewN ?_ _ | refine blk_drew ?_ | refine blk_alloc ?_ _)); refine blk_put (cs := #[.int .i64 0, .int .i64 0, .string (⟨#[]⟩ : ByteArray), .slice none 0 0]) ?_ 0 _ rfl; (with_reducible repeat (first | refine blk_drewN ?_ _ | refine blk_drew ?_ | refine blk_alloc ?_ _)); exact BK369.out) Tryd.underlying49 rfl (by kernel_rfl)) rfl ?_
  exact ⟨_, by first | rfl | (simp [errW_none, errW_some] <;> rfl) | (simp [*, errW_none, errW_some] <;> rfl), by first | exact Kd.R_nil _ _ _ _ _ | exact Kd.N_nil _ _ _ _ _ | exact Kd.V_nil _ _ _ _ _ | exact Kd.Q_nil _ _ _ _ _ | exact Kd.S_nil _ _ _ _ _, by repeat (first | (with_reducible first | exact HB.out | apply below_alloc | apply pw_below_drewN | apply below_drew1 | refine below_set ?_ GE369.out) | exact HB.out)⟩
end Go.Proofs.YtlggihnkhimfkaaDoor.P
namespace Go.Proofs.YtlggihnkhimfkaaDoor.Giv
open Go.RowKit Go.Lib Go.Sort Go.Proofs.YtlggihnkhimfkaaDoorW.PrintWords Go.Proofs.YtlggihnkhimfkaaDoorW.PrintLast Go.Proofs.YtlggihnkhimfkaaDoorW.PrintMore
set_option linter.unusedVariables false
set_option linter.unusedSimpArgs false
set_option maxHeartbeats 4000000 in
set_option maxRecDepth 100000 in
theorem List_calls (A : Option Addr) (n c : Nat) (w : World) :
    Calls Tryd.prog 19 #[.slice A n c] w fun e w' => e = .returned (.agg #[.int .i64 3, .int .i64 0, .string ⟨#[]⟩, .slice A n c]) ∧ Below w.heap.size w w' := by
  have hu := Tryd.underlying49
  go_enter Tryd.func19, Tryd.ntmps19
  go_wp2
  go_returns
  refine ⟨rfl, ?_⟩
  exact (Below.refl _ _).alloc (Nat.le_refl _) _
theorem blk_store4 {w : World} {g t : Nat} {a b c d : Value} (h : w.heap[g]? = some (.cells #[a, b, c, d] t (0, 0))) (a' b' c' d' : Value) :
    ((((w.setCell ⟨g, 0, none⟩ a').setCell ⟨g, 1, none⟩ b').setCell ⟨g, 2, none⟩ c').setCell ⟨g, 3, none⟩ d').heap[g]? = some (.cells #[a', b', c', d'] t (0, 0)) :=
  blk_put (blk_put (blk_put (blk_put h 0 a' rfl) 1 b' rfl) 2 c' rfl) 3 d' rfl
theorem below_store4 {B : Nat} {w0 w : World} {g : Nat} (h : Below B w0 w) (hg : B ≤ g) (a' b' c' d' : Value) :
    Below B w0 ((((w.setCell ⟨g, 0, none⟩ a').setCell ⟨g, 1, none⟩ b').setCell ⟨g, 2, none⟩ c').setCell ⟨g, 3, none⟩ d') :=
  (((h.setCell (p := ⟨g, 0, none⟩) hg _).setCell (p := ⟨g, 1, none⟩) hg _).setCell (p := ⟨g, 2, none⟩) hg _).setCell (p := ⟨g, 3, none⟩) hg _
theorem R_store4 {d : Kd V} {e : Nat} {w : World} {base g : Nat} {ok : Nat → Prop} {v : Value} {xs : List V} (h : d.R e w base ok v xs) (hok : ∀ k, ok k → k ≠ g) (a' b' c' d' : Value) :
    d.R e ((((w.setCell ⟨g, 0, none⟩ a').setCell ⟨g, 1, none⟩ b').setCell ⟨g, 2, none⟩ c').setCell ⟨g, 3, none⟩ d') base ok v xs :=
  Kd.R_far (p := ⟨g, 3, none⟩) (Kd.R_far (p := ⟨g, 2, none⟩) (Kd.R_far (p := ⟨g, 1, none⟩) (Kd.R_far (p := ⟨g, 0, none⟩) h hok _) hok _) hok _) hok _
mutual
def gud : V → Bool
  | ⟨k, n, s, L⟩ => if k = 1 then s.size == 0 && L.isEmpty else if k = 2 then n == 0 && L.isEmpty else if k = 3 then n == 0 && s.size == 0 && guds L else false
def guds : List V → Bool
  | [] => true
  | x :: xs => gud x && guds xs
end
theorem gud_z : gud zV = false := by unfold zV; rw [gud]; rfl
theorem gud_int (n : Int) : gud (intV n) = true := by unfold intV; rw [gud]; rfl
theorem gud_str (s : ByteArray) : gud (strV s) = true := by unfold strV; rw [gud]; rfl
theorem gud_lis (L : List V) : gud (lisV L) = guds L := by unfold lisV; rw [gud]; rfl
theorem guds_nil : guds [] = true := by rw [guds]
theorem guds_cons (x : V) (xs : List V) : guds (x :: xs) = (gud x && guds xs) := by rw [guds]
theorem gud_mem {x : V} : ∀ {L : List V}, x ∈ L → guds L = true → gud x = true
  | y :: ys, h, ho => by
    rw [guds_cons, Bool.and_eq_true] at ho
    rcases List.mem_cons.1 h with rfl | h
    · exact ho.1
    · exact gud_mem h ho.2
theorem listL_gud (f : List UInt8 → Int × V × Nat) (hf : ∀ l, (f l).1 = 0 → gud (f l).2.1 = true) : ∀ (k : Nat) (l : List UInt8), (listL f k l).1 = 0 → guds (listL f k l).2.1 = true
  | _, [], h => by rw [listL] at h; cases h
  | 0, c :: t, h => by rw [listL] at h; cases h; simp
  | k + 1, c :: t, h => by
    rw [listL] at h ⊢
    split at h
    · rename_i h1; rw [if_pos h1]; exact guds_nil
    · rename_i h1
      rw [if_neg h1]
      split at h
      · rename_i h2
        rw [if_pos h2]
        split at h
        · rename_i h3
          rw [if_pos h3]
          simp only
          rw [guds_cons, hf _ h2, listL_gud f hf k _ h3]
          rfl
        · rename_i h3; exact absurd h h3
      · rename_i h2; exact absurd h h2
theorem valL_gud : ∀ (d : Nat) (l : List UInt8), (valL d l).1 = 0 → gud (valL d l).2.1 = true := by
 intro d
 induction d with
 | zero =>
  intro l h
  cases l with
  | nil => rw [valL_nil] at h; cases h
  | cons c t =>
   rw [valL_cons] at h ⊢
   split at h
   ·
    rename_i h1
    rw [if_pos h1]
    split at h
    ·
     rename_i h2; rw [if_pos h2]; exact gud_int _
    ·
     rename_i h2; exact absurd h h2
   ·
    rename_i h1
    rw [if_neg h1]
    split at h
    ·
     rename_i h2
     rw [if_pos h2]
     split at h
     ·
      rename_i h3
      rw [if_pos h3]
      split at h
      ·
       cases h
      ·
       rename_i h4; rw [if_neg h4]; exact gud_str _
     ·
      rename_i h3; exact absurd h h3
    ·
     split at h
     ·
      cases h
     ·
      cases h
 | succ d ih =>
  intro l h
  cases l with
  | nil => rw [valL_nil] at h; cases h
  | cons c t =>
   rw [valL_cons] at h ⊢
   split at h
   ·
    rename_i h1
    rw [if_pos h1]
    split at h
    ·
     rename_i h2; rw [if_pos h2]; exact gud_int _
    ·
     rename_i h2; exact absurd h h2
   ·
    rename_i h1
    rw [if_neg h1]
    split at h
    ·
     rename_i h2
     rw [if_pos h2]
     split at h
     ·
      rename_i h3
      rw [if_pos h3]
      split at h
      ·
       cases h
      ·
       rename_i h4; rw [if_neg h4]; exact gud_str _
     ·
      rename_i h3; exact absurd h h3
    ·
     rename_i h2
     rw [if_neg h2]
     split at h
     ·
      cases h
     ·
      rename_i h3
      rw [if_neg h3]
      dsimp only at h ⊢
      split at h
      ·
       rename_i h4
       simp only [h4, if_true]
       rw [gud_lis]
       exact listL_gud (valL d) ih _ _ h4
      ·
       rename_i h4; exact absurd h h4
def OPost (x : V) (w : World) (e : Ending) (w' : World) : Prop :=
  ∃ v3 : Value, e = .returned (.agg #[.int .i64 x.f0, .int .i64 x.f1, .string x.f2, v3]) ∧ Kd.R P.k49 49 w' w.heap.size (fun _ => True) v3 x.f3 ∧ Below w.heap.size w w'
set_option maxRecDepth 100000 in
theorem ta_int (n : Int) (W : World) : (Instr.typeAssert (.iface 3 (.int .i64 n)) 20 3 true).run Tryd.prog W = .ok (.tuple #[.int .i64 n, .bool true]) W := rfl
set_option maxHeartbeats 4000000 in
set_option maxRecDepth 100000 in
theorem of_int (n : Int) (w : World) : Calls Tryd.prog 61 #[.iface 3 (.int .i64 n)] w (OPost (intV n) w) := by
  have hta := fun (W : World) => ta_int n W
  have HI := Aside0.mk (fun (W : World) => P.benc_Int.calls n 1 n ⟨#[]⟩ [] W rfl)
  have hu := Tryd.underlying49
  go_enter Tryd.func61, Tryd.ntmps61
  go_wp2_with fail
  refine (HI.out _).mono ?_
  rintro e w1 ⟨v3, rfl, hR, hb⟩
  have bk := blk_below (blk_new w (.cells #[.int .i64 0, .int .i64 0, .string ⟨#[]⟩, .slice none 0 0] 49)) hb
  obtain ⟨A3, c3, rfl⟩ := Kd.R_slice hR
  have BK := Aside0.mk bk
  have HR := Aside0.mk hR
  have HB := Aside0.mk hb
  have x0 : w1.cell? ⟨w.heap.size, 0, none⟩ = some (.int .i64 0) := (blk_cell bk 0).trans rfl
  have x1 : w1.cell? ⟨w.heap.size, 1, none⟩ = some (.int .i64 0) := (blk_cell bk 1).trans rfl
  have x2 : w1.cell? ⟨w.heap.size, 2, none⟩ = some (.string ⟨#[]⟩) := (blk_cell bk 2).trans rfl
  have x3 : w1.cell? ⟨w.heap.size, 3, none⟩ = some (.slice none 0 0) := (blk_cell bk 3).trans rfl
  have y0 := blk_frozen bk 0
  have y1 := blk_frozen bk 1
  have y2 := blk_frozen bk 2
  have y3 := blk_frozen bk 3
  clear bk hR hb
  go_wp2
  refine bodyPost_ret (results_cell_row rfl _ _ w.heap.size 49 #[.int .i64 1, .int .i64 n, .string ⟨#[]⟩, .slice A3 0 c3] (0, 0) _ rfl (blk_store4 BK.out _ _ _ _) hu rfl (by kernel_rfl)) rfl ?_
  exact ⟨_, rfl, Kd.R_mono (R_store4 (Kd.R_lower (Kd.R_mono (Kd.R_bound HR.out) (ok' := fun k => k ≠ w.heap.size) (fun k hk => by have := hk.2.1; simp at this; omega)) (by simp)) (fun k hk => hk) _ _ _ _) (fun _ _ => trivial), below_store4 (((Below.refl _ w).alloc (Nat.le_refl _) _).trans (HB.out.mono (by simp))) (Nat.le_refl _) _ _ _ _⟩
set_option maxRecDepth 100000 in
theorem ta_mis (s : ByteArray) (W : World) : (Instr.typeAssert (.iface 9 (.string s)) 20 3 true).run Tryd.prog W = .ok (.tuple #[.int .i64 0, .bool false]) W := rfl
set_option maxRecDepth 100000 in
theorem ta_str (s : ByteArray) (W : World) : (Instr.typeAssert (.iface 9 (.string s)) 20 9 true).run Tryd.prog W = .ok (.tuple #[.string s, .bool true]) W := rfl
set_option maxHeartbeats 4000000 in
set_option maxRecDepth 100000 in
theorem of_str (n : ByteArray) (w : World) : Calls Tryd.prog 61 #[.iface 9 (.string n)] w (OPost (strV n) w) := by
  have hta := fun (W : World) => ta_mis n W
  have htb := fun (W : World) => ta_str n W
  have HI := Aside0.mk (fun (W : World) => P.benc_Str.calls n 2 0 n [] W rfl)
  have hu := Tryd.underlying49
  go_enter Tryd.func61, Tryd.ntmps61
  go_wp2_with fail
  refine (HI.out _).mono ?_
  rintro e w1 ⟨v3, rfl, hR, hb⟩
  have bk := blk_below (blk_new w (.cells #[.int .i64 0, .int .i64 0, .string ⟨#[]⟩, .slice none 0 0] 49)) hb
  obtain ⟨A3, c3, rfl⟩ := Kd.R_slice hR
  have BK := Aside0.mk bk
  have HR := Aside0.mk hR
  have HB := Aside0.mk hb
  have x0 : w1.cell? ⟨w.heap.size, 0, none⟩ = some (.int .i64 0) := (blk_cell bk 0).trans rfl
  have x1 : w1.cell? ⟨w.heap.size, 1, none⟩ = some (.int .i64 0) := (blk_cell bk 1).trans rfl
  have x2 : w1.cell? ⟨w.heap.size, 2, none⟩ = some (.string ⟨#[]⟩) := (blk_cell bk 2).trans rfl
  have x3 : w1.cell? ⟨w.heap.size, 3, none⟩ = some (.slice none 0 0) := (blk_cell bk 3).trans rfl
  have y0 := blk_frozen bk 0
  have y1 := blk_frozen bk 1
  have y2 := blk_frozen bk 2
  have y3 := blk_frozen bk 3
  clear bk hR hb
  go_wp2
  refine bodyPost_ret (results_cell_row rfl _ _ w.heap.size 49 #[.int .i64 2, .int .i64 0, .string n, .slice A3 0 c3] (0, 0) _ rfl (blk_store4 BK.out _ _ _ _) hu rfl (by kernel_rfl)) rfl ?_
  exact ⟨_, rfl, Kd.R_mono (R_store4 (Kd.R_lower (Kd.R_mono (Kd.R_bound HR.out) (ok' := fun k => k ≠ w.heap.size) (fun k hk => by have := hk.2.1; simp at this; omega)) (by simp)) (fun k hk => hk) _ _ _ _) (fun _ _ => trivial), below_store4 (((Below.refl _ w).alloc (Nat.le_refl _) _).trans (HB.out.mono (by simp))) (Nat.le_refl _) _ _ _ _⟩
open Go.RowKit Go.Lib
mutual
def nrm : V → V
  | ⟨k, n, s, L⟩ => if k = 1 then intV n else if k = 2 then strV s else lisV (nrms L)
def nrms : List V → List V
  | [] => []
  | x :: xs => nrm x :: nrms xs
end
theorem nrm_eq (v : V) : nrm v = if v.f0 = 1 then intV v.f1 else if v.f0 = 2 then strV v.f2 else lisV (nrms v.f3) := by obtain ⟨k, n, s, L⟩ := v; rw [nrm]
theorem nrms_nil : nrms [] = [] := by rw [nrms]
theorem nrms_cons (x : V) (xs : List V) : nrms (x :: xs) = nrm x :: nrms xs := by rw [nrms]
mutual
def tok : V → Bool
  | ⟨k, n, s, L⟩ => if k = 1 then true else if k = 2 then decide (s.size ≤ 65536) else toks L
def toks : List V → Bool
  | [] => true
  | x :: xs => tok x && toks xs
end
theorem tok_eq (v : V) : tok v = if v.f0 = 1 then true else if v.f0 = 2 then decide (v.f2.size ≤ 65536) else toks v.f3 := by obtain ⟨k, n, s, L⟩ := v; rw [tok]
theorem toks_nil : toks [] = true := by rw [toks]
theorem toks_cons (x : V) (xs : List V) : toks (x :: xs) = (tok x && toks xs) := by rw [toks]
mutual
theorem tok_of_len : ∀ v : V, (enc v).length ≤ 65537 → tok v = true
  | ⟨k, n, s, L⟩, h => by
    rw [enc] at h
    rw [tok]
    by_cases c1 : k = 1
    · rw [if_pos c1]
    · rw [if_neg c1] at h ⊢
      by_cases c2 : k = 2
      · rw [if_pos c2] at h ⊢
        rw [List.length_append, List.length_cons, data_size] at h
        exact decide_eq_true (by omega)
      · rw [if_neg c2] at h ⊢
        rw [List.length_cons, List.length_append] at h
        exact toks_of_len L (by omega)
theorem toks_of_len : ∀ L : List V, (encs L).length ≤ 65537 → toks L = true
  | [], _ => toks_nil
  | x :: xs, h => by
    rw [encs_cons, List.length_append] at h
    rw [toks_cons, tok_of_len x (by omega), toks_of_len xs (by omega)]
    rfl
end
theorem itoa_neg {n : Int} (h : n < 0) : itoa n = 45 :: decDigits n.natAbs := by unfold itoa; rw [if_pos h]
theorem itoa_pos {n : Int} (h : ¬ n < 0) : itoa n = decDigits n.toNat := by unfold itoa; rw [if_neg h]
theorem dd_head45 (u : Nat) (r : List UInt8) : (decDigits u ++ r).head? ≠ some 45 := by
  obtain ⟨c, t, e, _⟩ := dd_head u
  have := dd_isD u c (by rw [e]; simp)
  rw [e, List.cons_append, List.head?_cons]
  intro h
  have h := Option.some.inj h
  rw [h] at this
  exact absurd this.1 (by decide)
theorem intL_itoa (n : Int) (h0 : -9223372036854775808 ≤ n) (h1 : n ≤ 9223372036854775807) (rest : List UInt8) : intL (itoa n ++ 101 :: rest) = (0, n, (itoa n).length + 1) := by
  unfold intL
  by_cases c : n < 0
  · rw [itoa_neg c, List.cons_append, if_pos (show (45 :: (decDigits n.natAbs ++ 101 :: rest)).head? = some 45 from rfl), List.tail_cons, numL_dd true n.natAbs rest (by unfold fits; rw [if_pos rfl]; omega) (fun _ => by omega)]
    have e : sgn true n.natAbs = n := by unfold sgn; rw [if_pos rfl]; omega
    rw [e]
    simp
  · rw [itoa_pos c, if_neg (dd_head45 _ _), numL_dd false n.toNat rest (by unfold fits; omega) (fun h => by cases h)]
    have e : sgn false n.toNat = n := by unfold sgn; rw [if_neg (by decide)]; omega
    rw [e]
theorem enc_head (v : V) (hk : kin v = true) : ∃ c t, enc v = c :: t ∧ c ≠ 101 := by
  rw [enc_eq]
  by_cases c1 : v.f0 = 1
  · rw [if_pos c1]; exact ⟨_, _, rfl, by decide⟩
  · rw [if_neg c1]
    by_cases c2 : v.f0 = 2
    · rw [if_pos c2, itoa_pos (by omega)]
      obtain ⟨c, t, e, _⟩ := dd_head ((v.f2.size : Int)).toNat
      have := dd_isD _ c (by rw [e]; simp)
      rw [e]
      exact ⟨c, _, rfl, (isD_not this).1⟩
    · rw [if_neg c2]; exact ⟨_, _, rfl, by decide⟩
theorem kins_mem {x : V} : ∀ {L : List V}, x ∈ L → kins L = true → kin x = true
  | y :: ys, h, ho => by
    rw [kins_cons, Bool.and_eq_true] at ho
    rcases List.mem_cons.1 h with rfl | h
    · exact ho.1
    · exact kins_mem h ho.2
theorem toks_mem {x : V} : ∀ {L : List V}, x ∈ L → toks L = true → tok x = true
  | y :: ys, h, ho => by
    rw [toks_cons, Bool.and_eq_true] at ho
    rcases List.mem_cons.1 h with rfl | h
    · exact ho.1
    · exact toks_mem h ho.2
theorem deps_mem {x : V} : ∀ {L : List V}, x ∈ L → dep x ≤ deps L
  | y :: ys, h => by
    rw [deps_cons]
    rcases List.mem_cons.1 h with rfl | h
    · omega
    · have := deps_mem h; omega
def Back (v : V) (d : Nat) : Prop := ∀ rest, valL d (enc v ++ rest) = (0, nrm v, (enc v).length)
theorem listL_back (d : Nat) (rest : List UInt8) : ∀ (L : List V), (∀ x ∈ L, kin x = true ∧ Back x d) → ∀ k, (encs L).length < k → listL (valL d) k (encs L ++ 101 :: rest) = (0, nrms L, (encs L).length + 1)
  | [], _, k, hk => by
    obtain ⟨k, rfl⟩ : ∃ j, k = j + 1 := ⟨k - 1, by omega⟩
    rw [encs_nil, List.nil_append, listL, if_pos rfl, nrms_nil]
    rfl
  | x :: xs, h, k, hk => by
    obtain ⟨k, rfl⟩ : ∃ j, k = j + 1 := ⟨k - 1, by omega⟩
    obtain ⟨c, t, e, hc⟩ := enc_head x (h x (by simp)).1
    have hb := (h x (by simp)).2 (encs xs ++ 101 :: rest)
    rw [encs_cons, List.append_assoc]
    have hlen : (enc x).length = t.length + 1 := by rw [e]; simp
    rw [encs_cons, List.length_append] at hk
    have ih := listL_back d rest xs (fun y hy => h y (by simp [hy])) k (by omega)
    have hd : (enc x ++ (encs xs ++ 101 :: rest)).drop (enc x).length = encs xs ++ 101 :: rest := List.drop_left
    have e1 : enc x ++ (encs xs ++ 101 :: rest) = c :: (t ++ (encs xs ++ 101 :: rest)) := by rw [e]; rfl
    rw [e1] at hb hd ⊢
    rw [listL, if_neg hc, hb]
    simp only
    rw [hd, ih]
    simp only [if_true]
    rw [nrms_cons, List.length_append]
    simp
    omega
theorem back : ∀ (n : Nat) (v : V), wt v ≤ n → kin v = true → okV v = true → tok v = true → ∀ d, dep v ≤ d → Back v d := by
 intro n
 induction n with
 | zero => intro v h; have := wt_eq v; omega
 | succ n ih =>
  intro v hw hk ho ht d hd rest
  rw [enc_eq, nrm_eq]
  rw [kin_eq] at hk
  rw [tok_eq] at ht
  obtain ⟨o1, o2, o3⟩ := (okV_iff v).1 ho
  by_cases c1 : v.f0 = 1
  ·
   rw [if_pos c1, if_pos c1, List.cons_append, valL_cons, if_pos rfl, List.append_assoc]
   show (if (intL (itoa v.f1 ++ 101 :: rest)).1 = 0 then _ else _) = _
   rw [show [101] ++ rest = 101 :: rest from rfl, intL_itoa v.f1 o1 o2 rest]
   simp
  ·
   rw [if_neg c1] at hk ht ⊢
   rw [if_neg c1]
   by_cases c2 : v.f0 = 2
   ·
    rw [if_pos c2] at hk ht ⊢
    rw [if_pos c2, itoa_pos (by omega), Int.toNat_natCast]
    have hs := of_decide_eq_true ht
    obtain ⟨c, t, e, _⟩ := dd_head v.f2.size
    have hc := dd_isD _ c (by rw [e]; simp)
    have hl := lenL_dd v.f2.size (v.f2.data.toList ++ rest) hs
    have e1 : decDigits v.f2.size ++ 58 :: v.f2.data.toList ++ rest = c :: (t ++ (58 :: (v.f2.data.toList ++ rest))) := by rw [e]; simp
    have e2 : decDigits v.f2.size ++ 58 :: (v.f2.data.toList ++ rest) = c :: (t ++ (58 :: (v.f2.data.toList ++ rest))) := by rw [e]; simp
    rw [e1, valL_cons, ← e2, hl]
    have hz := data_size v.f2
    obtain ⟨k1, k2, k3, k4⟩ := isD_not hc
    have h105 : ¬ c = 105 := u8_ne (by unfold isD at hc; show c.toNat ≠ 105; omega)
    have hdig : 48 ≤ c ∧ c ≤ 57 := ⟨UInt8.not_lt.1 k3, UInt8.not_lt.1 k4⟩
    rw [if_neg h105, if_pos hdig, if_pos rfl]
    simp only
    rw [if_neg (by simp only [List.length_append, List.length_cons, hz]; omega)]
    have hdrop : (decDigits v.f2.size ++ 58 :: (v.f2.data.toList ++ rest)).drop ((decDigits v.f2.size).length + 1) = v.f2.data.toList ++ rest := by
     rw [List.drop_append, List.drop_of_length_le (by omega), show (decDigits v.f2.size).length + 1 - (decDigits v.f2.size).length = 1 by omega]
     rfl
    rw [hdrop, ← hz, List.take_left]
    simp only [List.length_append, List.length_cons]
    refine congrArg (fun q => (0, q)) ?_
    refine congr (congrArg Prod.mk ?_) (by first | rfl | omega)
    unfold strV
    simp
   ·
    rw [if_neg c2] at hk ht ⊢
    rw [if_neg c2]
    by_cases c3 : v.f0 = 3
    ·
     rw [if_pos c3] at hk
     rw [dep_eq, if_pos c3] at hd
     obtain ⟨d, rfl⟩ : ∃ j, d = j + 1 := ⟨d - 1, by omega⟩
     rw [wt_eq] at hw
     have hall : ∀ x ∈ v.f3, kin x = true ∧ Back x d := fun x hx => by
      have h1 := kins_mem hx hk
      exact ⟨h1, ih x (by have := wt_mem hx; omega) h1 (okV_mem hx o3) (toks_mem hx ht) d (by have := deps_mem hx; omega)⟩
     rw [List.cons_append, List.append_assoc, show [101] ++ rest = 101 :: rest from rfl, valL_cons, if_neg (by decide), if_neg (by decide), if_neg (by decide)]
     have hb := listL_back d rest v.f3 hall (encs v.f3 ++ 101 :: rest).length (by simp)
     dsimp only
     rw [hb]
     simp
    ·
     rw [if_neg c3] at hk
     cases hk
theorem enc_int (n : Int) : enc (intV n) = 105 :: (itoa n ++ [101]) := by unfold intV; rw [enc]; rfl
theorem enc_lis (L : List V) : enc (lisV L) = 108 :: (encs L ++ [101]) := by unfold lisV; rw [enc]; rfl
theorem kin_int (n : Int) : kin (intV n) = true := by unfold intV; rw [kin]; rfl
theorem kin_lis (L : List V) : kin (lisV L) = kins L := by unfold lisV; rw [kin]; rfl
theorem dep_int (n : Int) : dep (intV n) = 0 := by unfold intV; rw [dep]; rfl
theorem dep_lis (L : List V) : dep (lisV L) = deps L + 1 := by unfold lisV; rw [dep]; rfl
theorem ok_int {n : Int} (h0 : -9223372036854775808 ≤ n) (h1 : n ≤ 9223372036854775807) : okV (intV n) = true := (okV_iff _).2 ⟨h0, h1, okVs_nil⟩
theorem ok_lis {L : List V} (h : okVs L = true) : okV (lisV L) = true := (okV_iff _).2 ⟨show (-9223372036854775808 : Int) ≤ 0 by decide, show (0 : Int) ≤ 9223372036854775807 by decide, h⟩
set_option maxRecDepth 100000 in
theorem ta_l1 (A : Option Addr) (n c : Nat) (W : World) : (Instr.typeAssert (.iface 110 (.slice A n c)) 20 3 true).run Tryd.prog W = .ok (.tuple #[.int .i64 0, .bool false]) W := rfl
set_option maxRecDepth 100000 in
theorem ta_l2 (A : Option Addr) (n c : Nat) (W : World) : (Instr.typeAssert (.iface 110 (.slice A n c)) 20 9 true).run Tryd.prog W = .ok (.tuple #[.string ⟨#[]⟩, .bool false]) W := rfl
set_option maxRecDepth 100000 in
theorem ta_l3 (A : Option Addr) (n c : Nat) (W : World) : (Instr.typeAssert (.iface 110 (.slice A n c)) 20 110 false).run Tryd.prog W = .ok (.slice A n c) W := rfl
theorem R_newer {d : Kd V} {e : Nat} {w1 w2 : World} {base H : Nat} {u v : Value} {xs : List V} (h : d.R e w2 w1.heap.size (fun _ => True) v xs) (hb : base ≤ w1.heap.size) (hH : H < w1.heap.size) (hu : ∀ k, u.ownBlock = some k → k < w1.heap.size) : d.R e w2 base (fun k => k ≠ H ∧ some k ≠ u.ownBlock) v xs :=
  Kd.R_lower (Kd.R_mono (Kd.R_bound h) (fun k hk => ⟨by rintro rfl; have := hk.2.1; omega, fun e => by have := hu k e.symm; have := hk.2.1; omega⟩)) hb
set_option maxHeartbeats 8000000 in
set_option maxRecDepth 100000 in
theorem of_list (n : Nat) (L : List V) (A : Option Addr) (c : Nat) (w : World) (hC : (anyK n).C w A L.length L) (hc : L.length ≤ c) (hg : guds L = true) (hz : 30 * L.length ≤ 70368744177664) (hsz : (anyK n).sz = 1)
  (ih : ∀ (x : V) (v : Value) (W : World), (anyK n).K W x [v] → gud x = true → x ∈ L → Calls Tryd.prog 61 #[v] W (OPost x W)) :
  Calls Tryd.prog 61 #[.iface 110 (.slice A L.length c)] w (OPost (lisV L) w) := by
 have t1 := fun (W : World) => ta_l1 A L.length c W
 have t2 := fun (W : World) => ta_l2 A L.length c W
 have t3 := fun (W : World) => ta_l3 A L.length c W
 have HC := Aside0.mk hC
 have HG := Aside0.mk hg
 have HI := Aside0.mk ih
 have HS := Aside0.mk hsz
 have hu := Tryd.underlying49
 clear hC hg ih hsz
 go_enter Tryd.func61, Tryd.ntmps61
 go_wp2_with fail
 go_loopw [5, 22] (fun v5 v22 wr => ∃ i : Nat, i ≤ L.length ∧ v22 = .int .i64 i ∧ Aside0 (Kd.R P.k49 49 wr w.heap.size (fun k => k ≠ w.heap.size) v5 (L.take i)) ∧ Aside0 (Below w.heap.size w wr) ∧ Aside0 (wr.heap[w.heap.size]? = some (.cells #[.int .i64 0, .int .i64 0, .string ⟨#[]⟩, .slice none 0 0] 49 (0, 0)))) (fun _ v22 _ => L.length - (RowKit.intOf v22).toNat)
 case atStart => exact ⟨0, Nat.zero_le _, rfl, ⟨Kd.R_nil _ _ _ _ _⟩, ⟨(Below.refl _ w).alloc (Nat.le_refl _) _⟩, ⟨blk_new w _⟩⟩
 case round =>
  obtain ⟨i, hi, rfl, HR, HB, BK⟩ := hrel
  have hHlt := blk_lt BK.out
  by_cases hlt : i < L.length
  ·
   obtain ⟨ad, cs, e3, hl, hK, hcell⟩ := Kd.C_get HC.out zV (i : Int) (by omega) (by omega)
   rw [HS.out] at hl hcell
   obtain ⟨u, rfl⟩ : ∃ u, cs = [u] := by
    match cs, hl with
    | [u], _ => exact ⟨u, rfl⟩
   have hx := hcell 0 u rfl
   rw [Int.toNat_natCast, Nat.mul_one, Nat.add_zero] at hx
   replace hx := (HB.out.cell (World.block_lt_of_cell? w _ hx)).trans hx
   rw [Int.toNat_natCast, List.getD_eq_getElem?_getD, List.getElem?_eq_getElem hlt, Option.getD_some] at hK
   have hmem : L[i] ∈ L := List.getElem_mem hlt
   have HCa := Aside0.mk (fun (W : World) hb => HI.out L[i] u W ((anyK n).K_below hb hK) (gud_mem hmem HG.out) hmem)
   have HN := Aside0.mk (List.take_succ_eq_append_getElem hlt)
   generalize L[i] = x at *
   have hi1 : (i : Int) < (L.length : Int) := by omega
   cases e3
   clear hcell hK hmem hl
   go_wp2_with fail
   refine (HCa.out wr HB.out).mono ?_
   rintro e w2 ⟨v3, rfl, hR3, hb2⟩
   obtain ⟨A3, c3, rfl⟩ := Kd.R_slice hR3
   have M3 := Aside0.mk (P.k49_mkM w2 w.heap.size (fun k => k ≠ w.heap.size ∧ some k ≠ u5.ownBlock) x (R_newer (u := u5) hR3 HB.out.size hHlt (fun k hk => Kd.R_lt HR.out k hk)))
   have HR2 := Aside0.mk (Kd.R_below HR.out hb2)
   have HB2 := Aside0.mk (HB.out.trans (hb2.mono HB.out.size))
   have BK2 := Aside0.mk (blk_below BK.out hb2)
   have hl9 : (L.take i).length ≤ L.length := by rw [List.length_take]; omega
   clear hR3 hb2 HR HB BK
   go_wp2_with (at_builtin; refine Kd.R_append P.k49 (w0 := w) w.heap.size rfl (.tmp 26) (.tmp 29) 43 49 _ 56 rfl Tryd.underlying43 P.info49 rfl (by decide) (by decide) u5 (L.take i) x [.int .i64 x.f0, .int .i64 x.f1, .string x.f2, .slice A3 x.f3.length c3] (fun k => k ≠ w.heap.size) (fun k => k ≠ w.heap.size ∧ some k ≠ u5.ownBlock) rfl rfl ?aP (fun _ hk => hk) ?aF ?aO ?aB ?aS ?aL ?_; (case aP => exact M3.out); (case aF => exact (fun k hk => by have := blk_lt BK2.out; omega)); (case aO => exact HR2.out); (case aB => exact HB2.out); (case aS => exact HB2.out.size); (case aL => omega); intro v9 w9 ho hb9 hg9 hat9; have HO9 := Aside0.mk ho; have HB9 := Aside0.mk hb9; have BK9 := Aside0.mk (blk_grown BK2.out hg9 (Kd.R_away HR2.out (fun k hk => hk))); clear ho hb9 hg9 hat9)
   go_roundw
   case rel => exact ⟨i + 1, by omega, by go_num, by rw [HN.out]; exact HO9, HB9, BK9⟩
   case measure => simp [RowKit.intOf]; omega
  ·
   obtain rfl : i = L.length := by omega
   rw [List.take_length] at HR
   obtain ⟨A5, c5, rfl⟩ := Kd.R_slice HR.out
   have LC := Aside0.mk (fun (W : World) => List_calls A5 L.length c5 W)
   go_wp2_with fail
   refine (LC.out _).mono ?_
   rintro e w2 ⟨rfl, hb2⟩
   have bk := blk_below BK.out hb2
   have BK2 := Aside0.mk bk
   have HR2 := Aside0.mk (Kd.R_below HR.out hb2)
   have HB2 := Aside0.mk (HB.out.trans (hb2.mono HB.out.size))
   have x0 : w2.cell? ⟨w.heap.size, 0, none⟩ = some (.int .i64 0) := (blk_cell bk 0).trans rfl
   have x1 : w2.cell? ⟨w.heap.size, 1, none⟩ = some (.int .i64 0) := (blk_cell bk 1).trans rfl
   have x2 : w2.cell? ⟨w.heap.size, 2, none⟩ = some (.string ⟨#[]⟩) := (blk_cell bk 2).trans rfl
   have x3 : w2.cell? ⟨w.heap.size, 3, none⟩ = some (.slice none 0 0) := (blk_cell bk 3).trans rfl
   have y0 := blk_frozen bk 0
   have y1 := blk_frozen bk 1
   have y2 := blk_frozen bk 2
   have y3 := blk_frozen bk 3
   clear bk hb2
   go_wp2
   refine bodyPost_ret (results_cell_row rfl _ _ w.heap.size 49 #[.int .i64 3, .int .i64 0, .string ⟨#[]⟩, .slice A5 L.length c5] (0, 0) _ rfl (blk_store4 BK2.out _ _ _ _) hu rfl (by kernel_rfl)) rfl ?_
   exact ⟨_, rfl, Kd.R_mono (R_store4 HR2.out (fun k hk => hk) _ _ _ _) (fun _ _ => trivial), below_store4 HB2.out (Nat.le_refl _) _ _ _ _⟩
theorem of_calls (n : Nat) : ∀ (x : V) (v : Value) (w : World), (anyK n).K w x [v] → gud x = true → wt x ≤ 70368744177664 → Calls Tryd.prog 61 #[v] w (OPost x w) := by
  induction n with
  | zero => intro x v w h; exact h.elim
  | succ n ih =>
    rintro x v w (⟨hx, h⟩ | ⟨hx, h⟩ | ⟨hx, A, c, h, hl, hC⟩ | ⟨hx, c, h⟩) hg hw
    · injection h with h _
      rw [h, hx]
      exact of_int x.f1 w
    · injection h with h _
      rw [h, hx]
      exact of_str x.f2 w
    · injection h with h _
      rw [hx, gud_lis] at hg
      rw [wt_eq] at hw
      have hll := wts_len x.f3
      rw [h, hx]
      exact of_list n x.f3 A c w hC hl hg (by omega) (anyK_sz n) (fun y u W hK hy hm => ih y u W hK hy (by have := wt_mem hm; omega))
    · rw [hx, gud_z] at hg
      cases hg
def TPost (R : V × Int × Int) (w : World) (e : Ending) (w' : World) : Prop :=
  ∃ v3 : Value, e = .returned (.tuple #[.agg #[.int .i64 R.1.f0, .int .i64 R.1.f1, .string R.1.f2, v3], .int .i64 R.2.1, .int .i64 R.2.2]) ∧ Kd.R P.k49 49 w' w.heap.size (fun _ => True) v3 R.1.f3 ∧ Below w.heap.size w w'
set_option maxHeartbeats 8000000 in
set_option maxRecDepth 100000 in
theorem take_calls (s : ByteArray) (hs : s.size ≤ 1099511627776) (w : World) (R : Int × V × Nat) (hR : valL 8 s.data.toList = R) (T : V × Int × Int) (hT : (if R.1 = 0 then (if R.2.2 ≤ 65536 then (R.2.1, (R.2.2 : Int), 0) else (zV, 0, 23)) else (zV, 0, R.1)) = T) (hw : R.1 = 0 → gud R.2.1 = true ∧ wt R.2.1 ≤ 70368744177664) (hu8 : R.1 = 0 → R.2.2 ≤ s.size) :
  Calls Tryd.prog 51 #[.string s] w (TPost T w) := by
 have HV := Aside0.mk (fun (w0 W : World) (g : Nat) h1 h2 => value_calls s hs 8 0 (by decide) (by decide) 0 (Nat.zero_le _) (w0 := w0) (w := W) (g := g) h1 h2)
 rw [List.drop_zero, hR] at HV
 have HT := Aside0.mk hT
 have HW := Aside0.mk hw
 have HU := Aside0.mk hu8
 have hu := Tryd.underlying49
 have HR0 := Aside0.mk (show Rdr w ((w.alloc (.cells #[.int .i64 0, .int .i64 0, .string ⟨#[]⟩, .slice none 0 0] 49)).alloc (.cells #[.string s, .int .i64 0, .int .i64 0] 102)) (w.heap.size + 1) s ((0 : Nat) : Int) 0 by
  have h := P.IsS102.new w (w.alloc (.cells #[.int .i64 0, .int .i64 0, .string ⟨#[]⟩, .slice none 0 0] 49)) s 0 0 ((Below.refl _ w).alloc (Nat.le_refl _) _)
  simpa using h)
 have BK0 := Aside0.mk (blk_alloc (blk_new w (.cells #[.int .i64 0, .int .i64 0, .string ⟨#[]⟩, .slice none 0 0] 49)) (.cells #[.string s, .int .i64 0, .int .i64 0] 102))
 clear hT hR hw hu8
 go_enter Tryd.func51, Tryd.ntmps51
 go_wp2_with fail
 refine (HV.out w _ (w.heap.size + 1) HR0.out (((Below.refl _ w).alloc (Nat.le_refl _) _).alloc (by simp) _)).mono ?_
 rintro e w1 ⟨v, b, rfl, h1, h2, h3, h4, h5⟩
 have BK := Aside0.mk (h3.blk BK0.out (by omega) (by simp))
 have J2 := Aside0.mk h2
 by_cases hz : R.1 = 0
 ·
  rw [hz, if_pos rfl] at h1
  have J1 := Aside0.mk h1
  have hUs := HU.out hz
  obtain ⟨hgud, hwt⟩ := HW.out hz
  have h4' := (anyK (8 + 1)).K_of_M h4
  by_cases hlong : R.2.2 ≤ 65536
  ·
   have hl0 : decide ((65536 : Int) < ((0 + R.2.2 : Nat) : Int)) = false := decide_eq_false (by omega)
   have HT2 := Aside0.mk (show T = (R.2.1, (R.2.2 : Int), 0) by rw [← HT.out, if_pos hz, if_pos hlong])
   have HO := Aside0.mk (fun (W : World) hb => of_calls (8 + 1) R.2.1 v W ((anyK (8 + 1)).K_below hb h4') hgud hwt)
   obtain ⟨r, x, u⟩ := R
   simp only [Nat.zero_add] at *
   clear h1 h2 h3 h4 h5 h4' hz hgud hwt HW
   obtain ⟨x0, x1, x2, y0, y1, y2⟩ := J1.out.facts
   have z0 : w1.cell? ⟨w.heap.size, 0, none⟩ = some (.int .i64 0) := (blk_cell BK.out 0).trans rfl
   have z1 : w1.cell? ⟨w.heap.size, 1, none⟩ = some (.int .i64 0) := (blk_cell BK.out 1).trans rfl
   have z2 : w1.cell? ⟨w.heap.size, 2, none⟩ = some (.string ⟨#[]⟩) := (blk_cell BK.out 2).trans rfl
   have z3 : w1.cell? ⟨w.heap.size, 3, none⟩ = some (.slice none 0 0) := (blk_cell BK.out 3).trans rfl
   have t0 := blk_frozen BK.out 0
   have t1 := blk_frozen BK.out 1
   have t2 := blk_frozen BK.out 2
   have t3 := blk_frozen BK.out 3
   go_wp2_with fail
   go_region_held3 (fun w' => w'.cell? ⟨w.heap.size + 1, 1, none⟩ = some (.int .i64 (u : Int))) (first | exact pw_cell_below HB4.out x1 | go_keep) ((go_at_call 61; refine (HO.out _ (below_drew (Below.refl _ _))).mono ?_; rintro e w4 ⟨v3, rfl, hR, hb⟩; obtain ⟨A3, c3, rfl⟩ := Kd.R_slice hR; have HB4 := Aside0.mk hb; have HR4 := Aside0.mk hR; have BK4 := Aside0.mk (blk_below (blk_drew BK.out) hb); clear hR hb; have z0 : w4.cell? ⟨w.heap.size, 0, none⟩ = some (.int .i64 0) := (blk_cell BK4.out 0).trans rfl; have z1 : w4.cell? ⟨w.heap.size, 1, none⟩ = some (.int .i64 0) := (blk_cell BK4.out 1).trans rfl; have z2 : w4.cell? ⟨w.heap.size, 2, none⟩ = some (.string ⟨#[]⟩) := (blk_cell BK4.out 2).trans rfl; have z3 : w4.cell? ⟨w.heap.size, 3, none⟩ = some (.slice none 0 0) := (blk_cell BK4.out 3).trans rfl; have t0 := blk_frozen BK4.out 0; have t1 := blk_frozen BK4.out 1; have t2 := blk_frozen BK4.out 2; have t3 := blk_frozen BK4.out 3))
   go_wp2
   refine bodyPost_ret (results_ctt rfl _ _ w.heap.size 49 #[.int .i64 x.f0, .int .i64 x.f1, .string x.f2, .slice A3 x.f3.length c3] (0, 0) _ rfl (blk_store4 BK4.out _ _ _ _) hu rfl (by kernel_rfl)) rfl ?_
   rw [HT2.out]
   have hlt := blk_lt BK.out
   exact ⟨_, rfl, Kd.R_mono (R_store4 (Kd.R_lower (Kd.R_mono (Kd.R_bound HR4.out) (ok' := fun k => k ≠ w.heap.size) (fun k hk => by have := hk.2.1; simp at this; omega)) (Nat.le_of_lt hlt)) (fun k hk => hk) _ _ _ _) (fun _ _ => trivial), below_store4 ((below_drew J2.out).trans (HB4.out.mono (Nat.le_of_lt hlt))) (Nat.le_refl _) _ _ _ _⟩
  ·
   have hl0 : decide ((65536 : Int) < ((0 + R.2.2 : Nat) : Int)) = true := decide_eq_true (by omega)
   have HT2 := Aside0.mk (show T = (zV, 0, 23) by rw [← HT.out, if_pos hz, if_neg hlong])
   obtain ⟨r, x, u⟩ := R
   simp only [Nat.zero_add] at *
   clear h1 h2 h3 h4 h5 h4' hz hgud hwt HW
   obtain ⟨x0, x1, x2, y0, y1, y2⟩ := J1.out.facts
   have z0 : w1.cell? ⟨w.heap.size, 0, none⟩ = some (.int .i64 0) := (blk_cell BK.out 0).trans rfl
   have z1 : w1.cell? ⟨w.heap.size, 1, none⟩ = some (.int .i64 0) := (blk_cell BK.out 1).trans rfl
   have z2 : w1.cell? ⟨w.heap.size, 2, none⟩ = some (.string ⟨#[]⟩) := (blk_cell BK.out 2).trans rfl
   have z3 : w1.cell? ⟨w.heap.size, 3, none⟩ = some (.slice none 0 0) := (blk_cell BK.out 3).trans rfl
   have t0 := blk_frozen BK.out 0
   have t1 := blk_frozen BK.out 1
   have t2 := blk_frozen BK.out 2
   have t3 := blk_frozen BK.out 3
   go_wp2
   refine bodyPost_ret (results_ctt rfl _ _ w.heap.size 49 #[.int .i64 0, .int .i64 0, .string ⟨#[]⟩, .slice none 0 0] (0, 0) _ rfl (blk_store4 BK.out _ _ _ _) hu rfl (by kernel_rfl)) rfl ?_
   rw [HT2.out]
   exact ⟨_, rfl, Kd.R_nil _ _ _ _ _, below_store4 J2.out (Nat.le_refl _) _ _ _ _⟩
 ·
  have hz1 : (R.1 != 0) = true := bne_iff_ne.2 hz
  have J1 := Aside0.mk h1
  have HT2 := Aside0.mk (show T = (zV, 0, R.1) by rw [← HT.out, if_neg hz])
  generalize (if R.1 = 0 then ((0 + R.2.2 : Nat) : Int) else b) = at1 at *
  generalize R.1 = er at *
  clear h1 h2 h3 h4 h5 hz
  obtain ⟨x0, x1, x2, y0, y1, y2⟩ := J1.out.facts
  have z0 : w1.cell? ⟨w.heap.size, 0, none⟩ = some (.int .i64 0) := (blk_cell BK.out 0).trans rfl
  have z1 : w1.cell? ⟨w.heap.size, 1, none⟩ = some (.int .i64 0) := (blk_cell BK.out 1).trans rfl
  have z2 : w1.cell? ⟨w.heap.size, 2, none⟩ = some (.string ⟨#[]⟩) := (blk_cell BK.out 2).trans rfl
  have z3 : w1.cell? ⟨w.heap.size, 3, none⟩ = some (.slice none 0 0) := (blk_cell BK.out 3).trans rfl
  have t0 := blk_frozen BK.out 0
  have t1 := blk_frozen BK.out 1
  have t2 := blk_frozen BK.out 2
  have t3 := blk_frozen BK.out 3
  go_wp2_with fail
  go_region_held3 (fun w' => w'.cell? ⟨w.heap.size + 1, 2, none⟩ = some (.int .i64 er)) (go_keep) (fail)
  go_wp2
  refine bodyPost_ret (results_ctt rfl _ _ w.heap.size 49 #[.int .i64 0, .int .i64 0, .string ⟨#[]⟩, .slice none 0 0] (0, 0) _ rfl (blk_store4 (blk_drew BK.out) _ _ _ _) hu rfl (by kernel_rfl)) rfl ?_
  rw [HT2.out]
  exact ⟨_, rfl, Kd.R_nil _ _ _ _ _, below_store4 (below_drew J2.out) (Nat.le_refl _) _ _ _ _⟩
theorem listL_wt (f : List UInt8 → Int × V × Nat) (hf : ∀ l, (f l).1 = 0 → wt (f l).2.1 ≤ 15 * (f l).2.2) : ∀ (k : Nat) (l : List UInt8), (listL f k l).1 = 0 → wts (listL f k l).2.1 + 15 ≤ 15 * (listL f k l).2.2
  | _, [], h => by rw [listL] at h; cases h
  | 0, c :: t, h => by rw [listL] at h; cases h; simp
  | k + 1, c :: t, h => by
    rw [listL] at h ⊢
    split at h
    · rename_i h1; rw [if_pos h1]; simp [wts_nil]
    · rename_i h1
      rw [if_neg h1]
      split at h
      · rename_i h2
        rw [if_pos h2]
        split at h
        · rename_i h3
          rw [if_pos h3]
          simp only
          rw [wts_cons]
          have := hf _ h2
          have := listL_wt f hf k _ h3
          omega
        · rename_i h3; exact absurd h h3
      · rename_i h2; exact absurd h h2
theorem valL_wt : ∀ (d : Nat) (l : List UInt8), (valL d l).1 = 0 → wt (valL d l).2.1 ≤ 15 * (valL d l).2.2 := by
 have hI : ∀ n, wt (intV n) = 30 := fun n => by rw [wt_eq]; unfold intV; rw [wts_nil]; rfl
 have hS : ∀ s, wt (strV s) = 30 + 2 * s.size := fun s => by rw [wt_eq]; unfold strV; simp [wts_nil]
 have hL : ∀ l, wt (lisV l) = 30 + wts l := fun l => by rw [wt_eq]; unfold lisV; show 30 + 2 * 0 + wts l = _; omega
 have text : ∀ (c : UInt8) (t : List UInt8), (lenL false false 0 (c :: t)).1 = 0 → ¬ (c :: t).length < (lenL false false 0 (c :: t)).2.2 + (lenL false false 0 (c :: t)).2.1 → wt (strV ⟨(((c :: t).drop (lenL false false 0 (c :: t)).2.2).take (lenL false false 0 (c :: t)).2.1).toArray⟩) ≤ 15 * ((lenL false false 0 (c :: t)).2.2 + (lenL false false 0 (c :: t)).2.1) := by
  intro c t h1 h2
  have hu := (lenL_used _ false false 0 h1).2.2.1 rfl
  rw [hS]
  show 30 + 2 * ((((c :: t).drop (lenL false false 0 (c :: t)).2.2).take (lenL false false 0 (c :: t)).2.1).toArray).size ≤ _
  rw [List.size_toArray, List.length_take]
  omega
 intro d
 induction d with
 | zero =>
  intro l h
  cases l with
  | nil => rw [valL_nil] at h; cases h
  | cons c t =>
   rw [valL_cons] at h ⊢
   split at h
   ·
    rename_i h1
    rw [if_pos h1]
    split at h
    ·
     rename_i h2; rw [if_pos h2]; have := intL_used t h2; rw [hI]; simp only; omega
    ·
     rename_i h2; exact absurd h h2
   ·
    rename_i h1
    rw [if_neg h1]
    split at h
    ·
     rename_i h2
     rw [if_pos h2]
     split at h
     ·
      rename_i h3
      rw [if_pos h3]
      split at h
      ·
       cases h
      ·
       rename_i h4; rw [if_neg h4]; exact text c t h3 h4
     ·
      rename_i h3; exact absurd h h3
    ·
     split at h
     ·
      cases h
     ·
      cases h
 | succ d ih =>
  intro l h
  cases l with
  | nil => rw [valL_nil] at h; cases h
  | cons c t =>
   rw [valL_cons] at h ⊢
   split at h
   ·
    rename_i h1
    rw [if_pos h1]
    split at h
    ·
     rename_i h2; rw [if_pos h2]; have := intL_used t h2; rw [hI]; simp only; omega
    ·
     rename_i h2; exact absurd h h2
   ·
    rename_i h1
    rw [if_neg h1]
    split at h
    ·
     rename_i h2
     rw [if_pos h2]
     split at h
     ·
      rename_i h3
      rw [if_pos h3]
      split at h
      ·
       cases h
      ·
       rename_i h4; rw [if_neg h4]; exact text c t h3 h4
     ·
      rename_i h3; exact absurd h h3
    ·
     rename_i h2
     rw [if_neg h2]
     split at h
     ·
      cases h
     ·
      rename_i h3
      rw [if_neg h3]
      dsimp only at h ⊢
      split at h
      ·
       rename_i h4
       simp only [h4, if_true]
       have := listL_wt (valL d) ih _ _ h4
       rw [hL]
       omega
      ·
       rename_i h4; exact absurd h h4
def flat (T : V × Int × Int) : Int × Int × ByteArray × List V × Int × Int := (T.1.f0, T.1.f1, T.1.f2, T.1.f3, T.2.1, T.2.2)
def benc_Take.f (s : ByteArray) : Option (Int × Int × ByteArray × (List V) × Int × Int) := if s.size ≤ 1099511627776 then some (flat (takeM s)) else none
theorem benc_Take.calls (a0 : ByteArray) (r1 : Int) (r2 : Int) (r3 : ByteArray) (r4 : List V) (r5 : Int) (r6 : Int) (w : World) (hL : LaidW w) (h : benc_Take.f a0 = some (r1, r2, r3, r4, r5, r6)) :
    Calls Tryd.prog 51 #[.string a0] w fun e w' => ∃ v3_ : Value, e = .returned (.tuple #[.agg #[.int .i64 r1, .int .i64 r2, .string r3, v3_], .int .i64 r5, .int .i64 r6]) ∧ Kd.R P.k49 49 w' w.heap.size (fun _ => True) v3_ r4 ∧ Below w.heap.size w w' := by
  unfold benc_Take.f at h
  split at h
  · rename_i hs
    have e := Option.some.inj h
    have c := take_calls a0 hs w (valL 8 a0.data.toList) rfl (takeM a0) rfl (fun h => ⟨valL_gud 8 _ h, by have := valL_wt 8 _ h; have := valL_used 8 _ h; rw [data_size] at this; omega⟩) (fun h => by have := valL_used 8 _ h; rw [data_size] at this; omega)
    refine c.mono ?_
    rintro e' w' ⟨v3, rfl, h1, h2⟩
    unfold flat at e
    simp only [Prod.mk.injEq] at e
    obtain ⟨rfl, rfl, rfl, rfl, rfl, rfl⟩ := e
    exact ⟨v3, rfl, h1, h2⟩
  · cases h
end Go.Proofs.YtlggihnkhimfkaaDoor.Giv
