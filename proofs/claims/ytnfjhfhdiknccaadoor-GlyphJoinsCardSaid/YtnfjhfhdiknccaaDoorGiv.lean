/- The walks of package glyph: Runes, Text, Fold, Words and Name, over the library's contracts. -/
import Derived.Test.YtnfjhfhdiknccaaDoorProg
import Derived.Test.YtnfjhfhdiknccaaDoorWMore
import Derived.Test.YtnfjhfhdiknccaaDoorGlyD
import Derived.Test.YtnfjhfhdiknccaaDoorShelf
import Derived.Test.YtnfjhfhdiknccaaDoorQx
import Derived.Lib.OthersKept
import Derived.BigCall
namespace Go.Proofs.YtnfjhfhdiknccaaDoor.Giv
open Go.RowKit Go.Lib Go.Proofs.YtnfjhfhdiknccaaDoorW.PrintWords Go.Proofs.YtnfjhfhdiknccaaDoorW.PrintLast Go.Proofs.YtnfjhfhdiknccaaDoorW.PrintMore

def LaidW (w : World) : Prop := Lib.Utf8Tabs 0 1 w
theorem LaidW.below {w w' : World} (h : LaidW w) (hb : Below w.heap.size w w') : LaidW w' := Utf8Tabs_below h hb

theorem valid_calls (s : ByteArray) (b : Bool) (w : World) (hs : s.size ≤ 9223372036854775807) (hL : LaidW w) (hb : (decS s).isSome = b) :
    Calls Tryd.prog 27 #[.string s] w fun e w' => e = .returned (.bool b) ∧ Below w.heap.size w w' := by
  have c : Calls Tryd.prog 27 #[.string s] w _ := Any.utf8_ValidString Tryd.lays196 s w hs hL
  have e : Lib.validD s.data.toList = b := by rw [← decD_valid]; exact hb
  rw [e] at c
  exact c

/-- one step of a text that is one -/
theorem dec_pos {s : ByteArray} {pos : Nat} {L : List Int} (h : decD (s.data.toList.drop pos) = some L) (hp : pos < s.size) :
    ∃ L', L = ((Utf8.decode s pos).1 : Int) :: L' ∧ decD (s.data.toList.drop (pos + (Utf8.decode s pos).2)) = some L' ∧ okRune ((Utf8.decode s pos).1 : Int) = true ∧ 1 ≤ (Utf8.decode s pos).2 ∧ pos + (Utf8.decode s pos).2 ≤ s.size := by
  have hl : s.data.toList.length = s.size := by rw [Array.length_toList]; rfl
  have hne : s.data.toList.drop pos ≠ [] := by intro c; have := congrArg List.length c; rw [List.length_drop] at this; simp only [List.length_nil] at this; omega
  rw [← decodeL_drop]
  rw [decD_step _ hne] at h
  have hw := decodeL_width (s.data.toList.drop pos)
  have hle := decodeL_le _ hne
  rw [List.length_drop, hl] at hle
  split at h
  · cases h
  · rename_i hv
    obtain ⟨t, ht, rfl⟩ := Option.map_eq_some_iff.1 h
    rw [List.drop_drop] at ht
    exact ⟨t, rfl, ht, decodeL_ok _ hv, hw, by omega⟩
theorem dec_end {s : ByteArray} {pos : Nat} {L : List Int} (h : decD (s.data.toList.drop pos) = some L) (hp : ¬ pos < s.size) : L = [] := by
  have hl : s.data.toList.length = s.size := by rw [Array.length_toList]; rfl
  rw [List.drop_of_length_le (by omega), decD_nil] at h
  exact (Option.some.inj h).symm
theorem dec_len0 {s : ByteArray} {L : List Int} (h : decS s = some L) : L.length ≤ s.size := by
  have hl := (enc_length L).1
  rw [← textOf_size, (textOf_decS h).1] at hl
  exact hl
theorem info_int : (Tryd.prog.info? 3).map (fun i => (i.zero, i.size, i.bytes)) = some (some (.int .i64 0), 1, 8) := by kernel_rfl

set_option maxRecDepth 100000 in
set_option maxHeartbeats 4000000 in
theorem glyph_Runes.calls (a0 : ByteArray) (r1 : List Int) (r2 : Int) (w : World) (hL : LaidW w) (h : glyph_Runes.f a0 = some (r1, r2)) :
    Calls Tryd.prog 20 #[.string a0] w fun e w' => ∃ v0_ : Value, e = .returned (.tuple #[v0_, .int .i64 r2]) ∧ Kd.R (Kd.int .i64) 3 w' w.heap.size (fun _ => True) v0_ r1 ∧ Below w.heap.size w w' := by
  unfold glyph_Runes.f at h
  by_cases hs : a0.size ≤ 1048576
  · rw [if_pos hs] at h
    cases hd : decS a0 with
    | none =>
      rw [hd] at h
      obtain ⟨rfl, rfl⟩ : [] = r1 ∧ 10 = r2 := by simpa using h
      have V := Aside0.mk (valid_calls a0 false w (by omega) hL (by rw [hd]; rfl))
      clear h hd
      go_enter Tryd.func20, Tryd.ntmps20
      go_wp2_with fail
      refine V.out.mono ?_
      rintro e w1 ⟨rfl, hb⟩
      go_wp2
      go_ret2
      exact ⟨_, rfl, Kd.R_nil _ _ _ _ _, hb⟩
    | some L =>
      rw [hd] at h
      obtain ⟨rfl, rfl⟩ : L = r1 ∧ 0 = r2 := by simpa using h
      have V := Aside0.mk (valid_calls a0 true w (by omega) hL (by rw [hd]; rfl))
      have hd' : decD (a0.data.toList.drop 0) = some L := by rw [List.drop_zero]; exact hd
      have hll := dec_len0 hd
      have HD := Aside0.mk hd'
      clear h hd hd' hL
      go_enter Tryd.func20, Tryd.ntmps20
      go_wp2_with fail
      refine V.out.mono ?_
      rintro e w1 ⟨rfl, hb⟩
      have hsz1 := hb.size
      have HB := Aside0.mk hb
      clear hb V
      go_wp2
      go_loopw [4] (fun v4 wr => ∃ (pos : Nat) (acc rest : List Int), Aside0 (wr.heap[w1.heap.size]? = some (.stringIter a0 pos)) ∧ Aside0 (Kd.R (Kd.int .i64) 3 wr w.heap.size (fun k_ => k_ ≠ w1.heap.size) v4 acc) ∧ Aside0 (Below w.heap.size w wr) ∧ Aside0 (decD (a0.data.toList.drop pos) = some rest) ∧ Aside0 (acc ++ rest = L) ∧ acc.length ≤ 1048576) (fun _ wr => a0.size - wr.iterPos (w1.heap.size))
      case atStart =>
        refine ⟨0, [], L, ⟨?_⟩, ⟨Kd.R_nil _ _ _ _ _⟩, ⟨HB.out.alloc hsz1 _⟩, HD, ⟨rfl⟩, by simp⟩
        have := World.iter_heap w1 a0 0
        simpa using this
      case round =>
        obtain ⟨pos, acc, rest, ⟨hit⟩, HO, HBr, HDr, HA, hal⟩ := hrel
        have hsz : w1.heap.size < wr.heap.size := (Array.getElem?_eq_some_iff.1 hit).1
        by_cases hp : pos < a0.size
        · have hnx : ∀ ty, (Instr.next (.pointer (some ⟨w1.heap.size, 0, none⟩)) true ty).run Tryd.prog wr = _ := fun ty => Lib.run_next_any_at wr w1.heap.size a0 pos ty hit hp
          obtain ⟨L', he, hd2, hok, hw1, hw2⟩ := dec_pos HDr.out hp
          have hb3 := (okRune_iff.1 hok)
          have hit2 := Lib.iterAt_heap wr w1.heap.size a0 pos (pos + (Utf8.decode a0 pos).2) hit
          have HB2 := Aside0.mk (Lib.below_iterAt HBr.out (k := w1.heap.size) (by omega) a0 (pos + (Utf8.decode a0 pos).2))
          have HO2 := Aside0.mk (Kd.R_step HO.out (w1 := wr.iterAt w1.heap.size a0 (pos + (Utf8.decode a0 pos).2)) (fun k hk _ => Lib.iterAt_other wr w1.heap.size k a0 _ hk))
          have hsz2 : (wr.iterAt w1.heap.size a0 (pos + (Utf8.decode a0 pos).2)).heap.size = wr.heap.size := Lib.iterAt_size _ _ _ _
          have HIT := Aside0.mk hit
          have HIT2 := Aside0.mk hit2
          have HE := Aside0.mk he
          have HD2 := Aside0.mk hd2
          have hcv : IntKind.i64.wrap ((Utf8.decode a0 pos).1 : Int) = ((Utf8.decode a0 pos).1 : Int) := by rw [IntKind.wrap_i64]; omega
          have hub : ((Utf8.decode a0 pos).1 : Int) ≤ 1114111 := hb3.2.1
          have hal2 : acc.length + L'.length + 1 ≤ 1048576 := by
            have := congrArg List.length HA.out
            rw [List.length_append, he, List.length_cons] at this
            omega
          have HSZ2 := Aside0.mk hsz2
          clear hit hit2 he hd2 hok hb3 hsz2
          generalize hW : wr.iterAt w1.heap.size a0 (pos + (Utf8.decode a0 pos).2) = W2 at *
          have hW2 : w1.heap.size < W2.heap.size := by rw [HSZ2.out]; exact hsz
          clear hW
          go_wp2_with (at_builtin; refine Kd.R_append (Kd.int .i64) (w0 := w) w.heap.size rfl (.tmp 15) (.tmp 18) 32 3 (.int .i64 0) 8 rfl Tryd.underlying32 info_int rfl (by decide) (by omega) u4 acc ((Utf8.decode a0 pos).1 : Int) [.int .i64 ((Utf8.decode a0 pos).1 : Int)] (fun k_ => k_ ≠ w1.heap.size) (fun _ => False) rfl rfl ?aP (fun _ hk => hk.elim) ?aF ?aO ?aB ?aS ?aL ?_; (case aP => exact rfl); (case aF => exact (fun k hk => by omega)); (case aO => exact HO2.out); (case aB => exact HB2.out); (case aS => exact HB2.out.size); (case aL => omega); intro v9 w9 ho hb hg hat; have HO9 := Aside0.mk ho; have HB9 := Aside0.mk hb; have HG9 := Aside0.mk hg; clear ho hb hg hat)
          have it9 : w9.heap[w1.heap.size]? = some (.stringIter a0 (pos + (Utf8.decode a0 pos).2)) := (HG9.out.block _ hW2 (fun e => HO2.out.1 _ e.symm rfl)).trans HIT2.out
          refine ⟨⟨pos + (Utf8.decode a0 pos).2, acc ++ [((Utf8.decode a0 pos).1 : Int)], L', ⟨it9⟩, HO9, HB9, HD2, ⟨?_⟩, by rw [List.length_append, List.length_singleton]; omega⟩, ?_⟩
          · rw [← HA.out, HE.out, List.append_assoc]; rfl
          · simp only [World.iterPos, it9, HIT.out]; omega
        · have hnx : ∀ ty, (Instr.next (.pointer (some ⟨w1.heap.size, 0, none⟩)) true ty).run Tryd.prog wr = _ := fun ty => Lib.run_next_end_at wr w1.heap.size a0 pos ty hit hp
          have hr := dec_end HDr.out hp
          have hac : Aside0 (acc = L) := ⟨by rw [← HA.out, hr, List.append_nil]⟩
          clear hr hit HA HDr
          go_wp2
          go_ret2
          exact ⟨_, rfl, hac.out ▸ Kd.R_mono HO.out (fun _ _ => trivial), HBr.out⟩
  · rw [if_neg hs] at h
    cases h

theorem great_calls (c : Int) (b : Bool) (w : World) (hb : greatR c = b) : Calls Tryd.prog 31 #[.int .i32 c] w fun e w' => e = .returned (.bool b) ∧ Drawn0 w w' := by
  refine Go.Proofs.YtnfjhfhdiknccaaDoor.Q.glyph_great.calls 4 c b w ?_
  rw [← hb]
  unfold Go.Proofs.YtnfjhfhdiknccaaDoor.Q.glyph_great.f
  simp only [Go.Proofs.YtnfjhfhdiknccaaDoor.Q.glyph_great.j0, Go.Proofs.YtnfjhfhdiknccaaDoor.Q.glyph_great.j1, Go.Proofs.YtnfjhfhdiknccaaDoor.Q.glyph_great.j2, decide_eq_true_eq, bne_iff_ne, ne_eq, Bool.false_eq_true, if_false]
  repeat' split
  all_goals (refine congrArg some (Bool.eq_iff_iff.2 ?_); unfold greatR; simp only [Bool.or_eq_true, Bool.and_eq_true, Bool.not_eq_true', decide_eq_true_eq, decide_eq_false_iff_not, Bool.false_eq_true, true_iff, false_iff]; omega)
theorem blank_calls (c : Int) (b : Bool) (w : World) (hb : blankR c = b) : Calls Tryd.prog 29 #[.int .i32 c] w fun e w' => e = .returned (.bool b) ∧ Drawn0 w w' := by
  refine Go.Proofs.YtnfjhfhdiknccaaDoor.Q.glyph_blank.calls c b w ?_
  rw [← hb]
  unfold Go.Proofs.YtnfjhfhdiknccaaDoor.Q.glyph_blank.f
  repeat' split
  all_goals (refine congrArg some (Bool.eq_iff_iff.2 ?_); unfold blankR; simp only [Bool.or_eq_true, decide_eq_true_eq, Bool.false_eq_true, true_iff, false_iff]; omega)

theorem valid_rune (n : Int) : Lib.validRune n = okRune n := by
  unfold Lib.validRune
  rw [Bool.eq_iff_iff, okRune_iff, decide_eq_true_eq]
  omega
theorem int_row {w : World} {A : Option Addr} {xs : List Int} (h : Kd.C (Kd.int .i64) w A xs.length xs) (i : Nat) (hi : i < xs.length) : ∃ ad, A = some ad ∧ w.cell? (ad.add i) = some (.int .i64 (rd xs (i : Int))) := by
  obtain ⟨ad, e, hx⟩ := Kd.at_int h (i : Int) (by omega) (by omega)
  exact ⟨ad, e, by simpa using hx⟩

set_option maxRecDepth 100000 in
set_option maxHeartbeats 4000000 in
theorem glyph_Text.calls (A0 : Option Addr) (c0 : Nat) (l0 : List Int) (r1 : ByteArray) (r2 : Int) (w : World) (hr0 : Kd.C (Kd.int .i64) w A0 l0.length l0) (_hc0 : l0.length ≤ c0) (h : glyph_Text.f l0 = some (r1, r2)) :
    Calls Tryd.prog 23 #[.slice A0 l0.length c0] w fun e w' => e = .returned (.tuple #[.string r1, .int .i64 r2]) ∧ Below w.heap.size w w' := by
  unfold glyph_Text.f at h
  by_cases hs : l0.length ≤ 1048576
  · rw [if_pos hs] at h
    have HR := Aside0.mk hr0
    have HH := Aside0.mk h
    clear hr0 h
    go_enter Tryd.func23, Tryd.ntmps23
    go_wp2
    go_loopw [9] (fun v9 wr => ∃ (i : Nat), i ≤ l0.length ∧ v9 = .int .i64 i ∧ Aside0 (Lib.IsBuilderF 45 5 w.heap.size w.heap.size (Lib.byteCells (enc (l0.take i))) wr) ∧ Aside0 (Below w.heap.size w wr) ∧ Aside0 ((l0.take i).all okRune = true)) (fun v9 _ => l0.length - (intOf v9).toNat)
    case atStart =>
      refine ⟨0, by omega, rfl, ⟨?_⟩, ⟨(Below.refl _ w).alloc (Nat.le_refl _) _⟩, ⟨by simp⟩⟩
      exact Lib.IsBuilderF.of (Lib.fresh_isBuilder 45 5 w)
    case round =>
      obtain ⟨i, hi, rfl, HI, HB, HA⟩ := hrel
      have hsz := HB.out.size
      by_cases hlt : i < l0.length
      · obtain ⟨ad, e0, hx⟩ := int_row HR.out i hlt
        subst e0
        replace hx := (HB.out.cell (World.block_lt_of_cell? w _ hx)).trans hx
        have hin : (i : Int) < (l0.length : Int) := by omega
        have hnext := List.take_succ_eq_append_getElem hlt
        have hge : rd l0 (i : Int) = l0[i] := by unfold rd; rw [Int.toNat_natCast, List.getD_eq_getElem?_getD, List.getElem?_eq_getElem hlt, Option.getD_some]
        rw [← hge] at hnext
        have HN := Aside0.mk hnext
        have hmem : rd l0 (i : Int) ∈ l0 := by rw [hge]; exact List.getElem_mem hlt
        clear hnext hge
        generalize hr : rd l0 (i : Int) = r at *
        clear hr
        have hbad : okRune r = false → Aside0 (⟨#[]⟩ = r1 ∧ 10 = r2) := fun hf => by
          have h1 := HH.out
          rw [if_neg (by intro hall; rw [List.all_eq_true] at hall; rw [hall r hmem] at hf; cases hf)] at h1
          exact ⟨by simpa using h1⟩
        by_cases c1 : r < 0
        · obtain ⟨rfl, rfl⟩ := (hbad (by rw [Bool.eq_false_iff, ne_eq, okRune_iff]; omega)).out
          clear hbad
          go_wp2
          go_ret2
          exact ⟨rfl, HB.out⟩
        · have c1' : 0 ≤ r := by omega
          by_cases c2 : 1114111 < r
          · obtain ⟨rfl, rfl⟩ := (hbad (by rw [Bool.eq_false_iff, ne_eq, okRune_iff]; omega)).out
            clear hbad c1
            go_wp2
            go_ret2
            exact ⟨rfl, HB.out⟩
          · have c2' : r ≤ 1114111 := by omega
            have hcv : IntKind.i32.wrap r = r := by rw [IntKind.wrap_i32]; omega
            clear c1 c2
            cases hk : okRune r with
            | false =>
              obtain ⟨rfl, rfl⟩ := (hbad hk).out
              have V := fun w => Aside0.mk (Any.utf8_ValidRune Tryd.lays119 r w)
              rw [valid_rune, hk] at V
              clear hbad hk
              go_wp2_with (go_at_call 36; refine (V _).out.mono ?_; rintro e w' ⟨rfl, rfl⟩)
              go_ret2
              exact ⟨rfl, HB.out⟩
            | true =>
              have V := fun w => Aside0.mk (Any.utf8_ValidRune Tryd.lays119 r w)
              rw [valid_rune, hk] at V
              have HK := Aside0.mk hk
              clear hbad hk
              have hlen : (Lib.byteCells (enc (l0.take i))).length + 4 ≤ 140737488355328 := by
                rw [Lib.byteCells_length]
                have := (enc_length (l0.take i)).2
                rw [List.length_take] at this
                omega
              have WR := Aside0.mk (Any.Builder_WriteRune_k Tryd.lays168 Tryd.Builder_Extra_168 w.heap.size w.heap.size _ r (by omega) (by omega) wr HI.out hlen hsz)
              clear hlen
              go_wp2_with (first | (go_at_call 36; refine (V _).out.mono ?_; rintro e w' ⟨rfl, rfl⟩) | (go_at_call 32; refine WR.out.mono ?_; rintro e w1 ⟨rfl, h1, b1, k1⟩; have H1 := Aside0.mk h1; have B1 := Aside0.mk b1; clear h1 b1 k1))
              refine ⟨⟨i + 1, by omega, by go_num, ⟨?_⟩, ⟨HB.out.trans B1.out⟩, ⟨?_⟩⟩, by simp [intOf]; omega⟩
              · rw [HN.out, enc_append, Lib.byteCells_append]
                have e : Lib.byteCells (enc [r]) = Lib.runeCells r := by
                  rw [← Lib.byteCells_encodeRune]; simp [enc]
                rw [e]
                exact Or.inr H1.out
              · rw [HN.out, List.all_append, HA.out]
                simp [HK.out]
      · obtain rfl : i = l0.length := by omega
        have hall : l0.all okRune = true := by have := HA.out; rwa [List.take_length] at this
        have hfin := HH.out
        rw [if_pos hall] at hfin
        obtain ⟨rfl, rfl⟩ : textOf l0 = r1 ∧ 0 = r2 := by simpa using hfin
        have hI := HI.out
        rw [List.take_length] at hI
        have ST := Aside0.mk (Any.Builder_String_any_k Tryd.lays169 Tryd.Builder_Extra_169 w.heap.size w.heap.size (enc l0) wr hI hsz)
        clear hI HI HA hfin hall HH
        go_wp2_with (go_at_call 33; refine ST.out.mono ?_; rintro e w1 ⟨rfl, _, b1, _⟩; have B1 := Aside0.mk b1; clear b1)
        go_ret2
        exact ⟨rfl, HB.out.trans B1.out⟩
  · rw [if_neg hs] at h
    cases h

theorem builder_drewN {T e : TypeId} {B b : Nat} {bs : List Value} {w : World} (h : Lib.IsBuilderF T e B b bs w) (n : Nat) : Lib.IsBuilderF T e B b bs (w.drewN n) := h
set_option maxRecDepth 100000 in
set_option maxHeartbeats 4000000 in
theorem glyph_Fold.calls (a0 : ByteArray) (r1 : ByteArray) (r2 : Int) (w : World) (hL : LaidW w) (h : glyph_Fold.f a0 = some (r1, r2)) :
    Calls Tryd.prog 17 #[.string a0] w fun e w' => e = .returned (.tuple #[.string r1, .int .i64 r2]) ∧ Below w.heap.size w w' := by
  unfold glyph_Fold.f at h
  by_cases hs : a0.size ≤ 1048576
  · rw [if_pos hs] at h
    cases hd : decS a0 with
    | none =>
      rw [hd] at h
      obtain ⟨rfl, rfl⟩ : ⟨#[]⟩ = r1 ∧ 10 = r2 := by simpa using h
      have V := Aside0.mk (valid_calls a0 false w (by omega) hL (by rw [hd]; rfl))
      clear h hd
      go_enter Tryd.func17, Tryd.ntmps17
      go_wp2_with fail
      refine V.out.mono ?_
      rintro e w1 ⟨rfl, hb⟩
      go_wp2
      go_ret2
      exact ⟨rfl, hb⟩
    | some L =>
      rw [hd] at h
      obtain ⟨rfl, rfl⟩ : textOf (L.map foldR) = r1 ∧ 0 = r2 := by simpa using h
      have V := Aside0.mk (valid_calls a0 true w (by omega) hL (by rw [hd]; rfl))
      have hd' : decD (a0.data.toList.drop 0) = some L := by rw [List.drop_zero]; exact hd
      have hll := dec_len0 hd
      have HD := Aside0.mk hd'
      clear h hd hd' hL
      go_enter Tryd.func17, Tryd.ntmps17
      go_wp2_with fail
      refine V.out.mono ?_
      rintro e w1 ⟨rfl, hb⟩
      have hsz1 := hb.size
      have HB := Aside0.mk hb
      clear hb V
      go_wp2
      go_loopw [] (fun wr => ∃ (pos : Nat) (acc rest : List Int), Aside0 (Lib.IsBuilderF 45 5 w1.heap.size w1.heap.size (Lib.byteCells (enc (acc.map foldR))) wr) ∧ Aside0 (wr.heap[w1.heap.size + 1]? = some (.stringIter a0 pos)) ∧ Aside0 (Below w.heap.size w wr) ∧ Aside0 (decD (a0.data.toList.drop pos) = some rest) ∧ Aside0 (acc ++ rest = L) ∧ acc.length ≤ 1048576) (fun wr => a0.size - wr.iterPos (w1.heap.size + 1))
      case atStart =>
        refine ⟨0, [], L, ⟨(Lib.IsBuilderF.of (Lib.fresh_isBuilder 45 5 w1)).alloc _⟩, ⟨?_⟩, ⟨(HB.out.alloc hsz1 _).alloc (by simp; omega) _⟩, HD, ⟨rfl⟩, by simp⟩
        have := World.iter_heap (w1.alloc (.cells #[.pointer none, .slice none 0 0] 45)) a0 0
        simpa using this
      case round =>
        obtain ⟨pos, acc, rest, HI, ⟨hit⟩, HBr, HDr, HA, hal⟩ := hrel
        have hsz : w1.heap.size + 1 < wr.heap.size := (Array.getElem?_eq_some_iff.1 hit).1
        by_cases hp : pos < a0.size
        · have hnx : ∀ ty, (Instr.next (.pointer (some ⟨w1.heap.size + 1, 0, none⟩)) true ty).run Tryd.prog wr = _ := fun ty => Lib.run_next_any_at wr (w1.heap.size + 1) a0 pos ty hit hp
          obtain ⟨L', he, hd2, hok, hw1, hw2⟩ := dec_pos HDr.out hp
          have hb3 := (okRune_iff.1 hok)
          have hit2 := Lib.iterAt_heap wr (w1.heap.size + 1) a0 pos (pos + (Utf8.decode a0 pos).2) hit
          have HB2 := Aside0.mk (Lib.below_iterAt HBr.out (k := w1.heap.size + 1) (by omega) a0 (pos + (Utf8.decode a0 pos).2))
          have HI2 := Aside0.mk (HI.out.iterAt hit (pos + (Utf8.decode a0 pos).2))
          have hsz2 : w1.heap.size ≤ (wr.iterAt (w1.heap.size + 1) a0 (pos + (Utf8.decode a0 pos).2)).heap.size := by rw [Lib.iterAt_size]; omega
          have HIT := Aside0.mk hit
          have HIT2 := Aside0.mk hit2
          have HE := Aside0.mk he
          have HD2 := Aside0.mk hd2
          have hub : ((Utf8.decode a0 pos).1 : Int) ≤ 1114111 := hb3.2.1
          have hal2 : acc.length + L'.length + 1 ≤ 1048576 := by
            have := congrArg List.length HA.out
            rw [List.length_append, he, List.length_cons] at this
            omega
          have hlen : (Lib.byteCells (enc (acc.map foldR))).length + 4 ≤ 140737488355328 := by
            rw [Lib.byteCells_length]
            have := (enc_length (acc.map foldR)).2
            rw [List.length_map] at this
            omega
          clear hit hit2 he hd2 hok hb3
          generalize hW : wr.iterAt (w1.heap.size + 1) a0 (pos + (Utf8.decode a0 pos).2) = W2 at *
          clear hW
          have fin : ∀ (x : Int) (W0 : World), foldR ((Utf8.decode a0 pos).1 : Int) = x → -2147483648 ≤ x → x ≤ 2147483647 → Aside0 (Drawn0 W2 W0) → Aside0 (Calls Tryd.prog 32 #[.pointer (some ⟨w1.heap.size, 0, none⟩), .int .i32 x] W0 fun e W3 => ∃ n : Int, e = .returned (.tuple #[.int .i64 n, .nilIface]) ∧ Aside0 (
              (∃ (pos : Nat) (acc rest : List Int), Aside0 (Lib.IsBuilderF 45 5 w1.heap.size w1.heap.size (Lib.byteCells (enc (acc.map foldR))) W3) ∧ Aside0 (W3.heap[w1.heap.size + 1]? = some (.stringIter a0 pos)) ∧ Aside0 (Below w.heap.size w W3) ∧ Aside0 (decD (a0.data.toList.drop pos) = some rest) ∧ Aside0 (acc ++ rest = L) ∧ acc.length ≤ 1048576) ∧ a0.size - W3.iterPos (w1.heap.size + 1) < a0.size - wr.iterPos (w1.heap.size + 1))) := by
            intro x W0 hx h1 h2 HD0
            obtain ⟨n0, rfl⟩ := HD0.out.out
            have hh : (W2.drewN n0).heap = W2.heap := rfl
            have hI3 := builder_drewN HI2.out n0
            have hB3 : Below w.heap.size w (W2.drewN n0) := HB2.out.trans (HD0.out.below.mono HB2.out.size)
            refine ⟨(Any.Builder_WriteRune_k Tryd.lays168 Tryd.Builder_Extra_168 w1.heap.size w1.heap.size _ x h1 h2 _ hI3 hlen (by rw [hh]; exact hsz2)).mono ?_⟩
            rintro e W3 ⟨rfl, H1, B1, K1⟩
            have it3 := K1.iter (k := w1.heap.size + 1) (s := a0) (pos := pos + (Utf8.decode a0 pos).2) (by rw [hh]; exact HIT2.out) (by omega)
            refine ⟨_, rfl, ⟨⟨pos + (Utf8.decode a0 pos).2, acc ++ [((Utf8.decode a0 pos).1 : Int)], L', ⟨?_⟩, ⟨it3⟩, ⟨hB3.trans (B1.mono hsz1)⟩, HD2, ⟨?_⟩, by rw [List.length_append, List.length_singleton]; omega⟩, ?_⟩⟩
            · rw [List.map_append, List.map_singleton, hx, enc_append, Lib.byteCells_append]
              have e : Lib.byteCells (enc [x]) = Lib.runeCells x := by
                rw [← Lib.byteCells_encodeRune]; simp [enc]
              rw [e]
              exact Or.inr H1
            · rw [← HA.out, HE.out, List.append_assoc]; rfl
            · simp only [World.iterPos, it3, HIT.out]; omega
          have FIN := Aside0.mk fin
          clear fin hlen
          cases hg : greatR ((Utf8.decode a0 pos).1 : Int) with
          | false =>
            have G := fun w => Aside0.mk (great_calls ((Utf8.decode a0 pos).1 : Int) false w hg)
            have HX := Aside0.mk (show foldR ((Utf8.decode a0 pos).1 : Int) = ((Utf8.decode a0 pos).1 : Int) from by unfold foldR; rw [if_neg (by rw [hg]; decide)])
            clear hg
            go_wp2_with (first | (go_at_call 31; refine (G _).out.mono ?_; rintro e w' ⟨rfl, hd⟩; have D1 := Aside0.mk hd; clear hd) | (go_at_call 32; refine (FIN.out ((Utf8.decode a0 pos).1 : Int) _ HX.out (by omega) (by omega) D1).out.mono ?_; rintro e w3 ⟨nn, rfl, HF⟩))
            exact HF.out
          | true =>
            have G := fun w => Aside0.mk (great_calls ((Utf8.decode a0 pos).1 : Int) true w hg)
            have HX := Aside0.mk (show foldR ((Utf8.decode a0 pos).1 : Int) = ((Utf8.decode a0 pos).1 : Int) + 32 from by unfold foldR; rw [if_pos hg])
            clear hg
            go_wp2_with (first | (go_at_call 31; refine (G _).out.mono ?_; rintro e w' ⟨rfl, hd⟩; have D1 := Aside0.mk hd; clear hd) | (go_at_call 32; refine (FIN.out (((Utf8.decode a0 pos).1 : Int) + 32) _ HX.out (by omega) (by omega) D1).out.mono ?_; rintro e w3 ⟨nn, rfl, HF⟩))
            exact HF.out
        · have hnx : ∀ ty, (Instr.next (.pointer (some ⟨w1.heap.size + 1, 0, none⟩)) true ty).run Tryd.prog wr = _ := fun ty => Lib.run_next_end_at wr (w1.heap.size + 1) a0 pos ty hit hp
          have hr := dec_end HDr.out hp
          have hac : acc = L := by rw [← HA.out, hr, List.append_nil]
          have hI := HI.out
          rw [hac] at hI
          have ST := Aside0.mk (Any.Builder_String_any_k Tryd.lays169 Tryd.Builder_Extra_169 w1.heap.size w1.heap.size (enc (L.map foldR)) wr hI (by omega))
          clear hr hit HA HDr hI HI hac
          go_wp2_with (go_at_call 33; refine ST.out.mono ?_; rintro e w2 ⟨rfl, _, b1, _⟩; have B1 := Aside0.mk b1; clear b1)
          go_ret2
          exact ⟨rfl, HBr.out.trans (B1.out.mono hsz1)⟩
  · rw [if_neg hs] at h
    cases h

/-! the pieces between blanks -/
def BL (x : Nat) : Bool := blankR (x : Int)
theorem rune_at {s : ByteArray} {pos : Nat} {L : List Int} (h : decD (s.data.toList.drop pos) = some L) (hp : pos < s.size) : (s.data.toList.drop pos).take (Utf8.decode s pos).2 = encodeRune ((Utf8.decode s pos).1 : Int) := by
  have hl : s.data.toList.length = s.size := by rw [Array.length_toList]; rfl
  have hne : s.data.toList.drop pos ≠ [] := by intro c; have := congrArg List.length c; rw [List.length_drop] at this; simp only [List.length_nil] at this; omega
  rw [← decodeL_drop]
  rw [decD_step _ hne] at h
  split at h
  · cases h
  · rename_i hv
    exact (encode_decode _ hne hv).symm
theorem piece {s : ByteArray} {a b : Nat} {X : List Int} (h : (s.data.toList.drop a).take (b - a) = enc X) : s.extract a b = textOf X := by
  have e : (s.extract a b).data.toList = (textOf X).data.toList := by rw [extract_data, h, textOf_list]
  cases hx : s.extract a b
  cases hy : textOf X
  rw [hx, hy] at e
  simp at e
  rw [e]
theorem spans_eq (s : ByteArray) : ∀ (f pos : Nat) (st : Option Nat) (acc : List (Nat × Nat)) (now rest : List Int), decD (s.data.toList.drop pos) = some rest → s.size ≤ pos + f → pos ≤ s.size →
    (match st with | none => now = [] | some a => a ≤ pos ∧ now ≠ [] ∧ (s.data.toList.drop a).take (pos - a) = enc now) →
    (closeSpans s (spansFromP BL s f pos st acc)).map (fun x => s.extract x.1 x.2) = acc.map (fun x => s.extract x.1 x.2) ++ (wordsL now rest).map textOf := by
  have hl : s.data.toList.length = s.size := by rw [Array.length_toList]; rfl
  intro f
  induction f with
  | zero =>
    intro pos st acc now rest hd h1 h2 hst
    obtain rfl : pos = s.size := by omega
    obtain rfl := dec_end hd (by omega)
    unfold spansFromP wordsL
    cases st with
    | none => simp only at hst; subst hst; simp [closeSpans]
    | some a =>
      obtain ⟨h3, h4, h5⟩ := hst
      rw [if_neg h4]
      simp only [closeSpans]
      rw [List.map_append]; simp only [List.map_cons, List.map_nil, piece h5]
  | succ f ih =>
    intro pos st acc now rest hd h1 h2 hst
    unfold spansFromP
    by_cases hp : pos < s.size
    · rw [if_pos hp]
      obtain ⟨L', he, hd2, hok, hw1, hw2⟩ := dec_pos hd hp
      have hr := rune_at hd hp
      have hb : BL (Utf8.decode s pos).1 = blankR ((Utf8.decode s pos).1 : Int) := rfl
      subst he
      rw [hb]
      generalize (Utf8.decode s pos).2 = w at *
      generalize ((Utf8.decode s pos).1) = r at *
      unfold wordsL
      cases hk : blankR (r : Int)
      · rw [if_neg (by simp), if_neg (by simp)]
        cases st with
        | none =>
          simp only at hst
          subst hst
          exact ih (pos + w) (some pos) acc ([] ++ [(r : Int)]) L' hd2 (by omega) (by omega) ⟨by omega, by simp, by rw [show pos + w - pos = w by omega, hr]; simp [enc]⟩
        | some a =>
          obtain ⟨h3, h4, h5⟩ := hst
          refine ih (pos + w) (some a) acc (now ++ [(r : Int)]) L' hd2 (by omega) (by omega) ⟨by omega, by simp, ?_⟩
          rw [enc_append, ← h5, show pos + w - a = (pos - a) + w by omega, List.take_add, List.drop_drop, show a + (pos - a) = pos by omega, hr]
          simp [enc]
      · rw [if_pos rfl, if_pos rfl]
        cases st with
        | none =>
          simp only at hst
          subst hst
          rw [if_pos rfl]
          exact ih (pos + w) none acc [] L' hd2 (by omega) (by omega) rfl
        | some a =>
          obtain ⟨h3, h4, h5⟩ := hst
          rw [if_neg h4]
          have := ih (pos + w) none (acc ++ [(a, pos)]) [] L' hd2 (by omega) (by omega) rfl
          refine this.trans ?_
          rw [List.map_append, List.append_assoc]
          simp only [List.map_cons, List.map_nil, piece h5]
          rfl
    · rw [if_neg hp]
      have := ih pos st acc now rest hd (by omega) h2 hst
      rw [spansFromP_end BL s f pos st acc hp] at this
      exact this
theorem fields_eq {s : ByteArray} {L : List Int} (h : decS s = some L) : Lib.goFieldsP BL s = (wordsL [] L).map textOf := by
  have := spans_eq s s.size 0 none [] [] L (by rw [List.drop_zero]; exact h) (by omega) (by omega) rfl
  unfold Lib.goFieldsP Lib.spansOfP
  rw [this]; rfl
theorem blank_pays (w : World) : PredAtRunes Tryd.prog 29 #[] BL w := fun W x _ _ =>
  (blank_calls (x : Int) _ W rfl).mono fun _ _ ⟨h1, h2⟩ => ⟨h1, h2.out⟩

set_option maxRecDepth 100000 in
set_option maxHeartbeats 4000000 in
theorem glyph_Words.calls (a0 : ByteArray) (r1 : List ByteArray) (r2 : Int) (w : World) (hL : LaidW w) (h : glyph_Words.f a0 = some (r1, r2)) :
    Calls Tryd.prog 13 #[.string a0] w fun e w' => ∃ v0_ : Value, e = .returned (.tuple #[v0_, .int .i64 r2]) ∧ Kd.R Kd.string 9 w' w.heap.size (fun _ => True) v0_ r1 ∧ Below w.heap.size w w' := by
  unfold glyph_Words.f at h
  by_cases hs : a0.size ≤ 1048576
  · rw [if_pos hs] at h
    cases hd : decS a0 with
    | none =>
      rw [hd] at h
      obtain ⟨rfl, rfl⟩ : [] = r1 ∧ 10 = r2 := by simpa using h
      have V := Aside0.mk (valid_calls a0 false w (by omega) hL (by rw [hd]; rfl))
      clear h hd
      go_enter Tryd.func13, Tryd.ntmps13
      go_wp2_with fail
      refine V.out.mono ?_
      rintro e w1 ⟨rfl, hb⟩
      go_wp2
      go_ret2
      exact ⟨_, rfl, Kd.R_nil _ _ _ _ _, hb⟩
    | some L =>
      rw [hd] at h
      obtain ⟨rfl, rfl⟩ : (wordsL [] L).map textOf = r1 ∧ 0 = r2 := by simpa using h
      have V := Aside0.mk (valid_calls a0 true w (by omega) hL (by rw [hd]; rfl))
      have FE := Aside0.mk (fields_eq hd)
      clear h hd hL
      generalize (wordsL [] L).map textOf = R at *
      go_enter Tryd.func13, Tryd.ntmps13
      go_wp2_with fail
      refine V.out.mono ?_
      rintro e w1 ⟨rfl, hb⟩
      have HB := Aside0.mk hb
      have FF := Aside0.mk (Any.strings_FieldsFunc_runes Tryd.lays229 29 #[] (enters_of Tryd.func29 (by kernel_rfl) rfl) BL a0 w1 (by omega) (blank_pays w1) (by kernel_rfl) (by kernel_rfl))
      rw [FE.out] at FF
      clear hb V
      go_wp2_with fail
      refine FF.out.mono ?_
      rintro e w2 ⟨A, rfl, hA, ho, hb2⟩
      have HO := Aside0.mk ho
      have HB2 := Aside0.mk hb2
      clear ho hb2 FF FE
      go_wp2
      go_ret2
      refine ⟨_, rfl, ?_, HB.out.trans (HB2.out.mono HB.out.size)⟩
      exact Kd.R_lower (Kd.R_of_own HO.out (fun _ _ => trivial)) HB.out.size
  · rw [if_neg hs] at h
    cases h

def goodL : List Int → Bool
  | [] => true
  | c :: t => letterR c && t.all nameOk
theorem goodL_snoc (acc : List Int) (r : Int) : goodL (acc ++ [r]) = (goodL acc && (if acc = [] then letterR r else nameOk r)) := by
  cases acc with
  | nil => simp [goodL]
  | cons c t => simp [goodL, Bool.and_assoc]
theorem nameL_good (L : List Int) : nameL L = (goodL L && (decide (0 < L.length) && decide (L.length ≤ 16))) := by
  cases L with
  | nil => rfl
  | cons c t =>
    show (letterR c && (t.all nameOk && decide (t.length < 16))) = _
    rw [Bool.eq_iff_iff]
    simp only [goodL, Bool.and_eq_true, decide_eq_true_eq, List.length_cons]
    constructor
    · rintro ⟨h1, h2, h3⟩; exact ⟨⟨h1, h2⟩, by omega, by omega⟩
    · rintro ⟨⟨h1, h2⟩, _, h3⟩; exact ⟨h1, h2, by omega⟩
theorem goodL_app (acc rest : List Int) (h : goodL acc = false) : goodL (acc ++ rest) = false := by
  cases acc with
  | nil => simp [goodL] at h
  | cons c t =>
    simp only [goodL, List.cons_append, List.all_append] at h ⊢
    cases h1 : letterR c
    · rfl
    · rw [h1, Bool.true_and] at h; rw [h]; rfl

set_option maxRecDepth 100000 in
set_option maxHeartbeats 4000000 in
theorem glyph_Name.calls (a0 : ByteArray) (r : Bool) (w : World) (hL : LaidW w) (h : glyph_Name.f a0 = some r) :
    Calls Tryd.prog 25 #[.string a0] w fun e w' => e = .returned (.bool r) ∧ Below w.heap.size w w' := by
  unfold glyph_Name.f at h
  by_cases hs : a0.size ≤ 140737488351232
  · rw [if_pos hs] at h
    cases hd : decS a0 with
    | none =>
      rw [hd] at h
      obtain rfl : false = r := by simpa using h
      have V := Aside0.mk (valid_calls a0 false w (by omega) hL (by rw [hd]; rfl))
      clear h hd
      go_enter Tryd.func25, Tryd.ntmps25
      go_wp2_with fail
      refine V.out.mono ?_
      rintro e w1 ⟨rfl, hb⟩
      go_wp2
      go_ret
      exact ⟨rfl, hb⟩
    | some L =>
      rw [hd] at h
      have hr : nameL L = r := by simpa using h
      have HRR := Aside0.mk hr
      have V := Aside0.mk (valid_calls a0 true w (by omega) hL (by rw [hd]; rfl))
      have hd' : decD (a0.data.toList.drop 0) = some L := by rw [List.drop_zero]; exact hd
      have hll := dec_len0 hd
      have HD := Aside0.mk hd'
      clear h hd hd' hL hr
      go_enter Tryd.func25, Tryd.ntmps25
      go_wp2_with fail
      refine V.out.mono ?_
      rintro e w1 ⟨rfl, hb⟩
      have hsz1 := hb.size
      have HB := Aside0.mk hb
      clear hb V
      go_wp2
      go_loopw [3] (fun v3 wr => ∃ (pos : Nat) (acc rest : List Int), v3 = .int .i64 acc.length ∧ Aside0 (wr.heap[w1.heap.size]? = some (.stringIter a0 pos)) ∧ Aside0 (Below w.heap.size w wr) ∧ Aside0 (decD (a0.data.toList.drop pos) = some rest) ∧ Aside0 (acc ++ rest = L) ∧ Aside0 (goodL acc = true)) (fun _ wr => a0.size - wr.iterPos w1.heap.size)
      case atStart =>
        refine ⟨0, [], L, rfl, ⟨?_⟩, ⟨HB.out.alloc hsz1 _⟩, HD, ⟨rfl⟩, ⟨rfl⟩⟩
        have := World.iter_heap w1 a0 0
        simpa using this
      case round =>
        obtain ⟨pos, acc, rest, rfl, ⟨hit⟩, HBr, HDr, HA, HG⟩ := hrel
        have hsz : w1.heap.size < wr.heap.size := (Array.getElem?_eq_some_iff.1 hit).1
        have hacl : acc.length ≤ 140737488351232 := by
          have := congrArg List.length HA.out
          rw [List.length_append] at this; omega
        by_cases hp : pos < a0.size
        · have hnx : ∀ ty, (Instr.next (.pointer (some ⟨w1.heap.size, 0, none⟩)) true ty).run Tryd.prog wr = _ := fun ty => Lib.run_next_any_at wr w1.heap.size a0 pos ty hit hp
          obtain ⟨L', he, hd2, hok, hw1, hw2⟩ := dec_pos HDr.out hp
          have hb3 := (okRune_iff.1 hok)
          have hit2 := Lib.iterAt_heap wr w1.heap.size a0 pos (pos + (Utf8.decode a0 pos).2) hit
          have HB2 := Aside0.mk (Lib.below_iterAt HBr.out (k := w1.heap.size) (by omega) a0 (pos + (Utf8.decode a0 pos).2))
          have HIT := Aside0.mk hit
          have HIT2 := Aside0.mk hit2
          have HE := Aside0.mk he
          have HD2 := Aside0.mk hd2
          have hub : ((Utf8.decode a0 pos).1 : Int) ≤ 1114111 := hb3.2.1
          clear hit hit2 he hd2 hok hb3
          generalize hW : wr.iterAt w1.heap.size a0 (pos + (Utf8.decode a0 pos).2) = W2 at *
          clear hW
          have bad : (if acc = [] then letterR ((Utf8.decode a0 pos).1 : Int) else nameOk ((Utf8.decode a0 pos).1 : Int)) = false → Aside0 (false = r) := fun hf => by
            refine ⟨?_⟩
            rw [← HRR.out, nameL_good, ← HA.out, HE.out, show acc ++ ((Utf8.decode a0 pos).1 : Int) :: L' = (acc ++ [((Utf8.decode a0 pos).1 : Int)]) ++ L' by simp, goodL_app _ _ (by rw [goodL_snoc, HG.out, hf]; rfl)]
            rfl
          have BAD := Aside0.mk bad
          have fin : ∀ W3, Aside0 (Drawn0 W2 W3) → (if acc = [] then letterR ((Utf8.decode a0 pos).1 : Int) else nameOk ((Utf8.decode a0 pos).1 : Int)) = true →
              (∃ (pos : Nat) (acc' rest : List Int), Value.int .i64 ((acc.length : Int) + 1) = .int .i64 acc'.length ∧ Aside0 (W3.heap[w1.heap.size]? = some (.stringIter a0 pos)) ∧ Aside0 (Below w.heap.size w W3) ∧ Aside0 (decD (a0.data.toList.drop pos) = some rest) ∧ Aside0 (acc' ++ rest = L) ∧ Aside0 (goodL acc' = true)) ∧ a0.size - W3.iterPos w1.heap.size < a0.size - wr.iterPos w1.heap.size := by
            intro W3 HD0 hk
            obtain ⟨n0, rfl⟩ := HD0.out.out
            refine ⟨⟨pos + (Utf8.decode a0 pos).2, acc ++ [((Utf8.decode a0 pos).1 : Int)], L', by simp, HIT2, ⟨HB2.out.trans (HD0.out.below.mono HB2.out.size)⟩, HD2, ⟨?_⟩, ⟨by rw [goodL_snoc, HG.out, hk]; rfl⟩⟩, ?_⟩
            · rw [← HA.out, HE.out, List.append_assoc]; rfl
            · have : (W2.drewN n0).heap[w1.heap.size]? = some (.stringIter a0 (pos + (Utf8.decode a0 pos).2)) := HIT2.out
              simp only [World.iterPos, this, HIT.out]; omega
          have FIN := Aside0.mk fin
          clear fin bad
          have hnn : nameOk ((Utf8.decode a0 pos).1 : Int) = (letterR ((Utf8.decode a0 pos).1 : Int) || (decide (((Utf8.decode a0 pos).1 : Int) = 45) || (decide (48 ≤ ((Utf8.decode a0 pos).1 : Int)) && decide (((Utf8.decode a0 pos).1 : Int) ≤ 57)))) := rfl
          have hlt : letterR ((Utf8.decode a0 pos).1 : Int) = (greatR ((Utf8.decode a0 pos).1 : Int) || greatR (((Utf8.decode a0 pos).1 : Int) - 32)) := rfl
          rw [hnn] at FIN BAD
          clear hnn
          generalize hx : ((Utf8.decode a0 pos).1 : Int) = x at *
          have hx0 : 0 ≤ x := by omega
          clear hx
          cases g1 : greatR x with
          | true =>
            have G := fun w => Aside0.mk (great_calls x true w g1)
            have HK := Aside0.mk (show letterR x = true by rw [hlt, g1]; rfl)
            clear hlt g1
            go_wp2_with (go_at_call 31; refine (G _).out.mono ?_; rintro e w' ⟨rfl, hd⟩; have D1 := Aside0.mk hd; clear hd)
            refine FIN.out _ D1 ?_
            rw [HK.out]; simp
          | false =>
            have G := fun w => Aside0.mk (great_calls x false w g1)
            cases g2 : greatR (x - 32) with
            | true =>
              have G2 := fun w => Aside0.mk (great_calls (x - 32) true w g2)
              have HK := Aside0.mk (show letterR x = true by rw [hlt, g1, g2]; rfl)
              clear hlt g1 g2
              go_wp2_with fail
              refine (G _).out.mono ?_
              rintro e w' ⟨rfl, hd⟩
              have D1 := Aside0.mk hd
              clear hd
              go_wp2_with fail
              refine (G2 _).out.mono ?_
              rintro e w2 ⟨rfl, hd⟩
              obtain ⟨n1, rfl⟩ := D1.out.out
              obtain ⟨n2, rfl⟩ := hd.out
              have D2 : Aside0 (Drawn0 W2 (W2.drewN (n1 + n2))) := ⟨⟨⟨n1 + n2, rfl⟩⟩⟩
              clear hd D1
              go_wp2
              refine FIN.out _ D2 ?_
              rw [HK.out]; simp
            | false =>
              have G2 := fun w => Aside0.mk (great_calls (x - 32) false w g2)
              have HK := Aside0.mk (show letterR x = false by rw [hlt, g1, g2]; rfl)
              rw [HK.out] at FIN BAD
              clear hlt g1 g2
              have arm : True := trivial
              by_cases e0 : acc = []
              · subst e0
                obtain rfl := (BAD.out (by simp)).out
                clear FIN BAD
                go_wp2_with fail
                refine (G _).out.mono ?_
                rintro e w' ⟨rfl, hd⟩
                have D1 := Aside0.mk hd
                clear hd
                go_wp2_with fail
                refine (G2 _).out.mono ?_
                rintro e w2 ⟨rfl, hd⟩
                obtain ⟨n1, rfl⟩ := D1.out.out
                obtain ⟨n2, rfl⟩ := hd.out
                have D2 : Aside0 (Drawn0 W2 (W2.drewN (n1 + n2))) := ⟨⟨⟨n1 + n2, rfl⟩⟩⟩
                clear hd D1
                go_wp2
                go_ret
                exact ⟨rfl, HB2.out.trans (D2.out.below.mono HB2.out.size)⟩
              · have hpos : 0 < acc.length := List.length_pos_iff.2 e0
                have hne0 : ((acc.length : Int) == 0) = false := by simp; exact e0
                rw [if_neg e0] at FIN BAD
                simp only [Bool.false_or, Bool.or_eq_true, Bool.and_eq_true, decide_eq_true_eq, Bool.or_eq_false_iff, decide_eq_false_iff_not, Bool.and_eq_false_iff] at FIN BAD
                clear e0
                by_cases e1 : x = 45
                · have e1' : (x != 45) = false := by simp [e1]
                  have FF := Aside0.mk (fun W3 HD0 => FIN.out W3 HD0 (.inl e1))
                  clear FIN BAD e1
                  go_wp2_with fail
                  refine (G _).out.mono ?_
                  rintro e w' ⟨rfl, hd⟩
                  have D1 := Aside0.mk hd
                  clear hd
                  go_wp2_with fail
                  refine (G2 _).out.mono ?_
                  rintro e w2 ⟨rfl, hd⟩
                  obtain ⟨n1, rfl⟩ := D1.out.out
                  obtain ⟨n2, rfl⟩ := hd.out
                  have D2 : Aside0 (Drawn0 W2 (W2.drewN (n1 + n2))) := ⟨⟨⟨n1 + n2, rfl⟩⟩⟩
                  clear hd D1
                  go_wp2
                  exact FF.out _ D2
                · have e1' : (x != 45) = true := by simp [e1]
                  by_cases e2 : 48 ≤ x
                  · by_cases e3 : x ≤ 57
                    · have FF := Aside0.mk (fun W3 HD0 => FIN.out W3 HD0 (.inr ⟨e2, e3⟩))
                      clear FIN BAD e1
                      go_wp2_with fail
                      refine (G _).out.mono ?_
                      rintro e w' ⟨rfl, hd⟩
                      have D1 := Aside0.mk hd
                      clear hd
                      go_wp2_with fail
                      refine (G2 _).out.mono ?_
                      rintro e w2 ⟨rfl, hd⟩
                      obtain ⟨n1, rfl⟩ := D1.out.out
                      obtain ⟨n2, rfl⟩ := hd.out
                      have D2 : Aside0 (Drawn0 W2 (W2.drewN (n1 + n2))) := ⟨⟨⟨n1 + n2, rfl⟩⟩⟩
                      clear hd D1
                      go_wp2
                      exact FF.out _ D2
                    · obtain rfl := (BAD.out ⟨e1, .inr e3⟩).out
                      have e3' : 57 < x := by omega
                      clear FIN BAD e1 e3
                      go_wp2_with fail
                      refine (G _).out.mono ?_
                      rintro e w' ⟨rfl, hd⟩
                      have D1 := Aside0.mk hd
                      clear hd
                      go_wp2_with fail
                      refine (G2 _).out.mono ?_
                      rintro e w2 ⟨rfl, hd⟩
                      obtain ⟨n1, rfl⟩ := D1.out.out
                      obtain ⟨n2, rfl⟩ := hd.out
                      have D2 : Aside0 (Drawn0 W2 (W2.drewN (n1 + n2))) := ⟨⟨⟨n1 + n2, rfl⟩⟩⟩
                      clear hd D1
                      go_wp2
                      go_ret
                      exact ⟨rfl, HB2.out.trans (D2.out.below.mono HB2.out.size)⟩
                  · obtain rfl := (BAD.out ⟨e1, .inl e2⟩).out
                    have e2' : x < 48 := by omega
                    clear FIN BAD e1 e2
                    go_wp2_with fail
                    refine (G _).out.mono ?_
                    rintro e w' ⟨rfl, hd⟩
                    have D1 := Aside0.mk hd
                    clear hd
                    go_wp2_with fail
                    refine (G2 _).out.mono ?_
                    rintro e w2 ⟨rfl, hd⟩
                    obtain ⟨n1, rfl⟩ := D1.out.out
                    obtain ⟨n2, rfl⟩ := hd.out
                    have D2 : Aside0 (Drawn0 W2 (W2.drewN (n1 + n2))) := ⟨⟨⟨n1 + n2, rfl⟩⟩⟩
                    clear hd D1
                    go_wp2
                    go_ret
                    exact ⟨rfl, HB2.out.trans (D2.out.below.mono HB2.out.size)⟩
        · have hnx : ∀ ty, (Instr.next (.pointer (some ⟨w1.heap.size, 0, none⟩)) true ty).run Tryd.prog wr = _ := fun ty => Lib.run_next_end_at wr w1.heap.size a0 pos ty hit hp
          have hr := dec_end HDr.out hp
          have hac : acc = L := by rw [← HA.out, hr, List.append_nil]
          have hfin : (decide (0 < acc.length) && decide (acc.length ≤ 16)) = r := by rw [← HRR.out, nameL_good, ← hac, HG.out]; rfl
          have HFIN := Aside0.mk hfin
          clear hr hit HA HDr hac hfin HRR
          by_cases z0 : 0 < acc.length
          · go_wp2
            go_ret
            refine ⟨congrArg (fun b => Ending.returned (.bool b)) ?_, HBr.out⟩
            rw [← HFIN.out, decide_eq_true z0, Bool.true_and]
            exact decide_eq_decide.2 (by omega)
          · have z1 : acc.length = 0 := by omega
            obtain rfl := List.eq_nil_of_length_eq_zero z1
            obtain rfl : false = r := HFIN.out
            clear z0 z1
            go_wp2
            go_ret
            exact ⟨rfl, HBr.out⟩
  · rw [if_neg hs] at h
    cases h
end Go.Proofs.YtnfjhfhdiknccaaDoor.Giv
