/- The walk of frame.All: the texts of all frames. -/
import Derived.Test.YtifbpchakoljaaaDoorFrmT
import Derived.Test.YtifbpchakoljaaaDoorWMore
import Derived.Test.YtifbpchakoljaaaDoorWInvWords
namespace Go.Proofs.YtifbpchakoljaaaDoor.Giv
open Go.RowKit Go.Lib Go.Proofs.YtifbpchakoljaaaDoor.Hx Go.Proofs.YtifbpchakoljaaaDoorW.PrintWords Go.Proofs.YtifbpchakoljaaaDoorW.PrintLast Go.Proofs.YtifbpchakoljaaaDoorW.PrintMore
set_option linter.unusedVariables false
set_option linter.unusedSimpArgs false

theorem extract_zero (t : ByteArray) (m : Nat) : (t.extract 0 m).size ≤ t.size := by rw [ByteArray.size_extract]; omega
theorem restT_used {rest : ByteArray} {n c : Int} (hn : 0 ≤ n) (h : (restT rest n c).2.2 = 0) : n < rest.size ∧ restT rest n c = (rest.extract 0 n.toNat, 13 + n + 1, 0) ∧ bt rest n = 10 ∧ ((crcSum (rest.extract 0 n.toNat).data.toList : Nat) : Int) = c := by
  unfold restT at h ⊢
  split at h
  · cases h
  · rename_i h1
    split at h
    · cases h
    · rename_i h2
      split at h
      · cases h
      · rename_i h3
        rw [if_neg h1, if_neg h2, if_neg h3]
        exact ⟨by omega, rfl, by simpa using h2, by simpa using h3⟩
/-- a frame that is read: how many bytes it has -/
theorem takeF_used {s : ByteArray} (h : (takeF s).2.2 = 0) : 14 ≤ (takeF s).2.1 ∧ (takeF s).2.1 ≤ s.size := by
  unfold takeF at h ⊢
  split at h
  · cases h
  · rename_i h13
    rw [if_neg h13]
    split at h
    · rename_i hc
      rw [if_pos hc]
      have hn : 0 ≤ (unhexF (s.extract 0 6)).1 := by
        rcases unhex_cases (s.extract 0 6) with e | ⟨N, _, e⟩ <;> rw [e] <;> simp
      obtain ⟨h1, h2, _, _⟩ := restT_used hn h
      rw [ByteArray.size_extract] at h1
      rw [h2]
      show 14 ≤ 13 + (unhexF (s.extract 0 6)).1 + 1 ∧ 13 + (unhexF (s.extract 0 6)).1 + 1 ≤ s.size
      omega
    · cases h
/-- all frames from a place on: their texts, and where they end -/
def allF : Nat → ByteArray → Nat → List ByteArray × Nat
  | 0, _, at_ => ([], at_)
  | k + 1, s, at_ => if at_ < s.size then (if (takeF (s.extract at_ s.size)).2.2 = 0 then ((takeF (s.extract at_ s.size)).1 :: (allF k s (at_ + (takeF (s.extract at_ s.size)).2.1.toNat)).1, (allF k s (at_ + (takeF (s.extract at_ s.size)).2.1.toNat)).2) else ([], at_)) else ([], at_)
theorem allF_more : ∀ (k : Nat) (s : ByteArray) (at_ : Nat), s.size ≤ k + at_ → ∀ m, k ≤ m → allF m s at_ = allF k s at_
  | 0, s, at_, h, m, _ => by
    cases m with
    | zero => rfl
    | succ m => unfold allF; rw [if_neg (by omega)]
  | k + 1, s, at_, h, m, hm => by
    obtain ⟨m, rfl⟩ : ∃ j, m = j + 1 := ⟨m - 1, by omega⟩
    unfold allF
    by_cases c : at_ < s.size
    · rw [if_pos c, if_pos c]
      by_cases c2 : (takeF (s.extract at_ s.size)).2.2 = 0
      · rw [if_pos c2, if_pos c2]
        have := takeF_used c2
        rw [allF_more k s _ (by omega) m (by omega)]
      · rw [if_neg c2, if_neg c2]
    · rw [if_neg c, if_neg c]
def allS (s : ByteArray) (at_ : Nat) : List ByteArray × Nat := allF s.size s at_
theorem allS_end {s : ByteArray} {a : Nat} (h : ¬ a < s.size) : allS s a = ([], a) := by
  unfold allS
  cases hs : s.size with
  | zero => rfl
  | succ m => unfold allF; rw [if_neg h]
theorem allS_bad {s : ByteArray} {a : Nat} (h : (takeF (s.extract a s.size)).2.2 ≠ 0) : allS s a = ([], a) := by
  by_cases c : a < s.size
  · unfold allS
    obtain ⟨m, hm⟩ : ∃ m, s.size = m + 1 := ⟨s.size - 1, by omega⟩
    rw [hm]
    unfold allF
    rw [if_pos c, if_neg h]
  · exact allS_end c
theorem allS_step {s : ByteArray} {a : Nat} (c : a < s.size) (h : (takeF (s.extract a s.size)).2.2 = 0) :
    allS s a = ((takeF (s.extract a s.size)).1 :: (allS s (a + (takeF (s.extract a s.size)).2.1.toNat)).1, (allS s (a + (takeF (s.extract a s.size)).2.1.toNat)).2) := by
  have hu := takeF_used h
  unfold allS
  obtain ⟨m, hm⟩ : ∃ m, s.size = m + 1 := ⟨s.size - 1, by omega⟩
  have e : allF s.size s (a + (takeF (s.extract a s.size)).2.1.toNat) = allF m s (a + (takeF (s.extract a s.size)).2.1.toNat) := allF_more m s _ (by omega) _ (by omega)
  rw [e]
  conv => lhs; rw [hm]; unfold allF
  rw [if_pos c, if_pos h]
theorem allS_le (s : ByteArray) : ∀ (d a : Nat), s.size - a ≤ d → a ≤ s.size → a ≤ (allS s a).2 ∧ (allS s a).2 ≤ s.size ∧ (allS s a).1.length + a ≤ s.size
  | 0, a, h, h2 => by rw [allS_end (by omega)]; simp; omega
  | d + 1, a, h, h2 => by
    by_cases c : a < s.size
    · by_cases c2 : (takeF (s.extract a s.size)).2.2 = 0
      · have hu := takeF_used c2
        have hz : (s.extract a s.size).size = s.size - a := by rw [ByteArray.size_extract]; omega
        rw [hz] at hu
        have := allS_le s d (a + (takeF (s.extract a s.size)).2.1.toNat) (by omega) (by omega)
        rw [allS_step c c2]
        simp only [List.length_cons]
        omega
      · rw [allS_bad c2]; simp; omega
    · rw [allS_end c]; simp; omega
theorem info_str : (Tryd.prog.info? 9).map (fun i => (i.zero, i.size, i.bytes)) = some (some (.string ⟨#[]⟩), 1, 16) := by kernel_rfl

/-- the slot of the texts that were read -/
def Slot (w0 wr : World) (B : Nat) (L : List ByteArray) : Prop :=
  ∃ v, wr.heap[B]? = some (.cells #[v] 29 (0, 0)) ∧ Kd.R Kd.string 9 wr B (fun k => k ≠ B) v L ∧ Below B w0 wr ∧ B < wr.heap.size ∧ ∃ A n c, v = .slice A n c
theorem Slot.below {w0 wr w' : World} {B : Nat} {L : List ByteArray} (h : Slot w0 wr B L) (hb : Below wr.heap.size wr w') : Slot w0 w' B L := by
  obtain ⟨v, h1, h2, h3, h4, h5⟩ := h
  refine ⟨v, (hb.block B h4).trans h1, Kd.R_grown h2 (grown_of_below hb none) (fun k _ => by simp), h3.trans (hb.mono (Nat.le_of_lt h4)), Nat.lt_of_lt_of_le h4 hb.size, h5⟩
set_option maxHeartbeats 4000000 in
set_option maxRecDepth 100000 in
theorem tell_calls (t : ByteArray) (w0 : World) (B : Nat) (L : List ByteArray) (wr : World) (hl : L.length ≤ 1000000) (hS : Slot w0 wr B L) :
    Calls Tryd.prog 24 #[.string t, .pointer (some ⟨B, 0, none⟩)] wr fun e w' => e = .returned (.tuple #[]) ∧ Slot w0 w' B (L ++ [t]) := by
  obtain ⟨v, h1, h2, h3, h4, -⟩ := hS
  have hcell : wr.cell? ⟨B, 0, none⟩ = some v := by simp [World.cell?, h1]
  have hvb : some B ≠ v.ownBlock := fun c => h2.1 B c.symm rfl
  have H1 := Aside0.mk h1
  have H2 := Aside0.mk h2
  have H3 := Aside0.mk h3
  have H4 := Aside0.mk h4
  have HV := Aside0.mk hvb
  clear h1 h2 h3 h4 hvb
  go_enter Tryd.func24, Tryd.ntmps24
  go_wp2_with (at_builtin; refine Kd.R_append Kd.string (w0 := w0) B rfl (.tmp 3) (.tmp 5) 29 9 (.string ⟨#[]⟩) 16 rfl Tryd.underlying29 info_str rfl (by decide) (by omega) v L t [.string t] (fun k_ => k_ ≠ B) (fun _ => False) rfl rfl ?aP (fun _ hk => hk.elim) ?aF ?aO ?aB ?aS ?aL ?_; (case aP => exact rfl); (case aF => exact (fun k hk => by have := H4.out; omega)); (case aO => exact H2.out); (case aB => exact H3.out); (case aS => exact Nat.le_of_lt H4.out); (case aL => omega); intro v9 w9 ho hb hg hat; obtain ⟨ad9, c9, rfl⟩ := Kd.R_slice1 ho (by simp); have HO9 := Aside0.mk ho; have HB9 := Aside0.mk hb; have HG9 := Aside0.mk hg; clear ho hb hg hat; have hc9 : w9.cell? ⟨B, 0, none⟩ = some v := (by have h := blk_grown H1.out HG9.out HV.out; simp [World.cell?, h]); have hf9 : w9.frozen? ⟨B, 0, none⟩ = false := (by have h := blk_grown H1.out HG9.out HV.out; simp [World.frozen?, h]))
  refine bodyPost_end (results_none rfl _ _ _) rfl ?_
  exact ⟨rfl, _, blk_set (blk_grown H1.out HG9.out HV.out) 0 _, (by have h9 := HO9.out; rw [show (L ++ [t]).length = L.length + 1 by simp] at h9; exact Kd.R_far h9 (fun k hk => hk) _), HB9.out.setCell (Nat.le_refl _) _, by rw [World.size_setCell]; exact Nat.lt_of_lt_of_le H4.out HG9.out.size, _, _, _, rfl⟩

set_option maxHeartbeats 4000000 in
set_option maxRecDepth 100000 in
theorem each_calls (s : ByteArray) (hs : s.size ≤ 1000000) (w0 : World) (w : World) (hS : Slot w0 w w0.heap.size []) (hL : LaidW w0) :
    Calls Tryd.prog 23 #[.string s, .func (.func 24) #[] #[.pointer (some ⟨w0.heap.size, 0, none⟩)]] w fun e w' => e = .returned (.int .i64 ((allS s 0).2 : Int)) ∧ Slot w0 w' w0.heap.size (allS s 0).1 := by
  have hsum := allS_le s s.size 0 (by omega) (by omega)
  have H0 := Aside0.mk hS
  have HL := Aside0.mk hL
  have HT := Aside0.mk (fun t (ht : t.size ≤ 140737488351232) W hW => take_calls t ht W hW)
  have HC := Aside0.mk (fun t L W (hl : L.length ≤ 1000000) (hW : Slot w0 W w0.heap.size L) => tell_calls t w0 w0.heap.size L W hl hW)
  clear hS hL
  generalize hX : allS s 0 = X at *
  have HX := Aside0.mk hX
  have hX2 := hsum.2.1
  have hX3 := hsum.2.2
  clear hX hsum
  go_enter Tryd.func23, Tryd.ntmps23
  go_wp2_with fail
  go_loopw [5] (fun i wr => ∃ (a : Nat) (L : List ByteArray), i = .int .i64 a ∧ a ≤ s.size ∧ Slot w0 wr w0.heap.size L ∧ X = (L ++ (allS s a).1, (allS s a).2)) (fun i _ => s.size - (RowKit.intOf i).toNat)
  case atStart => exact ⟨0, [], rfl, by omega, H0.out, by rw [← HX.out]; rfl⟩
  case round =>
    obtain ⟨a, L, rfl, ha, hS, hx⟩ := hrel
    have HS := Aside0.mk hS
    have HX' := Aside0.mk hx
    clear hS hx
    by_cases hlt : a < s.size
    · have hz : (s.extract a s.size).size = s.size - a := by rw [ByteArray.size_extract]; omega
      by_cases hok : (takeF (s.extract a s.size)).2.2 = 0
      · have hu := takeF_used hok
        rw [hz] at hu
        have HTk := Aside0.mk (HT.out (s.extract a s.size) (by omega) wr (LaidW.below HL.out (let ⟨_, _, _, h3, _⟩ := HS.out; h3)))
        obtain ⟨n, hn⟩ : ∃ n : Nat, (takeF (s.extract a s.size)).2.1 = (n : Int) := ⟨(takeF (s.extract a s.size)).2.1.toNat, by omega⟩
        have hstep := Aside0.mk (show allS s a = ((takeF (s.extract a s.size)).1 :: (allS s (a + n)).1, (allS s (a + n)).2) from by rw [allS_step hlt hok, hn, Int.toNat_natCast])
        have HLn : Aside0 (L.length ≤ 1000000) := Aside0.mk (by have h := congrArg (fun x => x.1.length) HX'.out; simp only [List.length_append] at h; omega)
        rw [hn] at hu
        have hk : (n : Int) ≤ (s.size : Int) - (a : Int) := by omega
        obtain ⟨hu1, hu2⟩ := hu
        clear hz
        go_wp2_with fail
        refine HTk.out.mono ?_
        rw [hok, hn] at *
        rintro e w1 ⟨rfl, hb1⟩
        generalize (takeF (s.extract a s.size)).1 = t at *
        clear hok hn
        go_wp2_with fail
        refine (HC.out t L _ HLn.out (HS.out.below hb1)).mono ?_
        rintro e w2 ⟨rfl, hS2⟩
        go_wp2
        go_roundw
        case rel =>
          refine ⟨a + n, L ++ [t], by go_num, by omega, hS2, ?_⟩
          rw [HX'.out, hstep.out]
          simp
        case measure => simp [RowKit.intOf]; omega
      · have hbad : ((takeF (s.extract a s.size)).2.2 != 0) = true := by simpa using hok
        have HTk := Aside0.mk (HT.out (s.extract a s.size) (by omega) wr (LaidW.below HL.out (let ⟨_, _, _, h3, _⟩ := HS.out; h3)))
        have HE := Aside0.mk (allS_bad hok)
        clear hz hok
        generalize takeF (s.extract a s.size) = u at *
        go_wp2_with fail
        refine HTk.out.mono ?_
        rintro e w1 ⟨rfl, hb1⟩
        obtain ⟨u1, u2, u3⟩ := u
        simp only at hbad
        go_wp2
        go_ret
        rw [HX'.out, HE.out]
        exact ⟨rfl, by rw [List.append_nil]; exact HS.out.below hb1⟩
    · obtain rfl : a = s.size := by omega
      go_wp2
      go_ret
      rw [HX'.out, allS_end (by omega)]
      exact ⟨rfl, by rw [List.append_nil]; exact HS.out⟩
theorem results_slot {fn : Func} {p u : Tmp} (h : fn.results = #[.cell p 29, .tmp u]) (tmps : Array Value) (w : World) (g : Nat) (v : Value)
    (hp : tmps.getD p undef = .pointer (some ⟨g, 0, none⟩)) (hg : w.cell? ⟨g, 0, none⟩ = some v) :
    (results fn tmps).run Tryd.prog w = .ok (.tuple #[v, tmps.getD u undef]) w := by
  have hp' : tmps[p]?.getD undef = .pointer (some ⟨g, 0, none⟩) := by simpa using hp
  have hl : (loadVar 29 ⟨g, 0, none⟩).run Tryd.prog w = .ok v w := by
    simp [loadVar, run_underlying Tryd.underlying29, hg]
    try go_simp
  simp [results, h, hp', asAddr, hl]
set_option maxHeartbeats 4000000 in
set_option maxRecDepth 100000 in
theorem all_calls (s : ByteArray) (hs : s.size ≤ 1000000) (w : World) (hL : LaidW w) :
    Calls Tryd.prog 14 #[.string s] w fun e w' => ∃ v0_ : Value, e = .returned (.tuple #[v0_, .int .i64 ((allS s 0).2 : Int)]) ∧ Kd.R Kd.string 9 w' w.heap.size (fun _ => True) v0_ (allS s 0).1 ∧ Below w.heap.size w w' := by
  have HE := Aside0.mk (each_calls s hs w (w.alloc (.cells #[.slice none 0 0] 29)) ⟨_, by show (w.heap.push _)[w.heap.size]? = _; rw [Array.getElem?_push, if_pos rfl], Kd.R_nil _ _ _ _ _, (Below.refl _ _).alloc (Nat.le_refl _) _, by simp, _, _, _, rfl⟩ hL)
  clear hL
  generalize allS s 0 = X at *
  go_enter Tryd.func14, Tryd.ntmps14
  go_wp2_with fail
  refine HE.out.mono ?_
  rintro e w1 ⟨rfl, v, h1, h2, h3, h4, A, n, c, rfl⟩
  have hcell : w1.cell? ⟨w.heap.size, 0, none⟩ = some (.slice A n c) := by simp [World.cell?, h1]
  have hfree : w1.frozen? ⟨w.heap.size, 0, none⟩ = false := by simp [World.frozen?, h1]
  have H1 := Aside0.mk h1
  have H2 := Aside0.mk h2
  have H3 := Aside0.mk h3
  clear h1 h2 h3 h4
  go_wp2
  refine bodyPost_ret (results_slot rfl _ _ w.heap.size (.slice A n c) rfl (by simp [World.cell?, blk_set H1.out 0 (.slice A n c)])) rfl ?_
  exact ⟨_, rfl, Kd.R_mono (Kd.R_far H2.out (fun k hk => hk) _) (fun _ _ => trivial), H3.out.setCell (Nat.le_refl _) _⟩
def frame_All.f (s : ByteArray) : Option (List ByteArray × Int) := if s.size ≤ 1000000 then some ((allS s 0).1, ((allS s 0).2 : Int)) else none
theorem frame_All.calls (a0 : ByteArray) (r1 : List ByteArray) (r2 : Int) (w : World) (hL : LaidW w) (h : frame_All.f a0 = some (r1, r2)) :
    Calls Tryd.prog 14 #[.string a0] w fun e w' => ∃ v0_ : Value, e = .returned (.tuple #[v0_, .int .i64 r2]) ∧ Kd.R Kd.string 9 w' w.heap.size (fun _ => True) v0_ r1 ∧ Below w.heap.size w w' := by
  unfold frame_All.f at h
  split at h
  · rename_i hr
    obtain ⟨rfl, rfl⟩ : (allS a0 0).1 = r1 ∧ ((allS a0 0).2 : Int) = r2 := by simpa using h
    exact all_calls a0 hr w hL
  · cases h
end Go.Proofs.YtifbpchakoljaaaDoor.Giv
