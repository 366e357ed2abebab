/- The walks of strconv.ParseInt at base 16, and of crc.Unhex. -/
import Derived.Test.YtifbpchakoljaaaDoorHexV
namespace Go.Proofs.YtifbpchakoljaaaDoor.Hx
open Go.RowKit Go.Lib

def ErrAt (g : Nat) (w : World) : Prop := ∃ ev, w.cell? ⟨g, 0, none⟩ = some ev ∧ (ev = .nilIface ∨ ∃ te pe, ev = .iface te pe)
theorem ErrAt.below {g : Nat} {w w' : World} (h : ErrAt g w) (hb : Below w.heap.size w w') : ErrAt g w' := by
  obtain ⟨ev, h1, h2⟩ := h
  exact ⟨ev, (hb.cell (World.block_lt_of_cell? w _ h1)).trans h1, h2⟩
def ReadsE (s : List UInt8) (v : Int) (e : Value) : Prop :=
  (e = .nilIface ∨ ∃ t p, e = .iface t p) ∧ (s = [] → e ≠ .nilIface) ∧ ∀ N, s ≠ [] → hexFold 0 s = some N → N < 16777216 → v = N ∧ e = .nilIface
theorem toError_calls (fn s : ByteArray) (z : Int) (hz : z = 1 ∨ z = 2) (w : World) (hlim : s.size ≤ 281474976710656) (h1 : ErrAt 1 w) (h2 : ErrAt 2 w) :
    Calls Tryd.prog 30 #[.string fn, .string s, .int .i64 16, .int .i64 32, .iface 61 (.int .i64 z)] w fun e w' => (∃ t p, e = .returned (.iface t p)) ∧ Below w.heap.size w w' := by
  rcases hz with rfl | rfl
  · obtain ⟨ev, hv, hev⟩ := h2
    have c : Calls Tryd.prog 30 #[.string fn, .string s, .int .i64 16, .int .i64 32, .iface 61 (.int .i64 1)] w _ := Any.strconv_toError_range Tryd.LaysC_n245 fn s 16 32 ev w hlim hv hev
    refine c.mono ?_
    rintro e w' ⟨N, rfl, _, _, hb⟩
    exact ⟨⟨_, _, rfl⟩, hb⟩
  · obtain ⟨ev, hv, hev⟩ := h1
    have c : Calls Tryd.prog 30 #[.string fn, .string s, .int .i64 16, .int .i64 32, .iface 61 (.int .i64 2)] w _ := Any.strconv_toError_syntax Tryd.LaysC_n245 fn s 16 32 ev w hlim hv hev
    refine c.mono ?_
    rintro e w' ⟨N, rfl, _, _, hb⟩
    exact ⟨⟨_, _, rfl⟩, hb⟩
set_option maxHeartbeats 2000000 in
set_option maxRecDepth 100000 in
theorem sParseInt_16 (t : ByteArray) (hmax : t.size ≤ 140737488351232) (w : World) (h1 : ErrAt 1 w) (h2 : ErrAt 2 w) :
    Calls Tryd.prog 27 #[.string t, .int .i64 16, .int .i64 32] w fun e w' => ∃ (v : Int) (x : Value), e = .returned (.tuple #[.int .i64 v, x]) ∧ -4294967296 ≤ v ∧ v ≤ 4294967296 ∧ ReadsE t.data.toList v x ∧ Below w.heap.size w w' := by
  have HP := veil (parseInt_16 t hmax w)
  have HT := veil (fun fn z hz W a b => toError_calls fn t z hz W (by omega) a b)
  have H1 := veil h1
  have H2 := veil h2
  clear h1 h2 hmax
  generalize t.data.toList = L at *
  go_enter Tryd.func27, Tryd.ntmps27
  go_wp2_with fail
  refine HP.out.mono ?_
  rintro e w1 ⟨v, x, rfl, hv0, hv1, ⟨hx | hx | hx, hR⟩, hb⟩
  all_goals subst hx
  · have HR := veil hR
    clear hR
    go_wp2
    go_ret2
    exact ⟨_, _, rfl, hv0, hv1, ⟨.inl rfl, fun h => absurd rfl (HR.out.1 h), fun N a b c => ⟨(HR.out.2 N a b c).1, rfl⟩⟩, hb⟩
  · have HR := veil hR
    clear hR
    go_wp2_with fail
    refine (HT.out _ 1 (.inl rfl) _ (H1.out.below hb) (H2.out.below hb)).mono ?_
    rintro e w2 ⟨⟨t', p', rfl⟩, hb2⟩
    go_wp2
    go_ret2
    refine ⟨_, .iface t' p', rfl, hv0, hv1, ⟨.inr ⟨_, _, rfl⟩, fun h => by simp, fun N a b c => by have := (HR.out.2 N a b c).2; cases this⟩, hb.trans (hb2.mono hb.size)⟩
  · have HR := veil hR
    clear hR
    go_wp2_with fail
    refine (HT.out _ 2 (.inr rfl) _ (H1.out.below hb) (H2.out.below hb)).mono ?_
    rintro e w2 ⟨⟨t', p', rfl⟩, hb2⟩
    go_wp2
    go_ret2
    refine ⟨_, .iface t' p', rfl, hv0, hv1, ⟨.inr ⟨_, _, rfl⟩, fun h => by simp, fun N a b c => by have := (HR.out.2 N a b c).2; cases this⟩, hb.trans (hb2.mono hb.size)⟩

/-- crc.Unhex, as a plain function -/
def unhexF (s : ByteArray) : Int × Int := if s.size = 6 then (match hexFold 0 s.data.toList with | some N => ((N : Int), 0) | none => (0, 1)) else (0, 1)
def chr (d : Nat) : UInt8 := UInt8.ofNat (hexDig (d % 16))
theorem chr_nat (d : Nat) : (chr d).toNat = hexDig (d % 16) := by
  have := hexDig_lt d
  unfold chr
  rw [UInt8.toNat_ofNat', Nat.mod_eq_of_lt (by omega : _ < 2 ^ 8)]
theorem hexL_six (n : Nat) : hexL n 6 = [chr (n / 1048576), chr (n / 65536), chr (n / 4096), chr (n / 256), chr (n / 16), chr n] := by
  simp only [hexL, chr]
  rw [show List.range 6 = [0, 1, 2, 3, 4, 5] from rfl]
  simp only [List.map_cons, List.map_nil]
  rw [show 16 ^ (6 - 1 - 0) = 1048576 from rfl, show 16 ^ (6 - 1 - 1) = 65536 from rfl, show 16 ^ (6 - 1 - 2) = 4096 from rfl, show 16 ^ (6 - 1 - 3) = 256 from rfl, show 16 ^ (6 - 1 - 4) = 16 from rfl, show 16 ^ (6 - 1 - 5) = 1 from rfl, Nat.div_one]
theorem fold_chr (a d : Nat) (r : List UInt8) : hexFold a (chr d :: r) = hexFold (a * 16 + d % 16) r := by
  simp only [hexFold]
  have hm : d % 16 < 16 := Nat.mod_lt _ (by decide)
  rw [chr_nat]
  generalize d % 16 = m at *
  unfold hexDig
  by_cases c : m < 10
  · rw [if_pos c, if_pos (by omega), show 48 + m - 48 = m by omega]
  · rw [if_neg c, if_neg (by omega), if_pos (by omega), show 87 + m - 87 = m by omega]
theorem hexL_fold (n : Nat) (h : n < 16777216) : hexFold 0 (hexL n 6) = some n := by
  rw [hexL_six, fold_chr, fold_chr, fold_chr, fold_chr, fold_chr, fold_chr]
  simp only [hexFold]
  congr 1
  omega
theorem fold_one (a : Nat) (c : UInt8) (r : List UInt8) (N : Nat) (h : hexFold a (c :: r) = some N) : ∃ d, d < 16 ∧ c = chr d ∧ hexFold (a * 16 + d) r = some N := by
  simp only [hexFold] at h
  split at h
  · rename_i hc
    refine ⟨c.toNat - 48, by omega, ?_, h⟩
    apply UInt8.toNat_inj.1
    rw [chr_nat, Nat.mod_eq_of_lt (by omega)]
    unfold hexDig
    rw [if_pos (by omega)]; omega
  · split at h
    · rename_i hc
      refine ⟨c.toNat - 87, by omega, ?_, h⟩
      apply UInt8.toNat_inj.1
      rw [chr_nat, Nat.mod_eq_of_lt (by omega)]
      unfold hexDig
      rw [if_neg (by omega)]; omega
    · cases h
theorem chr_mod (d e : Nat) (h : d % 16 = e % 16) : chr d = chr e := by unfold chr; rw [h]
theorem fold_hexL (s : List UInt8) (h : s.length = 6) (N : Nat) (hN : hexFold 0 s = some N) : N < 16777216 ∧ s = hexL N 6 := by
  match s, h with
  | [a, b, c, d, e, f], _ =>
    obtain ⟨d1, l1, e1, hN⟩ := fold_one _ _ _ _ hN
    obtain ⟨d2, l2, e2, hN⟩ := fold_one _ _ _ _ hN
    obtain ⟨d3, l3, e3, hN⟩ := fold_one _ _ _ _ hN
    obtain ⟨d4, l4, e4, hN⟩ := fold_one _ _ _ _ hN
    obtain ⟨d5, l5, e5, hN⟩ := fold_one _ _ _ _ hN
    obtain ⟨d6, l6, e6, hN⟩ := fold_one _ _ _ _ hN
    simp only [hexFold, Option.some.injEq] at hN
    refine ⟨by omega, ?_⟩
    rw [e1, e2, e3, e4, e5, e6, hexL_six, chr_mod d1 (N / 1048576) (by omega), chr_mod d2 (N / 65536) (by omega), chr_mod d3 (N / 4096) (by omega), chr_mod d4 (N / 256) (by omega), chr_mod d5 (N / 16) (by omega), chr_mod d6 N (by omega)]
theorem hexF_at {N : Nat} (h : N < 16777216) : (hexF (N : Int)).1 = ⟨(hexL N 6).toArray⟩ := by
  unfold hexF; rw [if_pos (by omega)]; rfl
theorem list_size (s : ByteArray) : s.data.toList.length = s.size := by rw [Array.length_toList]; rfl
theorem unhex_bad {t : ByteArray} {v : Int} {x : Value} (hR : ReadsE t.data.toList v x) (hno : ∀ N : Nat, v = N → N < 16777216 ∧ t = ⟨(hexL N 6).toArray⟩ → False) : unhexF t = (0, 1) := by
  unfold unhexF
  by_cases h6 : t.size = 6
  · rw [if_pos h6]
    split
    · rename_i N hN
      obtain ⟨h1, h2⟩ := fold_hexL _ (by rw [list_size]; exact h6) N hN
      have h3 := (hR.2.2 N (by intro c; have := congrArg List.length c; rw [list_size, h6] at this; cases this) hN h1).1
      exact absurd (hno N h3 ⟨h1, by cases t; simp at h2; rw [← h2]⟩) id
    · rfl
  · rw [if_neg h6]
theorem unhex_err {t : ByteArray} {v : Int} {x : Value} (hx : ∃ a b, x = .iface a b) (hR : (t.data.toList = [] → x ≠ .nilIface) ∧ ∀ N, t.data.toList ≠ [] → hexFold 0 t.data.toList = some N → N < 16777216 → v = N ∧ x = .nilIface) : unhexF t = (0, 1) := by
  obtain ⟨a, b, rfl⟩ := hx
  unfold unhexF
  by_cases h6 : t.size = 6
  · rw [if_pos h6]
    split
    · rename_i N hN
      obtain ⟨h1, h2⟩ := fold_hexL _ (by rw [list_size]; exact h6) N hN
      have h3 := (hR.2 N (by intro c; have := congrArg List.length c; rw [list_size, h6] at this; cases this) hN h1).2
      cases h3
    · rfl
  · rw [if_neg h6]
theorem unhex_good {t : ByteArray} {v : Int} (hR : ReadsE t.data.toList v .nilIface) (h : (hexF v).1 = t) : unhexF t = (v, 0) := by
  unfold hexF at h
  split at h
  · rename_i hv
    obtain ⟨N, rfl⟩ : ∃ N : Nat, v = N := ⟨v.toNat, by omega⟩
    subst h
    unfold unhexF
    rw [if_pos (by simp [hexL, ByteArray.size])]
    have e : (⟨(hexL (N : Int).toNat 6).toArray⟩ : ByteArray).data.toList = hexL N 6 := rfl
    rw [show hexFold 0 (⟨(hexL (N : Int).toNat 6).toArray⟩ : ByteArray).data.toList = some N from hexL_fold N (by omega)]
  · exact absurd rfl (hR.2.1 (by rw [← h]))
set_option maxHeartbeats 2000000 in
set_option maxRecDepth 100000 in
theorem unhex_calls (t : ByteArray) (hmax : t.size ≤ 140737488351232) (w : World) (hT : TabAt 4 Lib.deBruijn64tab w) (h1 : ErrAt 1 w) (h2 : ErrAt 2 w) :
    Calls Tryd.prog 21 #[.string t] w fun e w' => e = .returned (.tuple #[.int .i64 (unhexF t).1, .int .i64 (unhexF t).2]) ∧ Below w.heap.size w w' := by
  have HP := veil (sParseInt_16 t hmax w h1 h2)
  clear h1 h2 hmax
  go_enter Tryd.func21, Tryd.ntmps21
  go_wp2_with fail
  refine HP.out.mono ?_
  rintro e w1 ⟨v, x, rfl, hv0, hv1, ⟨hx | ⟨t', p', hx⟩, hR⟩, hb⟩
  · subst hx
    have HR := veil (show ReadsE t.data.toList v .nilIface from ⟨.inl rfl, hR⟩)
    clear hR
    by_cases hneg : v < 0
    · have hbad := veil (unhex_bad HR.out (fun N h => by omega))
      go_wp2
      go_ret2
      exact ⟨by rw [hbad.out]; rfl, hb⟩
    · have HX := veil (hex_calls v w1 (by omega) (by omega) (TabAt_below hT hb))
      go_wp2_with fail
      refine HX.out.mono ?_
      rintro e w2 ⟨rfl, hb2⟩
      by_cases heq : (hexF v).1 = t
      · have hgood := veil (unhex_good HR.out heq)
        rw [heq]
        generalize (hexF v).2 = z
        clear HX HR hT heq
        go_wp2
        go_ret2
        exact ⟨by rw [hgood.out]; rfl, hb.trans (hb2.mono hb.size)⟩
      · have hbad := veil (unhex_bad HR.out (fun N h1 h2 => heq (by rw [h1, hexF_at h2.1]; exact h2.2.symm)))
        generalize (hexF v).2 = z
        generalize (hexF v).1 = y at *
        have hne : (y.toList == t.toList) = false := by
          rw [beq_eq_false_iff_ne]
          intro c
          refine heq ?_
          rw [toList_data, toList_data] at c
          cases y; cases t
          simp at c
          rw [c]
        have hne2 : (t.toList == y.toList) = false := by
          rw [beq_eq_false_iff_ne]
          intro c
          rw [c] at hne
          simp at hne
        clear HX HR hT heq
        go_wp2
        all_goals go_ret2
        all_goals exact ⟨by rw [hbad.out]; rfl, hb.trans (hb2.mono hb.size)⟩
  · subst hx
    have hbad := veil (unhex_err (t := t) ⟨_, _, rfl⟩ hR)
    clear hT hR
    go_wp2
    go_ret2
    exact ⟨by rw [hbad.out]; rfl, hb⟩
end Go.Proofs.YtifbpchakoljaaaDoor.Hx
