/- The walks of strconv.ParseInt at base 16, and of crc.Unhex. -/
import Derived.Test.YtifbpchakoljaaaDoorHexU
import Derived.Lib.Strings
import Derived.Lib.Walk
import Derived.Lib.ConvBytes
import Derived.Lib.AtoiAllMem
import Derived.Lib.AtoiAllCases
import Derived.Lib.IfaceNeq
import Derived.Lib.ItoaWalk
namespace Go.Proofs.YtifbpchakoljaaaDoor.Hx
open Go.RowKit Go.Lib

def Bad (s : List UInt8) : Prop := ∀ N, s ≠ [] → hexFold 0 s = some N → N < 16777216 → False
theorem Bad.reads {s : List UInt8} (h : Bad s) (hs : s ≠ []) (v : Int) {e : Value} (he : e = .nilIface ∨ e = .iface 61 (.int .i64 1) ∨ e = .iface 61 (.int .i64 2)) : Reads s v e :=
  ⟨he, fun c => absurd c hs, fun N a b c => absurd (h N a b c) id⟩
theorem Reads.bad1 {s : List UInt8} {v : Int} (h : Reads s v (.iface 61 (.int .i64 1))) : Bad s := fun N a b c => by have := (h.2.2 N a b c).2; cases this
theorem Reads.bad2 {s : List UInt8} {v : Int} (h : Reads s v (.iface 61 (.int .i64 2))) : Bad s := fun N a b c => by have := (h.2.2 N a b c).2; cases this
theorem bad_sign {s : List UInt8} {c : UInt8} {r : List UInt8} (h : s = c :: r) (hc : c.toNat = 43 ∨ c.toNat = 45) : Bad s := fun N _ b _ => by
  rw [h] at b
  simp only [hexFold] at b
  rw [if_neg (by omega), if_neg (by omega)] at b
  cases b

set_option maxHeartbeats 32000000 in
set_option maxRecDepth 100000 in
theorem parseInt_16 (t : ByteArray) (hmax : t.size ≤ 140737488351232) (w : World) :
    Calls Tryd.prog 29 #[.string t, .int .i64 16, .int .i64 32] w fun e w' => ∃ (v : Int) (x : Value), e = .returned (.tuple #[.int .i64 v, x]) ∧ -4294967296 ≤ v ∧ v ≤ 4294967296 ∧ Reads t.data.toList v x ∧ Below w.heap.size w w' := by
  by_cases hne : t.size = 0
  · have ht : t = ⟨#[]⟩ := by
      cases t; rename_i d; simp [ByteArray.size] at hne; rw [hne]
    subst ht
    go_enter Tryd.func29, Tryd.ntmps29
    go_wp2
    go_ret2
    refine ⟨0, .iface 61 (.int .i64 2), rfl, by omega, by omega, ⟨.inr (.inr rfl), fun _ => by simp, fun N c => absurd rfl c⟩, Below.refl _ _⟩
  · have hemp : t.toList.isEmpty = false := by
      rw [← decide_eq_emptyBytes]
      exact decide_eq_false (fun h => hne (by rw [h]; rfl))
    have hpos : 0 < t.size := by omega
    obtain ⟨c0, r, hL⟩ : ∃ c0 r, t.data.toList = c0 :: r := by
      cases h : t.data.toList with
      | nil => exact absurd (by rw [Lib.size_eq, h]; rfl) hne
      | cons c0 r => exact ⟨c0, r, rfl⟩
    have hs0 : t[0]'hpos = c0 := by have := Lib.getD_at t 0 hpos; rw [hL] at this; exact this
    have hq2 : ∀ W, (binOp .neq 50 (.iface 61 (.int .i64 2)) (.iface 61 (.int .i64 1))).run Tryd.prog W = .ok (.bool true) W := fun W => Lib.run_neq_iface_int W 2 1 Tryd.underlying50 (by kernel_rfl) Tryd.underlying61
    have hq1 : ∀ W, (binOp .neq 50 (.iface 61 (.int .i64 1)) (.iface 61 (.int .i64 1))).run Tryd.prog W = .ok (.bool false) W := fun W => Lib.run_neq_iface_int W 1 1 Tryd.underlying50 (by kernel_rfl) Tryd.underlying61
    have HN := veil (show t.data.toList ≠ [] by rw [hL]; simp)
    have HB := veil (fun h : c0.toNat = 43 ∨ c0.toNat = 45 => bad_sign hL h)
    have HU := veil (fun W => parseUint_16 t hmax W)
    have HE := veil (fun W => parseUint_16 (t.extract 1 t.size) (by rw [ByteArray.size_extract]; omega) W)
    have h255 := c0.toNat_lt
    clear hL hmax
    generalize t.data.toList = L at *
    by_cases h43 : c0.toNat = 43
    · have hc : t[0].toNat = 43 := by rw [hs0, h43]
      replace HB := veil (HB.out (.inl h43))
      clear hs0 h43 h255
      go_enter Tryd.func29, Tryd.ntmps29
      go_wp2_with fail
      refine (HE.out _).mono ?_
      rintro e w1 ⟨v, x, rfl, hv0, hv1, ⟨hx | hx | hx, _⟩, hb⟩
      all_goals subst hx
      all_goals clear hemp
      · clear hq1 hq2
        have HB' := HB
        clear HB
        go_wp2
        all_goals go_ret2
        all_goals exact ⟨_, _, rfl, by omega, by omega, HB'.out.reads HN.out _ (by first | exact .inl rfl | exact .inr (.inl rfl) | exact .inr (.inr rfl)), hb⟩
      · clear hq2
        have HB' := HB
        clear HB
        go_wp2
        all_goals go_ret2
        all_goals exact ⟨_, _, rfl, by omega, by omega, HB'.out.reads HN.out _ (by first | exact .inl rfl | exact .inr (.inl rfl) | exact .inr (.inr rfl)), hb⟩
      · clear hq1
        have HB' := HB
        clear HB
        go_wp2
        all_goals go_ret2
        all_goals exact ⟨_, _, rfl, by omega, by omega, HB'.out.reads HN.out _ (by first | exact .inl rfl | exact .inr (.inl rfl) | exact .inr (.inr rfl)), hb⟩
    by_cases h45 : c0.toNat = 45
    · have hc : t[0].toNat = 45 := by rw [hs0, h45]
      replace HB := veil (HB.out (.inr h45))
      clear hs0 h45 h43 h255
      go_enter Tryd.func29, Tryd.ntmps29
      go_wp2_with fail
      refine (HE.out _).mono ?_
      rintro e w1 ⟨v, x, rfl, hv0, hv1, ⟨hx | hx | hx, _⟩, hb⟩
      all_goals subst hx
      all_goals clear hemp
      · clear hq1 hq2
        have HB' := HB
        clear HB
        go_wp2
        all_goals go_ret2
        all_goals exact ⟨_, _, rfl, by omega, by omega, HB'.out.reads HN.out _ (by first | exact .inl rfl | exact .inr (.inl rfl) | exact .inr (.inr rfl)), hb⟩
      · clear hq2
        have HB' := HB
        clear HB
        go_wp2
        all_goals go_ret2
        all_goals exact ⟨_, _, rfl, by omega, by omega, HB'.out.reads HN.out _ (by first | exact .inl rfl | exact .inr (.inl rfl) | exact .inr (.inr rfl)), hb⟩
      · clear hq1
        have HB' := HB
        clear HB
        go_wp2
        all_goals go_ret2
        all_goals exact ⟨_, _, rfl, by omega, by omega, HB'.out.reads HN.out _ (by first | exact .inl rfl | exact .inr (.inl rfl) | exact .inr (.inr rfl)), hb⟩
    · have hc : ((t[0].toNat : Int) == 43) = false := by rw [hs0, beq_eq_false_iff_ne]; omega
      have hc' : ((t[0].toNat : Int) == 45) = false := by rw [hs0, beq_eq_false_iff_ne]; omega
      clear hs0 h45 h43 h255 HB
      go_enter Tryd.func29, Tryd.ntmps29
      go_wp2_with fail
      refine (HU.out _).mono ?_
      rintro e w1 ⟨v, x, rfl, hv0, hv1, ⟨hx | hx | hx, hR⟩, hb⟩
      all_goals subst hx
      all_goals clear hemp
      · clear hq1 hq2
        have HR := veil hR
        clear hR
        go_wp2
        all_goals go_ret2
        · exact ⟨_, _, rfl, by omega, by omega, Bad.reads (fun N a b c => by have := (HR.out.2 N a b c).1; omega) HN.out _ (.inr (.inl rfl)), hb⟩
        · exact ⟨_, _, rfl, by omega, by omega, ⟨.inl rfl, fun h => absurd h HN.out, fun N a b c => ⟨(HR.out.2 N a b c).1, rfl⟩⟩, hb⟩
      · clear hq2
        have HB' := veil (Reads.bad1 (v := v) ⟨.inr (.inl rfl), hR⟩)
        clear hR
        go_wp2
        all_goals go_ret2
        all_goals exact ⟨_, _, rfl, by omega, by omega, HB'.out.reads HN.out _ (by first | exact .inl rfl | exact .inr (.inl rfl) | exact .inr (.inr rfl)), hb⟩
      · clear hq1
        have HB' := veil (Reads.bad2 (v := v) ⟨.inr (.inr rfl), hR⟩)
        clear hR
        go_wp2
        all_goals go_ret2
        all_goals exact ⟨_, _, rfl, by omega, by omega, HB'.out.reads HN.out _ (by first | exact .inl rfl | exact .inr (.inl rfl) | exact .inr (.inr rfl)), hb⟩
end Go.Proofs.YtifbpchakoljaaaDoor.Hx
