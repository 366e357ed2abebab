/- The walks of strconv.ParseInt at base 16, and of crc.Unhex. -/
import Derived.Test.YtifbpchakoljaaaDoorHexW
import Derived.Lib.Strings
import Derived.Lib.Walk
import Derived.Lib.ConvBytes
import Derived.Lib.ParseIntBMem
import Derived.Lib.Hide
import Derived.Laws.Strings3
import Derived.Laws.Closers25
import Derived.Laws.Closers25b
import Derived.BigCall
import Derived.BigGuard
namespace Go.Proofs.YtifbpchakoljaaaDoor.Hx
open Go.RowKit Go.Lib

def hexFold : Nat → List UInt8 → Option Nat
  | a, [] => some a
  | a, c :: r => if 48 ≤ c.toNat ∧ c.toNat ≤ 57 then hexFold (a * 16 + (c.toNat - 48)) r else if 97 ≤ c.toNat ∧ c.toNat ≤ 102 then hexFold (a * 16 + (c.toNat - 87)) r else none
theorem hexFold_le : ∀ (l : List UInt8) (a N : Nat), hexFold a l = some N → a ≤ N
  | [], a, N, h => by simp [hexFold] at h; omega
  | c :: r, a, N, h => by
    simp only [hexFold] at h
    split at h
    · have := hexFold_le r _ _ h; omega
    · split at h
      · have := hexFold_le r _ _ h; omega
      · cases h
/-- what a reading of a text gives: a number within bounds; an error of the two; and for a text of lower digits below 2^24 its number -/
def Reads (s : List UInt8) (v : Int) (e : Value) : Prop :=
  (e = .nilIface ∨ e = .iface 61 (.int .i64 1) ∨ e = .iface 61 (.int .i64 2)) ∧ (s = [] → e ≠ .nilIface) ∧ ∀ N, s ≠ [] → hexFold 0 s = some N → N < 16777216 → v = N ∧ e = .nilIface

theorem lower_calls (c : Int) (w : World) : Calls Tryd.prog 45 #[.int .u8 c] w fun e w' => e = .returned (.int .u8 (bits .or .u8 c 32)) ∧ w' = w := by
  have hv0 := bits_lo_u8 .or c 32
  have hv1 := bits_hi_u8 .or c 32
  go_enter Tryd.func45, Tryd.ntmps45
  go_wp2
  go_ret
  exact ⟨rfl, rfl⟩
theorem lower_same (c : UInt8) : 97 ≤ c.toNat ∧ c.toNat ≤ 102 → bits .or .u8 (c.toNat : Int) 32 = (c.toNat : Int) := by
  have h : ∀ n : Fin 256, 97 ≤ n.val ∧ n.val ≤ 102 → bits .or .u8 (n.val : Int) 32 = (n.val : Int) := by decide +kernel
  exact h ⟨c.toNat, c.toNat_lt⟩
theorem below_bytes (w : World) (T : TypeId) (s : ByteArray) : Below w.heap.size w (Lib.bytesWorld w T s) := by
  unfold Lib.bytesWorld World.freeze
  rw [if_neg (by decide)]
  have h1 : Below w.heap.size w (w.drew.alloc (.cells (bytesCells w T s) T)) := ((Below.refl _ _).drew).alloc (Nat.le_refl _) _
  refine ⟨h1.os, h1.tape, h1.output, ?_, fun b hb => ?_⟩
  · show w.heap.size ≤ (Array.modify _ _ _).size
    rw [Array.size_modify]; exact h1.size
  · show (Array.modify _ _ _)[b]? = _
    rw [Array.getElem?_modify, if_neg (Nat.ne_of_gt hb)]
    exact h1.block b hb

set_option maxHeartbeats 32000000 in
set_option maxRecDepth 100000 in
theorem parseUint_16 (t : ByteArray) (hmax : t.size ≤ 140737488351232) (w : World) :
    Calls Tryd.prog 35 #[.string t, .int .i64 16, .int .i64 32] w fun e w' => ∃ (v : Int) (x : Value), e = .returned (.tuple #[.int .u64 v, x]) ∧ 0 ≤ v ∧ v ≤ 4294967295 ∧ Reads t.data.toList v x ∧ Below w.heap.size w w' := by
  by_cases hne : t.size = 0
  · have ht : t = ⟨#[]⟩ := by
      cases t; rename_i d; simp [ByteArray.size] at hne; rw [hne]
    subst ht
    go_enter Tryd.func35, Tryd.ntmps35
    go_wp2
    go_ret2
    refine ⟨0, .iface 61 (.int .i64 2), rfl, by omega, by omega, ⟨.inr (.inr rfl), fun _ => by simp, fun N c => absurd rfl c⟩, Below.refl _ _⟩
  · have hemp : t.toList.isEmpty = false := by
      rw [← decide_eq_emptyBytes]
      exact decide_eq_false (fun h => hne (by rw [h]; rfl))
    have hcv := Lib.run_convert_string_bytes (P := Tryd.prog) w 9 36 5 t (u := .string) Tryd.underlying9 Tryd.underlying36 Tryd.underlying5
    have hB : ∀ j, j < t.size → (Lib.bytesWorld w 5 t).cell? ⟨w.heap.size, j, none⟩ = some (.int .u8 (t.data.toList.getD j 0).toNat) := fun j hj => Lib.bytesWorld_cell w 5 t j hj
    have hW := veil (below_bytes w 5 t)
    obtain ⟨W1, hW1⟩ : ∃ W1, W1 = Lib.bytesWorld w 5 t := ⟨_, rfl⟩
    rw [← hW1] at hcv hB hW
    clear hW1
    obtain ⟨bs, hL⟩ : ∃ bs, bs = t.data.toList := ⟨_, rfl⟩
    have hLn : bs.length = t.size := by rw [hL, Lib.size_eq]
    rw [← hL] at hB ⊢
    clear hL
    have HNE := veil (show bs ≠ [] by intro c; rw [c] at hLn; simp at hLn; omega)
    have hmv : IntKind.u64.wrap (IntKind.u64.wrap 4294967296 - 1) = 4294967295 := by
      rw [IntKind.wrap_u64, IntKind.wrap_u64]
      decide
    go_enter Tryd.func35, Tryd.ntmps35
    go_wp2
    go_loop [12, 13, 101] (fun vu vn vi => ∃ (k acc : Nat) (a : Int), vu = .bool false ∧ vn = .int .u64 a ∧ vi = .int .i64 k ∧ k ≤ t.size ∧ Hid (a = (acc : Int) ∧ acc ≤ 4294967295 ∧ ∀ N, hexFold 0 bs = some N → N < 16777216 → hexFold acc (bs.drop k) = some N))
      (fun _ _ vi => t.size - (Lib.intOf vi).toNat)
    case atStart => exact ⟨0, 0, 0, rfl, rfl, rfl, by omega, rfl, by omega, fun N h _ => h⟩
    case round =>
      obtain ⟨k, acc, a, rfl, rfl, rfl, hk, hh⟩ := hrel
      obtain ⟨ha, hacc, hdec⟩ := hh.out
      clear hh
      have a0 : 0 ≤ a := by omega
      have a1 : a ≤ 4294967295 := by omega
      by_cases hkn : k < t.size
      · have hc := hB k hkn
        have hdrop : bs.drop k = bs[k]'(by omega) :: bs.drop (k + 1) := List.drop_eq_getElem_cons (by omega)
        have hget : bs.getD k 0 = bs[k]'(by omega) := by simp [List.getD, List.getElem?_eq_getElem (show k < bs.length by omega)]
        rw [hdrop] at hdec
        rw [hget] at hc
        generalize bs[k]'(by omega) = c at hc hdec
        have hc256 : c.toNat < 256 := c.toNat_lt
        have hls := lower_same c
        clear hB hdrop hget
        by_cases hdig : 48 ≤ c.toNat ∧ c.toNat ≤ 57
        · obtain ⟨hd0, hd1⟩ := hdig
          have hcut : ¬ 1152921504606846976 ≤ acc := by omega
          have hF : hexFold acc (c :: bs.drop (k + 1)) = hexFold (acc * 16 + (c.toNat - 48)) (bs.drop (k + 1)) := by simp [hexFold, hd0, hd1]
          rw [hF] at hdec
          by_cases hov : 4294967295 < acc * 16 + (c.toNat - 48)
          · have HR := Lib.hid (show Reads bs 4294967295 (.iface 61 (.int .i64 1)) from ⟨.inr (.inl rfl), fun _ => by simp, fun N _ h1 h2 => by have := hexFold_le _ _ _ (hdec N h1 h2); omega⟩)
            have iov : 4294967295 < a * 16 + ((c.toNat : Int) - 48) := by omega
            clear hcut hacc hF hov ha hdec hls
            go_wp2
            go_ret2
            exact ⟨_, _, rfl, by omega, by omega, HR.out, hW.out⟩
          · have HN : Hid (a * 16 + ((c.toNat : Int) - 48) = ((acc * 16 + (c.toNat - 48) : Nat) : Int) ∧ acc * 16 + (c.toNat - 48) ≤ 4294967295 ∧ ∀ N, hexFold 0 bs = some N → N < 16777216 → hexFold (acc * 16 + (c.toNat - 48)) (bs.drop (k + 1)) = some N) := Lib.hid ⟨by omega, by omega, hdec⟩
            have iov : a * 16 + ((c.toNat : Int) - 48) ≤ 4294967295 := by omega
            clear hcut hacc hF hov hdec ha hls
            go_wp2
            refine ⟨⟨k + 1, acc * 16 + (c.toNat - 48), a * 16 + ((c.toNat : Int) - 48), rfl, (by first | rfl | (congr 1; omega)), (by first | rfl | (congr 1; omega)), by omega, HN⟩, by simp [Lib.intOf]; omega⟩
        · have HB2 := Lib.hid (show (97 ≤ c.toNat ∧ c.toNat ≤ 102) ∨ ∀ N, hexFold 0 bs = some N → N < 16777216 → False from by
            by_cases h : 97 ≤ c.toNat ∧ c.toNat ≤ 102
            · exact .inl h
            · refine .inr fun N h1 h2 => ?_
              have := hdec N h1 h2
              simp only [hexFold] at this
              rw [if_neg hdig, if_neg h] at this
              cases this)
          have HS := Lib.hid hls
          clear hls
          have h95 : bits .or .u8 95 32 = 127 := by decide +kernel
          by_cases hus : c.toNat = 95
          · have HR := Lib.hid (show Reads bs 0 (.iface 61 (.int .i64 2)) from ⟨.inr (.inr rfl), fun _ => by simp, fun N _ h1 h2 => by
              rcases HB2.out with h | h
              · omega
              · exact absurd (h N h1 h2) id⟩)
            rw [hus] at hc
            clear hacc ha hdec HB2 HS hdig hus
            go_wp2_with (first | (refine (lower_calls _ _).mono ?_; rintro e w' ⟨rfl, rfl⟩))
            go_ret2
            exact ⟨_, _, rfl, by omega, by omega, HR.out, hW.out⟩
          · have hus' : ((c.toNat : Int) == 95) = false := by rw [beq_eq_false_iff_ne]; omega
            have hdg : ¬ (48 ≤ (c.toNat : Int) ∧ (c.toNat : Int) ≤ 57) := by omega
            have hc0 : (0 : Int) ≤ (c.toNat : Int) := by omega
            have hc1 : (c.toNat : Int) ≤ 255 := by omega
            have hv0 := bits_lo_u8 .or (c.toNat : Int) 32
            have hv1 := bits_hi_u8 .or (c.toNat : Int) 32
            have hlow := fun W => lower_calls (c.toNat : Int) W
            have hsame : (∃ N, hexFold 0 bs = some N ∧ N < 16777216) → bits .or .u8 (c.toNat : Int) 32 = (c.toNat : Int) ∧ 97 ≤ c.toNat ∧ c.toNat ≤ 102 := by
              rintro ⟨N, h1, h2⟩
              rcases HB2.out with h | h
              · exact ⟨HS.out h, h⟩
              · exact absurd (h N h1 h2) id
            have hstep : (∃ N, hexFold 0 bs = some N ∧ N < 16777216) → hexFold acc (c :: bs.drop (k + 1)) = hexFold (acc * 16 + (c.toNat - 87)) (bs.drop (k + 1)) := fun h => by
              simp only [hexFold]; rw [if_neg hdig, if_pos (hsame h).2]
            clear hdig hus HB2 HS
            generalize hv : bits .or .u8 (c.toNat : Int) 32 = v at *
            clear hv h95
            generalize hci : (c.toNat : Int) = ci at *
            by_cases hlet : 97 ≤ v ∧ v ≤ 102
            · obtain ⟨d, hd⟩ : ∃ d : Nat, v = (d : Int) + 87 := ⟨(v - 87).toNat, by omega⟩
              have hF : ∀ N, hexFold 0 bs = some N → N < 16777216 → hexFold (acc * 16 + d) (bs.drop (k + 1)) = some N := fun N h1 h2 => by
                have h3 := hdec N h1 h2
                have h4 := hsame ⟨N, h1, h2⟩
                rw [hstep ⟨N, h1, h2⟩, show c.toNat - 87 = d by omega] at h3
                exact h3
              obtain ⟨v0, v1⟩ := hlet
              by_cases hov : 4294967295 < acc * 16 + d
              · have HR := Lib.hid (show Reads bs 4294967295 (.iface 61 (.int .i64 1)) from ⟨.inr (.inl rfl), fun _ => by simp, fun N _ h1 h2 => by have := hexFold_le _ _ _ (hF N h1 h2); omega⟩)
                have iov : 4294967295 < a * 16 + (v - 97 + 10) := by omega
                clear hacc ha hdec hF hov hsame hstep hci hd
                go_wp2_with (first | (refine (hlow _).mono ?_; rintro e w' ⟨rfl, rfl⟩))
                all_goals go_ret2
                all_goals exact ⟨_, _, rfl, by omega, by omega, HR.out, hW.out⟩
              · have HN : Hid (a * 16 + (v - 97 + 10) = ((acc * 16 + d : Nat) : Int) ∧ acc * 16 + d ≤ 4294967295 ∧ ∀ N, hexFold 0 bs = some N → N < 16777216 → hexFold (acc * 16 + d) (bs.drop (k + 1)) = some N) := Lib.hid ⟨by omega, by omega, hF⟩
                have iov : a * 16 + (v - 97 + 10) ≤ 4294967295 := by omega
                clear hacc ha hdec hF hov hsame hstep hci hd
                go_wp2_with (first | (refine (hlow _).mono ?_; rintro e w' ⟨rfl, rfl⟩))
                all_goals exact ⟨⟨k + 1, acc * 16 + d, a * 16 + (v - 97 + 10), rfl, (by first | rfl | (congr 1; omega)), (by first | rfl | (congr 1; omega)), by omega, HN⟩, by simp [Lib.intOf]; omega⟩
            · have HR := Lib.hid (show Reads bs 0 (.iface 61 (.int .i64 2)) from ⟨.inr (.inr rfl), fun _ => by simp, fun N _ h1 h2 => by
                have := hsame ⟨N, h1, h2⟩; omega⟩)
              clear hacc ha hdec hsame hstep hci
              rcases (by omega : v < 97 ∨ (102 < v ∧ v ≤ 122) ∨ 122 < v) with h | ⟨h, h'⟩ | h
              · clear hlet
                go_wp2_with (first | (refine (hlow _).mono ?_; rintro e w' ⟨rfl, rfl⟩))
                all_goals go_ret2
                all_goals exact ⟨_, _, rfl, by omega, by omega, HR.out, hW.out⟩
              · clear hlet
                go_wp2_with (first | (refine (hlow _).mono ?_; rintro e w' ⟨rfl, rfl⟩))
                all_goals go_ret2
                all_goals exact ⟨_, _, rfl, by omega, by omega, HR.out, hW.out⟩
              · clear hlet
                go_wp2_with (first | (refine (hlow _).mono ?_; rintro e w' ⟨rfl, rfl⟩))
                all_goals go_ret2
                all_goals exact ⟨_, _, rfl, by omega, by omega, HR.out, hW.out⟩
      · have hkk : k = t.size := by omega
        subst hkk
        have HR := Lib.hid (show Reads bs a .nilIface from ⟨.inl rfl, fun h => absurd h HNE.out, fun N _ h1 h2 => by
          have h3 := hdec N h1 h2
          rw [List.drop_eq_nil_of_le (by omega)] at h3
          simp only [hexFold, Option.some.injEq] at h3
          exact ⟨by omega, rfl⟩⟩)
        clear hacc ha hdec
        go_wp2
        go_ret2
        exact ⟨_, _, rfl, a0, a1, HR.out, hW.out⟩

end Go.Proofs.YtifbpchakoljaaaDoor.Hx
