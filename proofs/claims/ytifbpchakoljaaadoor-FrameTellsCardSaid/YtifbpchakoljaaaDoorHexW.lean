/- The walks of strconv.FormatInt at base 16, and of crc.Hex. -/
import Derived.Test.YtifbpchakoljaaaDoorProg
import Derived.Test.YtifbpchakoljaaaDoorAid
import Derived.Test.YtifbpchakoljaaaDoorShelfH
import Derived.WalkSpells
import Derived.WalkLawsBesides
import Derived.KernelRfl
import Derived.Laws.Bits64b
namespace Go.Proofs.YtifbpchakoljaaaDoor.Hx
open Go.RowKit Go.Lib

def hexDig (d : Nat) : Nat := if d < 10 then 48 + d else 87 + d
def hexArr (n j : Nat) : Array Value := ((List.range 65).map fun i => Value.int .u8 (if 65 ≤ i + j then (hexDig (n / 16 ^ (64 - i) % 16) : Int) else 0)).toArray
theorem hexArr_zero (n : Nat) : hexArr n 0 = ((List.range 65).map fun _ => Value.int .u8 0).toArray := by
  unfold hexArr
  refine congrArg List.toArray (List.map_congr_left fun i hi => ?_)
  rw [List.mem_range] at hi
  rw [if_neg (by omega)]
theorem hexArr_size (n j : Nat) : (hexArr n j).size = 65 := by simp [hexArr]
theorem hexArr_set (n j : Nat) (hj : j < 65) : (hexArr n j).setIfInBounds (64 - j) (.int .u8 (hexDig (n / 16 ^ j % 16) : Int)) = hexArr n (j + 1) := by
  apply Array.ext_getElem?
  intro i
  rw [Array.getElem?_setIfInBounds]
  by_cases h : 64 - j = i
  · subst h
    rw [if_pos rfl, if_pos (by rw [hexArr_size]; omega)]
    simp only [hexArr, List.getElem?_toArray, List.getElem?_map]
    rw [List.getElem?_range (by omega)]
    simp only [Option.map_some]
    rw [if_pos (by omega), show 64 - (64 - j) = j by omega]
  · rw [if_neg h]
    simp only [hexArr, List.getElem?_toArray, List.getElem?_map]
    by_cases h2 : i < 65
    · rw [List.getElem?_range h2]
      simp only [Option.map_some]
      congr 2
      by_cases h3 : 65 ≤ i + j
      · rw [if_pos h3, if_pos (by omega)]
      · rw [if_neg h3, if_neg (by omega)]
    · rw [List.getElem?_eq_none (by simpa using h2)]; rfl
theorem zero65 (n : Nat) (W : World) : (zeroValue 71).run Tryd.prog W = .ok (.agg (hexArr n 0)) W := by
  rw [hexArr_zero]; rfl

theorem pow2_16 (w : World) : Calls Tryd.prog 43 #[.int .i64 16] w fun e w' => e = .returned (.bool true) ∧ w' = w := by
  have hb : bits .and .i64 16 15 = 0 := by decide +kernel
  go_enter Tryd.func43, Tryd.ntmps43
  go_wp2
  go_ret
  exact ⟨rfl, rfl⟩
theorem tz_16 (w : World) (hT : TabAt 4 Lib.deBruijn64tab w) : Calls Tryd.prog 44 #[.int .u64 16] w fun e w' => e = .returned (.int .i64 4) ∧ w' = w := by
  have c : Calls Tryd.prog 44 #[.int .u64 16] w _ := Any7.bits_TrailingZeros Tryd.Lays7_n27 16 (by decide) w (fun _ => hT)
  have e : (Lib.ctz 64 16 : Int) = 4 := by decide +kernel
  rw [e] at c
  exact c
theorem TabAt_below {g : Nat} {tab : List Nat} {w w' : World} (h : TabAt g tab w) (hb : Below w.heap.size w w') : TabAt g tab w' := fun j hj =>
  (hb.cell (World.block_lt_of_cell? w _ (h j hj))).trans (h j hj)

theorem and15 (q : Nat) (h : q < 33554432) : bits .and .u64 (q : Int) 15 = ((q % 16 : Nat) : Int) := by
  have := bits_and_u64_nat q 15 (by omega) (by omega)
  rw [show q &&& 15 = q % 16 from Nat.and_two_pow_sub_one_eq_mod q 4] at this
  exact this
theorem dig16 (d : Nat) (h : d < 16) : ∀ hx : d < (⟨#[48, 49, 50, 51, 52, 53, 54, 55, 56, 57, 97, 98, 99, 100, 101, 102, 103, 104, 105, 106, 107, 108, 109, 110, 111, 112, 113, 114, 115, 116, 117, 118, 119, 120, 121, 122]⟩ : ByteArray).size, (((⟨#[48, 49, 50, 51, 52, 53, 54, 55, 56, 57, 97, 98, 99, 100, 101, 102, 103, 104, 105, 106, 107, 108, 109, 110, 111, 112, 113, 114, 115, 116, 117, 118, 119, 120, 121, 122]⟩ : ByteArray)[d]'hx).toNat) = hexDig d := by
  intro hx
  rcases (by omega : d = 0 ∨ d = 1 ∨ d = 2 ∨ d = 3 ∨ d = 4 ∨ d = 5 ∨ d = 6 ∨ d = 7 ∨ d = 8 ∨ d = 9 ∨ d = 10 ∨ d = 11 ∨ d = 12 ∨ d = 13 ∨ d = 14 ∨ d = 15) with rfl | rfl | rfl | rfl | rfl | rfl | rfl | rfl | rfl | rfl | rfl | rfl | rfl | rfl | rfl | rfl <;> rfl
/-- the last k digits at base 16, the first ahead -/
def hexL (n k : Nat) : List UInt8 := (List.range k).map fun i => UInt8.ofNat (hexDig (n / 16 ^ (k - 1 - i) % 16))
theorem hexDig_lt (d : Nat) : hexDig (d % 16) < 256 := by unfold hexDig; split <;> omega
theorem hex_conv {n : Nat} {w : World} {b : Nat} (h : Blk w b (hexArr n 7) 71) : (convert 36 9 (.slice (some ⟨b, 58, none⟩) 7 7)).run Tryd.prog w = .ok (.string ⟨(hexL n 7).toArray⟩) w := by
  have := run_convert_bytes_back (P := Tryd.prog) w 36 9 5 ⟨b, 58, none⟩ 7 (hexL n 7) Tryd.underlying36 Tryd.underlying5 Tryd.underlying9 (fun i hi => by
    have hi' : i < 7 := by simpa [hexL] using hi
    rw [Addr.add_lit, h.cell]
    simp only [hexArr, List.getElem?_toArray, List.getElem?_map]
    rw [List.getElem?_range (by omega)]
    simp only [Option.map_some, hexL, List.getElem_map, List.getElem_range]
    rw [if_pos (by omega), show 64 - (58 + i) = 7 - 1 - i by omega]
    have := hexDig_lt (n / 16 ^ (7 - 1 - i))
    rw [UInt8.toNat_ofNat', Nat.mod_eq_of_lt (by omega : _ < 2 ^ 8)])
  rwa [show (hexL n 7).length = 7 by simp [hexL]] at this

set_option maxHeartbeats 400000 in
theorem formatBits_16 (n : Nat) (h0 : 16777216 ≤ n) (h1 : n < 33554432) (w : World) (hT : TabAt 4 Lib.deBruijn64tab w) :
    Calls Tryd.prog 34 #[.slice none 0 0, .int .u64 n, .int .i64 16, .bool false, .bool false] w fun e w' => e = .returned (.tuple #[.slice none 0 0, .string ⟨(hexL n 7).toArray⟩]) ∧ Below w.heap.size w w' := by
  have hz := zero65 n
  go_enter Tryd.func34, Tryd.ntmps34
  go_wp2_with fail
  refine (pow2_16 _).mono ?_
  rintro e w1 ⟨rfl, rfl⟩
  go_wp2_with fail
  refine (tz_16 _ (TabAt_below hT ((Below.refl _ _).alloc (Nat.le_refl _) _))).mono ?_
  rintro e w1 ⟨rfl, rfl⟩
  go_wp2_with fail
  go_loopw [1, 13] (fun u i wr => ∃ (j : Nat), j ≤ 6 ∧ u = .int .u64 ((n / 16 ^ j : Nat) : Int) ∧ i = .int .i64 (65 - (j : Int)) ∧ Blk wr w.heap.size (hexArr n j) 71 ∧ Below w.heap.size w wr) (fun _ i _ => (RowKit.intOf i).toNat)
  case atStart => exact ⟨0, by omega, by simp, rfl, Blk.new _ _ _, (Below.refl _ _).alloc (Nat.le_refl _) _⟩
  case round =>
    obtain ⟨j, hj, rfl, rfl, hblk, hbel⟩ := hrel
    have Hblk := veil hblk
    have Hbel := veil hbel
    have hcell : wr.cell? ⟨w.heap.size, 65 - j - 1, none⟩ = some (.int .u8 0) := by
      rw [hblk.cell]; simp only [hexArr, List.getElem?_toArray, List.getElem?_map]
      rw [List.getElem?_range (by omega)]
      simp only [Option.map_some]
      rw [if_neg (by omega)]
    have hfree : wr.frozen? ⟨w.heap.size, 65 - j - 1, none⟩ = false := hblk.free _
    clear hblk hbel
    by_cases hlt : j < 6
    · obtain ⟨q, hq, hq1, hq2⟩ : ∃ q, n / 16 ^ j = q ∧ 16 ≤ q ∧ q < 33554432 := ⟨_, rfl, by
        rcases (by omega : j = 0 ∨ j = 1 ∨ j = 2 ∨ j = 3 ∨ j = 4 ∨ j = 5) with rfl | rfl | rfl | rfl | rfl | rfl <;> omega, by
        rcases (by omega : j = 0 ∨ j = 1 ∨ j = 2 ∨ j = 3 ∨ j = 4 ∨ j = 5) with rfl | rfl | rfl | rfl | rfl | rfl <;> omega⟩
      have Hq := veil hq
      rw [hq]
      clear hq
      have hand : bits .and .u64 (q : Int) 15 = ((q % 16 : Nat) : Int) := and15 q (by omega)
      have hm : q % 16 < 36 := by omega
      go_wp2
      have hset : (wr.setCell ⟨w.heap.size, 65 - j - 1, none⟩ (.int .u8 (hexDig (q % 16) : Int))) = (wr.setCell ⟨w.heap.size, 64 - j, none⟩ (.int .u8 (hexDig (n / 16 ^ j % 16) : Int))) := by rw [Hq.out, show 65 - j - 1 = 64 - j by omega]
      have hB := (Hbel.out.setCell (p := ⟨w.heap.size, 64 - j, none⟩) (Nat.le_refl _) (.int .u8 (hexDig (n / 16 ^ j % 16) : Int)))
      have hK := (Hblk.out.set (64 - j) (.int .u8 (hexDig (n / 16 ^ j % 16) : Int)))
      rw [hexArr_set n j (by omega)] at hK
      refine ⟨⟨j + 1, by omega, val_int ?_, val_int (by omega), ?_, ?_⟩, by simp [RowKit.intOf]; omega⟩
      · rw [Nat.pow_succ, ← Nat.div_div_eq_div_mul, Hq.out]; rfl
      · rw [dig16 _ (by omega), hset]; exact hK
      · rw [dig16 _ (by omega), hset]; exact hB
    · obtain rfl : j = 6 := by omega
      have hq : n / 16 ^ 6 = 1 := by omega
      have hset : (wr.setCell ⟨w.heap.size, 58, none⟩ (.int .u8 ((((⟨#[48, 49, 50, 51, 52, 53, 54, 55, 56, 57, 97, 98, 99, 100, 101, 102, 103, 104, 105, 106, 107, 108, 109, 110, 111, 112, 113, 114, 115, 116, 117, 118, 119, 120, 121, 122]⟩ : ByteArray)[1]'(by decide)).toNat : Nat) : Int))) = (wr.setCell ⟨w.heap.size, 58, none⟩ (.int .u8 (hexDig (n / 16 ^ 6 % 16) : Int))) := by rw [hq]; rfl
      have hB := (Hbel.out.setCell (p := ⟨w.heap.size, 58, none⟩) (Nat.le_refl _) (.int .u8 (hexDig (n / 16 ^ 6 % 16) : Int)))
      have hK := (Hblk.out.set 58 (.int .u8 (hexDig (n / 16 ^ 6 % 16) : Int)))
      rw [hexArr_set n 6 (by omega), ← hset] at hK
      rw [← hset] at hB
      have hcv := hex_conv hK
      rw [hq]
      have HK := veil hK
      have HB := veil hB
      clear hK hB hset hq hlt
      go_wp2
      go_ret2
      exact ⟨rfl, HB.out⟩

theorem formatInt_16 (n : Nat) (h0 : 16777216 ≤ n) (h1 : n < 33554432) (w : World) (hT : TabAt 4 Lib.deBruijn64tab w) :
    Calls Tryd.prog 28 #[.int .i64 n, .int .i64 16] w fun e w' => e = .returned (.string ⟨(hexL n 7).toArray⟩) ∧ Below w.heap.size w w' := by
  go_enter Tryd.func28, Tryd.ntmps28
  go_wp2_with fail
  refine (formatBits_16 n h0 h1 _ hT).mono ?_
  rintro e w1 ⟨rfl, hb⟩
  go_wp2
  go_ret
  exact ⟨rfl, hb⟩
theorem sFormatInt_16 (n : Nat) (h0 : 16777216 ≤ n) (h1 : n < 33554432) (w : World) (hT : TabAt 4 Lib.deBruijn64tab w) :
    Calls Tryd.prog 25 #[.int .i64 n, .int .i64 16] w fun e w' => e = .returned (.string ⟨(hexL n 7).toArray⟩) ∧ Below w.heap.size w w' := by
  go_enter Tryd.func25, Tryd.ntmps25
  go_wp2_with fail
  refine (formatInt_16 n h0 h1 _ hT).mono ?_
  rintro e w1 ⟨rfl, hb⟩
  go_wp2
  go_ret
  exact ⟨rfl, hb⟩
/-- crc.Hex, as a plain function -/
def hexF (n : Int) : ByteArray × Int := if 0 ≤ n ∧ n < 16777216 then (⟨(hexL n.toNat 6).toArray⟩, 0) else (⟨#[]⟩, 1)
theorem hexL_drop (n : Nat) (_h : n < 16777216) : ((⟨(hexL (n + 16777216) 7).toArray⟩ : ByteArray).extract 1 7) = ⟨(hexL n 6).toArray⟩ := by
  have e : (hexL (n + 16777216) 7).drop 1 = hexL n 6 := by
    apply List.ext_getElem?
    intro i
    rw [List.getElem?_drop]
    by_cases hi : i < 6
    · simp only [hexL, List.getElem?_map]
      rw [List.getElem?_range (by omega), List.getElem?_range (by omega)]
      simp only [Option.map_some]
      congr 3
      rcases (by omega : i = 0 ∨ i = 1 ∨ i = 2 ∨ i = 3 ∨ i = 4 ∨ i = 5) with rfl | rfl | rfl | rfl | rfl | rfl <;> omega
    · rw [List.getElem?_eq_none (by simp [hexL]; omega), List.getElem?_eq_none (by simp [hexL]; omega)]
  have hl : (hexL (n + 16777216) 7).length = 7 := by simp [hexL]
  generalize hexL (n + 16777216) 7 = l at *
  rw [← e]
  match l, hl with
  | [a, b, c, d, e, f, g], _ => rfl
set_option maxRecDepth 100000 in
theorem hex_calls (n : Int) (w : World) (hn0 : -9223372036854775808 ≤ n) (hn1 : n ≤ 9223372036854775807) (hT : TabAt 4 Lib.deBruijn64tab w) :
    Calls Tryd.prog 17 #[.int .i64 n] w fun e w' => e = .returned (.tuple #[.string (hexF n).1, .int .i64 (hexF n).2]) ∧ Below w.heap.size w w' := by
  by_cases c : 0 ≤ n ∧ n < 16777216
  · obtain ⟨m, rfl⟩ : ∃ m : Nat, n = m := ⟨n.toNat, by omega⟩
    obtain ⟨c0, c1⟩ := c
    have hf : hexF m = (⟨(hexL m 6).toArray⟩, 0) := by unfold hexF; rw [if_pos ⟨c0, c1⟩]; rfl
    rw [hf]
    clear hf
    have hd := hexL_drop m (by omega)
    have hl : (⟨(hexL (m + 16777216) 7).toArray⟩ : ByteArray).size = 7 := by simp [hexL, ByteArray.size]
    have hF : ∀ (z : Int) W, z = (m : Int) + 16777216 → TabAt 4 Lib.deBruijn64tab W → Calls Tryd.prog 25 #[.int .i64 z, .int .i64 16] W fun e w' => e = .returned (.string ⟨(hexL (m + 16777216) 7).toArray⟩) ∧ Below W.heap.size W w' := by
      intro z W hz hW
      obtain rfl : z = ((m + 16777216 : Nat) : Int) := by omega
      exact sFormatInt_16 (m + 16777216) (by omega) (by omega) W hW
    generalize (⟨(hexL (m + 16777216) 7).toArray⟩ : ByteArray) = s at *
    have HF := veil hF
    have HD := veil hd
    have HS := veil hl
    have hm : (m : Int) ≤ 16777215 := by omega
    clear hF hd hl c1
    go_enter Tryd.func17, Tryd.ntmps17
    go_wp2_with fail
    refine (HF.out _ _ (by omega) hT).mono ?_
    rintro e w1 ⟨rfl, hb⟩
    have hl := HS.out
    go_wp2
    go_ret2
    refine ⟨?_, hb⟩
    rw [← HD.out]
    rfl
  · have hf : hexF n = (⟨#[]⟩, 1) := by unfold hexF; rw [if_neg c]
    rw [hf]
    clear hf
    rcases (by omega : n < 0 ∨ (0 ≤ n ∧ 16777215 < n)) with h | ⟨h, h'⟩
    · clear c
      go_enter Tryd.func17, Tryd.ntmps17
      go_wp2
      go_ret2
      exact ⟨rfl, Below.refl _ _⟩
    · clear c
      go_enter Tryd.func17, Tryd.ntmps17
      go_wp2
      go_ret2
      exact ⟨rfl, Below.refl _ _⟩
end Go.Proofs.YtifbpchakoljaaaDoor.Hx
