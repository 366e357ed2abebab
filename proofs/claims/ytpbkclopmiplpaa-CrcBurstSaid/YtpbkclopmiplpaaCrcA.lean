/- The walk of the law on three texts. -/
import Derived.Test.YtpbkclopmiplpaaCrcL
import Derived.Test.YtpbkclopmiplpaaCrcN
import Derived.Deep.OwnRows
import Derived.BigQuiet
namespace Go.Proofs.Ytpbkclopmiplpaa
open Go.RowKit

theorem xor_u8 (a b : UInt8) : bits .xor .u8 (a.toNat : Int) (b.toNat : Int) = ((a ^^^ b).toNat : Int) := by
  rw [u8_xor_nat _ _ a.toNat_lt b.toNat_lt, UInt8.toNat_xor]

/-- what x holds behind k rounds -/
def addCells (s t u : ByteArray) (n k : Nat) : Array Value := ((List.range n).map fun i => Value.int .u8 (if i < k then ((s.data.toList.getD i 0 ^^^ t.data.toList.getD i 0 ^^^ u.data.toList.getD i 0 : UInt8).toNat : Int) else 0)).toArray

theorem addCells_zero (s t u : ByteArray) (n : Nat) : addCells s t u n 0 = madeCells #[.int .u8 0] n := by
  apply Array.ext
  · simp [addCells, size_madeCells]
  · intro i h1 h2
    simp [addCells, madeCells, Nat.mod_one]
theorem addCells_at (s t u : ByteArray) {n k : Nat} (h : k < n) : (addCells s t u n k)[k]? = some (.int .u8 0) := by
  simp [addCells, h]
theorem addCells_set (s t u : ByteArray) (n k : Nat) : (addCells s t u n k).setIfInBounds k (.int .u8 ((s.data.toList.getD k 0 ^^^ t.data.toList.getD k 0 ^^^ u.data.toList.getD k 0 : UInt8).toNat : Int)) = addCells s t u n (k + 1) := by
  apply Array.ext
  · simp [addCells]
  · intro i h1 h2
    rw [Array.getElem_setIfInBounds (by simpa using h1)]
    split
    · subst i; simp [addCells]
    · rename_i hne
      simp [addCells]
      by_cases h : i < k
      · rw [if_pos h, if_pos (by omega)]
      · rw [if_neg h, if_neg (by omega)]
theorem getD_at (s : ByteArray) {k : Nat} (h : k < s.size) : s.data.toList.getD k 0 = s[k] := by
  have h' : k < s.data.toList.length := by simpa using h
  rw [List.getD_eq_getElem?_getD, List.getElem?_eq_getElem h']; rfl
theorem add_val (s t u : ByteArray) {k : Nat} (h1 : k < s.size) (h2 : k < t.size) (h3 : k < u.size) :
    bits .xor .u8 (bits .xor .u8 (s[k].toNat : Int) (t[k].toNat : Int)) (u[k].toNat : Int) = ((s.data.toList.getD k 0 ^^^ t.data.toList.getD k 0 ^^^ u.data.toList.getD k 0 : UInt8).toNat : Int) := by
  rw [xor_u8, xor_u8, getD_at s h1, getD_at t h2, getD_at u h3]
theorem add_list (s t u : ByteArray) {k : Nat} (h1 : k ≤ s.size) (h2 : k ≤ t.size) (h3 : k ≤ u.size) :
    (List.range k).map (fun i => s.data.toList.getD i 0 ^^^ t.data.toList.getD i 0 ^^^ u.data.toList.getD i 0) = xorL (xorL (s.data.toList.take k) (t.data.toList.take k)) (u.data.toList.take k) := by
  have e1 : s.data.toList.length = s.size := by simp
  have e2 : t.data.toList.length = t.size := by simp
  have e3 : u.data.toList.length = u.size := by simp
  apply List.ext_getElem
  · simp [xorL, e1, e2, e3]; omega
  · intro i h4 h5
    have h6 : i < k := by simpa using h4
    have q1 : s.data.size = s.size := rfl
    have q2 : t.data.size = t.size := rfl
    have q3 : u.data.size = u.size := rfl
    have g1 : i < s.data.size := by omega
    have g2 : i < t.data.size := by omega
    have g3 : i < u.data.size := by omega
    simp [xorL, Array.getElem?_eq_getElem g1, Array.getElem?_eq_getElem g2, Array.getElem?_eq_getElem g3]
theorem xor_sums (a b : List UInt8) : bits .xor .i64 ((crcSum a : Nat) : Int) ((crcSum b : Nat) : Int) = ((crcSum a ^^^ crcSum b : Nat) : Int) := by
  have h1 := crcSum_lt a
  have h2 := crcSum_lt b
  exact xor_i64 _ _ (Nat.lt_trans h1 (by decide)) (Nat.lt_trans h2 (by decide))
theorem add_sum (s t u : ByteArray) (l : List UInt8) {k : Nat} (hl : l = (List.range k).map (fun i => s.data.toList.getD i 0 ^^^ t.data.toList.getD i 0 ^^^ u.data.toList.getD i 0)) (h1 : k ≤ s.size) (h2 : k ≤ t.size) (h3 : k ≤ u.size) :
    ((crcSum l : Nat) : Int) = bits .xor .i64 (bits .xor .i64 ((crcSum (s.data.toList.take k) : Nat) : Int) ((crcSum (t.data.toList.take k) : Nat) : Int)) ((crcSum (u.data.toList.take k) : Nat) : Int) := by
  have e1 : s.data.toList.length = s.size := by simp
  have e2 : t.data.toList.length = t.size := by simp
  have e3 : u.data.toList.length = u.size := by simp
  subst hl
  rw [add_list s t u h1 h2 h3, crcSum_xor3 _ _ _ (by simp; omega) (by simp; omega), xor_sums]
  have h4 : crcSum (s.data.toList.take k) ^^^ crcSum (t.data.toList.take k) < 16777216 := Nat.xor_lt_two_pow (n := 24) (crcSum_lt _) (crcSum_lt _)
  exact (xor_i64 _ _ (Nat.lt_trans h4 (by decide)) (Nat.lt_trans (crcSum_lt _) (by decide))).symm
theorem codeSum_eq (s : ByteArray) (c : Int) (w : World) (hs : s.size ≤ 140737488351232) (hc : ((crcSum s.data.toList : Nat) : Int) = c) :
    Calls Try.prog 16 #[.string s] w fun e w' => e = .returned (.int .i64 c) ∧ Below w.heap.size w w' := by
  subst hc; exact codeSum_any s w hs
theorem info_u8 : (Try.prog.info? 5).map (fun i => (i.zero, i.size, i.bytes)) = some (some (.int .u8 0), 1, 1) := by kernel_rfl

set_option maxHeartbeats 400000 in
theorem CrcAdds_walk (s t u : ByteArray) (w : World) (hs : s.size ≤ 140737488351232) (ht : t.size ≤ 140737488351232) (hu : u.size ≤ 140737488351232) :
    Calls Try.prog 5 #[.string s, .string t, .string u] w fun e w' => e = .returned (.bool true) ∧ Below w.heap.size w w' := by
  obtain ⟨m, hm, hm1, hm2⟩ : ∃ m : Nat, (if u.size < t.size then (u.size : Int) else (t.size : Int)) = (m : Int) ∧ m ≤ t.size ∧ m ≤ u.size := ⟨min u.size t.size, by split <;> omega, by omega, by omega⟩
  obtain ⟨n, hn, hn1, hn2⟩ : ∃ n : Nat, (if m < s.size then (m : Int) else (s.size : Int)) = (n : Int) ∧ n ≤ s.size ∧ n ≤ m := ⟨min m s.size, by split <;> omega, by omega, by omega⟩
  rcases (by omega : n ≤ 4096 ∨ 4096 < n) with h | h
  · have hmk := run_make_row' (P := Try.prog) 25 5 (.int .u8 0) 1 Try.underlying25 info_u8 rfl .i64 .i64 n (by omega) (by omega)
    go_enter Try.func5, Try.ntmps5
    go_wp2_with fail
    clear hmk
    rw [← addCells_zero s t u n]
    go_loopw [9] (fun i wr => ∃ k : Nat, k ≤ n ∧ i = .int .i64 k ∧ Blk wr w.heap.size (addCells s t u n k) 5 ∧ Below w.heap.size w wr) (fun i _ => n - (intOf i).toNat)
    case atStart => exact ⟨0, by omega, rfl, Blk.new _ _ _, (Below.refl _ _).alloc (Nat.le_refl _) _⟩
    case round =>
      obtain ⟨k, hk, rfl, hblk, hbel⟩ := hrel
      have Hblk := veil hblk
      have Hbel := veil hbel
      by_cases hlt : k < n
      · have hk0 : (0 : Int) ≤ (k : Int) := by omega
        have hk1 : (k : Int) < (n : Int) := by omega
        have hk2 : (k : Int) < (s.size : Int) := by omega
        have hk3 : (k : Int) < (t.size : Int) := by omega
        have hk4 : (k : Int) < (u.size : Int) := by omega
        have hcell : wr.cell? ⟨w.heap.size, k, none⟩ = some (.int .u8 0) := by rw [hblk.cell]; exact addCells_at s t u hlt
        have hfree : wr.frozen? ⟨w.heap.size, k, none⟩ = false := hblk.free k
        clear hblk hbel
        go_wp2
        go_region
        go_wp2
        go_roundw
        case rel =>
          refine ⟨k + 1, by omega, by go_num, ?_, ?_⟩
          · rw [← addCells_set, ← add_val s t u (by omega) (by omega) (by omega)]
            exact (Hblk.out.set _ _).drew
          · exact (Hbel.out.setCell (Nat.le_refl _) _).drew
        case measure => simp [intOf]; omega
      · obtain rfl : k = n := by omega
        obtain ⟨l, hl, hll⟩ : ∃ l : List UInt8, l = (List.range k).map (fun i => s.data.toList.getD i 0 ^^^ t.data.toList.getD i 0 ^^^ u.data.toList.getD i 0) ∧ l.length = k := ⟨_, rfl, by simp⟩
        have hcv : ∀ x : Later wr, (convert 25 9 (.slice (some ⟨w.heap.size, 0, none⟩) k k)).run Try.prog x.1 = .ok (.string ⟨l.toArray⟩) x.1 := by
          intro x
          have hx := hblk.below x.2 hblk.lt
          have := run_convert_bytes_back (P := Try.prog) x.1 25 9 5 ⟨w.heap.size, 0, none⟩ k l Try.underlying25 Try.underlying5 Try.underlying9 (fun j hj => by
            rw [Addr.add_lit, hx.cell, Nat.zero_add]
            subst hl
            have hj' : j < k := by simpa using hj
            simp [addCells, hj'])
          rwa [hll] at this
        obtain ⟨c0, hc0⟩ : ∃ c0 : Int, ((crcSum l : Nat) : Int) = c0 := ⟨_, rfl⟩
        obtain ⟨c1, hc1⟩ : ∃ c0 : Int, ((crcSum (s.data.toList.take k) : Nat) : Int) = c0 := ⟨_, rfl⟩
        obtain ⟨c2, hc2⟩ : ∃ c0 : Int, ((crcSum (t.data.toList.take k) : Nat) : Int) = c0 := ⟨_, rfl⟩
        obtain ⟨c3, hc3⟩ : ∃ c0 : Int, ((crcSum (u.data.toList.take k) : Nat) : Int) = c0 := ⟨_, rfl⟩
        have heq : (c0 == bits .xor .i64 (bits .xor .i64 c1 c2) c3) = true := by
          rw [← hc0, ← hc1, ← hc2, ← hc3, add_sum s t u l hl (by omega) (by omega) (by omega)]
          exact beq_self_eq_true _
        have HL : Veil (l.length ≤ 140737488351232) := veil (by omega)
        have HC0 := veil hc0
        have HC1 := veil hc1
        have HC2 := veil hc2
        have HC3 := veil hc3
        clear hblk hbel hc0 hc1 hc2 hc3 hl hll
        go_wp2
        refine wp_region_later (by kernel_rfl) (by kernel_rfl) ?_
        iterate 2 go_big_quiet_step (fail)
        go_big_quiet_step ((exact Later.call (codeSum_eq _ c0 _ HL.out HC0.out)))
        iterate 3 go_big_quiet_step (fail)
        go_big_quiet_step ((exact Later.call (codeSum_eq _ c1 _ (by simp; omega) (by rw [← HC1.out]; simp [ByteArray.data_extract]))))
        iterate 3 go_big_quiet_step (fail)
        go_big_quiet_step ((exact Later.call (codeSum_eq _ c2 _ (by simp; omega) (by rw [← HC2.out]; simp [ByteArray.data_extract]))))
        iterate 4 go_big_quiet_step (fail)
        go_big_quiet_step ((exact Later.call (codeSum_eq _ c3 _ (by simp; omega) (by rw [← HC3.out]; simp [ByteArray.data_extract]))))
        iterate 3 go_big_quiet_step (fail)
        go_big_quiet_step ((exact Later.call (crcAwake_any _)))
        iterate 2 go_big_quiet_step (fail)
        refine wpQuiet_nil ?_
        rintro w' ⟨x, rfl⟩
        go_wp2
        go_ret
        exact ⟨rfl, Hbel.out.trans (x.2.mono Hbel.out.size)⟩
  · go_enter Try.func5, Try.ntmps5
    go_wp2_with fail
    refine (crcAwake_any _).mono ?_
    rintro e w1 ⟨rfl, hb1⟩
    go_wp2
    go_ret
    exact ⟨rfl, hb1⟩
end Go.Proofs.Ytpbkclopmiplpaa
