/- The walk of the law on frames that are spoilt. -/
import Derived.Test.YtifbpchakoljaaaDoorFrmQ
import Derived.Test.YtifbpchakoljaaaDoorFrmU
import Derived.Laws.Strings3
namespace Go.Proofs.YtifbpchakoljaaaDoor.TellsW
open Go.RowKit Go.Lib Go.Proofs.YtifbpchakoljaaaDoor.Giv Go.Proofs.YtifbpchakoljaaaDoor.Hx Go.Proofs.YtifbpchakoljaaaDoor.Tells
set_option linter.unusedVariables false
set_option linter.unusedSimpArgs false

theorem awake_any (w : World) (hL : LaidW w) : Calls Tryd.prog 9 #[] w fun e w' => e = .returned (.bool true) ∧ Below w.heap.size w w' := by
  obtain ⟨k, h⟩ := Go.Proofs.YtifbpchakoljaaaDoorW.PrintWords.Ev.rounds (Pure.awake_ev)
  exact P.ploverlaw04_awake.calls k true w hL h
theorem put_any (s : ByteArray) (hs : s.size ≤ 262144) (w : World) (hL : LaidW w) : Calls Tryd.prog 10 #[.string s] w fun e w' => e = .returned (.tuple #[.string (putF s), .int .i64 0]) ∧ Below w.heap.size w w' :=
  P.frame_Put.calls s (putF s) 0 w hL (Pure.put_yes hs)
theorem tell_idx (at_ : Int) (n : Nat) (h : 1 ≤ n) : ∃ k : Nat, (bits .and .i64 at_ 65535) % (n : Int) = (k : Int) ∧ k < n ∧ 0 ≤ bits .and .i64 at_ 65535 ∧ bits .and .i64 at_ 65535 ≤ 65535 := by
  have hm := and_mask_i64 at_ 16 (by decide)
  have e2 : (((2 ^ 16 - 1 : Nat)) : Int) = 65535 := by decide +kernel
  have e3 : (((2 ^ 16 : Nat)) : Int) = 65536 := by decide +kernel
  rw [e2, e3] at hm
  rw [hm]
  have h0 := Int.emod_nonneg at_ (show (65536 : Int) ≠ 0 by decide)
  have h1 := Int.emod_lt_of_pos at_ (show (0 : Int) < 65536 by decide)
  have h2 := Int.emod_nonneg (at_ % 65536) (show (n : Int) ≠ 0 by omega)
  have h3 := Int.emod_lt_of_pos (at_ % 65536) (show (0 : Int) < (n : Int) by omega)
  exact ⟨((at_ % 65536) % (n : Int)).toNat, by omega, by omega, by omega, by omega⟩

theorem zero_val (y : Int) (j : Nat) : (bits .and .i64 (y / 2 ^ (8 * j)) 255 % 256 == 0) = (burstD y j == 0) := by
  have hm := and_mask_i64 (y / 2 ^ (8 * j)) 8 (by decide)
  have e2 : (((2 ^ 8 - 1 : Nat)) : Int) = 255 := by decide +kernel
  have e3 : (((2 ^ 8 : Nat)) : Int) = 256 := by decide +kernel
  rw [e2, e3] at hm
  have e4 : ((2 ^ (8 * j) : Nat) : Int) = (2 : Int) ^ (8 * j) := by simp
  have h1 := burstD_val y j
  rw [e4] at h1
  rw [hm, Int.emod_emod_of_dvd _ (Int.dvd_refl _), ← h1, Bool.eq_iff_iff, beq_iff_eq, beq_iff_eq, ← UInt8.toNat_inj]
  simp
theorem tells_bad (s : ByteArray) (k : Nat) (y : Int) (m : Nat) (hs : s.size ≤ 4096) (hm : m ≤ 3) (hk : k + m ≤ s.size) (hm1 : 1 ≤ m) (hz : allZ y m = false) :
    takeF ⟨(tellL (hexL s.size 6 ++ (hexL (crcSum s.data.toList) 6 ++ (124 :: (s.data.toList ++ [10])))) (13 + k) y m).toArray⟩ = (nothing, 0, 41) := by
  have e1 : hexL s.size 6 ++ (hexL (crcSum s.data.toList) 6 ++ (124 :: (s.data.toList ++ [10]))) = (hexL s.size 6 ++ hexL (crcSum s.data.toList) 6 ++ [124]) ++ (s.data.toList ++ [10]) := by simp
  have e2 : (hexL s.size 6 ++ hexL (crcSum s.data.toList) 6 ++ [124]).length = 13 := by simp [hexL_len]
  have e3 := tell_front (hexL s.size 6 ++ hexL (crcSum s.data.toList) 6 ++ [124]) (s.data.toList ++ [10]) k y m
  rw [e2, ← e1, tell_back s.data.toList [10] k y m (by rw [list_size]; exact hk)] at e3
  rw [e3]
  have := take_other s.size (crcSum s.data.toList) (tellL s.data.toList k y m) (by rw [tell_len, list_size]) (by omega) (crcSum_lt _) (tell_sum _ k y m hm (by rw [list_size]; exact hk) hm1 hz)
  rw [← this]
  congr 2
set_option maxHeartbeats 4000000 in
set_option maxRecDepth 100000 in
theorem walk (s : ByteArray) (at_ y : Int) (w : World) (hL : LaidW w) (hs : s.size ≤ 140737488351232) :
    Calls Tryd.prog 6 #[.string s, .int .i64 at_, .int .i64 y] w fun e w' => e = .returned (.bool true) ∧ Below w.heap.size w w' := by
  have HL := veil hL
  have HA := veil (fun W hW => awake_any W hW)
  clear hL
  by_cases h0 : s.size = 0
  · have ht : s = ⟨#[]⟩ := by
      cases s; rename_i d; simp [ByteArray.size] at h0; rw [h0]
    subst ht
    go_enter Tryd.func6, Tryd.ntmps6
    go_wp2_with fail
    refine (HA.out _ HL.out).mono ?_
    rintro e w1 ⟨rfl, hb⟩
    go_wp2
    go_ret
    exact ⟨rfl, hb⟩
  · have hemp : s.toList.isEmpty = false := by
      rw [← decide_eq_emptyBytes]
      exact decide_eq_false (fun h => h0 (by rw [h]; rfl))
    have h1 : 1 ≤ s.size := by omega
    clear h0
    by_cases h2 : 4096 < s.size
    · go_enter Tryd.func6, Tryd.ntmps6
      go_wp2_with fail
      refine (HA.out _ HL.out).mono ?_
      rintro e w1 ⟨rfl, hb⟩
      go_wp2
      go_ret
      exact ⟨rfl, hb⟩
    · have h2' : s.size ≤ 4096 := by omega
      clear h2
      obtain ⟨k, hk, hkn, hk0, hk1⟩ := tell_idx at_ s.size h1
      have HP := veil (fun W hW => put_any s (by omega) W hW)
      have HFz := veil (putF_size s)
      have HFd := veil (putF_data s)
      have hFne : (((putF s).size : Int) != (s.size : Int) + 14) = false := by rw [putF_size]; simp
      have hF0 : (putF s).size ≤ 140737488351232 := by rw [putF_size]; omega
      generalize putF s = f at *
      have hconv := fun wx => run_bytes_of_string (P := Tryd.prog) wx 9 36 5 f Tryd.underlying9 Tryd.underlying36 Tryd.underlying5
      go_enter Tryd.func6, Tryd.ntmps6
      go_wp2_with fail
      refine (HP.out _ HL.out).mono ?_
      rintro e w1 ⟨rfl, hb1⟩
      have HB1 := veil hb1
      clear hb1
      go_wp2_with fail
      rw [hk]
      clear hk hconv hFne hk0 hk1
      obtain ⟨cap, hcap, hc1⟩ : ∃ cap, grownCap w1 f.size 0 5 = cap ∧ f.size ≤ cap := ⟨_, rfl, grownCap_ge _ _ _ _⟩
      rw [hcap]
      clear hcap
      have Hcap := veil hc1
      clear hc1
      have HB := veil ((HB1.out.alloc HB1.out.size (.cells (bytesRow f cap) 5 ((bytesRow f cap).size, (bytesRow f cap).size + 1))).drew)
      obtain ⟨m, hm, hm1, hm3, hmk⟩ : ∃ m, m = min 3 (s.size - k) ∧ 1 ≤ m ∧ m ≤ 3 ∧ k + m ≤ s.size := ⟨_, rfl, by omega, by omega, by omega⟩
      go_loopw [11, 12] (fun sm i wr => ∃ j : Nat, j ≤ m ∧ i = .int .i64 j ∧ sm = .bool (allZ y j) ∧ BlkM wr w1.heap.size (burstArr f (13 + k) y cap j) 5 ((bytesRow f cap).size, (bytesRow f cap).size + 1) ∧ Below w.heap.size w wr) (fun _ i _ => 3 - (RowKit.intOf i).toNat)
      case atStart => exact ⟨0, by omega, rfl, rfl, (BlkM.new _ _ _ _).drew, HB.out⟩
      case round =>
        obtain ⟨j, hj, rfl, rfl, hblk, hbel⟩ := hrel
        have Hblk := veil hblk
        have Hbel := veil hbel
        by_cases hlt : j < m
        · have hF := HFz.out
          have hcell : wr.cell? ⟨w1.heap.size, 13 + k + j, none⟩ = some (.int .u8 ((f.data.toList.getD (13 + k + j) 0).toNat : Int)) := by
            rw [hblk.cell, burstArr_at f (13 + k) y cap (13 + k + j) (by omega) j, if_neg (by omega)]
          have hfree : wr.frozen? ⟨w1.heap.size, 13 + k + j, none⟩ = false := hblk.free (by have := bytesRow_size f cap; show 13 + k + j < (bytesRow f cap).size; omega)
          have hi0 : (0 : Int) ≤ 13 + (k : Int) + j := by omega
          have hi1 : 13 + (k : Int) + j < (f.size : Int) := by omega
          have hl1 : (j : Int) < 3 := by omega
          have hl2 : (k : Int) + j < (s.size : Int) := by omega
          clear hblk hbel hF hm hmk
          generalize hsm : allZ y j = sm at *
          have hx0 := zero_val y j
          go_wp2
          all_goals refine ⟨⟨j + 1, by omega, by go_num, ?_, ?_, ?_⟩, by simp [RowKit.intOf]; omega⟩
          all_goals first
            | (rw [burst_val f y (13 + k + j) j]; exact Hblk.out.set _ _)
            | exact Hbel.out.setCell HB1.out.size _
            | (rw [allZ, hsm, ← zero_val]; simp_all)
        · obtain rfl : j = m := by omega
          have hends : ¬ (j : Int) < 3 ∨ ((j : Int) < 3 ∧ ¬ (k : Int) + j < (s.size : Int)) := by omega
          have hlen : (tellL f.data.toList (13 + k) y j).length = f.size := by rw [tell_len, list_size]
          have hcv : ∀ W, Below wr.heap.size wr W → (convert 36 9 (.slice (some ⟨w1.heap.size, 0, none⟩) f.size cap)).run Tryd.prog W = .ok (.string ⟨(tellL f.data.toList (13 + k) y j).toArray⟩) W := by
            intro W hW
            have hx := hblk.below hW hblk.lt
            have := run_convert_bytes_back (P := Tryd.prog) W 36 9 5 ⟨w1.heap.size, 0, none⟩ cap (tellL f.data.toList (13 + k) y j) Tryd.underlying36 Tryd.underlying5 Tryd.underlying9 (fun i hi => by
              rw [Addr.add_lit, hx.cell, Nat.zero_add]
              have hi' : i < f.size := by omega
              rw [burstArr_at f (13 + k) y cap i hi' j]
              have ht := tell_at f.data.toList (13 + k) y j i (by rw [list_size]; exact hi')
              rw [List.getElem?_eq_getElem hi] at ht
              rw [Option.some.inj ht])
            rwa [hlen] at this
          have HLW := veil (LaidW.below HL.out hbel)
          have HZ := veil (fun hz : allZ y j = false => tells_bad s k y j (by omega) (by omega) hmk hm1 hz)
          have HFD := HFd
          clear hblk hlt hm
          generalize hZ : allZ y j = z at *
          cases z
          · have hT := veil (by have h := HZ.out rfl; rw [← HFd.out] at h; exact h)
            have hTs : (tellL f.data.toList (13 + k) y j).length ≤ 140737488351232 := by omega
            generalize tellL f.data.toList (13 + k) y j = l at *
            have HTk := veil (fun W (hW : LaidW W) => take_calls ⟨l.toArray⟩ (by simpa [ByteArray.size] using hTs) W hW)
            have HCV := veil hcv
            clear HZ hlen hTs HFD
            have hcv0 := hcv wr (Below.refl _ _)
            clear hcv
            rcases hends with h3 | ⟨h3, h4⟩
            · go_wp2_with fail
              refine (HTk.out _ HLW.out).mono ?_
              rw [hT.out]
              rintro e w2 ⟨rfl, hb2⟩
              unfold nothing
              have HL2 := veil (LaidW.below HLW.out hb2)
              go_wp2_with fail
              refine (HA.out _ HL2.out).mono ?_
              rintro e w3 ⟨rfl, hb3⟩
              go_wp2
              go_ret
              exact ⟨rfl, (Hbel.out.trans (hb2.mono Hbel.out.size)).trans (hb3.mono (Nat.le_trans Hbel.out.size hb2.size))⟩
            · go_wp2_with fail
              refine (HTk.out _ HLW.out).mono ?_
              rw [hT.out]
              rintro e w2 ⟨rfl, hb2⟩
              unfold nothing
              have HL2 := veil (LaidW.below HLW.out hb2)
              go_wp2_with fail
              refine (HA.out _ HL2.out).mono ?_
              rintro e w3 ⟨rfl, hb3⟩
              go_wp2
              go_ret
              exact ⟨rfl, (Hbel.out.trans (hb2.mono Hbel.out.size)).trans (hb3.mono (Nat.le_trans Hbel.out.size hb2.size))⟩
          · clear HZ hcv hlen
            rcases hends with h3 | ⟨h3, h4⟩
            · go_wp2_with fail
              refine (HA.out _ HLW.out).mono ?_
              rintro e w2 ⟨rfl, hb2⟩
              go_wp2
              go_ret
              exact ⟨rfl, Hbel.out.trans (hb2.mono Hbel.out.size)⟩
            · go_wp2_with fail
              refine (HA.out _ HLW.out).mono ?_
              rintro e w2 ⟨rfl, hb2⟩
              go_wp2
              go_ret
              exact ⟨rfl, Hbel.out.trans (hb2.mono Hbel.out.size)⟩
end Go.Proofs.YtifbpchakoljaaaDoor.TellsW
