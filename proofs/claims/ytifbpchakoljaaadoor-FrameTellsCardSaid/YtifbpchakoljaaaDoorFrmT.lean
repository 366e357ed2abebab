/- The walk of frame.Take. -/
import Derived.Test.YtifbpchakoljaaaDoorGivJ
import Derived.Test.YtifbpchakoljaaaDoorWWords
import Derived.OwnWalk
namespace Go.Proofs.YtifbpchakoljaaaDoor.Giv
open Go.RowKit Go.Lib Go.Proofs.YtifbpchakoljaaaDoor.Hx Go.Proofs.YtifbpchakoljaaaDoorW.PrintWords

def nothing : ByteArray := ⟨#[]⟩
def restT (rest : ByteArray) (n c : Int) : ByteArray × Int × Int :=
  if (rest.size : Int) ≤ n then (nothing, 0, 21) else if bt rest n ≠ 10 then (nothing, 0, 40) else if ((crcSum (rest.extract 0 n.toNat).data.toList : Nat) : Int) ≠ c then (nothing, 0, 41) else (rest.extract 0 n.toNat, 13 + n + 1, 0)
def takeF (s : ByteArray) : ByteArray × Int × Int :=
  if s.size < 13 then (nothing, 0, 21) else
  if (unhexF (s.extract 0 6)).2 = 0 ∧ (unhexF (s.extract 6 12)).2 = 0 ∧ (unhexF (s.extract 0 6)).1 ≤ 262144 ∧ bt s 12 = 124 then restT (s.extract 13 s.size) (unhexF (s.extract 0 6)).1 (unhexF (s.extract 6 12)).1 else (nothing, 0, 40)
theorem unhex_cases (t : ByteArray) : unhexF t = (0, 1) ∨ ∃ N : Nat, N < 16777216 ∧ unhexF t = ((N : Int), 0) := by
  unfold unhexF
  by_cases h : t.size = 6
  · rw [if_pos h]
    cases hx : hexFold 0 t.data.toList with
    | none => exact .inl rfl
    | some N => exact .inr ⟨N, (fold_hexL _ (by rw [list_size]; exact h) N hx).1, rfl⟩
  · rw [if_neg h]; exact .inl rfl
set_option maxHeartbeats 4000000 in
set_option maxRecDepth 100000 in
theorem take_calls (s : ByteArray) (hs : s.size ≤ 140737488351232) (w : World) (hL : LaidW w) :
    Calls Tryd.prog 12 #[.string s] w fun e w' => e = .returned (.tuple #[.string (takeF s).1, .int .i64 (takeF s).2.1, .int .i64 (takeF s).2.2]) ∧ Below w.heap.size w w' := by
  by_cases h13 : s.size < 13
  · have hT : takeF s = (nothing, 0, 21) := by unfold takeF; rw [if_pos h13]
    rw [hT]
    clear hT
    go_enter Tryd.func12, Tryd.ntmps12
    go_wp2
    go_ret3
    exact ⟨rfl, Below.refl _ _⟩
  · have h13' : 13 ≤ s.size := by omega
    have H1 := veil (unhex_calls (s.extract 0 6) (by rw [ByteArray.size_extract]; omega) w hL.1 hL.2.1 hL.2.2)
    have H2 := veil (fun W (hW : LaidW W) => unhex_calls (s.extract 6 12) (by rw [ByteArray.size_extract]; omega) W hW.1 hW.2.1 hW.2.2)
    have HT := veil (show takeF s = if (unhexF (s.extract 0 6)).2 = 0 ∧ (unhexF (s.extract 6 12)).2 = 0 ∧ (unhexF (s.extract 0 6)).1 ≤ 262144 ∧ bt s 12 = 124 then restT (s.extract 13 s.size) (unhexF (s.extract 0 6)).1 (unhexF (s.extract 6 12)).1 else (nothing, 0, 40) by unfold takeF; rw [if_neg h13])
    have HL := veil hL
    clear hL h13
    have c1 := unhex_cases (s.extract 0 6)
    have c2 := unhex_cases (s.extract 6 12)
    generalize unhexF (s.extract 0 6) = u1 at *
    generalize unhexF (s.extract 6 12) = u2 at *
    have hb12 : bt s 12 = ((s[12]'(by omega)).toNat : Int) := (bt_at s 12 (by simp; omega)).symm
    rcases c1 with rfl | ⟨n, hn, rfl⟩
    · have hT := veil (show takeF s = (nothing, 0, 40) by rw [HT.out, if_neg (fun h => absurd h.1 (by decide))])
      clear HT
      go_enter Tryd.func12, Tryd.ntmps12
      go_wp2_with fail
      refine H1.out.mono ?_
      rintro e w1 ⟨rfl, hb⟩
      go_wp2_with fail
      refine (H2.out _ (HL.out.below hb)).mono ?_
      rintro e w2 ⟨rfl, hb2⟩
      clear c2
      go_wp2
      go_ret3
      exact ⟨by rw [hT.out]; rfl, hb.trans (hb2.mono hb.size)⟩
    · rcases c2 with rfl | ⟨c, hc, rfl⟩
      · have hT := veil (show takeF s = (nothing, 0, 40) by rw [HT.out, if_neg (fun h => absurd h.2.1 (by decide))])
        clear HT
        go_enter Tryd.func12, Tryd.ntmps12
        go_wp2_with fail
        refine H1.out.mono ?_
        rintro e w1 ⟨rfl, hb⟩
        go_wp2_with fail
        refine (H2.out _ (HL.out.below hb)).mono ?_
        rintro e w2 ⟨rfl, hb2⟩
        go_wp2
        go_ret3
        exact ⟨by rw [hT.out]; rfl, hb.trans (hb2.mono hb.size)⟩
      · by_cases hok : (n : Int) ≤ 262144 ∧ bt s 12 = 124
        · have hT := veil (show takeF s = restT (s.extract 13 s.size) (n : Int) (c : Int) by rw [HT.out, if_pos ⟨rfl, rfl, hok.1, hok.2⟩])
          obtain ⟨ok1, ok2⟩ := hok
          rw [hb12] at ok2
          have ok3 : (((s[12]'(by omega)).toNat : Int) != 124) = false := by rw [ok2]; rfl
          have hS := veil (fun (x : ByteArray) (hx : x.size ≤ 140737488351232) W => codeSum_any x W hx)
          have hrs : (s.extract 13 s.size).size = s.size - 13 := by rw [ByteArray.size_extract]; omega
          clear HT hb12
          by_cases hlen : (s.size : Int) - 13 ≤ n
          · have hT' := veil (show takeF s = (nothing, 0, 21) by rw [hT.out]; unfold restT; rw [if_pos (by rw [hrs]; omega)])
            clear hrs hT
            go_enter Tryd.func12, Tryd.ntmps12
            go_wp2_with fail
            refine H1.out.mono ?_
            rintro e w1 ⟨rfl, hb⟩
            go_wp2_with fail
            refine (H2.out _ (HL.out.below hb)).mono ?_
            rintro e w2 ⟨rfl, hb2⟩
            go_wp2
            go_ret3
            exact ⟨by rw [hT'.out]; rfl, hb.trans (hb2.mono hb.size)⟩
          · have hn1 : (n : Int) < (s.size : Int) - 13 := by omega
            have hlt : n < (s.extract 13 s.size).size := by rw [hrs]; omega
            have hnl : ¬ (((s.extract 13 s.size).size : Int) ≤ (n : Int)) := by rw [hrs]; omega
            have hnz : ((n : Int).toNat) = n := by omega
            have hbn : bt (s.extract 13 s.size) (n : Int) = (((s.extract 13 s.size)[n]'hlt).toNat : Int) := by rw [← bt_at _ (n : Int) (by rw [hrs]; omega)]; rfl
            by_cases hend : bt (s.extract 13 s.size) (n : Int) = 10
            · have hS2 := veil (hS.out ((s.extract 13 s.size).extract 0 n) (by rw [ByteArray.size_extract]; omega))
              by_cases hsum : ((crcSum ((s.extract 13 s.size).extract 0 n).data.toList : Nat) : Int) = (c : Int)
              · have hT' := veil (show takeF s = ((s.extract 13 s.size).extract 0 n, 13 + (n : Int) + 1, 0) by rw [hT.out]; unfold restT; rw [if_neg hnl, if_neg (by rw [hend]; simp), hnz, if_neg (by rw [hsum]; simp)])
                rw [hbn] at hend
                have hend' : ((((s.extract 13 s.size)[n]'hlt).toNat : Int) != 10) = false := by rw [hend]; rfl
                have hsum' : ((((crcSum ((s.extract 13 s.size).extract 0 n).data.toList : Nat) : Int)) != (c : Int)) = false := by rw [hsum]; simp
                clear hT hS hnl hnz hbn hlen hsum
                go_enter Tryd.func12, Tryd.ntmps12
                go_wp2_with fail
                refine H1.out.mono ?_
                rintro e w1 ⟨rfl, hb⟩
                go_wp2_with fail
                refine (H2.out _ (HL.out.below hb)).mono ?_
                rintro e w2 ⟨rfl, hb2⟩
                go_wp2_with fail
                refine (hS2.out _).mono ?_
                rintro e w3 ⟨rfl, hb3⟩
                generalize ((crcSum ((s.extract 13 s.size).extract 0 n).data.toList : Nat) : Int) = z at *
                go_wp2
                go_ret3
                exact ⟨by rw [hT'.out]; rfl, (hb.trans (hb2.mono hb.size)).trans (hb3.mono (Nat.le_trans hb.size hb2.size))⟩
              · have hT' := veil (show takeF s = (nothing, 0, 41) by rw [hT.out]; unfold restT; rw [if_neg hnl, if_neg (by rw [hend]; simp), hnz, if_pos hsum])
                rw [hbn] at hend
                have hend' : ((((s.extract 13 s.size)[n]'hlt).toNat : Int) != 10) = false := by rw [hend]; rfl
                have hsum' : ((((crcSum ((s.extract 13 s.size).extract 0 n).data.toList : Nat) : Int)) != (c : Int)) = true := by simpa using hsum
                clear hT hS hnl hnz hbn hlen hsum
                go_enter Tryd.func12, Tryd.ntmps12
                go_wp2_with fail
                refine H1.out.mono ?_
                rintro e w1 ⟨rfl, hb⟩
                go_wp2_with fail
                refine (H2.out _ (HL.out.below hb)).mono ?_
                rintro e w2 ⟨rfl, hb2⟩
                go_wp2_with fail
                refine (hS2.out _).mono ?_
                rintro e w3 ⟨rfl, hb3⟩
                generalize ((crcSum ((s.extract 13 s.size).extract 0 n).data.toList : Nat) : Int) = z at *
                go_wp2
                go_ret3
                exact ⟨by rw [hT'.out]; rfl, (hb.trans (hb2.mono hb.size)).trans (hb3.mono (Nat.le_trans hb.size hb2.size))⟩
            · have hT' := veil (show takeF s = (nothing, 0, 40) by rw [hT.out]; unfold restT; rw [if_neg hnl, if_pos hend])
              rw [hbn] at hend
              have hend' : ((((s.extract 13 s.size)[n]'hlt).toNat : Int) != 10) = true := by simpa using hend
              clear hT hS hnl hnz hbn hlen hend
              go_enter Tryd.func12, Tryd.ntmps12
              go_wp2_with fail
              refine H1.out.mono ?_
              rintro e w1 ⟨rfl, hb⟩
              go_wp2_with fail
              refine (H2.out _ (HL.out.below hb)).mono ?_
              rintro e w2 ⟨rfl, hb2⟩
              go_wp2
              go_ret3
              exact ⟨by rw [hT'.out]; rfl, hb.trans (hb2.mono hb.size)⟩
        · have hT := veil (show takeF s = (nothing, 0, 40) by rw [HT.out, if_neg (fun h => hok ⟨h.2.2.1, h.2.2.2⟩)])
          rw [hb12] at hok
          clear HT hb12
          by_cases h1 : (n : Int) ≤ 262144
          · have h2 : (((s[12]'(by omega)).toNat : Int) != 124) = true := by rw [bne_iff_ne]; exact fun h => hok ⟨h1, h⟩
            clear hok
            go_enter Tryd.func12, Tryd.ntmps12
            go_wp2_with fail
            refine H1.out.mono ?_
            rintro e w1 ⟨rfl, hb⟩
            go_wp2_with fail
            refine (H2.out _ (HL.out.below hb)).mono ?_
            rintro e w2 ⟨rfl, hb2⟩
            go_wp2
            go_ret3
            exact ⟨by rw [hT.out]; rfl, hb.trans (hb2.mono hb.size)⟩
          · have h1' : 262144 < (n : Int) := by omega
            clear hok h1
            go_enter Tryd.func12, Tryd.ntmps12
            go_wp2_with fail
            refine H1.out.mono ?_
            rintro e w1 ⟨rfl, hb⟩
            go_wp2_with fail
            refine (H2.out _ (HL.out.below hb)).mono ?_
            rintro e w2 ⟨rfl, hb2⟩
            go_wp2
            go_ret3
            exact ⟨by rw [hT.out]; rfl, hb.trans (hb2.mono hb.size)⟩

def frame_Take.f (s : ByteArray) : Option (ByteArray × Int × Int) := if s.size ≤ 140737488351232 then some (takeF s) else none
theorem frame_Take.calls (a0 : ByteArray) (r1 : ByteArray) (r2 : Int) (r3 : Int) (w : World) (hL : LaidW w) (h : frame_Take.f a0 = some (r1, r2, r3)) :
    Calls Tryd.prog 12 #[.string a0] w fun e w' => e = .returned (.tuple #[.string r1, .int .i64 r2, .int .i64 r3]) ∧ Below w.heap.size w w' := by
  unfold frame_Take.f at h
  split at h
  · rename_i hr
    have e := Option.some.inj h
    have c := take_calls a0 hr w hL
    rw [e] at c
    exact c
  · cases h
end Go.Proofs.YtifbpchakoljaaaDoor.Giv
