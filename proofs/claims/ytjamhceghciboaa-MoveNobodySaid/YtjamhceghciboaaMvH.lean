/- The walks: what a move hears; that it is given up. -/
import Derived.Test.YtjamhceghciboaaMvSays
namespace Go.Proofs.Ytjamhceghciboaa
open Go.RowKit

/-- a message, whatever else it bears -/
def msgAny (k s n ver : Int) (t : ByteArray) (v2 v3 v4 v7 v8 v9 v10 v11 v12 v13 v14 : Value) : Array Value :=
  #[.int .i64 k, .int .i64 s, v2, v3, v4, .int .i64 n, .int .i64 ver, v7, v8, v9, v10, v11, v12, v13, v14, .string t]

def MoveS.takes (m : MoveS) (fr s n : Int) : Bool := m.saysOk && (decide (fr = m.saysTo) && (decide (s = m.sh) && decide (n = m.num)))
def MoveS.hears (m : MoveS) (fr k s n ver : Int) (t : ByteArray) : MoveS × Bool :=
  if m.takes fr s n = false then (m, false)
  else if k = 19 ∧ m.ph ≤ 4 ∧ ver = m.saysKind then ({ m with ph := 7 }, true)
  else if k ≠ m.saysKind + 1 then (m, false)
  else if m.ph = 1 then ({ m with ver := ver, txt := t, ph := 2 }, true)
  else if m.ph = 3 then ({ m with txt := t, ph := 4 }, true)
  else ({ m with ph := m.ph + 1 }, true)

theorem saysMsg_ok {m : MoveS} (h : m.saysOk = true) : ∃ ep v t, m.saysMsg = msgOf m.saysKind m.sh ep m.num v t := by
  unfold MoveS.saysMsg; rw [if_pos h]; exact ⟨_, _, _, rfl⟩
theorem saysMsg_no {m : MoveS} (h : m.saysOk = false) : m.saysMsg = msgOf 0 0 0 0 0 ⟨#[]⟩ := by
  unfold MoveS.saysMsg; rw [if_neg (by rw [h]; decide)]

set_option maxHeartbeats 1000000 in
theorem hears_deaf (b : Nat) (m : MoveS) (w : World) (h : MoveAt w b m) (fr k s n ver : Int) (t : ByteArray) (v2 v3 v4 v7 v8 v9 v10 v11 v12 v13 v14 : Value) (ht : m.takes fr s n = false) :
    Calls Try.prog 15 #[.pointer (some ⟨b, 0, none⟩), .int .i64 fr, .agg (msgAny k s n ver t v2 v3 v4 v7 v8 v9 v10 v11 v12 v13 v14)] w fun e w' => e = .returned (.bool false) ∧ Below w.heap.size w w' := by
  have H : Veil (MoveAt (w.alloc (.cells (msgAny k s n ver t v2 v3 v4 v7 v8 v9 v10 v11 v12 v13 v14) 42)) b m) := veil (h.alloc _)
  have X : Veil (Blk (w.alloc (.cells (msgAny k s n ver t v2 v3 v4 v7 v8 v9 v10 v11 v12 v13 v14) 42)) w.heap.size (msgAny k s n ver t v2 v3 v4 v7 v8 v9 v10 v11 v12 v13 v14) 42) := veil (Blk.new _ _ _)
  clear h
  by_cases hok : m.saysOk = true
  · obtain ⟨ep, sv, st, hmsg⟩ := saysMsg_ok hok
    by_cases c1 : fr = m.saysTo
    · have c1' : (fr != m.saysTo) = false := by simp [c1]
      by_cases c2 : s = m.sh
      · have c2' : (s != m.sh) = false := by simp [c2]
        have c3 : ¬ n = m.num := fun c3 => by simp [MoveS.takes, hok, c1, c2, c3] at ht
        have c3' : (n != m.num) = true := by simp [c3]
        have Hm := veil hmsg
        have Hok := veil hok
        clear ht c1 c2 c3 hmsg hok
        go_enter Try.func15, Try.ntmps15
        go_wp2_with fail
        refine (says_any b m _ H.out).mono ?_
        rintro e w1 ⟨rfl, hb1⟩
        have X1 := X.out.below hb1 X.out.lt
        have hsz := hb1.size
        have HB : Veil (Below w.heap.size w w1) := veil (((Below.refl _ _).alloc (Nat.le_refl _) _).trans (hb1.mono (by simp)))
        simp only [World.size_alloc] at hsz
        have x1 : ∀ o, (w1.alloc o).cell? ⟨w.heap.size, 1, none⟩ = some (.int .i64 s) := fun o => (X1.alloc o).cell 1
        have x5 : ∀ o, (w1.alloc o).cell? ⟨w.heap.size, 5, none⟩ = some (.int .i64 n) := fun o => (X1.alloc o).cell 5
        have hne : ¬ w.heap.size = w1.heap.size := by omega
        clear hb1 X1
        rw [Hm.out, Hok.out]
        unfold msgOf
        go_wp2
        go_ret
        exact ⟨rfl, HB.out.alloc HB.out.size _⟩
      · have c2' : (s != m.sh) = true := by simp [c2]
        have Hm := veil hmsg
        have Hok := veil hok
        clear ht c1 c2 hmsg hok
        go_enter Try.func15, Try.ntmps15
        go_wp2_with fail
        refine (says_any b m _ H.out).mono ?_
        rintro e w1 ⟨rfl, hb1⟩
        have X1 := X.out.below hb1 X.out.lt
        have hsz := hb1.size
        have HB : Veil (Below w.heap.size w w1) := veil (((Below.refl _ _).alloc (Nat.le_refl _) _).trans (hb1.mono (by simp)))
        simp only [World.size_alloc] at hsz
        have x1 : ∀ o, (w1.alloc o).cell? ⟨w.heap.size, 1, none⟩ = some (.int .i64 s) := fun o => (X1.alloc o).cell 1
        have hne : ¬ w.heap.size = w1.heap.size := by omega
        clear hb1 X1
        rw [Hm.out, Hok.out]
        unfold msgOf
        go_wp2
        go_ret
        exact ⟨rfl, HB.out.alloc HB.out.size _⟩
    · have c1' : (fr != m.saysTo) = true := by simp [c1]
      have Hm := veil hmsg
      have Hok := veil hok
      clear ht c1 hmsg hok
      go_enter Try.func15, Try.ntmps15
      go_wp2_with fail
      refine (says_any b m _ H.out).mono ?_
      rintro e w1 ⟨rfl, hb1⟩
      have HB : Veil (Below w.heap.size w w1) := veil (((Below.refl _ _).alloc (Nat.le_refl _) _).trans (hb1.mono (by simp)))
      clear hb1
      rw [Hm.out, Hok.out]
      unfold msgOf
      go_wp2
      go_ret
      exact ⟨rfl, HB.out.alloc HB.out.size _⟩
  · have Hok : Veil (m.saysOk = false) := veil (by simpa using hok)
    have Hm := veil (saysMsg_no Hok.out)
    clear ht hok
    go_enter Try.func15, Try.ntmps15
    go_wp2_with fail
    refine (says_any b m _ H.out).mono ?_
    rintro e w1 ⟨rfl, hb1⟩
    have HB : Veil (Below w.heap.size w w1) := veil (((Below.refl _ _).alloc (Nat.le_refl _) _).trans (hb1.mono (by simp)))
    clear hb1
    rw [Hm.out, Hok.out]
    unfold msgOf
    go_wp2
    go_ret
    exact ⟨rfl, HB.out.alloc HB.out.size _⟩
end Go.Proofs.Ytjamhceghciboaa
