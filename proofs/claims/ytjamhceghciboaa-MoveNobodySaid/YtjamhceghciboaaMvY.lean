/- The walks: what a move hears, and goes on by. -/
import Derived.Test.YtjamhceghciboaaMvH
namespace Go.Proofs.Ytjamhceghciboaa
open Go.RowKit

theorem takes_spec {m : MoveS} {fr s n : Int} (h : m.takes fr s n = true) : m.saysOk = true ∧ fr = m.saysTo ∧ s = m.sh ∧ n = m.num := by
  simpa [MoveS.takes] using h
theorem saysKind_bd (m : MoveS) : 0 ≤ m.saysKind ∧ m.saysKind ≤ 17 := by
  unfold MoveS.saysKind; repeat' split
  all_goals omega
theorem grown_alloc {w w1 : World} (h : Below w.heap.size w w1) (o : Obj) (row : Option Nat) : w.grownBy (w1.alloc o) row :=
  ⟨h.os, h.tape, h.output, by have := h.size; simp; omega, fun k hk _ => by rw [Below.heap_alloc _ _ _ (by have := h.size; omega)]; exact h.block k hk⟩
theorem grown_set {w w1 : World} {b : Nat} (h : w.grownBy w1 (some b)) (i : Nat) (v : Value) : w.grownBy (w1.setCell ⟨b, i, none⟩ v) (some b) :=
  ⟨h.os, h.tape, h.output, by have := h.size; simpa [World.setCell] using this, fun k hk hne => by rw [Below.heap_setCell _ _ _ _ (fun e => hne (by rw [e]))]; exact h.block k hk hne⟩
theorem move_ph {w : World} {b : Nat} {m : MoveS} (h : MoveAt w b m) (p : Int) : MoveAt (w.setCell ⟨b, 5, none⟩ (.int .i64 p)) b { m with ph := p } := h.set 5 (.int .i64 p)
theorem move_ver {w : World} {b : Nat} {m : MoveS} (h : MoveAt w b m) (p : Int) : MoveAt (w.setCell ⟨b, 6, none⟩ (.int .i64 p)) b { m with ver := p } := h.set 6 (.int .i64 p)
theorem move_txt {w : World} {b : Nat} {m : MoveS} (h : MoveAt w b m) (p : ByteArray) : MoveAt (w.setCell ⟨b, 7, none⟩ (.string p)) b { m with txt := p } := h.set 7 (.string p)
theorem saysOk_bd {m : MoveS} (h : m.saysOk = true) : 0 ≤ m.ph ∧ m.ph ≤ 8 := by
  simp [MoveS.saysOk] at h; omega

set_option maxHeartbeats 1000000 in
theorem hears_moved (b : Nat) (m : MoveS) (w : World) (h : MoveAt w b m) (fr k s n ver : Int) (t : ByteArray) (v2 v3 v4 v7 v8 v9 v10 v11 v12 v13 v14 : Value) (ht : m.takes fr s n = true) (hk : k = 19) (hp : m.ph ≤ 4) (hv : ver = m.saysKind) :
    Calls Try.prog 15 #[.pointer (some ⟨b, 0, none⟩), .int .i64 fr, .agg (msgAny k s n ver t v2 v3 v4 v7 v8 v9 v10 v11 v12 v13 v14)] w fun e w' => e = .returned (.bool true) ∧ MoveAt w' b { m with ph := 7 } ∧ w.grownBy w' (some b) := by
  have hltb := h.lt
  have H : Veil (MoveAt (w.alloc (.cells (msgAny k s n ver t v2 v3 v4 v7 v8 v9 v10 v11 v12 v13 v14) 42)) b m) := veil (h.alloc _)
  have X : Veil (Blk (w.alloc (.cells (msgAny k s n ver t v2 v3 v4 v7 v8 v9 v10 v11 v12 v13 v14) 42)) w.heap.size (msgAny k s n ver t v2 v3 v4 v7 v8 v9 v10 v11 v12 v13 v14) 42) := veil (Blk.new _ _ _)
  obtain ⟨hok, c1, c2, c3⟩ := takes_spec ht
  obtain ⟨ep, sv, st, hmsg⟩ := saysMsg_ok hok
  have c1' : (fr != m.saysTo) = false := by simp [c1]
  have c2' : (s != m.sh) = false := by simp [c2]
  have c3' : (n != m.num) = false := by simp [c3]
  have kb := saysKind_bd m
  obtain ⟨kb0, kb1⟩ := kb
  have q1 : (k == 19) = true := by simp [hk]
  have q2 : (ver == m.saysKind) = true := by simp [hv]
  have Hm := veil hmsg
  have Hok := veil hok
  clear h ht c1 c2 c3 hmsg hok hk hv
  go_enter Try.func15, Try.ntmps15
  go_wp2_with fail
  refine (says_any b m _ H.out).mono ?_
  rintro e w1 ⟨rfl, hb1⟩
  have X1 := X.out.below hb1 X.out.lt
  have M1 := H.out.below hb1 H.out.lt
  have hsz := hb1.size
  have HB : Veil (Below w.heap.size w w1) := veil (((Below.refl _ _).alloc (Nat.le_refl _) _).trans (hb1.mono (by simp)))
  simp only [World.size_alloc] at hsz
  have x0 : ∀ o, (w1.alloc o).cell? ⟨w.heap.size, 0, none⟩ = some (.int .i64 k) := fun o => (X1.alloc o).cell 0
  have x1 : ∀ o, (w1.alloc o).cell? ⟨w.heap.size, 1, none⟩ = some (.int .i64 s) := fun o => (X1.alloc o).cell 1
  have x5 : ∀ o, (w1.alloc o).cell? ⟨w.heap.size, 5, none⟩ = some (.int .i64 n) := fun o => (X1.alloc o).cell 5
  have x6 : ∀ o, (w1.alloc o).cell? ⟨w.heap.size, 6, none⟩ = some (.int .i64 ver) := fun o => (X1.alloc o).cell 6
  have x15 : ∀ o, (w1.alloc o).cell? ⟨w.heap.size, 15, none⟩ = some (.string t) := fun o => (X1.alloc o).cell 15
  have m5 : ∀ o, (w1.alloc o).cell? ⟨b, 5, none⟩ = some (.int .i64 m.ph) := fun o => (M1.alloc o).cell 5
  have m6 : ∀ o, (w1.alloc o).cell? ⟨b, 6, none⟩ = some (.int .i64 m.ver) := fun o => (M1.alloc o).cell 6
  have m7 : ∀ o, (w1.alloc o).cell? ⟨b, 7, none⟩ = some (.string m.txt) := fun o => (M1.alloc o).cell 7
  have f5 : ∀ o, (w1.alloc o).frozen? ⟨b, 5, none⟩ = false := fun o => (M1.alloc o).free 5
  have f6 : ∀ o, (w1.alloc o).frozen? ⟨b, 6, none⟩ = false := fun o => (M1.alloc o).free 6
  have f7 : ∀ o, (w1.alloc o).frozen? ⟨b, 7, none⟩ = false := fun o => (M1.alloc o).free 7
  have hne : ¬ b = w.heap.size := by omega
  have hne2 : ¬ w.heap.size = b := by omega
  have MM : Veil (MoveAt w1 b m) := veil M1
  clear hb1 X1 M1
  rw [Hm.out, Hok.out]
  unfold msgOf
  go_wp2
  go_ret
  exact ⟨rfl, move_ph (Blk.alloc MM.out _) 7, grown_set (grown_alloc HB.out _ _) _ _⟩

set_option maxHeartbeats 1000000 in
theorem hears_odd1 (b : Nat) (m : MoveS) (w : World) (h : MoveAt w b m) (fr k s n ver : Int) (t : ByteArray) (v2 v3 v4 v7 v8 v9 v10 v11 v12 v13 v14 : Value) (ht : m.takes fr s n = true) (hk : k ≠ 19) (hn : k ≠ m.saysKind + 1) :
    Calls Try.prog 15 #[.pointer (some ⟨b, 0, none⟩), .int .i64 fr, .agg (msgAny k s n ver t v2 v3 v4 v7 v8 v9 v10 v11 v12 v13 v14)] w fun e w' => e = .returned (.bool false) ∧ MoveAt w' b m ∧ w.grownBy w' (some b) := by
  have hltb := h.lt
  have H : Veil (MoveAt (w.alloc (.cells (msgAny k s n ver t v2 v3 v4 v7 v8 v9 v10 v11 v12 v13 v14) 42)) b m) := veil (h.alloc _)
  have X : Veil (Blk (w.alloc (.cells (msgAny k s n ver t v2 v3 v4 v7 v8 v9 v10 v11 v12 v13 v14) 42)) w.heap.size (msgAny k s n ver t v2 v3 v4 v7 v8 v9 v10 v11 v12 v13 v14) 42) := veil (Blk.new _ _ _)
  obtain ⟨hok, c1, c2, c3⟩ := takes_spec ht
  obtain ⟨ep, sv, st, hmsg⟩ := saysMsg_ok hok
  have c1' : (fr != m.saysTo) = false := by simp [c1]
  have c2' : (s != m.sh) = false := by simp [c2]
  have c3' : (n != m.num) = false := by simp [c3]
  have kb := saysKind_bd m
  obtain ⟨kb0, kb1⟩ := kb
  have q1 : (k == 19) = false := beq_eq_false_iff_ne.2 hk
  have q3 : (k != m.saysKind + 1) = true := by rw [bne_iff_ne]; exact hn
  have Hm := veil hmsg
  have Hok := veil hok
  clear h ht c1 c2 c3 hmsg hok hk hn
  go_enter Try.func15, Try.ntmps15
  go_wp2_with fail
  refine (says_any b m _ H.out).mono ?_
  rintro e w1 ⟨rfl, hb1⟩
  have X1 := X.out.below hb1 X.out.lt
  have M1 := H.out.below hb1 H.out.lt
  have hsz := hb1.size
  have HB : Veil (Below w.heap.size w w1) := veil (((Below.refl _ _).alloc (Nat.le_refl _) _).trans (hb1.mono (by simp)))
  simp only [World.size_alloc] at hsz
  have x0 : ∀ o, (w1.alloc o).cell? ⟨w.heap.size, 0, none⟩ = some (.int .i64 k) := fun o => (X1.alloc o).cell 0
  have x1 : ∀ o, (w1.alloc o).cell? ⟨w.heap.size, 1, none⟩ = some (.int .i64 s) := fun o => (X1.alloc o).cell 1
  have x5 : ∀ o, (w1.alloc o).cell? ⟨w.heap.size, 5, none⟩ = some (.int .i64 n) := fun o => (X1.alloc o).cell 5
  have x6 : ∀ o, (w1.alloc o).cell? ⟨w.heap.size, 6, none⟩ = some (.int .i64 ver) := fun o => (X1.alloc o).cell 6
  have x15 : ∀ o, (w1.alloc o).cell? ⟨w.heap.size, 15, none⟩ = some (.string t) := fun o => (X1.alloc o).cell 15
  have m5 : ∀ o, (w1.alloc o).cell? ⟨b, 5, none⟩ = some (.int .i64 m.ph) := fun o => (M1.alloc o).cell 5
  have m6 : ∀ o, (w1.alloc o).cell? ⟨b, 6, none⟩ = some (.int .i64 m.ver) := fun o => (M1.alloc o).cell 6
  have m7 : ∀ o, (w1.alloc o).cell? ⟨b, 7, none⟩ = some (.string m.txt) := fun o => (M1.alloc o).cell 7
  have f5 : ∀ o, (w1.alloc o).frozen? ⟨b, 5, none⟩ = false := fun o => (M1.alloc o).free 5
  have f6 : ∀ o, (w1.alloc o).frozen? ⟨b, 6, none⟩ = false := fun o => (M1.alloc o).free 6
  have f7 : ∀ o, (w1.alloc o).frozen? ⟨b, 7, none⟩ = false := fun o => (M1.alloc o).free 7
  have hne : ¬ b = w.heap.size := by omega
  have hne2 : ¬ w.heap.size = b := by omega
  have MM : Veil (MoveAt w1 b m) := veil M1
  clear hb1 X1 M1
  rw [Hm.out, Hok.out]
  unfold msgOf
  go_wp2
  go_ret
  exact ⟨rfl, Blk.alloc MM.out _, grown_alloc HB.out _ _⟩

set_option maxHeartbeats 1000000 in
theorem hears_odd2 (b : Nat) (m : MoveS) (w : World) (h : MoveAt w b m) (fr k s n ver : Int) (t : ByteArray) (v2 v3 v4 v7 v8 v9 v10 v11 v12 v13 v14 : Value) (ht : m.takes fr s n = true) (hk : k = 19) (hp : 4 < m.ph) :
    Calls Try.prog 15 #[.pointer (some ⟨b, 0, none⟩), .int .i64 fr, .agg (msgAny k s n ver t v2 v3 v4 v7 v8 v9 v10 v11 v12 v13 v14)] w fun e w' => e = .returned (.bool false) ∧ MoveAt w' b m ∧ w.grownBy w' (some b) := by
  have hltb := h.lt
  have H : Veil (MoveAt (w.alloc (.cells (msgAny k s n ver t v2 v3 v4 v7 v8 v9 v10 v11 v12 v13 v14) 42)) b m) := veil (h.alloc _)
  have X : Veil (Blk (w.alloc (.cells (msgAny k s n ver t v2 v3 v4 v7 v8 v9 v10 v11 v12 v13 v14) 42)) w.heap.size (msgAny k s n ver t v2 v3 v4 v7 v8 v9 v10 v11 v12 v13 v14) 42) := veil (Blk.new _ _ _)
  obtain ⟨hok, c1, c2, c3⟩ := takes_spec ht
  obtain ⟨ep, sv, st, hmsg⟩ := saysMsg_ok hok
  have c1' : (fr != m.saysTo) = false := by simp [c1]
  have c2' : (s != m.sh) = false := by simp [c2]
  have c3' : (n != m.num) = false := by simp [c3]
  have kb := saysKind_bd m
  obtain ⟨kb0, kb1⟩ := kb
  have q1 : (k == 19) = true := by simp [hk]
  have q3 : (k != m.saysKind + 1) = true := by rw [bne_iff_ne]; omega
  have Hm := veil hmsg
  have Hok := veil hok
  clear h ht c1 c2 c3 hmsg hok hk
  go_enter Try.func15, Try.ntmps15
  go_wp2_with fail
  refine (says_any b m _ H.out).mono ?_
  rintro e w1 ⟨rfl, hb1⟩
  have X1 := X.out.below hb1 X.out.lt
  have M1 := H.out.below hb1 H.out.lt
  have hsz := hb1.size
  have HB : Veil (Below w.heap.size w w1) := veil (((Below.refl _ _).alloc (Nat.le_refl _) _).trans (hb1.mono (by simp)))
  simp only [World.size_alloc] at hsz
  have x0 : ∀ o, (w1.alloc o).cell? ⟨w.heap.size, 0, none⟩ = some (.int .i64 k) := fun o => (X1.alloc o).cell 0
  have x1 : ∀ o, (w1.alloc o).cell? ⟨w.heap.size, 1, none⟩ = some (.int .i64 s) := fun o => (X1.alloc o).cell 1
  have x5 : ∀ o, (w1.alloc o).cell? ⟨w.heap.size, 5, none⟩ = some (.int .i64 n) := fun o => (X1.alloc o).cell 5
  have x6 : ∀ o, (w1.alloc o).cell? ⟨w.heap.size, 6, none⟩ = some (.int .i64 ver) := fun o => (X1.alloc o).cell 6
  have x15 : ∀ o, (w1.alloc o).cell? ⟨w.heap.size, 15, none⟩ = some (.string t) := fun o => (X1.alloc o).cell 15
  have m5 : ∀ o, (w1.alloc o).cell? ⟨b, 5, none⟩ = some (.int .i64 m.ph) := fun o => (M1.alloc o).cell 5
  have m6 : ∀ o, (w1.alloc o).cell? ⟨b, 6, none⟩ = some (.int .i64 m.ver) := fun o => (M1.alloc o).cell 6
  have m7 : ∀ o, (w1.alloc o).cell? ⟨b, 7, none⟩ = some (.string m.txt) := fun o => (M1.alloc o).cell 7
  have f5 : ∀ o, (w1.alloc o).frozen? ⟨b, 5, none⟩ = false := fun o => (M1.alloc o).free 5
  have f6 : ∀ o, (w1.alloc o).frozen? ⟨b, 6, none⟩ = false := fun o => (M1.alloc o).free 6
  have f7 : ∀ o, (w1.alloc o).frozen? ⟨b, 7, none⟩ = false := fun o => (M1.alloc o).free 7
  have hne : ¬ b = w.heap.size := by omega
  have hne2 : ¬ w.heap.size = b := by omega
  have MM : Veil (MoveAt w1 b m) := veil M1
  clear hb1 X1 M1
  rw [Hm.out, Hok.out]
  unfold msgOf
  go_wp2
  go_ret
  exact ⟨rfl, Blk.alloc MM.out _, grown_alloc HB.out _ _⟩

set_option maxHeartbeats 1000000 in
theorem hears_odd3 (b : Nat) (m : MoveS) (w : World) (h : MoveAt w b m) (fr k s n ver : Int) (t : ByteArray) (v2 v3 v4 v7 v8 v9 v10 v11 v12 v13 v14 : Value) (ht : m.takes fr s n = true) (hk : k = 19) (hp : m.ph ≤ 4) (hv : ver ≠ m.saysKind) :
    Calls Try.prog 15 #[.pointer (some ⟨b, 0, none⟩), .int .i64 fr, .agg (msgAny k s n ver t v2 v3 v4 v7 v8 v9 v10 v11 v12 v13 v14)] w fun e w' => e = .returned (.bool false) ∧ MoveAt w' b m ∧ w.grownBy w' (some b) := by
  have hltb := h.lt
  have H : Veil (MoveAt (w.alloc (.cells (msgAny k s n ver t v2 v3 v4 v7 v8 v9 v10 v11 v12 v13 v14) 42)) b m) := veil (h.alloc _)
  have X : Veil (Blk (w.alloc (.cells (msgAny k s n ver t v2 v3 v4 v7 v8 v9 v10 v11 v12 v13 v14) 42)) w.heap.size (msgAny k s n ver t v2 v3 v4 v7 v8 v9 v10 v11 v12 v13 v14) 42) := veil (Blk.new _ _ _)
  obtain ⟨hok, c1, c2, c3⟩ := takes_spec ht
  obtain ⟨ep, sv, st, hmsg⟩ := saysMsg_ok hok
  have c1' : (fr != m.saysTo) = false := by simp [c1]
  have c2' : (s != m.sh) = false := by simp [c2]
  have c3' : (n != m.num) = false := by simp [c3]
  have kb := saysKind_bd m
  obtain ⟨kb0, kb1⟩ := kb
  have q1 : (k == 19) = true := by simp [hk]
  have q2 : (ver == m.saysKind) = false := beq_eq_false_iff_ne.2 hv
  have q3 : (k != m.saysKind + 1) = true := by rw [bne_iff_ne]; omega
  have Hm := veil hmsg
  have Hok := veil hok
  clear h ht c1 c2 c3 hmsg hok hk hv
  go_enter Try.func15, Try.ntmps15
  go_wp2_with fail
  refine (says_any b m _ H.out).mono ?_
  rintro e w1 ⟨rfl, hb1⟩
  have X1 := X.out.below hb1 X.out.lt
  have M1 := H.out.below hb1 H.out.lt
  have hsz := hb1.size
  have HB : Veil (Below w.heap.size w w1) := veil (((Below.refl _ _).alloc (Nat.le_refl _) _).trans (hb1.mono (by simp)))
  simp only [World.size_alloc] at hsz
  have x0 : ∀ o, (w1.alloc o).cell? ⟨w.heap.size, 0, none⟩ = some (.int .i64 k) := fun o => (X1.alloc o).cell 0
  have x1 : ∀ o, (w1.alloc o).cell? ⟨w.heap.size, 1, none⟩ = some (.int .i64 s) := fun o => (X1.alloc o).cell 1
  have x5 : ∀ o, (w1.alloc o).cell? ⟨w.heap.size, 5, none⟩ = some (.int .i64 n) := fun o => (X1.alloc o).cell 5
  have x6 : ∀ o, (w1.alloc o).cell? ⟨w.heap.size, 6, none⟩ = some (.int .i64 ver) := fun o => (X1.alloc o).cell 6
  have x15 : ∀ o, (w1.alloc o).cell? ⟨w.heap.size, 15, none⟩ = some (.string t) := fun o => (X1.alloc o).cell 15
  have m5 : ∀ o, (w1.alloc o).cell? ⟨b, 5, none⟩ = some (.int .i64 m.ph) := fun o => (M1.alloc o).cell 5
  have m6 : ∀ o, (w1.alloc o).cell? ⟨b, 6, none⟩ = some (.int .i64 m.ver) := fun o => (M1.alloc o).cell 6
  have m7 : ∀ o, (w1.alloc o).cell? ⟨b, 7, none⟩ = some (.string m.txt) := fun o => (M1.alloc o).cell 7
  have f5 : ∀ o, (w1.alloc o).frozen? ⟨b, 5, none⟩ = false := fun o => (M1.alloc o).free 5
  have f6 : ∀ o, (w1.alloc o).frozen? ⟨b, 6, none⟩ = false := fun o => (M1.alloc o).free 6
  have f7 : ∀ o, (w1.alloc o).frozen? ⟨b, 7, none⟩ = false := fun o => (M1.alloc o).free 7
  have hne : ¬ b = w.heap.size := by omega
  have hne2 : ¬ w.heap.size = b := by omega
  have MM : Veil (MoveAt w1 b m) := veil M1
  clear hb1 X1 M1
  rw [Hm.out, Hok.out]
  unfold msgOf
  go_wp2
  go_ret
  exact ⟨rfl, Blk.alloc MM.out _, grown_alloc HB.out _ _⟩

set_option maxHeartbeats 1000000 in
theorem hears_1 (b : Nat) (m : MoveS) (w : World) (h : MoveAt w b m) (fr k s n ver : Int) (t : ByteArray) (v2 v3 v4 v7 v8 v9 v10 v11 v12 v13 v14 : Value) (ht : m.takes fr s n = true) (hk : k = m.saysKind + 1) (hp : m.ph = 1) :
    Calls Try.prog 15 #[.pointer (some ⟨b, 0, none⟩), .int .i64 fr, .agg (msgAny k s n ver t v2 v3 v4 v7 v8 v9 v10 v11 v12 v13 v14)] w fun e w' => e = .returned (.bool true) ∧ MoveAt w' b { m with ver := ver, txt := t, ph := 2 } ∧ w.grownBy w' (some b) := by
  have hltb := h.lt
  have H : Veil (MoveAt (w.alloc (.cells (msgAny k s n ver t v2 v3 v4 v7 v8 v9 v10 v11 v12 v13 v14) 42)) b m) := veil (h.alloc _)
  have X : Veil (Blk (w.alloc (.cells (msgAny k s n ver t v2 v3 v4 v7 v8 v9 v10 v11 v12 v13 v14) 42)) w.heap.size (msgAny k s n ver t v2 v3 v4 v7 v8 v9 v10 v11 v12 v13 v14) 42) := veil (Blk.new _ _ _)
  obtain ⟨hok, c1, c2, c3⟩ := takes_spec ht
  obtain ⟨ep, sv, st, hmsg⟩ := saysMsg_ok hok
  have c1' : (fr != m.saysTo) = false := by simp [c1]
  have c2' : (s != m.sh) = false := by simp [c2]
  have c3' : (n != m.num) = false := by simp [c3]
  have kb := saysKind_bd m
  obtain ⟨kb0, kb1⟩ := kb
  have q1 : (k == 19) = false := by rw [beq_eq_false_iff_ne]; omega
  have q3 : (k != m.saysKind + 1) = false := by simp [hk]
  have p1 : (m.ph == 1) = true := by simp [hp]
  have P1 := veil hp
  have pb0 : 0 ≤ m.ph := by omega
  have pb1 : m.ph ≤ 8 := by omega
  have Hm := veil hmsg
  have Hok := veil hok
  clear h ht c1 c2 c3 hmsg hok hk hp
  go_enter Try.func15, Try.ntmps15
  go_wp2_with fail
  refine (says_any b m _ H.out).mono ?_
  rintro e w1 ⟨rfl, hb1⟩
  have X1 := X.out.below hb1 X.out.lt
  have M1 := H.out.below hb1 H.out.lt
  have hsz := hb1.size
  have HB : Veil (Below w.heap.size w w1) := veil (((Below.refl _ _).alloc (Nat.le_refl _) _).trans (hb1.mono (by simp)))
  simp only [World.size_alloc] at hsz
  have x0 : ∀ o, (w1.alloc o).cell? ⟨w.heap.size, 0, none⟩ = some (.int .i64 k) := fun o => (X1.alloc o).cell 0
  have x1 : ∀ o, (w1.alloc o).cell? ⟨w.heap.size, 1, none⟩ = some (.int .i64 s) := fun o => (X1.alloc o).cell 1
  have x5 : ∀ o, (w1.alloc o).cell? ⟨w.heap.size, 5, none⟩ = some (.int .i64 n) := fun o => (X1.alloc o).cell 5
  have x6 : ∀ o, (w1.alloc o).cell? ⟨w.heap.size, 6, none⟩ = some (.int .i64 ver) := fun o => (X1.alloc o).cell 6
  have x15 : ∀ o, (w1.alloc o).cell? ⟨w.heap.size, 15, none⟩ = some (.string t) := fun o => (X1.alloc o).cell 15
  have m5 : ∀ o, (w1.alloc o).cell? ⟨b, 5, none⟩ = some (.int .i64 m.ph) := fun o => (M1.alloc o).cell 5
  have m6 : ∀ o, (w1.alloc o).cell? ⟨b, 6, none⟩ = some (.int .i64 m.ver) := fun o => (M1.alloc o).cell 6
  have m7 : ∀ o, (w1.alloc o).cell? ⟨b, 7, none⟩ = some (.string m.txt) := fun o => (M1.alloc o).cell 7
  have f5 : ∀ o, (w1.alloc o).frozen? ⟨b, 5, none⟩ = false := fun o => (M1.alloc o).free 5
  have f6 : ∀ o, (w1.alloc o).frozen? ⟨b, 6, none⟩ = false := fun o => (M1.alloc o).free 6
  have f7 : ∀ o, (w1.alloc o).frozen? ⟨b, 7, none⟩ = false := fun o => (M1.alloc o).free 7
  have hne : ¬ b = w.heap.size := by omega
  have hne2 : ¬ w.heap.size = b := by omega
  have MM : Veil (MoveAt w1 b m) := veil M1
  clear hb1 X1 M1
  rw [Hm.out, Hok.out]
  unfold msgOf
  go_wp2
  go_ret
  exact ⟨rfl, by rw [show m.ph + 1 = 2 by rw [P1.out]; rfl]; exact move_ph (move_txt (move_ver (Blk.alloc MM.out _) ver) t) 2, grown_set (grown_set (grown_set (grown_alloc HB.out _ _) _ _) _ _) _ _⟩

set_option maxHeartbeats 1000000 in
theorem hears_3 (b : Nat) (m : MoveS) (w : World) (h : MoveAt w b m) (fr k s n ver : Int) (t : ByteArray) (v2 v3 v4 v7 v8 v9 v10 v11 v12 v13 v14 : Value) (ht : m.takes fr s n = true) (hk : k = m.saysKind + 1) (hp : m.ph = 3) :
    Calls Try.prog 15 #[.pointer (some ⟨b, 0, none⟩), .int .i64 fr, .agg (msgAny k s n ver t v2 v3 v4 v7 v8 v9 v10 v11 v12 v13 v14)] w fun e w' => e = .returned (.bool true) ∧ MoveAt w' b { m with txt := t, ph := 4 } ∧ w.grownBy w' (some b) := by
  have hltb := h.lt
  have H : Veil (MoveAt (w.alloc (.cells (msgAny k s n ver t v2 v3 v4 v7 v8 v9 v10 v11 v12 v13 v14) 42)) b m) := veil (h.alloc _)
  have X : Veil (Blk (w.alloc (.cells (msgAny k s n ver t v2 v3 v4 v7 v8 v9 v10 v11 v12 v13 v14) 42)) w.heap.size (msgAny k s n ver t v2 v3 v4 v7 v8 v9 v10 v11 v12 v13 v14) 42) := veil (Blk.new _ _ _)
  obtain ⟨hok, c1, c2, c3⟩ := takes_spec ht
  obtain ⟨ep, sv, st, hmsg⟩ := saysMsg_ok hok
  have c1' : (fr != m.saysTo) = false := by simp [c1]
  have c2' : (s != m.sh) = false := by simp [c2]
  have c3' : (n != m.num) = false := by simp [c3]
  have kb := saysKind_bd m
  obtain ⟨kb0, kb1⟩ := kb
  have q1 : (k == 19) = false := by rw [beq_eq_false_iff_ne]; omega
  have q3 : (k != m.saysKind + 1) = false := by simp [hk]
  have p1 : (m.ph == 1) = false := by rw [beq_eq_false_iff_ne]; omega
  have p3 : (m.ph == 3) = true := by simp [hp]
  have P1 := veil hp
  have pb0 : 0 ≤ m.ph := by omega
  have pb1 : m.ph ≤ 8 := by omega
  have Hm := veil hmsg
  have Hok := veil hok
  clear h ht c1 c2 c3 hmsg hok hk hp
  go_enter Try.func15, Try.ntmps15
  go_wp2_with fail
  refine (says_any b m _ H.out).mono ?_
  rintro e w1 ⟨rfl, hb1⟩
  have X1 := X.out.below hb1 X.out.lt
  have M1 := H.out.below hb1 H.out.lt
  have hsz := hb1.size
  have HB : Veil (Below w.heap.size w w1) := veil (((Below.refl _ _).alloc (Nat.le_refl _) _).trans (hb1.mono (by simp)))
  simp only [World.size_alloc] at hsz
  have x0 : ∀ o, (w1.alloc o).cell? ⟨w.heap.size, 0, none⟩ = some (.int .i64 k) := fun o => (X1.alloc o).cell 0
  have x1 : ∀ o, (w1.alloc o).cell? ⟨w.heap.size, 1, none⟩ = some (.int .i64 s) := fun o => (X1.alloc o).cell 1
  have x5 : ∀ o, (w1.alloc o).cell? ⟨w.heap.size, 5, none⟩ = some (.int .i64 n) := fun o => (X1.alloc o).cell 5
  have x6 : ∀ o, (w1.alloc o).cell? ⟨w.heap.size, 6, none⟩ = some (.int .i64 ver) := fun o => (X1.alloc o).cell 6
  have x15 : ∀ o, (w1.alloc o).cell? ⟨w.heap.size, 15, none⟩ = some (.string t) := fun o => (X1.alloc o).cell 15
  have m5 : ∀ o, (w1.alloc o).cell? ⟨b, 5, none⟩ = some (.int .i64 m.ph) := fun o => (M1.alloc o).cell 5
  have m6 : ∀ o, (w1.alloc o).cell? ⟨b, 6, none⟩ = some (.int .i64 m.ver) := fun o => (M1.alloc o).cell 6
  have m7 : ∀ o, (w1.alloc o).cell? ⟨b, 7, none⟩ = some (.string m.txt) := fun o => (M1.alloc o).cell 7
  have f5 : ∀ o, (w1.alloc o).frozen? ⟨b, 5, none⟩ = false := fun o => (M1.alloc o).free 5
  have f6 : ∀ o, (w1.alloc o).frozen? ⟨b, 6, none⟩ = false := fun o => (M1.alloc o).free 6
  have f7 : ∀ o, (w1.alloc o).frozen? ⟨b, 7, none⟩ = false := fun o => (M1.alloc o).free 7
  have hne : ¬ b = w.heap.size := by omega
  have hne2 : ¬ w.heap.size = b := by omega
  have MM : Veil (MoveAt w1 b m) := veil M1
  clear hb1 X1 M1
  rw [Hm.out, Hok.out]
  unfold msgOf
  go_wp2
  go_ret
  exact ⟨rfl, by rw [show m.ph + 1 = 4 by rw [P1.out]; rfl]; exact move_ph (move_txt (Blk.alloc MM.out _) t) 4, grown_set (grown_set (grown_alloc HB.out _ _) _ _) _ _⟩

set_option maxHeartbeats 1000000 in
theorem hears_else (b : Nat) (m : MoveS) (w : World) (h : MoveAt w b m) (fr k s n ver : Int) (t : ByteArray) (v2 v3 v4 v7 v8 v9 v10 v11 v12 v13 v14 : Value) (ht : m.takes fr s n = true) (hk : k = m.saysKind + 1) (hp : m.ph ≠ 1) (hp3 : m.ph ≠ 3) :
    Calls Try.prog 15 #[.pointer (some ⟨b, 0, none⟩), .int .i64 fr, .agg (msgAny k s n ver t v2 v3 v4 v7 v8 v9 v10 v11 v12 v13 v14)] w fun e w' => e = .returned (.bool true) ∧ MoveAt w' b { m with ph := m.ph + 1 } ∧ w.grownBy w' (some b) := by
  have hltb := h.lt
  have H : Veil (MoveAt (w.alloc (.cells (msgAny k s n ver t v2 v3 v4 v7 v8 v9 v10 v11 v12 v13 v14) 42)) b m) := veil (h.alloc _)
  have X : Veil (Blk (w.alloc (.cells (msgAny k s n ver t v2 v3 v4 v7 v8 v9 v10 v11 v12 v13 v14) 42)) w.heap.size (msgAny k s n ver t v2 v3 v4 v7 v8 v9 v10 v11 v12 v13 v14) 42) := veil (Blk.new _ _ _)
  obtain ⟨hok, c1, c2, c3⟩ := takes_spec ht
  obtain ⟨ep, sv, st, hmsg⟩ := saysMsg_ok hok
  have c1' : (fr != m.saysTo) = false := by simp [c1]
  have c2' : (s != m.sh) = false := by simp [c2]
  have c3' : (n != m.num) = false := by simp [c3]
  have kb := saysKind_bd m
  obtain ⟨kb0, kb1⟩ := kb
  have q1 : (k == 19) = false := by rw [beq_eq_false_iff_ne]; omega
  have q3 : (k != m.saysKind + 1) = false := by simp [hk]
  have p1 : (m.ph == 1) = false := by rw [beq_eq_false_iff_ne]; omega
  have p3 : (m.ph == 3) = false := by rw [beq_eq_false_iff_ne]; omega
  have pb := saysOk_bd hok
  obtain ⟨pb0, pb1⟩ := pb
  have Hm := veil hmsg
  have Hok := veil hok
  clear h ht c1 c2 c3 hmsg hok hk hp hp3
  go_enter Try.func15, Try.ntmps15
  go_wp2_with fail
  refine (says_any b m _ H.out).mono ?_
  rintro e w1 ⟨rfl, hb1⟩
  have X1 := X.out.below hb1 X.out.lt
  have M1 := H.out.below hb1 H.out.lt
  have hsz := hb1.size
  have HB : Veil (Below w.heap.size w w1) := veil (((Below.refl _ _).alloc (Nat.le_refl _) _).trans (hb1.mono (by simp)))
  simp only [World.size_alloc] at hsz
  have x0 : ∀ o, (w1.alloc o).cell? ⟨w.heap.size, 0, none⟩ = some (.int .i64 k) := fun o => (X1.alloc o).cell 0
  have x1 : ∀ o, (w1.alloc o).cell? ⟨w.heap.size, 1, none⟩ = some (.int .i64 s) := fun o => (X1.alloc o).cell 1
  have x5 : ∀ o, (w1.alloc o).cell? ⟨w.heap.size, 5, none⟩ = some (.int .i64 n) := fun o => (X1.alloc o).cell 5
  have x6 : ∀ o, (w1.alloc o).cell? ⟨w.heap.size, 6, none⟩ = some (.int .i64 ver) := fun o => (X1.alloc o).cell 6
  have x15 : ∀ o, (w1.alloc o).cell? ⟨w.heap.size, 15, none⟩ = some (.string t) := fun o => (X1.alloc o).cell 15
  have m5 : ∀ o, (w1.alloc o).cell? ⟨b, 5, none⟩ = some (.int .i64 m.ph) := fun o => (M1.alloc o).cell 5
  have m6 : ∀ o, (w1.alloc o).cell? ⟨b, 6, none⟩ = some (.int .i64 m.ver) := fun o => (M1.alloc o).cell 6
  have m7 : ∀ o, (w1.alloc o).cell? ⟨b, 7, none⟩ = some (.string m.txt) := fun o => (M1.alloc o).cell 7
  have f5 : ∀ o, (w1.alloc o).frozen? ⟨b, 5, none⟩ = false := fun o => (M1.alloc o).free 5
  have f6 : ∀ o, (w1.alloc o).frozen? ⟨b, 6, none⟩ = false := fun o => (M1.alloc o).free 6
  have f7 : ∀ o, (w1.alloc o).frozen? ⟨b, 7, none⟩ = false := fun o => (M1.alloc o).free 7
  have hne : ¬ b = w.heap.size := by omega
  have hne2 : ¬ w.heap.size = b := by omega
  have MM : Veil (MoveAt w1 b m) := veil M1
  clear hb1 X1 M1
  rw [Hm.out, Hok.out]
  unfold msgOf
  go_wp2
  go_ret
  exact ⟨rfl, move_ph (Blk.alloc MM.out _) (m.ph + 1), grown_set (grown_alloc HB.out _ _) _ _⟩

theorem hears_any (b : Nat) (m : MoveS) (w : World) (h : MoveAt w b m) (fr k s n ver : Int) (t : ByteArray) (v2 v3 v4 v7 v8 v9 v10 v11 v12 v13 v14 : Value) (m' : MoveS) (ok : Bool) (hh : m.hears fr k s n ver t = (m', ok)) :
    Calls Try.prog 15 #[.pointer (some ⟨b, 0, none⟩), .int .i64 fr, .agg (msgAny k s n ver t v2 v3 v4 v7 v8 v9 v10 v11 v12 v13 v14)] w fun e w' => e = .returned (.bool ok) ∧ MoveAt w' b m' ∧ w.grownBy w' (some b) := by
  unfold MoveS.hears at hh
  by_cases c : m.takes fr s n = false
  · rw [if_pos c] at hh
    obtain ⟨rfl, rfl⟩ := Prod.mk.inj hh
    refine (hears_deaf b m w h fr k s n ver t v2 v3 v4 v7 v8 v9 v10 v11 v12 v13 v14 c).mono fun e w' ⟨he, hb⟩ => ⟨he, h.below hb h.lt, ⟨hb.os, hb.tape, hb.output, hb.size, fun k hk _ => hb.block k hk⟩⟩
  · rw [if_neg c] at hh
    have ct : m.takes fr s n = true := by simpa using c
    by_cases c1 : k = 19 ∧ m.ph ≤ 4 ∧ ver = m.saysKind
    · rw [if_pos c1] at hh
      obtain ⟨rfl, rfl⟩ := Prod.mk.inj hh
      exact hears_moved b m w h fr k s n ver t v2 v3 v4 v7 v8 v9 v10 v11 v12 v13 v14 ct c1.1 c1.2.1 c1.2.2
    · rw [if_neg c1] at hh
      by_cases c2 : k ≠ m.saysKind + 1
      · rw [if_pos c2] at hh
        obtain ⟨rfl, rfl⟩ := Prod.mk.inj hh
        by_cases c3 : k = 19
        · by_cases c4 : m.ph ≤ 4
          · exact hears_odd3 b m w h fr k s n ver t v2 v3 v4 v7 v8 v9 v10 v11 v12 v13 v14 ct c3 c4 (fun e => c1 ⟨c3, c4, e⟩)
          · exact hears_odd2 b m w h fr k s n ver t v2 v3 v4 v7 v8 v9 v10 v11 v12 v13 v14 ct c3 (by omega)
        · exact hears_odd1 b m w h fr k s n ver t v2 v3 v4 v7 v8 v9 v10 v11 v12 v13 v14 ct c3 c2
      · rw [if_neg c2] at hh
        have c2' : k = m.saysKind + 1 := by omega
        by_cases c3 : m.ph = 1
        · rw [if_pos c3] at hh
          obtain ⟨rfl, rfl⟩ := Prod.mk.inj hh
          exact hears_1 b m w h fr k s n ver t v2 v3 v4 v7 v8 v9 v10 v11 v12 v13 v14 ct c2' c3
        · rw [if_neg c3] at hh
          by_cases c4 : m.ph = 3
          · rw [if_pos c4] at hh
            obtain ⟨rfl, rfl⟩ := Prod.mk.inj hh
            exact hears_3 b m w h fr k s n ver t v2 v3 v4 v7 v8 v9 v10 v11 v12 v13 v14 ct c2' c4
          · rw [if_neg c4] at hh
            obtain ⟨rfl, rfl⟩ := Prod.mk.inj hh
            exact hears_else b m w h fr k s n ver t v2 v3 v4 v7 v8 v9 v10 v11 v12 v13 v14 ct c2' c3 c4

/-! IT IS GIVEN UP -/
def MoveS.abort (m : MoveS) : MoveS × Int := if m.ph = 0 then (m, 1) else if m.ph ≤ 3 then ({ m with ph := 7 }, 0) else if m.ph = 4 then (m, 180) else (m, 3)

set_option maxHeartbeats 1000000 in
theorem abort_any (b : Nat) (m : MoveS) (w : World) (h : MoveAt w b m) (m' : MoveS) (c : Int) (hh : m.abort = (m', c)) :
    Calls Try.prog 13 #[.pointer (some ⟨b, 0, none⟩)] w fun e w' => e = .returned (.int .i64 c) ∧ MoveAt w' b m' ∧ w.grownBy w' (some b) := by
  have m5 : w.cell? ⟨b, 5, none⟩ = some (.int .i64 m.ph) := h.cell 5
  have f5 : w.frozen? ⟨b, 5, none⟩ = false := h.free 5
  have M := veil h
  have g0 : w.grownBy w (some b) := ⟨rfl, rfl, rfl, Nat.le_refl _, fun _ _ _ => rfl⟩
  have G0 := veil g0
  clear h g0
  unfold MoveS.abort at hh
  by_cases c0 : m.ph = 0
  · rw [if_pos c0] at hh
    obtain ⟨rfl, rfl⟩ := Prod.mk.inj hh
    have q : (m.ph == 0) = true := by simp [c0]
    clear c0 hh
    go_enter Try.func13, Try.ntmps13
    go_wp2
    go_ret
    exact ⟨rfl, M.out, G0.out⟩
  · rw [if_neg c0] at hh
    have q : (m.ph == 0) = false := beq_eq_false_iff_ne.2 c0
    by_cases c1 : m.ph ≤ 3
    · rw [if_pos c1] at hh
      obtain ⟨rfl, rfl⟩ := Prod.mk.inj hh
      clear c0 hh
      go_enter Try.func13, Try.ntmps13
      go_wp2
      go_ret
      exact ⟨rfl, move_ph M.out 7, grown_set G0.out _ _⟩
    · rw [if_neg c1] at hh
      have c1' : 3 < m.ph := by omega
      by_cases c2 : m.ph = 4
      · rw [if_pos c2] at hh
        obtain ⟨rfl, rfl⟩ := Prod.mk.inj hh
        have q4 : (m.ph == 4) = true := by simp [c2]
        clear c0 hh c2 c1
        go_enter Try.func13, Try.ntmps13
        go_wp2
        go_ret
        exact ⟨rfl, M.out, G0.out⟩
      · rw [if_neg c2] at hh
        obtain ⟨rfl, rfl⟩ := Prod.mk.inj hh
        have q4 : (m.ph == 4) = false := beq_eq_false_iff_ne.2 c2
        clear c0 hh c2 c1
        go_enter Try.func13, Try.ntmps13
        go_wp2
        go_ret
        exact ⟨rfl, M.out, G0.out⟩
end Go.Proofs.Ytjamhceghciboaa
