/- Texts put together by prune.py: BncP, BncB, LayB. -/
import Derived.Handy
import Derived.Deep.RegionHeld3
import Derived.Test.YtcdfedbecgfanaaDoorRows
import Derived.Lib.LaidIn
import Derived.Lib.LaidU8T
import Derived.Deep.DeepHandedRow
import Derived.Deep.DeepWitnessRowRef
import Derived.ProofKit
import Derived.SizedLaws
import Derived.Test.YtcdfedbecgfanaaDoorQd5
namespace Go.Proofs.YtcdfedbecgfanaaDoor.Giv
open Go.RowKit Go.Lib Go.Sort Go.Proofs.YtcdfedbecgfanaaDoorW.PrintWords Go.Proofs.YtcdfedbecgfanaaDoorW.PrintLast Go.Proofs.YtcdfedbecgfanaaDoorW.PrintMore
set_option linter.unusedVariables false
set_option linter.unusedSimpArgs false
theorem C_two (n : Int) (s : ByteArray) {w : World} {g : Nat} (h : w.heap[g]? = some (.cells #[.int .i64 1, .int .i64 n, .string ⟨#[]⟩, .slice none 0 0, .int .i64 2, .int .i64 0, .string s, .slice none 0 0] 24 (0, 0))) : Kd.C P.k24 w (some ⟨g, 0, none⟩) 2 [intV n, strV s] := by
  have c := blk_cell h
  refine ⟨rfl, by omega, fun _ => ⟨_, rfl, fun j x hj => ?_⟩⟩
  match j, hj with
  | 0, hj =>
    obtain rfl : intV n = x := by simpa using hj
    refine ⟨[.int .i64 1, .int .i64 n, .string ⟨#[]⟩, .slice none 0 0], rfl, P.k24_mk w (intV n) (A3 := none) (c3 := 0) (Nat.le_refl _) (Kd.C_nil _ _), fun i u hu => ?_⟩
    match i, hu with
    | 0, hu => exact (c 0).trans hu
    | 1, hu => exact (c 1).trans hu
    | 2, hu => exact (c 2).trans hu
    | 3, hu => exact (c 3).trans hu
    | i + 4, hu => cases hu
  | 1, hj =>
    obtain rfl : strV s = x := by simpa using hj
    refine ⟨[.int .i64 2, .int .i64 0, .string s, .slice none 0 0], rfl, P.k24_mk w (strV s) (A3 := none) (c3 := 0) (Nat.le_refl _) (Kd.C_nil _ _), fun i u hu => ?_⟩
    match i, hu with
    | 0, hu => exact (c 4).trans hu
    | 1, hu => exact (c 5).trans hu
    | 2, hu => exact (c 6).trans hu
    | 3, hu => exact (c 7).trans hu
    | i + 4, hu => cases hu
  | j + 2, hj => cases hj
theorem C_one {x : V} {A3 : Option Addr} {c3 : Nat} {w : World} {g : Nat} (h : w.heap[g]? = some (.cells #[.int .i64 x.f0, .int .i64 x.f1, .string x.f2, .slice A3 x.f3.length c3] 24 (0, 0))) (hl : x.f3.length ≤ c3) (hC : Kd.C P.k24 w A3 x.f3.length x.f3) : Kd.C P.k24 w (some ⟨g, 0, none⟩) 1 [x] := by
  have c := blk_cell h
  refine ⟨rfl, by omega, fun _ => ⟨_, rfl, fun j y hj => ?_⟩⟩
  match j, hj with
  | 0, hj =>
    obtain rfl : x = y := by simpa using hj
    refine ⟨[.int .i64 x.f0, .int .i64 x.f1, .string x.f2, .slice A3 x.f3.length c3], rfl, P.k24_mk w x hl hC, fun i u hu => ?_⟩
    match i, hu with
    | 0, hu => exact (c 0).trans hu
    | 1, hu => exact (c 1).trans hu
    | 2, hu => exact (c 2).trans hu
    | 3, hu => exact (c 3).trans hu
    | i + 4, hu => cases hu
  | j + 1, hj => cases hj
theorem cells4 {w : World} {g t : Nat} {a b c d : Value} (h : w.heap[g]? = some (.cells #[a, b, c, d] t (0, 0))) : w.cell? ⟨g, 0, none⟩ = some a ∧ w.cell? ⟨g, 1, none⟩ = some b ∧ w.cell? ⟨g, 2, none⟩ = some c ∧ w.cell? ⟨g, 3, none⟩ = some d :=
  ⟨blk_cell h 0, blk_cell h 1, blk_cell h 2, blk_cell h 3⟩
theorem cells8 {w : World} {g t : Nat} {a b c d a' b' c' d' : Value} (h : w.heap[g]? = some (.cells #[a, b, c, d, a', b', c', d'] t (0, 0))) : w.cell? ⟨g, 0, none⟩ = some a ∧ w.cell? ⟨g, 1, none⟩ = some b ∧ w.cell? ⟨g, 2, none⟩ = some c ∧ w.cell? ⟨g, 3, none⟩ = some d ∧ w.cell? ⟨g, 4, none⟩ = some a' ∧ w.cell? ⟨g, 5, none⟩ = some b' ∧ w.cell? ⟨g, 6, none⟩ = some c' ∧ w.cell? ⟨g, 7, none⟩ = some d' :=
  ⟨blk_cell h 0, blk_cell h 1, blk_cell h 2, blk_cell h 3, blk_cell h 4, blk_cell h 5, blk_cell h 6, blk_cell h 7⟩
def nst (n : Int) (s : ByteArray) : Nat → V
  | 0 => lisV [intV n, strV s]
  | i + 1 => lisV [nst n s i]
def ln : Nat → Nat
  | 0 => 2
  | _ + 1 => 1
theorem nst_f0 (n : Int) (s : ByteArray) (i : Nat) : (nst n s i).f0 = 3 := by cases i <;> rfl
theorem nst_f1 (n : Int) (s : ByteArray) (i : Nat) : (nst n s i).f1 = 0 := by cases i <;> rfl
theorem nst_f2 (n : Int) (s : ByteArray) (i : Nat) : (nst n s i).f2 = ⟨#[]⟩ := by cases i <;> rfl
theorem nst_len (n : Int) (s : ByteArray) (i : Nat) : (nst n s i).f3.length = ln i := by cases i <;> rfl
def Nest (n : Int) (s : ByteArray) (q : Nat) (w : World) : Nat → Nat → Prop
  | 0, g => g ≠ q ∧ w.heap[g]? = some (.cells #[.int .i64 1, .int .i64 n, .string ⟨#[]⟩, .slice none 0 0, .int .i64 2, .int .i64 0, .string s, .slice none 0 0] 24 (0, 0))
  | i + 1, g => g ≠ q ∧ ∃ g', w.heap[g]? = some (.cells #[.int .i64 3, .int .i64 0, .string ⟨#[]⟩, .slice (some ⟨g', 0, none⟩) (ln i) (ln i)] 24 (0, 0)) ∧ Nest n s q w i g'
theorem Nest.keep {n : Int} {s : ByteArray} {q : Nat} {w w' : World} (h : ∀ k o, k ≠ q → w.heap[k]? = some o → w'.heap[k]? = some o) : ∀ {i g}, Nest n s q w i g → Nest n s q w' i g
  | 0, _, hn => ⟨hn.1, h _ _ hn.1 hn.2⟩
  | _ + 1, _, ⟨h1, g', h2, h3⟩ => ⟨h1, g', h _ _ h1 h2, Nest.keep h h3⟩
theorem Nest.row {n : Int} {s : ByteArray} {q : Nat} {w : World} : ∀ {i g}, Nest n s q w i g → Kd.C P.k24 w (some ⟨g, 0, none⟩) (nst n s i).f3.length (nst n s i).f3
  | 0, _, hn => C_two n s hn.2
  | i + 1, g, ⟨h1, g', h2, h3⟩ => by
    have hr := Nest.row h3
    have h2' : w.heap[g]? = some (.cells #[.int .i64 (nst n s i).f0, .int .i64 (nst n s i).f1, .string (nst n s i).f2, .slice (some ⟨g', 0, none⟩) (nst n s i).f3.length (ln i)] 24 (0, 0)) := by
      rw [nst_f0, nst_f1, nst_f2, nst_len]; exact h2
    exact C_one (x := nst n s i) h2' (by rw [nst_len]; omega) hr
theorem Nest.lt {n : Int} {s : ByteArray} {q : Nat} {w : World} : ∀ {i g}, Nest n s q w i g → g < w.heap.size
  | 0, _, hn => blk_lt hn.2
  | _ + 1, _, ⟨_, _, h2, _⟩ => blk_lt h2
theorem heap_store4 {w : World} {q : Nat} (a b c d : Value) (k : Nat) (o : Obj) (hk : k ≠ q) (h : w.heap[k]? = some o) : ((((w.setCell ⟨q, 0, none⟩ a).setCell ⟨q, 1, none⟩ b).setCell ⟨q, 2, none⟩ c).setCell ⟨q, 3, none⟩ d).heap[k]? = some o := by
  rw [Below.heap_setCell _ _ _ _ hk, Below.heap_setCell _ _ _ _ hk, Below.heap_setCell _ _ _ _ hk, Below.heap_setCell _ _ _ _ hk]
  exact h
theorem asz (w : World) (o : Obj) : (w.alloc o).heap.size = w.heap.size + 1 := by simp
theorem Int_calls (n : Int) (w : World) :
    Calls Tryd.prog 20 #[.int .i64 n] w fun e w' => e = .returned (.agg #[.int .i64 1, .int .i64 n, .string ⟨#[]⟩, .slice none 0 0]) ∧ Below w.heap.size w w' := by
  have hu := Tryd.underlying24
  go_enter Tryd.func20, Tryd.ntmps20
  go_wp2
  go_returns
  refine ⟨rfl, ?_⟩
  exact (Below.refl _ _).alloc (Nat.le_refl _) _
theorem Str_calls (n : ByteArray) (w : World) :
    Calls Tryd.prog 21 #[.string n] w fun e w' => e = .returned (.agg #[.int .i64 2, .int .i64 0, .string n, .slice none 0 0]) ∧ Below w.heap.size w w' := by
  have hu := Tryd.underlying24
  go_enter Tryd.func21, Tryd.ntmps21
  go_wp2
  go_returns
  refine ⟨rfl, ?_⟩
  exact (Below.refl _ _).alloc (Nat.le_refl _) _
set_option maxHeartbeats 8000000 in
set_option maxRecDepth 100000 in
theorem BencMakes_calls (n : Int) (s : ByteArray) (dp : Int) (w : World) (hL : LaidW w) (hs : ¬ (s.size : Int) > 4096) (k : Nat) (e1 : P.ploverref02_Same.f k 1 n ⟨#[]⟩ [] 1 n ⟨#[]⟩ [] = some true) (e2 : P.ploverref02_Same.f k 2 0 s [] 2 0 s [] = some true) (j : Nat) (hj : Go.bits .and .i64 dp 15 = (j : Int)) (hj15 : j ≤ 15) (t : ByteArray) (er : Int) (m : V) (ePut : benc_Put.f 3 0 ⟨#[]⟩ (nst n s j).f3 = some (t, er)) (eAw : P.ploverlaw02_awake.f k = some true) (eDeep : 7 < j → t = ⟨#[]⟩ ∧ er = 22) (eFlat : j ≤ 7 → er = 0 ∧ P.benc_Only.f t = some (m.f0, m.f1, m.f2, m.f3, 0) ∧ P.ploverref02_Same.f k 3 0 ⟨#[]⟩ (nst n s j).f3 m.f0 m.f1 m.f2 m.f3 = some true) (e3 : P.ploverref02_Clean.f k 3 0 ⟨#[]⟩ [intV n, strV s] = some true) :
    Calls Tryd.prog 9 #[.int .i64 n, .string s, .int .i64 dp] w fun e w' => e = .returned (.bool true) ∧ Below w.heap.size w w' := by
  have hu := Tryd.underlying24
  have hs1 : decide ((s.size : Int) > 4096) = false := decide_eq_false hs
  have hs2 : decide ((4096 : Int) < (s.size : Int)) = false := decide_eq_false hs
  go_enter Tryd.func9, Tryd.ntmps9
  go_wp2_with fail
  refine (Int_calls n w).mono ?_
  rintro e w1 ⟨rfl, hb1⟩
  have HB1 := Aside0.mk hb1
  clear hb1
  go_wp2_with fail
  refine (Str_calls s w1).mono ?_
  rintro e w2 ⟨rfl, hb2⟩
  have HB2 := Aside0.mk (HB1.out.trans (hb2.mono HB1.out.size))
  clear hb2
  go_wp2_with fail
  refine (List_calls (some ⟨w2.heap.size + 1 + 1, 0, none⟩) 2 2 _).mono ?_
  rintro e w3 ⟨rfl, hb3⟩
  have BA := Aside0.mk (blk_below (blk_alloc (blk_alloc (blk_new w2 (.cells #[.int .i64 1, .int .i64 n, .string ⟨#[]⟩, .slice none 0 0] 24)) (.cells #[.int .i64 2, .int .i64 0, .string s, .slice none 0 0] 24)) (.cells #[.int .i64 1, .int .i64 n, .string ⟨#[]⟩, .slice none 0 0, .int .i64 2, .int .i64 0, .string s, .slice none 0 0] 24)) hb3)
  have BB := Aside0.mk (blk_below (blk_alloc (blk_new (w2.alloc (.cells #[.int .i64 1, .int .i64 n, .string ⟨#[]⟩, .slice none 0 0] 24)) (.cells #[.int .i64 2, .int .i64 0, .string s, .slice none 0 0] 24)) (.cells #[.int .i64 1, .int .i64 n, .string ⟨#[]⟩, .slice none 0 0, .int .i64 2, .int .i64 0, .string s, .slice none 0 0] 24)) hb3)
  have BC := Aside0.mk (blk_below (blk_new ((w2.alloc (.cells #[.int .i64 1, .int .i64 n, .string ⟨#[]⟩, .slice none 0 0] 24)).alloc (.cells #[.int .i64 2, .int .i64 0, .string s, .slice none 0 0] 24)) (.cells #[.int .i64 1, .int .i64 n, .string ⟨#[]⟩, .slice none 0 0, .int .i64 2, .int .i64 0, .string s, .slice none 0 0] 24)) hb3)
  have HB3 := Aside0.mk (((((HB2.out.alloc HB2.out.size (.cells #[.int .i64 1, .int .i64 n, .string ⟨#[]⟩, .slice none 0 0] 24)).alloc (by simp; have := HB2.out.size; omega) (.cells #[.int .i64 2, .int .i64 0, .string s, .slice none 0 0] 24)).alloc (by simp; have := HB2.out.size; omega) (.cells #[.int .i64 1, .int .i64 n, .string ⟨#[]⟩, .slice none 0 0, .int .i64 2, .int .i64 0, .string s, .slice none 0 0] 24)).trans (hb3.mono (by simp; have := HB2.out.size; omega))))
  clear hb3
  replace BB := Aside0.mk (show w3.heap[w2.heap.size + 1]? = _ by have h := BB.out; simp only [asz] at h; exact h)
  replace BC := Aside0.mk (show w3.heap[w2.heap.size + 1 + 1]? = _ by have h := BC.out; simp only [asz] at h; exact h)
  have GE := Aside0.mk HB2.out.size
  generalize w2.heap.size = p at *
  clear HB2 HB1
  go_wp2_with fail
  have BA4 := Aside0.mk (blk_alloc BA.out (.cells #[.int .i64 3, .int .i64 0, .string ⟨#[]⟩, .slice (some ⟨p + 1 + 1, 0, none⟩) 2 2] 24))
  have BB4 := Aside0.mk (blk_alloc BB.out (.cells #[.int .i64 3, .int .i64 0, .string ⟨#[]⟩, .slice (some ⟨p + 1 + 1, 0, none⟩) 2 2] 24))
  have BC4 := Aside0.mk (blk_alloc BC.out (.cells #[.int .i64 3, .int .i64 0, .string ⟨#[]⟩, .slice (some ⟨p + 1 + 1, 0, none⟩) 2 2] 24))
  have BD4 := Aside0.mk (blk_new w3 (.cells #[.int .i64 3, .int .i64 0, .string ⟨#[]⟩, .slice (some ⟨p + 1 + 1, 0, none⟩) 2 2] 24))
  have GE4 := Aside0.mk HB3.out.size
  have HB4 := Aside0.mk (HB3.out.alloc HB3.out.size (.cells #[.int .i64 3, .int .i64 0, .string ⟨#[]⟩, .slice (some ⟨p + 1 + 1, 0, none⟩) 2 2] 24))
  clear BA BB BC HB3
  generalize w3.heap.size = q at *
  generalize w3.alloc _ = w4 at *
  obtain ⟨x0, x1, x2, x3⟩ := cells4 BA4.out
  obtain ⟨y0, y1, y2, y3⟩ := cells4 BB4.out
  obtain ⟨q0, q1, q2, q3, q4, q5, q6, q7⟩ := cells8 BC4.out
  obtain ⟨z0, z1, z2, z3⟩ := cells4 BD4.out
  have S1 := Aside0.mk (fun (W : World) => (show Calls Tryd.prog 15 #[.agg #[.int .i64 1, .int .i64 n, .string ⟨#[]⟩, .slice none 0 0], .agg #[.int .i64 1, .int .i64 n, .string ⟨#[]⟩, .slice none 0 0]] W (fun e w' => e = .returned (.bool true) ∧ Below W.heap.size W w') from P.ploverref02_Same.calls k 1 n ⟨#[]⟩ none 0 [] 1 n ⟨#[]⟩ none 0 [] true W (Kd.C_nil _ _) (Nat.le_refl _) (Kd.C_nil _ _) (Nat.le_refl _) e1))
  have S2 := Aside0.mk (fun (W : World) => (show Calls Tryd.prog 15 #[.agg #[.int .i64 2, .int .i64 0, .string s, .slice none 0 0], .agg #[.int .i64 2, .int .i64 0, .string s, .slice none 0 0]] W (fun e w' => e = .returned (.bool true) ∧ Below W.heap.size W w') from P.ploverref02_Same.calls k 2 0 s none 0 [] 2 0 s none 0 [] true W (Kd.C_nil _ _) (Nat.le_refl _) (Kd.C_nil _ _) (Nat.le_refl _) e2))
  have S3 := Aside0.mk (fun (W : World) (h : W.heap[p + 1 + 1]? = _) => (show Calls Tryd.prog 19 #[.agg #[.int .i64 3, .int .i64 0, .string ⟨#[]⟩, .slice (some ⟨p + 1 + 1, 0, none⟩) 2 2]] W (fun e w' => e = .returned (.bool true) ∧ Below W.heap.size W w') from P.ploverref02_Clean.calls k 3 0 ⟨#[]⟩ (some ⟨p + 1 + 1, 0, none⟩) 2 [intV n, strV s] true W (C_two n s h) (Nat.le_refl _) e3))
  go_region_held3 (fun w' => w'.cell? ⟨p, 0, none⟩ = some (.int .i64 1) ∧ w'.cell? ⟨p, 1, none⟩ = some (.int .i64 n) ∧ w'.cell? ⟨p, 2, none⟩ = some (.string ⟨#[]⟩) ∧ w'.cell? ⟨p, 3, none⟩ = some (.slice none 0 0) ∧ w'.cell? ⟨p + 1, 0, none⟩ = some (.int .i64 2) ∧ w'.cell? ⟨p + 1, 1, none⟩ = some (.int .i64 0) ∧ w'.cell? ⟨p + 1, 2, none⟩ = some (.string s) ∧ w'.cell? ⟨p + 1, 3, none⟩ = some (.slice none 0 0) ∧ w'.cell? ⟨p + 1 + 1, 0, none⟩ = some (.int .i64 1) ∧ w'.cell? ⟨p + 1 + 1, 1, none⟩ = some (.int .i64 n) ∧ w'.cell? ⟨p + 1 + 1, 2, none⟩ = some (.string ⟨#[]⟩) ∧ w'.cell? ⟨p + 1 + 1, 3, none⟩ = some (.slice none 0 0) ∧ w'.cell? ⟨p + 1 + 1, 4, none⟩ = some (.int .i64 2) ∧ w'.cell? ⟨p + 1 + 1, 5, none⟩ = some (.int .i64 0) ∧ w'.cell? ⟨p + 1 + 1, 6, none⟩ = some (.string s) ∧ w'.cell? ⟨p + 1 + 1, 7, none⟩ = some (.slice none 0 0) ∧ w'.cell? ⟨q, 0, none⟩ = some (.int .i64 3) ∧ w'.cell? ⟨q, 1, none⟩ = some (.int .i64 0) ∧ w'.cell? ⟨q, 2, none⟩ = some (.string ⟨#[]⟩) ∧ w'.cell? ⟨q, 3, none⟩ = some (.slice (some ⟨p + 1 + 1, 0, none⟩) 2 2)) (exact ⟨x0, x1, x2, x3, y0, y1, y2, y3, q0, q1, q2, q3, q4, q5, q6, q7, z0, z1, z2, z3⟩) (first | (go_at_call 15; with_reducible refine (S1.out _).mono ?_; rintro e w5 ⟨rfl, hb5⟩; have BA4 := Aside0.mk (blk_below (by first | exact BA4.out | exact blk_drew BA4.out | exact blk_drewN BA4.out _) hb5); have BB4 := Aside0.mk (blk_below (by first | exact BB4.out | exact blk_drew BB4.out | exact blk_drewN BB4.out _) hb5); have BC4 := Aside0.mk (blk_below (by first | exact BC4.out | exact blk_drew BC4.out | exact blk_drewN BC4.out _) hb5); have BD4 := Aside0.mk (blk_below (by first | exact BD4.out | exact blk_drew BD4.out | exact blk_drewN BD4.out _) hb5); have HB4 := Aside0.mk (Below.trans (by first | exact HB4.out | exact below_drew HB4.out | exact pw_below_drewN HB4.out _) (hb5.mono (by first | exact HB4.out.size | exact (below_drew HB4.out).size | exact (pw_below_drewN HB4.out _).size))); obtain ⟨x0, x1, x2, x3⟩ := cells4 BA4.out; obtain ⟨y0, y1, y2, y3⟩ := cells4 BB4.out; obtain ⟨q0, q1, q2, q3, q4, q5, q6, q7⟩ := cells8 BC4.out; obtain ⟨z0, z1, z2, z3⟩ := cells4 BD4.out; clear hb5) | (go_at_call 15; with_reducible refine (S2.out _).mono ?_; rintro e w5 ⟨rfl, hb5⟩; have BA4 := Aside0.mk (blk_below (by first | exact BA4.out | exact blk_drew BA4.out | exact blk_drewN BA4.out _) hb5); have BB4 := Aside0.mk (blk_below (by first | exact BB4.out | exact blk_drew BB4.out | exact blk_drewN BB4.out _) hb5); have BC4 := Aside0.mk (blk_below (by first | exact BC4.out | exact blk_drew BC4.out | exact blk_drewN BC4.out _) hb5); have BD4 := Aside0.mk (blk_below (by first | exact BD4.out | exact blk_drew BD4.out | exact blk_drewN BD4.out _) hb5); have HB4 := Aside0.mk (Below.trans (by first | exact HB4.out | exact below_drew HB4.out | exact pw_below_drewN HB4.out _) (hb5.mono (by first | exact HB4.out.size | exact (below_drew HB4.out).size | exact (pw_below_drewN HB4.out _).size))); obtain ⟨x0, x1, x2, x3⟩ := cells4 BA4.out; obtain ⟨y0, y1, y2, y3⟩ := cells4 BB4.out; obtain ⟨q0, q1, q2, q3, q4, q5, q6, q7⟩ := cells8 BC4.out; obtain ⟨z0, z1, z2, z3⟩ := cells4 BD4.out; clear hb5) | (go_at_call 19; with_reducible refine (S3.out _ (by first | exact BC4.out | exact blk_drew BC4.out | exact blk_drewN BC4.out _)).mono ?_; rintro e w5 ⟨rfl, hb5⟩; have BA4 := Aside0.mk (blk_below (by first | exact BA4.out | exact blk_drew BA4.out | exact blk_drewN BA4.out _) hb5); have BB4 := Aside0.mk (blk_below (by first | exact BB4.out | exact blk_drew BB4.out | exact blk_drewN BB4.out _) hb5); have BC4 := Aside0.mk (blk_below (by first | exact BC4.out | exact blk_drew BC4.out | exact blk_drewN BC4.out _) hb5); have BD4 := Aside0.mk (blk_below (by first | exact BD4.out | exact blk_drew BD4.out | exact blk_drewN BD4.out _) hb5); have HB4 := Aside0.mk (Below.trans (by first | exact HB4.out | exact below_drew HB4.out | exact pw_below_drewN HB4.out _) (hb5.mono (by first | exact HB4.out.size | exact (below_drew HB4.out).size | exact (pw_below_drewN HB4.out _).size))); obtain ⟨x0, x1, x2, x3⟩ := cells4 BA4.out; obtain ⟨y0, y1, y2, y3⟩ := cells4 BB4.out; obtain ⟨q0, q1, q2, q3, q4, q5, q6, q7⟩ := cells8 BC4.out; obtain ⟨z0, z1, z2, z3⟩ := cells4 BD4.out; clear hb5))
  go_wp2_with fail
  clear S1 S2 S3 x0 x1 x2 x3 y0 y1 y2 y3 q0 q1 q2 q3 q4 q5 q6 q7 z0 z1 z2 z3
  have hpq : p + 1 + 1 ≠ q := by
    intro hh
    have h1 := BC4.out
    rw [hh, BD4.out] at h1
    simp at h1
  have N0 := Aside0.mk (show Nest n s q w5 0 (p + 1 + 1) from ⟨hpq, BC4.out⟩)
  have BD := Aside0.mk (show w5.heap[q]? = some (.cells #[.int .i64 3, .int .i64 0, .string ⟨#[]⟩, .slice (some ⟨p + 1 + 1, 0, none⟩) (ln 0) (ln 0)] 24 (0, 0)) from BD4.out)
  have HBL := Aside0.mk HB4.out
  go_loopw [11] (fun v11 wr => ∃ i : Nat, i ≤ j ∧ v11 = .int .i64 (i : Int) ∧ Aside0 (∃ g, Nest n s q wr i g ∧ wr.heap[q]? = some (.cells #[.int .i64 3, .int .i64 0, .string ⟨#[]⟩, .slice (some ⟨g, 0, none⟩) (ln i) (ln i)] 24 (0, 0))) ∧ Aside0 (Below w.heap.size w wr)) (fun v11 _ => j - (RowKit.intOf v11).toNat)
  case atStart => exact ⟨0, Nat.zero_le _, rfl, Aside0.mk ⟨_, N0.out, BD.out⟩, HBL⟩
  case round =>
    obtain ⟨i, hi, rfl, HN, HW⟩ := hrel
    clear BA4 BB4 BC4 BD4 HB4 N0 BD HBL
    obtain ⟨g, hN, hq⟩ := HN.out
    have NN := Aside0.mk hN
    have BQ := Aside0.mk hq
    clear HN hN hq
    obtain ⟨z0, z1, z2, z3⟩ := cells4 BQ.out
    by_cases hlt : i < j
    · have c0 : decide ((i : Int) < (j : Int)) = true := decide_eq_true (by omega)
      go_wp2_with fail
      refine (List_calls (some ⟨wr.heap.size, 0, none⟩) 1 1 _).mono ?_
      rintro e w6 ⟨rfl, hb6⟩
      have hqlt := blk_lt BQ.out
      have BQ6 := Aside0.mk (blk_below (blk_alloc BQ.out (.cells #[.int .i64 3, .int .i64 0, .string ⟨#[]⟩, .slice (some ⟨g, 0, none⟩) (ln i) (ln i)] 24)) hb6)
      have BG6 := Aside0.mk (blk_below (blk_new wr (.cells #[.int .i64 3, .int .i64 0, .string ⟨#[]⟩, .slice (some ⟨g, 0, none⟩) (ln i) (ln i)] 24)) hb6)
      have NN6 := Aside0.mk (Nest.keep (fun k o _ h => blk_below (blk_alloc h (.cells #[.int .i64 3, .int .i64 0, .string ⟨#[]⟩, .slice (some ⟨g, 0, none⟩) (ln i) (ln i)] 24)) hb6) NN.out)
      have HW6 := Aside0.mk ((HW.out.alloc HW.out.size (.cells #[.int .i64 3, .int .i64 0, .string ⟨#[]⟩, .slice (some ⟨g, 0, none⟩) (ln i) (ln i)] 24)).trans (hb6.mono (by have := HW.out.size; simp; omega)))
      clear hb6
      obtain ⟨z0, z1, z2, z3⟩ := cells4 BQ6.out
      have f0 := blk_frozen BQ6.out 0
      have f1 := blk_frozen BQ6.out 1
      have f2 := blk_frozen BQ6.out 2
      have f3 := blk_frozen BQ6.out 3
      go_wp2_with fail
      go_roundw
      case measure => show j - ((i : Int) + 1).toNat < j - (i : Int).toNat; omega
      case rel => exact ⟨i + 1, by omega, rfl, Aside0.mk ⟨wr.heap.size, ⟨by omega, g, heap_store4 _ _ _ _ _ _ (by omega) BG6.out, Nest.keep (fun k o hk h => heap_store4 _ _ _ _ k o hk h) NN6.out⟩, blk_store4 BQ6.out _ _ _ _⟩, Aside0.mk (below_store4 HW6.out GE4.out _ _ _ _)⟩
    · have c0 : decide ((i : Int) < (j : Int)) = false := decide_eq_false (by omega)
      obtain rfl : i = j := by omega
      go_wp2_with fail
      have HP := benc_Put.calls 3 0 ⟨#[]⟩ (some ⟨g, 0, none⟩) (ln i) (nst n s i).f3 t er wr (LaidW.below hL HW.out) NN.out.row (by rw [nst_len]; exact Nat.le_refl _) ePut
      rw [nst_len] at HP
      refine HP.mono ?_
      rintro e w7 ⟨rfl, hb7⟩
      have BQ7 := Aside0.mk (blk_below BQ.out hb7)
      have NN7 := Aside0.mk (Nest.keep (fun k o _ h => blk_below h hb7) NN.out)
      have HW7 := Aside0.mk (HW.out.trans (hb7.mono HW.out.size))
      clear hb7 HP z0 z1 z2 z3
      obtain ⟨z0, z1, z2, z3⟩ := cells4 BQ7.out
      by_cases h7 : 7 < i
      · obtain ⟨rfl, rfl⟩ := eDeep h7
        have c7 : decide ((7 : Int) < (i : Int)) = true := decide_eq_true (by omega)
        go_wp2_with fail
        refine (P.ploverlaw02_awake.calls k true w7 (LaidW.below hL HW7.out) eAw).mono ?_
        rintro e w8 ⟨rfl, hb8⟩
        go_wp2_with fail
        go_returns
        exact ⟨rfl, HW7.out.trans (hb8.mono HW7.out.size)⟩
      · obtain ⟨rfl, eO, eS⟩ := eFlat (by omega)
        have c7 : decide ((7 : Int) < (i : Int)) = false := decide_eq_false (by omega)
        go_wp2_with fail
        refine (P.benc_Only.calls t m.f0 m.f1 m.f2 m.f3 0 w7 (LaidW.below hL HW7.out) eO).mono ?_
        rintro e w8 ⟨v3, rfl, hR, hb8⟩
        obtain ⟨A3, c3, rfl⟩ := Kd.R_slice hR
        have hCm := (Kd.R_reads' hR).2.2
        have hcm := (Kd.R_reads' hR).2.1
        have BQ8 := Aside0.mk (blk_below BQ7.out hb8)
        have NN8 := Aside0.mk (Nest.keep (fun k o _ h => blk_below h hb8) NN7.out)
        have HW8 := Aside0.mk (HW7.out.trans (hb8.mono HW7.out.size))
        have CM8 := Aside0.mk hCm
        have cm8 := Aside0.mk hcm
        clear hb8 hR hCm hcm z0 z1 z2 z3
        have BQ9 := Aside0.mk (blk_alloc BQ8.out (.cells #[.int .i64 m.f0, .int .i64 m.f1, .string m.f2, .slice A3 m.f3.length c3] 24))
        have BM9 := Aside0.mk (blk_new w8 (.cells #[.int .i64 m.f0, .int .i64 m.f1, .string m.f2, .slice A3 m.f3.length c3] 24))
        have NN9 := Aside0.mk (Nest.keep (fun k o _ h => blk_alloc h (.cells #[.int .i64 m.f0, .int .i64 m.f1, .string m.f2, .slice A3 m.f3.length c3] 24)) NN8.out)
        have HW9 := Aside0.mk (HW8.out.alloc HW8.out.size (.cells #[.int .i64 m.f0, .int .i64 m.f1, .string m.f2, .slice A3 m.f3.length c3] 24))
        have CM9 := Aside0.mk (Kd.C_below CM8.out ((Below.refl w8.heap.size w8).alloc (Nat.le_refl _) (.cells #[.int .i64 m.f0, .int .i64 m.f1, .string m.f2, .slice A3 m.f3.length c3] 24)))
        obtain ⟨z0, z1, z2, z3⟩ := cells4 BQ9.out
        obtain ⟨y0, y1, y2, y3⟩ := cells4 BM9.out
        go_wp2_with fail
        have HS := P.ploverref02_Same.calls k 3 0 ⟨#[]⟩ (some ⟨g, 0, none⟩) (ln i) (nst n s i).f3 m.f0 m.f1 m.f2 A3 c3 m.f3 true _ NN9.out.row (by rw [nst_len]; exact Nat.le_refl _) CM9.out cm8.out eS
        rw [nst_len] at HS
        refine HS.mono ?_
        rintro e w10 ⟨rfl, hb10⟩
        have HW10 := Aside0.mk (HW9.out.trans (hb10.mono HW9.out.size))
        clear hb10 HS
        go_wp2_with fail
        refine (P.ploverlaw02_awake.calls k true w10 (LaidW.below hL HW10.out) eAw).mono ?_
        rintro e w11 ⟨rfl, hb11⟩
        go_wp2_with fail
        go_returns
        exact ⟨rfl, HW10.out.trans (hb11.mono HW10.out.size)⟩
end Go.Proofs.YtcdfedbecgfanaaDoor.Giv
namespace Go.Proofs.YtcdfedbecgfanaaDoor.Pure
open Go.RowKit Go.Lib Go.Proofs.YtcdfedbecgfanaaDoor.Giv Go.Proofs.YtcdfedbecgfanaaDoor.P Go.Proofs.YtcdfedbecgfanaaDoorW.PrintWords Go.Proofs.YtcdfedbecgfanaaDoorW.PrintLast Go.Proofs.YtcdfedbecgfanaaDoorW.PrintMore
set_option linter.unusedVariables false
set_option linter.unusedSimpArgs false
theorem and15 (x : Int) : ∃ j : Nat, Go.bits .and .i64 x 15 = (j : Int) ∧ j ≤ 15 := by
  have h := and_mask_i64 x 4 (by decide)
  have e : (((2 ^ 4 - 1 : Nat)) : Int) = 15 := by decide +kernel
  have e2 : (((2 ^ 4 : Nat)) : Int) = 16 := by decide +kernel
  rw [e, e2] at h
  rw [h]
  have h1 := Int.emod_nonneg x (show (16 : Int) ≠ 0 by decide)
  have h2 := Int.emod_lt_of_pos x (show (0 : Int) < 16 by decide)
  exact ⟨(x % 16).toNat, by omega, by omega⟩
theorem wt_int (n : Int) : wt (intV n) = 30 := by
  rw [wt_eq]; unfold intV; rw [wts_nil]; rfl
theorem wt_str (s : ByteArray) : wt (strV s) = 30 + 2 * s.size := by
  rw [wt_eq]; unfold strV; rw [wts_nil]; rfl
theorem wt_lis (L : List V) : wt (lisV L) = 30 + wts L := by
  rw [wt_eq]; unfold lisV; show 30 + 2 * 0 + wts L = _; omega
theorem nst_facts {n : Int} {s : ByteArray} (h0 : -9223372036854775808 ≤ n) (h1 : n ≤ 9223372036854775807) (hs : s.size ≤ 4096) : ∀ j, kin (nst n s j) = true ∧ okV (nst n s j) = true ∧ dep (nst n s j) = j + 1 ∧ (enc (nst n s j)).length ≤ 2 * j + 4200 ∧ wt (nst n s j) ≤ 30 * j + 9000
  | 0 => by
    have hi := itoa_len h0 h1
    have hz := itoa_len (n := (s.size : Int)) (by omega) (by omega)
    have hd : s.data.toList.length = s.size := by rw [Array.length_toList]; rfl
    unfold nst
    refine ⟨by rw [kin_lis, kins_cons, kins_cons, kins_nil, kin_int, kin_str]; rfl, ok_lis ((okVs_cons _ _).2 ⟨ok_int h0 h1, (okVs_cons _ _).2 ⟨ok_str s, okVs_nil⟩⟩), by rw [dep_lis, deps_cons, deps_cons, deps_nil, dep_int, dep_str]; rfl, ?_, ?_⟩
    · rw [enc_lis, encs_cons, encs_cons, encs_nil, enc_int, enc_str]
      simp only [List.length_cons, List.length_append, List.length_nil, hd]
      omega
    · rw [wt_lis, wts_cons, wts_cons, wts_nil, wt_int, wt_str]
      omega
  | j + 1 => by
    obtain ⟨h2, h3, h4, h5, h6⟩ := nst_facts h0 h1 hs j
    unfold nst
    refine ⟨by rw [kin_lis, kins_cons, kins_nil, h2]; rfl, ok_lis ((okVs_cons _ _).2 ⟨h3, okVs_nil⟩), by rw [dep_lis, deps_cons, deps_nil, h4]; omega, ?_, ?_⟩
    · rw [enc_lis, encs_cons, encs_nil]
      simp only [List.length_cons, List.length_append, List.length_nil, List.append_nil]
      omega
    · rw [wt_lis, wts_cons, wts_nil]
      omega
set_option maxRecDepth 100000 in
set_option maxHeartbeats 4000000 in
theorem BencMakes_walk (n : Int) (s : ByteArray) (dp : Int) (w : World) (hL : LaidW w) (w0 : (Lit.int .i64 n).wf = true) (w1 : s.size ≤ 140737488351232) (w2 : (Lit.int .i64 dp).wf = true) :
    Calls Tryd.prog 9 #[.int .i64 n, .string s, .int .i64 dp] w fun e w' => e = .returned (.bool true) ∧ Below w.heap.size w w' := by
  obtain ⟨K0, hA⟩ := awake_ev
  by_cases hs : (s.size : Int) > 4096
  · have hs1 : decide ((s.size : Int) > 4096) = true := decide_eq_true hs
    have hs2 : decide ((4096 : Int) < (s.size : Int)) = true := decide_eq_true hs
    have HL := Aside0.mk hL
    have HA := Aside0.mk (hA K0 (Nat.le_refl _))
    clear hL hA
    go_enter Tryd.func9, Tryd.ntmps9
    go_wp2_with fail
    refine (P.ploverlaw02_awake.calls K0 true w HL.out HA.out).mono ?_
    rintro e w8 ⟨rfl, hb8⟩
    go_wp2_with fail
    go_returns
    exact ⟨rfl, hb8⟩
  · obtain ⟨b0, b1⟩ := bounds_i64 w0
    obtain ⟨j, hj, hj15⟩ := and15 dp
    have hsz : s.size ≤ 4096 := by omega
    obtain ⟨h2, h3, h4, h5, h6⟩ := nst_facts b0 b1 hsz j
    have hm := sam_back h2
    have hw2 := wt_nrm _ (nst n s j) (Nat.le_refl _)
    obtain ⟨K1, q1⟩ := same_ev 30 (intV n) (intV n) (by rw [wt_int]; omega) (by omega) (by rw [wt_int]; omega)
    obtain ⟨K2, q2⟩ := same_ev (30 + 2 * s.size) (strV s) (strV s) (by rw [wt_str]; omega) (by omega) (by rw [wt_str]; omega)
    obtain ⟨K3, q3⟩ := clean_ev 20000 (lisV [intV n, strV s]) (by rw [wt_lis, wts_cons, wts_cons, wts_nil, wt_int, wt_str]; omega) (by omega) (by rw [gud_lis, guds_cons, guds_cons, guds_nil, gud_int, gud_str]; rfl)
    obtain ⟨K4, q4⟩ := same_ev _ (nst n s j) (nrm (nst n s j)) (Nat.le_refl _) (by omega) (by omega)
    rw [sam_nrm (intV n) (intV n) (kin_int n) (kin_int n) rfl] at q1
    rw [sam_nrm (strV s) (strV s) (kin_str s) (kin_str s) rfl] at q2
    rw [hm, nst_f0, nst_f1, nst_f2] at q4
    have hput := put_yes (fit_of h3 (show wt (nst n s j) ≤ 70368744177664 by omega))
    rw [nst_f0, nst_f1, nst_f2] at hput
    refine BencMakes_calls n s dp w hL hs (K0 + K1 + K2 + K3 + K4) (q1 _ (by omega)) (q2 _ (by omega)) j hj hj15 (putM (nst n s j)).1 (putM (nst n s j)).2 (nrm (nst n s j)) hput (hA _ (by omega)) ?_ ?_ (q3 _ (by omega))
    · intro h7
      have hc : chk (nst n s j) 0 = 22 := by rw [chk_top, if_pos h2, if_pos (by omega)]
      unfold putM
      rw [hc]
      exact ⟨rfl, rfl⟩
    · intro h7
      have hp := putM_of h2 (by omega) (by omega)
      have ht := takeM_back h2 h3 (show dep (nst n s j) ≤ 8 by omega) (by omega) []
      rw [List.append_nil] at ht
      rw [hp]
      refine ⟨rfl, ?_, q4 _ (by omega)⟩
      have hsize : (⟨(enc (nst n s j)).toArray⟩ : ByteArray).size = (enc (nst n s j)).length := by show ((enc (nst n s j)).toArray).size = _; simp
      rw [only_yes (by rw [hsize]; omega)]
      unfold onlyM
      rw [ht, hsize]
      rw [if_pos rfl, if_neg (by simp)]
      rfl
end Go.Proofs.YtcdfedbecgfanaaDoor.Pure
namespace Go.Proofs.YtcdfedbecgfanaaDoor.Lay
open Go.RowKit Go.Lib
def LL : List (String × DataW Unit) := [("math/bits.deBruijn32tab", Rows.laid_math_bits_deBruijn32tab), ("math/bits.deBruijn64tab", Rows.laid_math_bits_deBruijn64tab), ("internal/strconv.uint64pow10", Rows.laid_internal_strconv_uint64pow10)]
def cellsOf : DataW Unit → List Value
  | .agg l => l.map fun | .lit (.int k z) => .int k z | _ => .nilIface
  | _ => []
noncomputable def laidWorld (os : Os) : World :=
  let w0 := World.holding Tryd.prog os ⟨#[], #[], []⟩
  let put (h : Array Obj) (g : Nat) (cs : Array Value) : Array Obj := h.modify g fun
    | .cells _ t frozen => .cells cs t frozen
    | o => o
  let h1 := put w0.heap 1 (cellsOf Rows.laid_math_bits_deBruijn32tab).toArray
  let h2 := put h1 2 (cellsOf Rows.laid_math_bits_deBruijn64tab).toArray
  let h3 := put h2 0 (cellsOf Rows.laid_internal_strconv_uint64pow10).toArray
  { w0 with heap := h3 }
theorem laid_met (os : Os) (args : Array Value) : laidMet Tryd.prog LL ((laidWorld os).forCall (fun _ _ => 0) ⟨#[], args, []⟩).memory :=
  (LaidIn.of_run (l := LL) [1, 2, 0] 8 (by kernel_rfl) (by kernel_rfl) (by kernel_rfl) (by kernel_rfl)).met
theorem eqP : (Rows.laid_internal_strconv_uint64pow10 : DataW Unit) = Lib.tabData .u64 Lib.pow10Tab := by kernel_rfl
theorem tabIs_of_reads {name : String} {k : IntKind} {zs : List Int} {W : World} {g : Nat} {t e : TypeId} {n : Nat} (hg : Tryd.prog.globalNamed name = some g) (hty : (Tryd.prog.globals[g]?).map (·.type) = some t) (ht : Tryd.prog.underlying t = some (.array n e)) (he : Tryd.prog.underlying e = some (.int k)) (hce : Tryd.prog.cellsOf e = 1) (hct : Tryd.prog.cellsOf t = n)
    (h : VarReads Tryd.prog W name (tabData k zs)) : Lib.TabIs Tryd.prog W name k zs := by
  obtain ⟨g', t', cs, fuel, p, h1, h2, h3, h4⟩ := h
  obtain rfl : g' = g := by rw [hg] at h1; exact (Option.some.inj h1).symm
  obtain rfl : t' = t := by rw [hty] at h2; exact (Option.some.inj h2).symm
  have := cells_of_tab ht he hce hct h4
  unfold Lib.TabIs
  rw [h3]
  congr 1
  apply Array.toList_inj.1
  rw [this]
theorem laidW_of {W : World} (hL : laidMetH Tryd.prog LL W) : Giv.LaidW W := by
  have h1 := Lib.laidMet.reads hL (.tail _ (.tail _ (.head _)))
  rw [eqP] at h1
  exact tabIs_of_reads (t := 83) (e := 76) (n := 20) Giv.pow10_named (by kernel_rfl) Tryd.underlying83 Tryd.underlying76 (by kernel_rfl) (by kernel_rfl) h1
theorem own : ownKnob Tryd.prog.godebug = none := by kernel_rfl
theorem laidOut : laidOutB Tryd.prog = true := by kernel_rfl
end Go.Proofs.YtcdfedbecgfanaaDoor.Lay
