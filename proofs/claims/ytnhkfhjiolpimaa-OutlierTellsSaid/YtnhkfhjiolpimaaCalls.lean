/- What outlier's Tick, Eject, Ripe hand back. Conditions: none beyond the cases that are named. -/
import Derived.Test.YtnhkfhjiolpimaaEject
namespace Go.Proofs.Ytnhkfhjiolpimaa
open Go.RowKit

theorem zero_new (w : World) (b : Nat) (hb : b = w.heap.size) : OutBox (w.alloc (.cells #[.int .i64 0, .int .i64 0, .int .i64 0, .int .i64 0, .int .i64 0, .int .i64 0, .bool false] 33)) b Out.zero := OutBox.new w b hb Out.zero

theorem OutBox.whole {w : World} {b : Nat} {o : Out} (h : OutBox w b o) (r g d m s u : Int) (x : Bool) :
    OutBox (((((((w.setCell ⟨b, 0, none⟩ (.int .i64 r)).setCell ⟨b, 1, none⟩ (.int .i64 g)).setCell ⟨b, 2, none⟩ (.int .i64 d)).setCell ⟨b, 3, none⟩ (.int .i64 m)).setCell ⟨b, 4, none⟩ (.int .i64 s)).setCell ⟨b, 5, none⟩ (.int .i64 u)).setCell ⟨b, 6, none⟩ (.bool x)) b ⟨r, g, d, m, s, u, x⟩ := by
  unfold OutBox at h ⊢
  rw [block_set (block_set (block_set (block_set (block_set (block_set (block_set h 0 _) 1 _) 2 _) 3 _) 4 _) 5 _) 6 _]; rfl

theorem whole_below {a w : World} {b : Nat} (h : Below a.heap.size a w) (hb : a.heap.size ≤ b) (r g d m s u : Int) (x : Bool) :
    Below a.heap.size a (((((((w.setCell ⟨b, 0, none⟩ (.int .i64 r)).setCell ⟨b, 1, none⟩ (.int .i64 g)).setCell ⟨b, 2, none⟩ (.int .i64 d)).setCell ⟨b, 3, none⟩ (.int .i64 m)).setCell ⟨b, 4, none⟩ (.int .i64 s)).setCell ⟨b, 5, none⟩ (.int .i64 u)).setCell ⟨b, 6, none⟩ (.bool x)) :=
  ((((((h.setCell hb _).setCell hb _).setCell hb _).setCell hb _).setCell hb _).setCell hb _).setCell hb _

theorem results_out {fn : Func} {tmps : Array Value} {w : World} {i j b : Nat} {n : Int} {o : Out} (hr : fn.results = #[ResultVar.cell i 33, ResultVar.tmp j]) (h0 : tmps.getD i undef = .pointer (some ⟨b, 0, none⟩)) (h1 : tmps.getD j undef = .int .i64 n) (h : OutBox w b o) :
    (results fn tmps).run Try.prog w = .ok (.tuple #[.agg #[.int .i64 o.row, .int .i64 o.good, .int .i64 o.bad, .int .i64 o.times, .int .i64 o.since, .int .i64 o.till, .bool o.out], .int .i64 n]) w := by
  obtain ⟨⟨d0, d1, d2, d3, d4, d5, d6⟩, _⟩ := h.cell
  simp only [Array.getD_eq_getD_getElem?] at h0 h1
  simp [results, hr, h0, h1, go_sem, d0, d1, d2, d3, d4, d5, d6]

theorem block_far {w : World} {b c j : Nat} {x : Obj} (h : w.heap[b]? = some x) (hne : b ≠ c) (v : Value) : (w.setCell ⟨c, j, none⟩ v).heap[b]? = some x := by
  simp [World.setCell, Array.getElem?_modify, h]
  omega

theorem OutBox.setFar {w : World} {b c j : Nat} {o : Out} (h : OutBox w b o) (v : Value) (hne : b ≠ c) : OutBox (w.setCell ⟨c, j, none⟩ v) b o := by
  unfold OutBox at h ⊢
  exact block_far h hne v

set_option maxHeartbeats 1000000 in
theorem tick_ok (o : Out) (s : OSet) (t : Int) (w : World) (hx : Chk o s t 0) : Calls Try.prog 15 #[.agg #[.int .i64 o.row, .int .i64 o.good, .int .i64 o.bad, .int .i64 o.times, .int .i64 o.since, .int .i64 o.till, .bool o.out], .agg #[.int .i64 s.row, .int .i64 s.mille, .int .i64 s.least, .int .i64 s.base, .int .i64 s.most, .int .i64 s.percent, .int .i64 s.panic], .int .i64 t] w (Gives (.tuple #[.agg #[.int .i64 (tickO o t).row, .int .i64 (tickO o t).good, .int .i64 (tickO o t).bad, .int .i64 (tickO o t).times, .int .i64 (tickO o t).since, .int .i64 (tickO o t).till, .bool (tickO o t).out], .int .i64 0]) w) := by
  have HX := Lib.hid hx
  clear hx
  go_enter Try.func15, Try.ntmps15
  go_wp2_with (fail)
  refine (ask_ok _ _ _ _ HX.out).mono ?_
  rintro e w1 ⟨b, rfl, hb, hlt, hK⟩
  obtain ⟨⟨d0, d1, d2, d3, d4, d5, d6, _⟩, hf⟩ := hK.cell
  have f6 := hf 6
  have hR := (zero_new _ (w.heap.size + 1 + 1) (by simp)).kept hb
  obtain ⟨⟨r0, r1, r2, r3, r4, r5, r6⟩, hg⟩ := hR.cell
  have hz := hlt
  simp at hz
  have z : w.heap.size + 1 + 1 < b := by omega
  have HB := Lib.hid (below_step (below_alloc (below_alloc (below_alloc (Below.refl w.heap.size w) _) _) _) hb)
  have HR := Lib.hid hR
  have HZ := Lib.hid z
  have g0 := hg 0
  have g1 := hg 1
  have g2 := hg 2
  have g3 := hg 3
  have g4 := hg 4
  have g5 := hg 5
  have g6 := hg 6
  clear hb hlt hz hf hg hK hR
  by_cases h : o.till ≤ t
  · have HT := Lib.hid (show tickO o t = ⟨o.row, o.good, o.bad, o.times, o.since, o.till, false⟩ by unfold tickO; rw [if_pos h])
    go_wp2
    rw [HT.out]
    refine bodyPost_ret (results_out Try.results15 rfl rfl ?_) rfl ⟨rfl, ?_⟩
    · exact OutBox.whole (HR.out.setFar _ (Nat.ne_of_lt HZ.out)) _ _ _ _ _ _ _
    · exact whole_below (below_set HB.out (by have := HZ.out; show _ ≤ b; omega) _) (by omega) _ _ _ _ _ _ _
  · have HT := Lib.hid (show tickO o t = o by unfold tickO; rw [if_neg h])
    go_wp2
    rw [HT.out]
    refine bodyPost_ret (results_out Try.results15 rfl rfl ?_) rfl ⟨rfl, ?_⟩
    · exact OutBox.whole HR.out _ _ _ _ _ _ _
    · exact whole_below HB.out (by omega) _ _ _ _ _ _ _

set_option maxHeartbeats 1000000 in
theorem tick_bad (o : Out) (s : OSet) (t x : Int) (w : World) (hx : Chk o s t x) (h : x = 4 ∨ x = 9) : Calls Try.prog 15 #[.agg #[.int .i64 o.row, .int .i64 o.good, .int .i64 o.bad, .int .i64 o.times, .int .i64 o.since, .int .i64 o.till, .bool o.out], .agg #[.int .i64 s.row, .int .i64 s.mille, .int .i64 s.least, .int .i64 s.base, .int .i64 s.most, .int .i64 s.percent, .int .i64 s.panic], .int .i64 t] w (Gives (.tuple #[.agg #[.int .i64 0, .int .i64 0, .int .i64 0, .int .i64 0, .int .i64 0, .int .i64 0, .bool false], .int .i64 x]) w) := by
  have HX := Lib.hid hx
  clear hx
  by_cases ht : 0 ≤ t
  · rcases h with rfl | rfl
    all_goals
      go_enter Try.func15, Try.ntmps15
      go_wp2_with (fail)
      refine (ask_bad _ _ _ _ _ HX.out (by simp)).mono ?_
      rintro e w1 ⟨b, rfl, hb, hlt, hK⟩
      have HK := Lib.hid hK
      obtain ⟨⟨d0, d1, d2, d3, d4, d5, d6, _⟩, hf⟩ := hK.cell
      have hR := (zero_new _ (w.heap.size + 1 + 1) (by simp)).kept hb
      obtain ⟨⟨r0, r1, r2, r3, r4, r5, r6⟩, hg⟩ := hR.cell
      have HR := Lib.hid hR
      have g0 := hg 0
      have g1 := hg 1
      have g2 := hg 2
      have g3 := hg 3
      have g4 := hg 4
      have g5 := hg 5
      have g6 := hg 6
      have hz := hlt
      simp at hz
      have z : w.heap.size + 1 + 1 < b := by omega
      have HZ := Lib.hid z
      have HB := Lib.hid (below_step (below_alloc (below_alloc (below_alloc (Below.refl w.heap.size w) _) _) _) hb)
      clear hb hlt hz hK hg hR
      have f6 := hf 6
      clear hf
      simp only [Out.zero] at d0 d1 d2 d3 d4 d5 d6
      go_wp2
      refine bodyPost_ret (results_out (o := Out.zero) Try.results15 rfl rfl ?_) rfl ⟨rfl, ?_⟩
      · exact OutBox.whole (HR.out.setFar _ (Nat.ne_of_lt HZ.out)) _ _ _ _ _ _ _
      · exact whole_below (below_set HB.out (by have := HZ.out; show _ ≤ b; omega) _) (by omega) _ _ _ _ _ _ _
  · rcases h with rfl | rfl
    all_goals
      go_enter Try.func15, Try.ntmps15
      go_wp2_with (fail)
      refine (ask_bad _ _ _ _ _ HX.out (by simp)).mono ?_
      rintro e w1 ⟨b, rfl, hb, hlt, hK⟩
      have HK := Lib.hid hK
      obtain ⟨⟨d0, d1, d2, d3, d4, d5, d6, _⟩, hf⟩ := hK.cell
      have hR := (zero_new _ (w.heap.size + 1 + 1) (by simp)).kept hb
      obtain ⟨⟨r0, r1, r2, r3, r4, r5, r6⟩, hg⟩ := hR.cell
      have HR := Lib.hid hR
      have g0 := hg 0
      have g1 := hg 1
      have g2 := hg 2
      have g3 := hg 3
      have g4 := hg 4
      have g5 := hg 5
      have g6 := hg 6
      have hz := hlt
      simp at hz
      have z : w.heap.size + 1 + 1 < b := by omega
      have HZ := Lib.hid z
      have HB := Lib.hid (below_step (below_alloc (below_alloc (below_alloc (Below.refl w.heap.size w) _) _) _) hb)
      clear hb hlt hz hK hg hR
      have f6 := hf 6
      clear hf
      simp only [Out.zero] at d0 d1 d2 d3 d4 d5 d6
      go_wp2
      refine bodyPost_ret (results_out (o := Out.zero) Try.results15 rfl rfl ?_) rfl ⟨rfl, ?_⟩
      · exact OutBox.whole HR.out _ _ _ _ _ _ _
      · exact whole_below HB.out (by omega) _ _ _ _ _ _ _

set_option maxHeartbeats 1000000 in
theorem eject_bad (o : Out) (s : OSet) (t x : Int) (w : World) (hx : Chk o s t x) (h : x = 4 ∨ x = 9) : Calls Try.prog 13 #[.agg #[.int .i64 o.row, .int .i64 o.good, .int .i64 o.bad, .int .i64 o.times, .int .i64 o.since, .int .i64 o.till, .bool o.out], .agg #[.int .i64 s.row, .int .i64 s.mille, .int .i64 s.least, .int .i64 s.base, .int .i64 s.most, .int .i64 s.percent, .int .i64 s.panic], .int .i64 t] w (Gives (.tuple #[.agg #[.int .i64 0, .int .i64 0, .int .i64 0, .int .i64 0, .int .i64 0, .int .i64 0, .bool false], .int .i64 x]) w) := by
  have HX := Lib.hid hx
  clear hx
  rcases h with rfl | rfl
  all_goals
    go_enter Try.func13, Try.ntmps13
    go_wp2_with (fail)
    refine (ask_bad _ _ _ _ _ HX.out (by simp)).mono ?_
    rintro e w1 ⟨b, rfl, hb, hlt, hK⟩
    have HK := Lib.hid hK
    obtain ⟨⟨d0, d1, d2, d3, d4, d5, d6, _⟩, hf⟩ := hK.cell
    have hR := (zero_new _ (w.heap.size + 1 + 1) (by simp)).kept hb
    obtain ⟨⟨r0, r1, r2, r3, r4, r5, r6⟩, hg⟩ := hR.cell
    have HR := Lib.hid hR
    have g0 := hg 0
    have g1 := hg 1
    have g2 := hg 2
    have g3 := hg 3
    have g4 := hg 4
    have g5 := hg 5
    have g6 := hg 6
    have hz := hlt
    simp at hz
    have z : w.heap.size + 1 + 1 < b := by omega
    have HZ := Lib.hid z
    have HB := Lib.hid (below_step (below_alloc (below_alloc (below_alloc (Below.refl w.heap.size w) _) _) _) hb)
    clear hb hlt hz hK hg hR
    clear hf d0 d1 d2 d3 d4 d5 d6
    go_wp2
    refine bodyPost_ret (results_out (o := Out.zero) Try.results13 rfl rfl ?_) rfl ⟨rfl, ?_⟩
    · exact OutBox.whole HR.out _ _ _ _ _ _ _
    · exact whole_below HB.out (by omega) _ _ _ _ _ _ _

set_option maxHeartbeats 1000000 in
theorem eject_out (o : Out) (s : OSet) (t : Int) (w : World) (hx : Chk o s t 0) (h : o.out = true) : Calls Try.prog 13 #[.agg #[.int .i64 o.row, .int .i64 o.good, .int .i64 o.bad, .int .i64 o.times, .int .i64 o.since, .int .i64 o.till, .bool o.out], .agg #[.int .i64 s.row, .int .i64 s.mille, .int .i64 s.least, .int .i64 s.base, .int .i64 s.most, .int .i64 s.percent, .int .i64 s.panic], .int .i64 t] w (Gives (.tuple #[.agg #[.int .i64 0, .int .i64 0, .int .i64 0, .int .i64 0, .int .i64 0, .int .i64 0, .bool false], .int .i64 9]) w) := by
  have HX := Lib.hid hx
  clear hx
  have HH := Lib.hid h
  clear h
  go_enter Try.func13, Try.ntmps13
  go_wp2_with (fail)
  refine (ask_ok _ _ _ _ HX.out).mono ?_
  rintro e w1 ⟨b, rfl, hb, hlt, hK⟩
  have HK := Lib.hid hK
  obtain ⟨⟨d0, d1, d2, d3, d4, d5, d6, _⟩, hf⟩ := hK.cell
  have hR := (zero_new _ (w.heap.size + 1 + 1) (by simp)).kept hb
  obtain ⟨⟨r0, r1, r2, r3, r4, r5, r6⟩, hg⟩ := hR.cell
  have HR := Lib.hid hR
  have g0 := hg 0
  have g1 := hg 1
  have g2 := hg 2
  have g3 := hg 3
  have g4 := hg 4
  have g5 := hg 5
  have g6 := hg 6
  have hz := hlt
  simp at hz
  have z : w.heap.size + 1 + 1 < b := by omega
  have HZ := Lib.hid z
  have HB := Lib.hid (below_step (below_alloc (below_alloc (below_alloc (Below.refl w.heap.size w) _) _) _) hb)
  clear hb hlt hz hK hg hR
  clear hf
  rw [HH.out] at d6
  go_wp2
  refine bodyPost_ret (results_out (o := Out.zero) Try.results13 rfl rfl ?_) rfl ⟨rfl, ?_⟩
  · exact OutBox.whole HR.out _ _ _ _ _ _ _
  · exact whole_below HB.out (by omega) _ _ _ _ _ _ _

theorem chk_in {o : Out} {s : OSet} {t : Int} (h : Chk o s t 0) : SetsP s ∧ TickP t ∧ OutP o := by
  rcases h with h | h | h
  · exact absurd h.1 (by decide)
  · exact absurd h.1 (by decide)
  · exact h.2

set_option maxHeartbeats 1000000 in
theorem eject_ok (o : Out) (s : OSet) (t : Int) (w : World) (hx : Chk o s t 0) (h : o.out = false) : Calls Try.prog 13 #[.agg #[.int .i64 o.row, .int .i64 o.good, .int .i64 o.bad, .int .i64 o.times, .int .i64 o.since, .int .i64 o.till, .bool o.out], .agg #[.int .i64 s.row, .int .i64 s.mille, .int .i64 s.least, .int .i64 s.base, .int .i64 s.most, .int .i64 s.percent, .int .i64 s.panic], .int .i64 t] w (Gives (.tuple #[.agg #[.int .i64 (ejectO o s t).row, .int .i64 (ejectO o s t).good, .int .i64 (ejectO o s t).bad, .int .i64 (ejectO o s t).times, .int .i64 (ejectO o s t).since, .int .i64 (ejectO o s t).till, .bool (ejectO o s t).out], .int .i64 0]) w) := by
  have HX := Lib.hid hx
  clear hx
  have HH := Lib.hid h
  clear h
  go_enter Try.func13, Try.ntmps13
  go_wp2_with (fail)
  refine (ask_ok _ _ _ _ HX.out).mono ?_
  rintro e w1 ⟨b, rfl, hb, hlt, hK⟩
  have HK := Lib.hid hK
  obtain ⟨⟨d0, d1, d2, d3, d4, d5, d6, _⟩, hf⟩ := hK.cell
  have hR := (zero_new _ (w.heap.size + 1 + 1) (by simp)).kept hb
  obtain ⟨⟨r0, r1, r2, r3, r4, r5, r6⟩, hg⟩ := hR.cell
  have HR := Lib.hid hR
  have g0 := hg 0
  have g1 := hg 1
  have g2 := hg 2
  have g3 := hg 3
  have g4 := hg 4
  have g5 := hg 5
  have g6 := hg 6
  have hz := hlt
  simp at hz
  have z : w.heap.size + 1 + 1 < b := by omega
  have HZ := Lib.hid z
  have HB := Lib.hid (below_step (below_alloc (below_alloc (below_alloc (Below.refl w.heap.size w) _) _) _) hb)
  clear hb hlt hz hK hg hR
  clear hf
  rw [HH.out] at d6
  go_wp2_with (fail)
  refine (eject_any _ _ _ _ _ HK.out (chk_in HX.out).2.2 (chk_in HX.out).1 (chk_in HX.out).2.1).mono ?_
  rintro e w2 ⟨rfl, hK2, hb2⟩
  have hR2 := HR.out.below hb2 HZ.out
  have HB2 := Lib.hid (below_at HB.out hb2 (by have := HZ.out; omega))
  clear d0 d1 d2 d3 d4 d5 d6 r0 r1 r2 r3 r4 r5 r6 g0 g1 g2 g3 g4 g5 g6 HB HR hb2
  obtain ⟨⟨d0, d1, d2, d3, d4, d5, d6, _⟩, _⟩ := hK2.cell
  obtain ⟨⟨r0, r1, r2, r3, r4, r5, r6⟩, hg⟩ := hR2.cell
  have HR := Lib.hid hR2
  have g0 := hg 0
  have g1 := hg 1
  have g2 := hg 2
  have g3 := hg 3
  have g4 := hg 4
  have g5 := hg 5
  have g6 := hg 6
  clear hg hR2 hK2 HK
  generalize ejectO o s t = o' at *
  go_wp2
  refine bodyPost_ret (results_out Try.results13 rfl rfl ?_) rfl ⟨rfl, ?_⟩
  · exact OutBox.whole HR.out _ _ _ _ _ _ _
  · exact whole_below HB2.out (by omega) _ _ _ _ _ _ _

set_option maxHeartbeats 1000000 in
theorem ripe_bad (o : Out) (s : OSet) (t x : Int) (w : World) (hx : Chk o s t x) (h : x = 4 ∨ x = 9) : Calls Try.prog 16 #[.agg #[.int .i64 o.row, .int .i64 o.good, .int .i64 o.bad, .int .i64 o.times, .int .i64 o.since, .int .i64 o.till, .bool o.out], .agg #[.int .i64 s.row, .int .i64 s.mille, .int .i64 s.least, .int .i64 s.base, .int .i64 s.most, .int .i64 s.percent, .int .i64 s.panic], .int .i64 t] w (Gives (.tuple #[.bool false, .int .i64 x]) w) := by
  have HX := Lib.hid hx
  clear hx
  rcases h with rfl | rfl
  all_goals
    go_enter Try.func16, Try.ntmps16
    go_wp2_with (fail)
    refine (ask_bad _ _ _ _ _ HX.out (by simp)).mono ?_
    rintro e w1 ⟨b, rfl, hb, hlt, hK⟩
    have HK := Lib.hid hK
    obtain ⟨⟨d0, d1, d2, d3, d4, d5, d6, _⟩, hf⟩ := hK.cell
    have hz := hlt
    simp at hz
    have z : w.heap.size + 1 < b := by omega
    have HZ := Lib.hid z
    have HB := Lib.hid (below_step (below_alloc (below_alloc (Below.refl w.heap.size w) _) _) hb)
    clear hb hlt hz hK
    clear hf d0 d1 d2 d3 d4 d5 d6
    go_wp2
    go_ret2
    exact ⟨rfl, HB.out⟩

set_option maxHeartbeats 1000000 in
theorem ripe_ok (o : Out) (s : OSet) (t : Int) (w : World) (hx : Chk o s t 0) : Calls Try.prog 16 #[.agg #[.int .i64 o.row, .int .i64 o.good, .int .i64 o.bad, .int .i64 o.times, .int .i64 o.since, .int .i64 o.till, .bool o.out], .agg #[.int .i64 s.row, .int .i64 s.mille, .int .i64 s.least, .int .i64 s.base, .int .i64 s.most, .int .i64 s.percent, .int .i64 s.panic], .int .i64 t] w (Gives (.tuple #[.bool (ripeO o s), .int .i64 0]) w) := by
  have HX := Lib.hid hx
  clear hx
  go_enter Try.func16, Try.ntmps16
  go_wp2_with (fail)
  refine (ask_ok _ _ _ _ HX.out).mono ?_
  rintro e w1 ⟨b, rfl, hb, hlt, hK⟩
  have HK := Lib.hid hK
  obtain ⟨⟨d0, d1, d2, d3, d4, d5, d6, _⟩, hf⟩ := hK.cell
  have hz := hlt
  simp at hz
  have z : w.heap.size + 1 < b := by omega
  have HZ := Lib.hid z
  have HB := Lib.hid (below_step (below_alloc (below_alloc (Below.refl w.heap.size w) _) _) hb)
  clear hb hlt hz hK
  clear hf
  go_wp2_with (fail)
  refine (ripe_any _ _ _ _ _ HK.out (chk_in HX.out).2.2 (chk_in HX.out).1).mono ?_
  rintro e w2 ⟨rfl, hb2⟩
  clear d0 d1 d2 d3 d4 d5 d6
  go_wp2
  go_ret2
  exact ⟨rfl, below_step HB.out hb2⟩
end Go.Proofs.Ytnhkfhjiolpimaa
