/- What the document's Tick, Eject, Ripe, Record hand back. Conditions: none beyond the cases that are named; a slice reads as its list. -/
import Derived.Test.YtnhkfhjiolpimaaRecord
namespace Go.Proofs.Ytnhkfhjiolpimaa
open Go.RowKit

set_option maxHeartbeats 1000000 in
theorem rtick_bad (o : Out) (s : OSet) (t x : Int) (w : World) (hx : Chk o s t x) (h : x = 4 ∨ x = 9) : Calls Try.prog 21 #[.agg #[.int .i64 o.row, .int .i64 o.good, .int .i64 o.bad, .int .i64 o.times, .int .i64 o.since, .int .i64 o.till, .bool o.out], .agg #[.int .i64 s.row, .int .i64 s.mille, .int .i64 s.least, .int .i64 s.base, .int .i64 s.most, .int .i64 s.percent, .int .i64 s.panic], .int .i64 t] w (Gives (.tuple #[.agg #[.int .i64 0, .int .i64 0, .int .i64 0, .int .i64 0, .int .i64 0, .int .i64 0, .bool false], .int .i64 x]) w) := by
  have HX := Lib.hid hx
  clear hx
  rcases h with rfl | rfl
  all_goals
    go_enter Try.func21, Try.ntmps21
    go_wp2_with (fail)
    refine (rcheck_any _ _ _ _ _ HX.out).mono ?_
    rintro e w1 ⟨rfl, hb⟩
    have hR := (zero_new _ (w.heap.size + 1 + 1) (by simp)).kept hb
    obtain ⟨⟨r0, r1, r2, r3, r4, r5, r6⟩, hg⟩ := hR.cell
    have HR := Lib.hid hR
    have g0 := hg 0
    have g1 := hg 1
    have g2 := hg 2
    have g3 := hg 3
    have g4 := hg 4
    have g5 := hg 5
    have g6 := hg 6
    clear hg hR
    have HB := Lib.hid (below_step (below_alloc (below_alloc (below_alloc (Below.refl w.heap.size w) _) _) _) hb)
    clear hb
    go_wp2
    refine bodyPost_ret (results_out (o := Out.zero) Try.results21 rfl rfl ?_) rfl ⟨rfl, ?_⟩
    · exact OutBox.whole HR.out _ _ _ _ _ _ _
    · exact whole_below HB.out (by omega) _ _ _ _ _ _ _

set_option maxHeartbeats 1000000 in
theorem reject_bad (o : Out) (s : OSet) (t x : Int) (w : World) (hx : Chk o s t x) (h : x = 4 ∨ x = 9) : Calls Try.prog 20 #[.agg #[.int .i64 o.row, .int .i64 o.good, .int .i64 o.bad, .int .i64 o.times, .int .i64 o.since, .int .i64 o.till, .bool o.out], .agg #[.int .i64 s.row, .int .i64 s.mille, .int .i64 s.least, .int .i64 s.base, .int .i64 s.most, .int .i64 s.percent, .int .i64 s.panic], .int .i64 t] w (Gives (.tuple #[.agg #[.int .i64 0, .int .i64 0, .int .i64 0, .int .i64 0, .int .i64 0, .int .i64 0, .bool false], .int .i64 x]) w) := by
  have HX := Lib.hid hx
  clear hx
  rcases h with rfl | rfl
  all_goals
    go_enter Try.func20, Try.ntmps20
    go_wp2_with (fail)
    refine (rcheck_any _ _ _ _ _ HX.out).mono ?_
    rintro e w1 ⟨rfl, hb⟩
    have hR := (zero_new _ (w.heap.size + 1 + 1) (by simp)).kept hb
    obtain ⟨⟨r0, r1, r2, r3, r4, r5, r6⟩, hg⟩ := hR.cell
    have HR := Lib.hid hR
    have g0 := hg 0
    have g1 := hg 1
    have g2 := hg 2
    have g3 := hg 3
    have g4 := hg 4
    have g5 := hg 5
    have g6 := hg 6
    clear hg hR
    have HB := Lib.hid (below_step (below_alloc (below_alloc (below_alloc (Below.refl w.heap.size w) _) _) _) hb)
    clear hb
    go_wp2
    refine bodyPost_ret (results_out (o := Out.zero) Try.results20 rfl rfl ?_) rfl ⟨rfl, ?_⟩
    · exact OutBox.whole HR.out _ _ _ _ _ _ _
    · exact whole_below HB.out (by omega) _ _ _ _ _ _ _

set_option maxHeartbeats 1000000 in
theorem rrecord_bad (o : Out) (s : OSet) (t x : Int) (a : Option Addr) (l : List Bool) (cap : Nat) (w : World) (hx : Chk o s t x) (h : x = 4 ∨ x = 9) : Calls Try.prog 18 #[.agg #[.int .i64 o.row, .int .i64 o.good, .int .i64 o.bad, .int .i64 o.times, .int .i64 o.since, .int .i64 o.till, .bool o.out], .agg #[.int .i64 s.row, .int .i64 s.mille, .int .i64 s.least, .int .i64 s.base, .int .i64 s.most, .int .i64 s.percent, .int .i64 s.panic], .int .i64 t, .slice a l.length cap] w (Gives (.tuple #[.agg #[.int .i64 0, .int .i64 0, .int .i64 0, .int .i64 0, .int .i64 0, .int .i64 0, .bool false], .int .i64 x]) w) := by
  have HX := Lib.hid hx
  clear hx
  rcases h with rfl | rfl
  all_goals
    go_enter Try.func18, Try.ntmps18
    go_wp2_with (fail)
    refine (rcheck_any _ _ _ _ _ HX.out).mono ?_
    rintro e w1 ⟨rfl, hb⟩
    have hR := (zero_new _ (w.heap.size + 1 + 1) (by simp)).kept hb
    obtain ⟨⟨r0, r1, r2, r3, r4, r5, r6⟩, hg⟩ := hR.cell
    have HR := Lib.hid hR
    have g0 := hg 0
    have g1 := hg 1
    have g2 := hg 2
    have g3 := hg 3
    have g4 := hg 4
    have g5 := hg 5
    have g6 := hg 6
    clear hg hR
    have HB := Lib.hid (below_step (below_alloc (below_alloc (below_alloc (Below.refl w.heap.size w) _) _) _) hb)
    clear hb
    go_wp2
    refine bodyPost_ret (results_out (o := Out.zero) Try.results18 rfl rfl ?_) rfl ⟨rfl, ?_⟩
    · exact OutBox.whole HR.out _ _ _ _ _ _ _
    · exact whole_below HB.out (by omega) _ _ _ _ _ _ _

set_option maxHeartbeats 1000000 in
theorem rripe_bad (o : Out) (s : OSet) (t x : Int) (w : World) (hx : Chk o s t x) (h : x = 4 ∨ x = 9) : Calls Try.prog 19 #[.agg #[.int .i64 o.row, .int .i64 o.good, .int .i64 o.bad, .int .i64 o.times, .int .i64 o.since, .int .i64 o.till, .bool o.out], .agg #[.int .i64 s.row, .int .i64 s.mille, .int .i64 s.least, .int .i64 s.base, .int .i64 s.most, .int .i64 s.percent, .int .i64 s.panic], .int .i64 t] w (Gives (.tuple #[.bool false, .int .i64 x]) w) := by
  have HX := Lib.hid hx
  clear hx
  rcases h with rfl | rfl
  all_goals
    go_enter Try.func19, Try.ntmps19
    go_wp2_with (fail)
    refine (rcheck_any _ _ _ _ _ HX.out).mono ?_
    rintro e w1 ⟨rfl, hb⟩
    have HB := Lib.hid (below_step (below_alloc (below_alloc (Below.refl w.heap.size w) _) _) hb)
    clear hb
    go_wp2
    go_ret2
    exact ⟨rfl, HB.out⟩

theorem tick_same {o : Out} (t : Int) (h : o.out = false) : tickO o t = o := by
  obtain ⟨a, b, c, d, e, f, g⟩ := o
  simp only at h
  subst h
  unfold tickO
  split <;> rfl

set_option maxHeartbeats 1000000 in
theorem rtick_ok (o : Out) (s : OSet) (t : Int) (w : World) (hx : Chk o s t 0) : Calls Try.prog 21 #[.agg #[.int .i64 o.row, .int .i64 o.good, .int .i64 o.bad, .int .i64 o.times, .int .i64 o.since, .int .i64 o.till, .bool o.out], .agg #[.int .i64 s.row, .int .i64 s.mille, .int .i64 s.least, .int .i64 s.base, .int .i64 s.most, .int .i64 s.percent, .int .i64 s.panic], .int .i64 t] w (Gives (.tuple #[.agg #[.int .i64 (tickO o t).row, .int .i64 (tickO o t).good, .int .i64 (tickO o t).bad, .int .i64 (tickO o t).times, .int .i64 (tickO o t).since, .int .i64 (tickO o t).till, .bool (tickO o t).out], .int .i64 0]) w) := by
  have HX := Lib.hid hx
  clear hx
  go_enter Try.func21, Try.ntmps21
  go_wp2_with (fail)
  refine (rcheck_any _ _ _ _ _ HX.out).mono ?_
  rintro e w1 ⟨rfl, hb⟩
  have hO := (((OutBox.new w w.heap.size rfl o).alloc _).alloc _).kept hb
  obtain ⟨⟨d0, d1, d2, d3, d4, d5, d6⟩, hf⟩ := hO.cell
  have HO := Lib.hid hO
  clear hO
  have hR := (zero_new _ (w.heap.size + 1 + 1) (by simp)).kept hb
  obtain ⟨⟨r0, r1, r2, r3, r4, r5, r6⟩, hg⟩ := hR.cell
  have HR := Lib.hid hR
  have g0 := hg 0
  have g1 := hg 1
  have g2 := hg 2
  have g3 := hg 3
  have g4 := hg 4
  have g5 := hg 5
  have g6 := hg 6
  clear hg hR
  have HB := Lib.hid (below_step (below_alloc (below_alloc (below_alloc (Below.refl w.heap.size w) _) _) _) hb)
  clear hb
  have f6 := hf 6
  clear hf
  by_cases h1 : o.out = true
  · have H1 := Lib.hid h1
    rw [h1] at d6
    clear h1
    by_cases h : o.till ≤ t
    · have HT := Lib.hid (show tickO o t = ⟨o.row, o.good, o.bad, o.times, o.since, o.till, false⟩ by unfold tickO; rw [if_pos h])
      have e1 : decide (o.till ≤ t) = true := decide_eq_true h
      go_wp2
      rw [HT.out]
      refine bodyPost_ret (results_out Try.results21 rfl rfl ?_) rfl ⟨rfl, ?_⟩
      · exact OutBox.whole (HR.out.setFar _ (by omega)) _ _ _ _ _ _ _
      · exact whole_below (below_set HB.out (by show _ ≤ w.heap.size; omega) _) (by omega) _ _ _ _ _ _ _
    · have HT := Lib.hid (show tickO o t = ⟨o.row, o.good, o.bad, o.times, o.since, o.till, true⟩ by unfold tickO; rw [if_neg h, ← H1.out])
      have e1 : decide (o.till ≤ t) = false := decide_eq_false h
      go_wp2
      rw [HT.out]
      refine bodyPost_ret (results_out Try.results21 rfl rfl ?_) rfl ⟨rfl, ?_⟩
      · exact OutBox.whole HR.out _ _ _ _ _ _ _
      · exact whole_below HB.out (by omega) _ _ _ _ _ _ _
  · have h2 : o.out = false := by cases h3 : o.out <;> simp_all
    have HT := Lib.hid (show tickO o t = ⟨o.row, o.good, o.bad, o.times, o.since, o.till, false⟩ by rw [tick_same t h2, ← h2])
    rw [h2] at d6
    clear h1 h2
    go_wp2
    rw [HT.out]
    refine bodyPost_ret (results_out Try.results21 rfl rfl ?_) rfl ⟨rfl, ?_⟩
    · exact OutBox.whole HR.out _ _ _ _ _ _ _
    · exact whole_below HB.out (by omega) _ _ _ _ _ _ _

set_option maxHeartbeats 1000000 in
theorem reject_out (o : Out) (s : OSet) (t : Int) (w : World) (hx : Chk o s t 0) (h : o.out = true) : Calls Try.prog 20 #[.agg #[.int .i64 o.row, .int .i64 o.good, .int .i64 o.bad, .int .i64 o.times, .int .i64 o.since, .int .i64 o.till, .bool o.out], .agg #[.int .i64 s.row, .int .i64 s.mille, .int .i64 s.least, .int .i64 s.base, .int .i64 s.most, .int .i64 s.percent, .int .i64 s.panic], .int .i64 t] w (Gives (.tuple #[.agg #[.int .i64 0, .int .i64 0, .int .i64 0, .int .i64 0, .int .i64 0, .int .i64 0, .bool false], .int .i64 9]) w) := by
  have HX := Lib.hid hx
  have HH := Lib.hid h
  clear hx h
  go_enter Try.func20, Try.ntmps20
  go_wp2_with (fail)
  refine (rcheck_any _ _ _ _ _ HX.out).mono ?_
  rintro e w1 ⟨rfl, hb⟩
  have hO := (((OutBox.new w w.heap.size rfl o).alloc _).alloc _).kept hb
  obtain ⟨⟨d0, d1, d2, d3, d4, d5, d6⟩, hf⟩ := hO.cell
  have HO := Lib.hid hO
  clear hO
  have hR := (zero_new _ (w.heap.size + 1 + 1) (by simp)).kept hb
  obtain ⟨⟨r0, r1, r2, r3, r4, r5, r6⟩, hg⟩ := hR.cell
  have HR := Lib.hid hR
  have g0 := hg 0
  have g1 := hg 1
  have g2 := hg 2
  have g3 := hg 3
  have g4 := hg 4
  have g5 := hg 5
  have g6 := hg 6
  clear hg hR
  have HB := Lib.hid (below_step (below_alloc (below_alloc (below_alloc (Below.refl w.heap.size w) _) _) _) hb)
  clear hb
  rw [HH.out] at d6
  clear hf
  go_wp2
  refine bodyPost_ret (results_out (o := Out.zero) Try.results20 rfl rfl ?_) rfl ⟨rfl, ?_⟩
  · exact OutBox.whole HR.out _ _ _ _ _ _ _
  · exact whole_below HB.out (by omega) _ _ _ _ _ _ _

theorem longO_eq (s : OSet) (x : Int) : (if s.base * x < s.most then s.base * x else s.most) = longO s x := by
  unfold longO
  repeat' split
  all_goals omega

set_option maxHeartbeats 2000000 in
theorem reject_ok (o : Out) (s : OSet) (t : Int) (w : World) (hx : Chk o s t 0) (h : o.out = false) : Calls Try.prog 20 #[.agg #[.int .i64 o.row, .int .i64 o.good, .int .i64 o.bad, .int .i64 o.times, .int .i64 o.since, .int .i64 o.till, .bool o.out], .agg #[.int .i64 s.row, .int .i64 s.mille, .int .i64 s.least, .int .i64 s.base, .int .i64 s.most, .int .i64 s.percent, .int .i64 s.panic], .int .i64 t] w (Gives (.tuple #[.agg #[.int .i64 (ejectO o s t).row, .int .i64 (ejectO o s t).good, .int .i64 (ejectO o s t).bad, .int .i64 (ejectO o s t).times, .int .i64 (ejectO o s t).since, .int .i64 (ejectO o s t).till, .bool (ejectO o s t).out], .int .i64 0]) w) := by
  have HX := Lib.hid hx
  have HH := Lib.hid h
  have t0 := (chk_in hx).2.2.times0
  have t1 := (chk_in hx).2.2.times1
  have b0 := (chk_in hx).1.base0
  have b1 := (chk_in hx).1.base1
  have m0 := (chk_in hx).1.most0
  have m1 := (chk_in hx).1.most1
  have k0 := (chk_in hx).2.1.t0
  have k1 := (chk_in hx).2.1.t1
  clear hx h
  go_enter Try.func20, Try.ntmps20
  go_wp2_with (fail)
  refine (rcheck_any _ _ _ _ _ HX.out).mono ?_
  rintro e w1 ⟨rfl, hb⟩
  have hO := (((OutBox.new w w.heap.size rfl o).alloc _).alloc _).kept hb
  obtain ⟨⟨d0, d1, d2, d3, d4, d5, d6⟩, hf⟩ := hO.cell
  have HO := Lib.hid hO
  clear hO
  have hS := ((SetBox.new (w.alloc _) (w.heap.size + 1) (by simp) s).alloc _).kept hb
  obtain ⟨⟨s0, s1, s2, s3, s4, s5, s6⟩, _⟩ := hS.cell
  clear hS
  have hR := (zero_new _ (w.heap.size + 1 + 1) (by simp)).kept hb
  obtain ⟨⟨r0, r1, r2, r3, r4, r5, r6⟩, hg⟩ := hR.cell
  have HR := Lib.hid hR
  have g0 := hg 0
  have g1 := hg 1
  have g2 := hg 2
  have g3 := hg 3
  have g4 := hg 4
  have g5 := hg 5
  have g6 := hg 6
  clear hg hR
  have HB := Lib.hid (below_step (below_alloc (below_alloc (below_alloc (Below.refl w.heap.size w) _) _) _) hb)
  clear hb
  rw [HH.out] at d6
  clear hf
  by_cases h : o.times + 1 < 1000
  · have HT := Lib.hid (show timesO o.times = o.times + 1 by unfold timesO; rw [if_neg (by omega)])
    have p0 : 0 ≤ s.base * (o.times + 1) := Int.mul_nonneg (by omega) (by omega)
    have p1 : s.base * (o.times + 1) ≤ 1048576 * 1000 := Int.mul_le_mul b1 (by omega) (by omega) (by omega)
    by_cases h5 : s.base * (o.times + 1) < s.most
    · have HE := Lib.hid (show ejectO o s t = ⟨0, 0, 0, o.times + 1, t, t + s.base * (o.times + 1), true⟩ by unfold ejectO; rw [HT.out, ← longO_eq, if_pos h5])
      go_wp2
      rw [HE.out]
      refine bodyPost_ret (results_out Try.results20 rfl rfl ?_) rfl ⟨rfl, ?_⟩
      · exact OutBox.whole HR.out _ _ _ _ _ _ _
      · exact whole_below HB.out (by omega) _ _ _ _ _ _ _
    · have HE := Lib.hid (show ejectO o s t = ⟨0, 0, 0, o.times + 1, t, t + s.most, true⟩ by unfold ejectO; rw [HT.out, ← longO_eq, if_neg h5])
      go_wp2
      rw [HE.out]
      refine bodyPost_ret (results_out Try.results20 rfl rfl ?_) rfl ⟨rfl, ?_⟩
      · exact OutBox.whole HR.out _ _ _ _ _ _ _
      · exact whole_below HB.out (by omega) _ _ _ _ _ _ _
  · have HT := Lib.hid (show timesO o.times = 1000 by unfold timesO; split <;> omega)
    by_cases h5 : s.base * 1000 < s.most
    · have HE := Lib.hid (show ejectO o s t = ⟨0, 0, 0, 1000, t, t + s.base * 1000, true⟩ by unfold ejectO; rw [HT.out, ← longO_eq, if_pos h5])
      go_wp2
      rw [HE.out]
      refine bodyPost_ret (results_out Try.results20 rfl rfl ?_) rfl ⟨rfl, ?_⟩
      · exact OutBox.whole HR.out _ _ _ _ _ _ _
      · exact whole_below HB.out (by omega) _ _ _ _ _ _ _
    · have HE := Lib.hid (show ejectO o s t = ⟨0, 0, 0, 1000, t, t + s.most, true⟩ by unfold ejectO; rw [HT.out, ← longO_eq, if_neg h5])
      go_wp2
      rw [HE.out]
      refine bodyPost_ret (results_out Try.results20 rfl rfl ?_) rfl ⟨rfl, ?_⟩
      · exact OutBox.whole HR.out _ _ _ _ _ _ _
      · exact whole_below HB.out (by omega) _ _ _ _ _ _ _

end Go.Proofs.Ytnhkfhjiolpimaa
