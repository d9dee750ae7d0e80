/- The walk of OutlierSame: it hands back true. Condition: none but that the numbers are ints. -/
import Derived.Test.YtnhkfhjiolpimaaLLonger
namespace Go.Proofs.Ytnhkfhjiolpimaa
open Go.RowKit

set_option maxHeartbeats 1000000 in
theorem same_bad (o : Out) (s : OSet) (t x : Int) (w : World) (hx : Chk o s t x) (h : x = 4 ∨ x = 9) : Calls Try.prog 5 #[.agg #[.int .i64 o.row, .int .i64 o.good, .int .i64 o.bad, .int .i64 o.times, .int .i64 o.since, .int .i64 o.till, .bool o.out], .agg #[.int .i64 s.row, .int .i64 s.mille, .int .i64 s.least, .int .i64 s.base, .int .i64 s.most, .int .i64 s.percent, .int .i64 s.panic], .int .i64 t] w (Gives (.bool true) w) := by
  have HX := Lib.hid hx
  clear hx
  have HH := Lib.hid h
  have h2 : 1 ≤ x := by omega
  clear h
  go_enter Try.func5, Try.ntmps5
  go_wp2_with (fail)
  refine (alive_any _).mono ?_
  rintro e1 w1 ⟨rfl, hb⟩
  have HO1 := Lib.hid (((OutBox.new w w.heap.size rfl o).alloc _).kept hb)
  have HX1 := Lib.hid ((SetBox.new (w.alloc _) (w.heap.size + 1) (by simp) s).kept hb)
  have HB1 := Lib.hid (below_step (below_alloc (below_alloc (Below.refl w.heap.size w) _) _) hb)
  clear hb
  obtain ⟨⟨s0, s1, s2, s3, s4, s5, s6⟩, _⟩ := HX1.out.cell
  obtain ⟨⟨d0, d1, d2, d3, d4, d5, d6⟩, _⟩ := HO1.out.cell
  go_wp2_with (fail)
  refine (tick_bad o s t x _ HX.out HH.out).mono ?_
  rintro e1 w2 ⟨rfl, hb⟩
  have HB2 := Lib.hid (below_step HB1.out hb)
  clear hb s0 s1 s2 s3 s4 s5 s6 d0 d1 d2 d3 d4 d5 d6
  go_wp2_with (go_at_call 11; refine (num_any _ _).mono ?_; rintro e1 w9 ⟨rfl, rfl⟩)
  go_ret
  exact ⟨rfl, by repeat (first | exact HB2.out | apply below_alloc)⟩

theorem num_quiet (n : Int) (w : World) : Calls Try.prog 11 #[.int .i64 n] w fun e w' => e = .returned (.int .i64 n) ∧ w' = w := (num_any n w).mono fun _ _ ⟨h1, h2⟩ => ⟨h1, h2.symm⟩

theorem ripe_out {o : Out} (s : OSet) (h : o.out = true) : ripeO o s = false := by unfold ripeO; rw [h]; rfl

set_option maxRecDepth 100000 in
set_option maxHeartbeats 2000000 in
theorem same_over (row good bad times since till : Int) (s : OSet) (t : Int) (w : World) (hx : Chk ⟨row, good, bad, times, since, till, true⟩ s t 0) (ht : till ≤ t) :
    Calls Try.prog 5 #[.agg #[.int .i64 row, .int .i64 good, .int .i64 bad, .int .i64 times, .int .i64 since, .int .i64 till, .bool true], .agg #[.int .i64 s.row, .int .i64 s.mille, .int .i64 s.least, .int .i64 s.base, .int .i64 s.most, .int .i64 s.percent, .int .i64 s.panic], .int .i64 t] w (Gives (.bool true) w) := by
  have HX := Lib.hid hx
  clear hx
  have hT : tickO ⟨row, good, bad, times, since, till, true⟩ t = ⟨row, good, bad, times, since, till, false⟩ := by
    unfold tickO; rw [if_pos (show till ≤ t from ht)]
  have k1 := fun W => tick_ok ⟨row, good, bad, times, since, till, true⟩ s t W HX.out
  rw [hT] at k1
  have k2 := fun W => eject_out ⟨row, good, bad, times, since, till, true⟩ s t W HX.out rfl
  have k3 := fun W => ripe_ok ⟨row, good, bad, times, since, till, true⟩ s t W HX.out
  rw [ripe_out s rfl] at k3
  skip
  have K1 := Lib.hid k1
  have K2 := Lib.hid k2
  have K3 := Lib.hid k3
  clear k1 k2 k3 hT
  go_enter Try.func5, Try.ntmps5
  go_wp2_with (fail)
  refine (alive_any _).mono ?_
  rintro e1 w1 ⟨rfl, hb⟩
  have HO1 := Lib.hid (((OutBox.new w w.heap.size rfl ⟨row, good, bad, times, since, till, true⟩).alloc _).kept hb)
  have HX1 := Lib.hid ((SetBox.new (w.alloc _) (w.heap.size + 1) (by simp) s).kept hb)
  have HB1 := Lib.hid (below_step (below_alloc (below_alloc (Below.refl w.heap.size w) _) _) hb)
  clear hb
  obtain ⟨⟨s0, s1, s2, s3, s4, s5, s6⟩, _⟩ := HX1.out.cell
  obtain ⟨⟨d0, d1, d2, d3, d4, d5, d6⟩, _⟩ := HO1.out.cell
  go_wp2_with (fail)
  (try simp only at d0 d1 d2 d3 d4 d5 d6)
  refine (K1.out _).mono ?_
  rintro e1 w2 ⟨rfl, hb⟩
  have HO2 := Lib.hid (HO1.out.kept hb)
  have HX2 := Lib.hid (HX1.out.kept hb)
  have HB2 := Lib.hid (below_step HB1.out hb)
  clear hb s0 s1 s2 s3 s4 s5 s6 d0 d1 d2 d3 d4 d5 d6
  obtain ⟨⟨s0, s1, s2, s3, s4, s5, s6⟩, _⟩ := HX2.out.cell
  obtain ⟨⟨d0, d1, d2, d3, d4, d5, d6⟩, _⟩ := HO2.out.cell
  (try simp only at d0 d1 d2 d3 d4 d5 d6)
  have y2 := HX2.out.lt
  have z2 := HO2.out.lt
  go_wp2_with (go_at_call 11; refine (num_any _ _).mono ?_; rintro e1 w9 ⟨rfl, rfl⟩)
  refine (K2.out _).mono ?_
  rintro e1 w3 ⟨rfl, hb⟩
  have XO3 := Lib.hid ((OutBox.new w2 _ rfl ⟨row, good, bad, times, since, till, false⟩).kept hb)
  have HO3 := Lib.hid ((HO2.out.alloc _).kept hb)
  have HX3 := Lib.hid ((HX2.out.alloc _).kept hb)
  have HB3 := Lib.hid (below_step (below_alloc HB2.out _) hb)
  clear hb s0 s1 s2 s3 s4 s5 s6 d0 d1 d2 d3 d4 d5 d6 y2 z2
  obtain ⟨⟨s0, s1, s2, s3, s4, s5, s6⟩, _⟩ := HX3.out.cell
  obtain ⟨⟨d0, d1, d2, d3, d4, d5, d6⟩, _⟩ := HO3.out.cell
  (try simp only at d0 d1 d2 d3 d4 d5 d6)
  have y3 := HX3.out.lt
  have z3 := HO3.out.lt
  go_wp2_with (fail)
  refine (K3.out _).mono ?_
  rintro e1 w4 ⟨rfl, hb⟩
  have XO4 := Lib.hid ((XO3.out.alloc _).kept hb)
  have HO4 := Lib.hid ((HO3.out.alloc _).kept hb)
  have HB4 := Lib.hid (below_step (below_alloc HB3.out _) hb)
  clear hb s0 s1 s2 s3 s4 s5 s6 d0 d1 d2 d3 d4 d5 d6 y3 z3
  obtain ⟨⟨d0, d1, d2, d3, d4, d5, d6⟩, _⟩ := HO4.out.cell
  obtain ⟨⟨x0, x1, x2, x3, x4, x5, x6⟩, _⟩ := XO4.out.cell
  (try simp only at d0 d1 d2 d3 d4 d5 d6 x0 x1 x2 x3 x4 x5 x6)
  have e1 : decide (t < till) = false := decide_eq_false (by omega)
  go_wp2_with (fail)
  go_quiet ((go_at_call 11; exact Calls.quiet_of_same (num_quiet _ _)))
  go_wp2
  go_ret
  exact ⟨ret_bool (by simp), below_drewN HB4.out _⟩

set_option maxRecDepth 100000 in
set_option maxHeartbeats 2000000 in
theorem same_still (row good bad times since till : Int) (s : OSet) (t : Int) (w : World) (hx : Chk ⟨row, good, bad, times, since, till, true⟩ s t 0) (ht : t < till) :
    Calls Try.prog 5 #[.agg #[.int .i64 row, .int .i64 good, .int .i64 bad, .int .i64 times, .int .i64 since, .int .i64 till, .bool true], .agg #[.int .i64 s.row, .int .i64 s.mille, .int .i64 s.least, .int .i64 s.base, .int .i64 s.most, .int .i64 s.percent, .int .i64 s.panic], .int .i64 t] w (Gives (.bool true) w) := by
  have HX := Lib.hid hx
  clear hx
  have hT : tickO ⟨row, good, bad, times, since, till, true⟩ t = ⟨row, good, bad, times, since, till, true⟩ := by
    unfold tickO; rw [if_neg (show ¬ till ≤ t by omega)]
  have k1 := fun W => tick_ok ⟨row, good, bad, times, since, till, true⟩ s t W HX.out
  rw [hT] at k1
  have k2 := fun W => eject_out ⟨row, good, bad, times, since, till, true⟩ s t W HX.out rfl
  have k3 := fun W => ripe_ok ⟨row, good, bad, times, since, till, true⟩ s t W HX.out
  rw [ripe_out s rfl] at k3
  skip
  have K1 := Lib.hid k1
  have K2 := Lib.hid k2
  have K3 := Lib.hid k3
  clear k1 k2 k3 hT
  go_enter Try.func5, Try.ntmps5
  go_wp2_with (fail)
  refine (alive_any _).mono ?_
  rintro e1 w1 ⟨rfl, hb⟩
  have HO1 := Lib.hid (((OutBox.new w w.heap.size rfl ⟨row, good, bad, times, since, till, true⟩).alloc _).kept hb)
  have HX1 := Lib.hid ((SetBox.new (w.alloc _) (w.heap.size + 1) (by simp) s).kept hb)
  have HB1 := Lib.hid (below_step (below_alloc (below_alloc (Below.refl w.heap.size w) _) _) hb)
  clear hb
  obtain ⟨⟨s0, s1, s2, s3, s4, s5, s6⟩, _⟩ := HX1.out.cell
  obtain ⟨⟨d0, d1, d2, d3, d4, d5, d6⟩, _⟩ := HO1.out.cell
  go_wp2_with (fail)
  (try simp only at d0 d1 d2 d3 d4 d5 d6)
  refine (K1.out _).mono ?_
  rintro e1 w2 ⟨rfl, hb⟩
  have HO2 := Lib.hid (HO1.out.kept hb)
  have HX2 := Lib.hid (HX1.out.kept hb)
  have HB2 := Lib.hid (below_step HB1.out hb)
  clear hb s0 s1 s2 s3 s4 s5 s6 d0 d1 d2 d3 d4 d5 d6
  obtain ⟨⟨s0, s1, s2, s3, s4, s5, s6⟩, _⟩ := HX2.out.cell
  obtain ⟨⟨d0, d1, d2, d3, d4, d5, d6⟩, _⟩ := HO2.out.cell
  (try simp only at d0 d1 d2 d3 d4 d5 d6)
  have y2 := HX2.out.lt
  have z2 := HO2.out.lt
  go_wp2_with (go_at_call 11; refine (num_any _ _).mono ?_; rintro e1 w9 ⟨rfl, rfl⟩)
  refine (K2.out _).mono ?_
  rintro e1 w3 ⟨rfl, hb⟩
  have XO3 := Lib.hid ((OutBox.new w2 _ rfl ⟨row, good, bad, times, since, till, true⟩).kept hb)
  have HO3 := Lib.hid ((HO2.out.alloc _).kept hb)
  have HX3 := Lib.hid ((HX2.out.alloc _).kept hb)
  have HB3 := Lib.hid (below_step (below_alloc HB2.out _) hb)
  clear hb s0 s1 s2 s3 s4 s5 s6 d0 d1 d2 d3 d4 d5 d6 y2 z2
  obtain ⟨⟨s0, s1, s2, s3, s4, s5, s6⟩, _⟩ := HX3.out.cell
  obtain ⟨⟨d0, d1, d2, d3, d4, d5, d6⟩, _⟩ := HO3.out.cell
  (try simp only at d0 d1 d2 d3 d4 d5 d6)
  have y3 := HX3.out.lt
  have z3 := HO3.out.lt
  go_wp2_with (fail)
  refine (K3.out _).mono ?_
  rintro e1 w4 ⟨rfl, hb⟩
  have XO4 := Lib.hid ((XO3.out.alloc _).kept hb)
  have HO4 := Lib.hid ((HO3.out.alloc _).kept hb)
  have HB4 := Lib.hid (below_step (below_alloc HB3.out _) hb)
  clear hb s0 s1 s2 s3 s4 s5 s6 d0 d1 d2 d3 d4 d5 d6 y3 z3
  obtain ⟨⟨d0, d1, d2, d3, d4, d5, d6⟩, _⟩ := HO4.out.cell
  obtain ⟨⟨x0, x1, x2, x3, x4, x5, x6⟩, _⟩ := XO4.out.cell
  (try simp only at d0 d1 d2 d3 d4 d5 d6 x0 x1 x2 x3 x4 x5 x6)
  have e1 : decide (t < till) = true := decide_eq_true ht
  go_wp2_with (fail)
  go_quiet ((go_at_call 11; exact Calls.quiet_of_same (num_quiet _ _)))
  go_wp2
  go_ret
  exact ⟨ret_bool (by simp), below_drewN HB4.out _⟩

set_option maxRecDepth 100000 in
set_option maxHeartbeats 2000000 in
theorem same_in (row good bad times since till : Int) (s : OSet) (t : Int) (w : World) (hx : Chk ⟨row, good, bad, times, since, till, false⟩ s t 0) :
    Calls Try.prog 5 #[.agg #[.int .i64 row, .int .i64 good, .int .i64 bad, .int .i64 times, .int .i64 since, .int .i64 till, .bool false], .agg #[.int .i64 s.row, .int .i64 s.mille, .int .i64 s.least, .int .i64 s.base, .int .i64 s.most, .int .i64 s.percent, .int .i64 s.panic], .int .i64 t] w (Gives (.bool true) w) := by
  have HX := Lib.hid hx
  clear hx
  have hT : tickO ⟨row, good, bad, times, since, till, false⟩ t = ⟨row, good, bad, times, since, till, false⟩ := by
    exact tick_same t rfl
  have k1 := fun W => tick_ok ⟨row, good, bad, times, since, till, false⟩ s t W HX.out
  rw [hT] at k1
  have k2 := fun W => eject_ok ⟨row, good, bad, times, since, till, false⟩ s t W HX.out rfl
  have k3 := fun W => ripe_ok ⟨row, good, bad, times, since, till, false⟩ s t W HX.out
  generalize ripeO ⟨row, good, bad, times, since, till, false⟩ s = rp at k3
  generalize ejectO ⟨row, good, bad, times, since, till, false⟩ s t = ej at k2
  have K1 := Lib.hid k1
  have K2 := Lib.hid k2
  have K3 := Lib.hid k3
  clear k1 k2 k3 hT
  go_enter Try.func5, Try.ntmps5
  go_wp2_with (fail)
  refine (alive_any _).mono ?_
  rintro e1 w1 ⟨rfl, hb⟩
  have HO1 := Lib.hid (((OutBox.new w w.heap.size rfl ⟨row, good, bad, times, since, till, false⟩).alloc _).kept hb)
  have HX1 := Lib.hid ((SetBox.new (w.alloc _) (w.heap.size + 1) (by simp) s).kept hb)
  have HB1 := Lib.hid (below_step (below_alloc (below_alloc (Below.refl w.heap.size w) _) _) hb)
  clear hb
  obtain ⟨⟨s0, s1, s2, s3, s4, s5, s6⟩, _⟩ := HX1.out.cell
  obtain ⟨⟨d0, d1, d2, d3, d4, d5, d6⟩, _⟩ := HO1.out.cell
  go_wp2_with (fail)
  (try simp only at d0 d1 d2 d3 d4 d5 d6)
  refine (K1.out _).mono ?_
  rintro e1 w2 ⟨rfl, hb⟩
  have HO2 := Lib.hid (HO1.out.kept hb)
  have HX2 := Lib.hid (HX1.out.kept hb)
  have HB2 := Lib.hid (below_step HB1.out hb)
  clear hb s0 s1 s2 s3 s4 s5 s6 d0 d1 d2 d3 d4 d5 d6
  obtain ⟨⟨s0, s1, s2, s3, s4, s5, s6⟩, _⟩ := HX2.out.cell
  obtain ⟨⟨d0, d1, d2, d3, d4, d5, d6⟩, _⟩ := HO2.out.cell
  (try simp only at d0 d1 d2 d3 d4 d5 d6)
  have y2 := HX2.out.lt
  have z2 := HO2.out.lt
  go_wp2_with (go_at_call 11; refine (num_any _ _).mono ?_; rintro e1 w9 ⟨rfl, rfl⟩)
  refine (K2.out _).mono ?_
  rintro e1 w3 ⟨rfl, hb⟩
  have XO3 := Lib.hid ((OutBox.new w2 _ rfl ⟨row, good, bad, times, since, till, false⟩).kept hb)
  have HO3 := Lib.hid ((HO2.out.alloc _).kept hb)
  have HX3 := Lib.hid ((HX2.out.alloc _).kept hb)
  have HB3 := Lib.hid (below_step (below_alloc HB2.out _) hb)
  clear hb s0 s1 s2 s3 s4 s5 s6 d0 d1 d2 d3 d4 d5 d6 y2 z2
  obtain ⟨⟨s0, s1, s2, s3, s4, s5, s6⟩, _⟩ := HX3.out.cell
  obtain ⟨⟨d0, d1, d2, d3, d4, d5, d6⟩, _⟩ := HO3.out.cell
  (try simp only at d0 d1 d2 d3 d4 d5 d6)
  have y3 := HX3.out.lt
  have z3 := HO3.out.lt
  go_wp2_with (fail)
  refine (K3.out _).mono ?_
  rintro e1 w4 ⟨rfl, hb⟩
  have XO4 := Lib.hid ((XO3.out.alloc _).kept hb)
  have HO4 := Lib.hid ((HO3.out.alloc _).kept hb)
  have HB4 := Lib.hid (below_step (below_alloc HB3.out _) hb)
  clear hb s0 s1 s2 s3 s4 s5 s6 d0 d1 d2 d3 d4 d5 d6 y3 z3
  obtain ⟨⟨d0, d1, d2, d3, d4, d5, d6⟩, _⟩ := HO4.out.cell
  obtain ⟨⟨x0, x1, x2, x3, x4, x5, x6⟩, _⟩ := XO4.out.cell
  (try simp only at d0 d1 d2 d3 d4 d5 d6 x0 x1 x2 x3 x4 x5 x6)
  go_wp2_with (fail)
  go_quiet ((go_at_call 11; exact Calls.quiet_of_same (num_quiet _ _)))
  go_wp2
  go_ret
  exact ⟨ret_bool (by simp), below_drewN HB4.out _⟩

theorem same_walk (o : Out) (s : OSet) (t : Int) (w : World) : Calls Try.prog 5 #[.agg #[.int .i64 o.row, .int .i64 o.good, .int .i64 o.bad, .int .i64 o.times, .int .i64 o.since, .int .i64 o.till, .bool o.out], .agg #[.int .i64 s.row, .int .i64 s.mille, .int .i64 s.least, .int .i64 s.base, .int .i64 s.most, .int .i64 s.percent, .int .i64 s.panic], .int .i64 t] w (Gives (.bool true) w) := by
  rcases chk_some o s t with ⟨h1, h2, h3⟩ | ⟨x, h1, h2⟩
  · have hx := chk_ok h1 h2 h3
    obtain ⟨row, good, bad, times, since, till, out⟩ := o
    cases out with
    | true =>
      by_cases ht : till ≤ t
      · exact same_over _ _ _ _ _ _ s t w hx ht
      · exact same_still _ _ _ _ _ _ s t w hx (Int.not_le.mp ht)
    | false => exact same_in _ _ _ _ _ _ s t w hx
  · exact same_bad o s t x w h1 h2
end Go.Proofs.Ytnhkfhjiolpimaa
