/- The walk of OutlierRoom: it hands back true. Condition: none but that the numbers are ints. -/
import Derived.Test.YtnhkfhjiolpimaaAlive
namespace Go.Proofs.Ytnhkfhjiolpimaa
open Go.RowKit

theorem panics_b (s : OSet) (n k : Int) (w : World) (h : RoomP s n k) (b : Bool) (hb : decide (100 * k < s.panic * n) = b) : Calls Try.prog 12 #[.agg #[.int .i64 s.row, .int .i64 s.mille, .int .i64 s.least, .int .i64 s.base, .int .i64 s.most, .int .i64 s.percent, .int .i64 s.panic], .int .i64 n, .int .i64 k] w (Gives (.tuple #[.bool b, .int .i64 0]) w) := by
  subst hb
  exact panics_ok s n k w h

set_option maxHeartbeats 1000000 in
theorem roomwalk_no (s : OSet) (n : Int) (w : World) (h : ¬ RoomP s n 0) : Calls Try.prog 3 #[.agg #[.int .i64 s.row, .int .i64 s.mille, .int .i64 s.least, .int .i64 s.base, .int .i64 s.most, .int .i64 s.percent, .int .i64 s.panic], .int .i64 n] w (Gives (.bool true) w) := by
  have H := Lib.hid h
  clear h
  go_enter Try.func3, Try.ntmps3
  go_wp2_with (fail)
  refine (alive_any _).mono ?_
  rintro e1 w1 ⟨rfl, hb⟩
  have HX1 := Lib.hid ((SetBox.new w w.heap.size rfl s).kept hb)
  have HB1 := Lib.hid (below_step (below_alloc (Below.refl w.heap.size w) _) hb)
  clear hb
  obtain ⟨⟨s0, s1, s2, s3, s4, s5, s6⟩, _⟩ := HX1.out.cell
  go_wp2_with (fail)
  refine (room_no _ _ _ _ H.out).mono ?_
  rintro e1 w2 ⟨rfl, hb⟩
  have HX2 := Lib.hid (HX1.out.kept hb)
  have HB2 := Lib.hid (below_step HB1.out hb)
  clear hb s0 s1 s2 s3 s4 s5 s6
  obtain ⟨⟨s0, s1, s2, s3, s4, s5, s6⟩, _⟩ := HX2.out.cell
  go_wp2_with (go_at_call 11; refine (num_any _ _).mono ?_; rintro e1 w9 ⟨rfl, rfl⟩)
  go_ret
  exact ⟨rfl, HB2.out⟩

theorem room_zero {s : OSet} {n : Int} (h : RoomP s n 0) : 0 ≤ roomI s n 0 ∧ roomI s n 0 ≤ n ∧ roomI s n (roomI s n 0) = 0 := by
  have p0 := h.sets.percent0
  have p1 := h.sets.percent1
  have n0 := h.n0
  have q0 : 0 ≤ n * s.percent := Int.mul_nonneg n0 p0
  have q1 : n * s.percent ≤ n * 100 := Int.mul_le_mul_of_nonneg_left p1 n0
  have e : roomI s n 0 = n * s.percent / 100 := by unfold roomI; split <;> omega
  rw [e]
  refine ⟨by omega, by omega, ?_⟩
  unfold roomI
  split <;> omega

theorem panic_none {s : OSet} {n : Int} (h : RoomP s n 0) : decide (100 * 0 < s.panic * n) = (decide (0 < s.panic) && decide (0 < n)) := by
  have p0 := h.sets.panic0
  have n0 := h.n0
  by_cases h1 : 0 < s.panic
  · by_cases h2 : 0 < n
    · have := Int.mul_pos h1 h2
      simp [h1, h2, this]
    · have : n = 0 := by omega
      subst this
      simp
  · have : s.panic = 0 := by omega
    simp [this]

theorem panic_all {s : OSet} {n : Int} (h : RoomP s n 0) : decide (100 * n < s.panic * n) = false := by
  have := Int.mul_le_mul_of_nonneg_right h.sets.panic1 h.n0
  simp
  omega

set_option maxHeartbeats 2000000 in
theorem roomwalk_ok (s : OSet) (n : Int) (w : World) (h : RoomP s n 0) : Calls Try.prog 3 #[.agg #[.int .i64 s.row, .int .i64 s.mille, .int .i64 s.least, .int .i64 s.base, .int .i64 s.most, .int .i64 s.percent, .int .i64 s.panic], .int .i64 n] w (Gives (.bool true) w) := by
  have H := Lib.hid h
  obtain ⟨r0, r1, r2⟩ := room_zero h
  have hP := panic_none h
  generalize hr : roomI s n 0 = r at *
  have E := Lib.hid hr
  have E2 := Lib.hid r2
  have H2 : Hid (RoomP s n r) := ⟨h.sets, h.n0, h.n1, r0, r1⟩
  have H3 : Hid (RoomP s n n) := ⟨h.sets, h.n0, h.n1, h.n0, Int.le_refl _⟩
  have n0 := h.n0
  clear hr r2 h
  have HP : Hid (∃ b, decide (100 * 0 < s.panic * n) = b ∧ ((b = true ∧ 0 < s.panic ∧ 0 < n) ∨ (b = false ∧ s.panic ≤ 0) ∨ (b = false ∧ 0 < s.panic ∧ n ≤ 0))) := by
    refine ⟨_, rfl, ?_⟩
    rw [hP]
    by_cases h1 : 0 < s.panic
    · by_cases h2 : 0 < n
      · exact .inl (by simp [h1, h2])
      · exact .inr (.inr (by simp [h1, h2]; omega))
    · exact .inr (.inl (by simp [h1]; omega))
  clear hP
  obtain ⟨b, hb, hc⟩ := HP.out
  have HB := Lib.hid hb
  clear hb HP
  rcases hc with ⟨rfl, hp, hn⟩ | ⟨rfl, hp⟩ | ⟨rfl, hp, hn⟩
  · have p1 : decide (0 < s.panic) = true := decide_eq_true hp
    have p2 : decide (0 < n) = true := decide_eq_true hn
    go_enter Try.func3, Try.ntmps3
    go_wp2_with (fail)
    refine (alive_any _).mono ?_
    rintro e1 w1 ⟨rfl, hb⟩
    have HX1 := Lib.hid ((SetBox.new w w.heap.size rfl s).kept hb)
    have HB1 := Lib.hid (below_step (below_alloc (Below.refl w.heap.size w) _) hb)
    clear hb
    obtain ⟨⟨s0, s1, s2, s3, s4, s5, s6⟩, _⟩ := HX1.out.cell
    go_wp2_with (fail)
    refine (room_ok _ _ _ _ H.out).mono ?_
    rw [E.out]
    rintro e1 w2 ⟨rfl, hb⟩
    have HX2 := Lib.hid (HX1.out.kept hb)
    have HB2 := Lib.hid (below_step HB1.out hb)
    clear hb s0 s1 s2 s3 s4 s5 s6
    obtain ⟨⟨s0, s1, s2, s3, s4, s5, s6⟩, _⟩ := HX2.out.cell
    go_wp2_with (go_at_call 11; refine (num_any _ _).mono ?_; rintro e1 w9 ⟨rfl, rfl⟩)
    refine (room_ok _ _ _ _ H2.out).mono ?_
    rw [E2.out]
    rintro e1 w3 ⟨rfl, hb⟩
    have HX3 := Lib.hid (HX2.out.kept hb)
    have HB3 := Lib.hid (below_step HB2.out hb)
    clear hb s0 s1 s2 s3 s4 s5 s6
    obtain ⟨⟨s0, s1, s2, s3, s4, s5, s6⟩, _⟩ := HX3.out.cell
    go_wp2_with (fail)
    refine (panics_b _ _ _ _ H.out _ HB.out).mono ?_
    rintro e1 w4 ⟨rfl, hb⟩
    have HX4 := Lib.hid (HX3.out.kept hb)
    have HB4 := Lib.hid (below_step HB3.out hb)
    clear hb s0 s1 s2 s3 s4 s5 s6
    obtain ⟨⟨s0, s1, s2, s3, s4, s5, s6⟩, _⟩ := HX4.out.cell
    go_wp2_with (fail)
    refine (panics_b _ _ _ _ H3.out _ (panic_all H.out)).mono ?_
    rintro e1 w5 ⟨rfl, hb⟩
    have HX5 := Lib.hid (HX4.out.kept hb)
    have HB5 := Lib.hid (below_step HB4.out hb)
    clear hb s0 s1 s2 s3 s4 s5 s6
    obtain ⟨⟨s0, s1, s2, s3, s4, s5, s6⟩, _⟩ := HX5.out.cell
    go_wp2_with (go_at_call 11; refine (num_any _ _).mono ?_; rintro e1 w9 ⟨rfl, rfl⟩)
    go_ret
    exact ⟨ret_bool (by simp <;> omega), HB5.out⟩
  · have p1 : decide (0 < s.panic) = false := decide_eq_false (by omega)
    go_enter Try.func3, Try.ntmps3
    go_wp2_with (fail)
    refine (alive_any _).mono ?_
    rintro e1 w1 ⟨rfl, hb⟩
    have HX1 := Lib.hid ((SetBox.new w w.heap.size rfl s).kept hb)
    have HB1 := Lib.hid (below_step (below_alloc (Below.refl w.heap.size w) _) hb)
    clear hb
    obtain ⟨⟨s0, s1, s2, s3, s4, s5, s6⟩, _⟩ := HX1.out.cell
    go_wp2_with (fail)
    refine (room_ok _ _ _ _ H.out).mono ?_
    rw [E.out]
    rintro e1 w2 ⟨rfl, hb⟩
    have HX2 := Lib.hid (HX1.out.kept hb)
    have HB2 := Lib.hid (below_step HB1.out hb)
    clear hb s0 s1 s2 s3 s4 s5 s6
    obtain ⟨⟨s0, s1, s2, s3, s4, s5, s6⟩, _⟩ := HX2.out.cell
    go_wp2_with (go_at_call 11; refine (num_any _ _).mono ?_; rintro e1 w9 ⟨rfl, rfl⟩)
    refine (room_ok _ _ _ _ H2.out).mono ?_
    rw [E2.out]
    rintro e1 w3 ⟨rfl, hb⟩
    have HX3 := Lib.hid (HX2.out.kept hb)
    have HB3 := Lib.hid (below_step HB2.out hb)
    clear hb s0 s1 s2 s3 s4 s5 s6
    obtain ⟨⟨s0, s1, s2, s3, s4, s5, s6⟩, _⟩ := HX3.out.cell
    go_wp2_with (fail)
    refine (panics_b _ _ _ _ H.out _ HB.out).mono ?_
    rintro e1 w4 ⟨rfl, hb⟩
    have HX4 := Lib.hid (HX3.out.kept hb)
    have HB4 := Lib.hid (below_step HB3.out hb)
    clear hb s0 s1 s2 s3 s4 s5 s6
    obtain ⟨⟨s0, s1, s2, s3, s4, s5, s6⟩, _⟩ := HX4.out.cell
    go_wp2_with (fail)
    refine (panics_b _ _ _ _ H3.out _ (panic_all H.out)).mono ?_
    rintro e1 w5 ⟨rfl, hb⟩
    have HX5 := Lib.hid (HX4.out.kept hb)
    have HB5 := Lib.hid (below_step HB4.out hb)
    clear hb s0 s1 s2 s3 s4 s5 s6
    obtain ⟨⟨s0, s1, s2, s3, s4, s5, s6⟩, _⟩ := HX5.out.cell
    go_wp2_with (go_at_call 11; refine (num_any _ _).mono ?_; rintro e1 w9 ⟨rfl, rfl⟩)
    go_ret
    exact ⟨ret_bool (by simp <;> omega), HB5.out⟩
  · have p1 : decide (0 < s.panic) = true := decide_eq_true hp
    have p2 : decide (0 < n) = false := decide_eq_false (by omega)
    go_enter Try.func3, Try.ntmps3
    go_wp2_with (fail)
    refine (alive_any _).mono ?_
    rintro e1 w1 ⟨rfl, hb⟩
    have HX1 := Lib.hid ((SetBox.new w w.heap.size rfl s).kept hb)
    have HB1 := Lib.hid (below_step (below_alloc (Below.refl w.heap.size w) _) hb)
    clear hb
    obtain ⟨⟨s0, s1, s2, s3, s4, s5, s6⟩, _⟩ := HX1.out.cell
    go_wp2_with (fail)
    refine (room_ok _ _ _ _ H.out).mono ?_
    rw [E.out]
    rintro e1 w2 ⟨rfl, hb⟩
    have HX2 := Lib.hid (HX1.out.kept hb)
    have HB2 := Lib.hid (below_step HB1.out hb)
    clear hb s0 s1 s2 s3 s4 s5 s6
    obtain ⟨⟨s0, s1, s2, s3, s4, s5, s6⟩, _⟩ := HX2.out.cell
    go_wp2_with (go_at_call 11; refine (num_any _ _).mono ?_; rintro e1 w9 ⟨rfl, rfl⟩)
    refine (room_ok _ _ _ _ H2.out).mono ?_
    rw [E2.out]
    rintro e1 w3 ⟨rfl, hb⟩
    have HX3 := Lib.hid (HX2.out.kept hb)
    have HB3 := Lib.hid (below_step HB2.out hb)
    clear hb s0 s1 s2 s3 s4 s5 s6
    obtain ⟨⟨s0, s1, s2, s3, s4, s5, s6⟩, _⟩ := HX3.out.cell
    go_wp2_with (fail)
    refine (panics_b _ _ _ _ H.out _ HB.out).mono ?_
    rintro e1 w4 ⟨rfl, hb⟩
    have HX4 := Lib.hid (HX3.out.kept hb)
    have HB4 := Lib.hid (below_step HB3.out hb)
    clear hb s0 s1 s2 s3 s4 s5 s6
    obtain ⟨⟨s0, s1, s2, s3, s4, s5, s6⟩, _⟩ := HX4.out.cell
    go_wp2_with (fail)
    refine (panics_b _ _ _ _ H3.out _ (panic_all H.out)).mono ?_
    rintro e1 w5 ⟨rfl, hb⟩
    have HX5 := Lib.hid (HX4.out.kept hb)
    have HB5 := Lib.hid (below_step HB4.out hb)
    clear hb s0 s1 s2 s3 s4 s5 s6
    obtain ⟨⟨s0, s1, s2, s3, s4, s5, s6⟩, _⟩ := HX5.out.cell
    go_wp2_with (go_at_call 11; refine (num_any _ _).mono ?_; rintro e1 w9 ⟨rfl, rfl⟩)
    go_ret
    exact ⟨ret_bool (by simp <;> omega), HB5.out⟩

theorem room_walk (s : OSet) (n : Int) (w : World) : Calls Try.prog 3 #[.agg #[.int .i64 s.row, .int .i64 s.mille, .int .i64 s.least, .int .i64 s.base, .int .i64 s.most, .int .i64 s.percent, .int .i64 s.panic], .int .i64 n] w (Gives (.bool true) w) := by
  by_cases h : RoomP s n 0
  · exact roomwalk_ok s n w h
  · exact roomwalk_no s n w h
end Go.Proofs.Ytnhkfhjiolpimaa
