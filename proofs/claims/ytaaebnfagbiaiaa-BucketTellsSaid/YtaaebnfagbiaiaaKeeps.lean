/- The walk of BucketKeeps: it hands back true. Condition: none but that the numbers are ints. -/
import Derived.Test.YtaaebnfagbiaiaaMany
namespace Go.Proofs.Ytaaebnfagbiaiaa
open Go.RowKit

set_option maxHeartbeats 2000000 in
theorem keeps_bad (c t r k l n x : Int) (w : World) (h : BadAt c t r k l x) :
    Calls Try.prog 8 #[.agg #[.int .i64 c, .int .i64 t, .int .i64 r, .int .i64 k], .int .i64 l, .int .i64 n] w (Gives (.bool true) w) := by
  have H := Lib.hid h
  have hx := h.ne
  clear h
  rcases hx with rfl | rfl
  all_goals
    go_enter Try.func8, Try.ntmps8
    go_wp2_with (fail)
    refine (alive_any _).mono ?_
    rintro e1 w1 ⟨rfl, hb⟩
    have HX := Lib.hid ((box_new c t r k w).below hb (by simp))
    obtain ⟨d0, d1, d2, d3⟩ := HX.out.cell
    have HB := Lib.hid (below_step (below_alloc (Below.refl w.heap.size w) _) hb)
    clear hb
    go_wp2_with (fail)
    refine (take_bad _ _ _ _ _ _ H.out _).mono ?_
    rintro e1 w2 ⟨rfl, hb⟩
    have HB2 := Lib.hid (below_step HB.out hb)
    clear d0 d1 d2 d3 hb
    go_wp2_with (go_at_call 11; refine (num_any _ _).mono ?_; rintro e1 w3 ⟨rfl, rfl⟩)
    go_ret
    exact ⟨rfl, HB2.out⟩

set_option maxHeartbeats 4000000 in
theorem keeps_yes (c t r k l n : Int) (w : World) (h : SetsP c t r k) (h8 : 0 ≤ l) (h9 : l ≤ 1000 * k) (h7 : 1000 ≤ l) :
    Calls Try.prog 8 #[.agg #[.int .i64 c, .int .i64 t, .int .i64 r, .int .i64 k], .int .i64 l, .int .i64 n] w (Gives (.bool true) w) := by
  have H := Lib.hid h
  obtain ⟨t0, t1⟩ := tmod_in n
  have h10 : k ≤ 1000 := h.2.2.2.2.2.2
  clear h
  go_enter Try.func8, Try.ntmps8
  go_wp2_with (fail)
  refine (alive_any _).mono ?_
  rintro e1 w1 ⟨rfl, hb⟩
  have HX := Lib.hid ((box_new c t r k w).below hb (by simp))
  obtain ⟨d0, d1, d2, d3⟩ := HX.out.cell
  have HB := Lib.hid (below_step (below_alloc (Below.refl w.heap.size w) _) hb)
  have hz := hb.size
  clear hb
  simp at hz
  go_wp2_with (fail)
  refine (take_yes _ _ _ _ _ ⟨H.out, h8, h9⟩ h7 _).mono ?_
  rintro e1 w2 ⟨rfl, hb⟩
  have HX2 := Lib.hid (HX.out.below hb (by first | exact hz | omega))
  have HB2 := Lib.hid (below_step HB.out hb)
  have hz2 := Nat.lt_of_lt_of_le hz hb.size
  clear d0 d1 d2 d3 hb hz
  obtain ⟨d0, d1, d2, d3⟩ := HX2.out.cell
  go_wp2_with (go_at_call 11; refine (num_any _ _).mono ?_; rintro e1 w3 ⟨rfl, rfl⟩)
  rw [show n.tmod 1000 % 1000 = (n.tmod 1000 + 1000) % 1000 by omega]
  have n0 : 0 ≤ (n.tmod 1000 + 1000) % 1000 := by omega
  have n1 : (n.tmod 1000 + 1000) % 1000 ≤ 999 := by omega
  generalize (n.tmod 1000 + 1000) % 1000 = u at *
  clear t0 t1
  obtain ⟨a0, a1, a2, _⟩ := capped_in h8 h9 (Int.mul_nonneg n0 H.out.1)
  obtain ⟨b0, b1, b2, _⟩ := capped_in h8 h9 (Int.mul_nonneg n0 H.out.2.2.1)
  refine (calls_ok _ _ _ _ _ _ ⟨H.out, h8, h9, n0, by omega⟩ _).mono ?_
  rintro e1 w3 ⟨rfl, hb⟩
  generalize capped l (u * c) k = x at *
  have HX3 := Lib.hid (HX2.out.below hb (by first | exact hz2 | omega))
  have HB3 := Lib.hid (below_step HB2.out hb)
  have hz3 := Nat.lt_of_lt_of_le hz2 hb.size
  clear d0 d1 d2 d3 hb hz2
  obtain ⟨d0, d1, d2, d3⟩ := HX3.out.cell
  go_wp2_with (fail)
  refine (ticks_ok _ _ _ _ _ _ ⟨H.out, h8, h9, n0, by omega⟩ _).mono ?_
  rintro e1 w4 ⟨rfl, hb⟩
  generalize capped l (u * t) k = y at *
  have HX4 := Lib.hid (HX3.out.below hb (by first | exact hz3 | omega))
  have HB4 := Lib.hid (below_step HB3.out hb)
  have hz4 := Nat.lt_of_lt_of_le hz3 hb.size
  clear d0 d1 d2 d3 hb hz3
  obtain ⟨d0, d1, d2, d3⟩ := HX4.out.cell
  go_wp2_with (go_at_call 11; refine (num_any _ _).mono ?_; rintro e1 w5 ⟨rfl, rfl⟩)
  refine (check_ok _ _ _ _ _ H.out a0 a1 _).mono ?_
  rintro e1 w5 ⟨rfl, hb⟩
  have HX5 := Lib.hid (HX4.out.below hb (by first | exact hz4 | omega))
  have HB5 := Lib.hid (below_step HB4.out hb)
  clear d0 d1 d2 d3 hb hz4
  obtain ⟨d0, d1, d2, d3⟩ := HX5.out.cell
  go_wp2_with (go_at_call 11; refine (num_any _ _).mono ?_; rintro e1 w6 ⟨rfl, rfl⟩)
  refine (check_ok _ _ _ _ _ H.out b0 b1 _).mono ?_
  rintro e1 w6 ⟨rfl, hb⟩
  have HB6 := Lib.hid (below_step HB5.out hb)
  clear d0 d1 d2 d3 hb
  go_wp2_with (go_at_call 11; refine (num_any _ _).mono ?_; rintro e1 w7 ⟨rfl, rfl⟩)
  go_ret
  exact ⟨ret_bool (by simp <;> omega), HB6.out⟩

set_option maxHeartbeats 4000000 in
theorem keeps_no (c t r k l n : Int) (w : World) (h : SetsP c t r k) (h8 : 0 ≤ l) (h9 : l ≤ 1000 * k) (h7 : l < 1000) :
    Calls Try.prog 8 #[.agg #[.int .i64 c, .int .i64 t, .int .i64 r, .int .i64 k], .int .i64 l, .int .i64 n] w (Gives (.bool true) w) := by
  have H := Lib.hid h
  obtain ⟨t0, t1⟩ := tmod_in n
  have h10 : k ≤ 1000 := h.2.2.2.2.2.2
  clear h
  go_enter Try.func8, Try.ntmps8
  go_wp2_with (fail)
  refine (alive_any _).mono ?_
  rintro e1 w1 ⟨rfl, hb⟩
  have HX := Lib.hid ((box_new c t r k w).below hb (by simp))
  obtain ⟨d0, d1, d2, d3⟩ := HX.out.cell
  have HB := Lib.hid (below_step (below_alloc (Below.refl w.heap.size w) _) hb)
  have hz := hb.size
  clear hb
  simp at hz
  go_wp2_with (fail)
  refine (take_no _ _ _ _ _ ⟨H.out, h8, h9⟩ h7 _).mono ?_
  rintro e1 w2 ⟨rfl, hb⟩
  have HX2 := Lib.hid (HX.out.below hb (by first | exact hz | omega))
  have HB2 := Lib.hid (below_step HB.out hb)
  have hz2 := Nat.lt_of_lt_of_le hz hb.size
  clear d0 d1 d2 d3 hb hz
  obtain ⟨d0, d1, d2, d3⟩ := HX2.out.cell
  go_wp2_with (go_at_call 11; refine (num_any _ _).mono ?_; rintro e1 w3 ⟨rfl, rfl⟩)
  rw [show n.tmod 1000 % 1000 = (n.tmod 1000 + 1000) % 1000 by omega]
  have n0 : 0 ≤ (n.tmod 1000 + 1000) % 1000 := by omega
  have n1 : (n.tmod 1000 + 1000) % 1000 ≤ 999 := by omega
  generalize (n.tmod 1000 + 1000) % 1000 = u at *
  clear t0 t1
  obtain ⟨a0, a1, a2, _⟩ := capped_in h8 h9 (Int.mul_nonneg n0 H.out.1)
  obtain ⟨b0, b1, b2, _⟩ := capped_in h8 h9 (Int.mul_nonneg n0 H.out.2.2.1)
  refine (calls_ok _ _ _ _ _ _ ⟨H.out, h8, h9, n0, by omega⟩ _).mono ?_
  rintro e1 w3 ⟨rfl, hb⟩
  generalize capped l (u * c) k = x at *
  have HX3 := Lib.hid (HX2.out.below hb (by first | exact hz2 | omega))
  have HB3 := Lib.hid (below_step HB2.out hb)
  have hz3 := Nat.lt_of_lt_of_le hz2 hb.size
  clear d0 d1 d2 d3 hb hz2
  obtain ⟨d0, d1, d2, d3⟩ := HX3.out.cell
  go_wp2_with (fail)
  refine (ticks_ok _ _ _ _ _ _ ⟨H.out, h8, h9, n0, by omega⟩ _).mono ?_
  rintro e1 w4 ⟨rfl, hb⟩
  generalize capped l (u * t) k = y at *
  have HX4 := Lib.hid (HX3.out.below hb (by first | exact hz3 | omega))
  have HB4 := Lib.hid (below_step HB3.out hb)
  have hz4 := Nat.lt_of_lt_of_le hz3 hb.size
  clear d0 d1 d2 d3 hb hz3
  obtain ⟨d0, d1, d2, d3⟩ := HX4.out.cell
  go_wp2_with (go_at_call 11; refine (num_any _ _).mono ?_; rintro e1 w5 ⟨rfl, rfl⟩)
  refine (check_ok _ _ _ _ _ H.out a0 a1 _).mono ?_
  rintro e1 w5 ⟨rfl, hb⟩
  have HX5 := Lib.hid (HX4.out.below hb (by first | exact hz4 | omega))
  have HB5 := Lib.hid (below_step HB4.out hb)
  clear d0 d1 d2 d3 hb hz4
  obtain ⟨d0, d1, d2, d3⟩ := HX5.out.cell
  go_wp2_with (go_at_call 11; refine (num_any _ _).mono ?_; rintro e1 w6 ⟨rfl, rfl⟩)
  refine (check_ok _ _ _ _ _ H.out b0 b1 _).mono ?_
  rintro e1 w6 ⟨rfl, hb⟩
  have HB6 := Lib.hid (below_step HB5.out hb)
  clear d0 d1 d2 d3 hb
  go_wp2_with (go_at_call 11; refine (num_any _ _).mono ?_; rintro e1 w7 ⟨rfl, rfl⟩)
  go_ret
  exact ⟨ret_bool (by simp <;> omega), HB6.out⟩

theorem keeps_walk (c t r k l n : Int) (w : World) :
    Calls Try.prog 8 #[.agg #[.int .i64 c, .int .i64 t, .int .i64 r, .int .i64 k], .int .i64 l, .int .i64 n] w (Gives (.bool true) w) := by
  rcases bad_or c t r k l with ⟨x, h⟩ | ⟨h, h1, h2⟩
  · exact keeps_bad _ _ _ _ _ _ _ _ h
  · by_cases h3 : 1000 ≤ l
    · exact keeps_yes _ _ _ _ _ _ _ h h1 h2 h3
    · exact keeps_no _ _ _ _ _ _ _ h h1 h2 (by omega)
end Go.Proofs.Ytaaebnfagbiaiaa
