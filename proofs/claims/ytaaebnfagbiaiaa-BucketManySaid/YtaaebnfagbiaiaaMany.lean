/- The walk of BucketMany: it hands back true. Condition: none but that the numbers are ints. -/
import Derived.Test.YtaaebnfagbiaiaaEmpty
namespace Go.Proofs.Ytaaebnfagbiaiaa
open Go.RowKit

theorem mod_in (n : Int) : 0 ≤ n.tmod 1000 % 1000 ∧ n.tmod 1000 % 1000 ≤ 999 := by omega

theorem capped_add {l x y k : Int} (hy : 0 ≤ y) : capped (capped l x k) y k = capped l (x + y) k := by
  unfold capped
  repeat' split
  all_goals omega

theorem calls_zero (c t r k m : Int) (hm0 : 0 ≤ m) (hm1 : m ≤ 1048576) : ∃ b f, ∀ w : World, Calls Try.prog 13 #[.agg #[.int .i64 c, .int .i64 t, .int .i64 r, .int .i64 k], .int .i64 0, .int .i64 m] w (Gives (.tuple #[.int .i64 b, .int .i64 f]) w) := by
  rcases bad_or c t r k 0 with ⟨y, h2⟩ | h2
  · exact ⟨0, y, fun w => calls_bad _ _ _ _ _ _ _ h2 w⟩
  · exact ⟨_, 0, fun w => calls_ok _ _ _ _ _ _ ⟨h2.1, h2.2.1, h2.2.2, hm0, hm1⟩ w⟩

set_option maxHeartbeats 2000000 in
theorem many_bad (c t r k l n m x : Int) (w : World) (h : BadAt c t r k l x) :
    Calls Try.prog 6 #[.agg #[.int .i64 c, .int .i64 t, .int .i64 r, .int .i64 k], .int .i64 l, .int .i64 n, .int .i64 m] w (Gives (.bool true) w) := by
  have H := Lib.hid h
  obtain ⟨t0, t1⟩ := tmod_in n
  obtain ⟨t2, t3⟩ := tmod_in m
  have hx := h.ne
  clear h
  rcases hx with rfl | rfl
  all_goals
    go_enter Try.func6, Try.ntmps6
    go_wp2_with (fail)
    refine (alive_any _).mono ?_
    rintro e1 w1 ⟨rfl, hb⟩
    have HX := Lib.hid ((box_new c t r k w).below hb (by simp))
    obtain ⟨d0, d1, d2, d3⟩ := HX.out.cell
    have HB := Lib.hid (below_step (below_alloc (Below.refl w.heap.size w) _) hb)
    have hz := hb.size
    clear hb
    simp at hz
    go_wp2_with (fail)
    rw [show n.tmod 1000 % 1000 = (n.tmod 1000 + 1000) % 1000 by omega]
    have n0 : 0 ≤ (n.tmod 1000 + 1000) % 1000 := by omega
    have n1 : (n.tmod 1000 + 1000) % 1000 ≤ 999 := by omega
    have m0 : 0 ≤ (m.tmod 1000 + 1000) % 1000 := by omega
    have m1 : (m.tmod 1000 + 1000) % 1000 ≤ 999 := by omega
    generalize (n.tmod 1000 + 1000) % 1000 = u at *
    generalize (m.tmod 1000 + 1000) % 1000 = v at *
    clear t0 t1 t2 t3
    refine (calls_bad _ _ _ _ _ _ _ H.out _).mono ?_
    rintro e1 w2 ⟨rfl, hb⟩
    have HX2 := Lib.hid (HX.out.below hb (by first | exact hz | omega))
    have HB2 := Lib.hid (below_step HB.out hb)
    have hz2 := Nat.lt_of_lt_of_le hz hb.size
    clear d0 d1 d2 d3 hb hz
    obtain ⟨d0, d1, d2, d3⟩ := HX2.out.cell
    obtain ⟨b, f, hZ⟩ := calls_zero c t r k v m0 (by omega)
    have HZ := Lib.hid hZ
    clear hZ
    go_wp2_with (fail)
    refine (HZ.out _).mono ?_
    rintro e1 w3 ⟨rfl, hb⟩
    have HX3 := Lib.hid (HX2.out.below hb (by first | exact hz2 | omega))
    have HB3 := Lib.hid (below_step HB2.out hb)
    clear d0 d1 d2 d3 hb hz2
    obtain ⟨d0, d1, d2, d3⟩ := HX3.out.cell
    go_wp2_with (fail)
    refine (calls_bad _ _ _ _ _ _ _ H.out _).mono ?_
    rintro e1 w4 ⟨rfl, hb⟩
    have HB4 := Lib.hid (below_step HB3.out hb)
    clear d0 d1 d2 d3 hb
    go_wp2_with (go_at_call 11; refine (num_any _ _).mono ?_; rintro e1 w3 ⟨rfl, rfl⟩)
    go_ret
    exact ⟨rfl, HB4.out⟩

set_option maxHeartbeats 2000000 in
theorem many_ok (c t r k l n m : Int) (w : World) (h : SetsP c t r k) (h8 : 0 ≤ l) (h9 : l ≤ 1000 * k) :
    Calls Try.prog 6 #[.agg #[.int .i64 c, .int .i64 t, .int .i64 r, .int .i64 k], .int .i64 l, .int .i64 n, .int .i64 m] w (Gives (.bool true) w) := by
  have H := Lib.hid h
  obtain ⟨t0, t1⟩ := tmod_in n
  obtain ⟨t2, t3⟩ := tmod_in m
  have H1 := Lib.hid h.1
  clear h
  go_enter Try.func6, Try.ntmps6
  go_wp2_with (fail)
  refine (alive_any _).mono ?_
  rintro e1 w1 ⟨rfl, hb⟩
  have HX := Lib.hid ((box_new c t r k w).below hb (by simp))
  obtain ⟨d0, d1, d2, d3⟩ := HX.out.cell
  have HB := Lib.hid (below_step (below_alloc (Below.refl w.heap.size w) _) hb)
  have hz := hb.size
  clear hb
  simp at hz
  go_wp2_with (fail)
  rw [show n.tmod 1000 % 1000 = (n.tmod 1000 + 1000) % 1000 by omega]
  have n0 : 0 ≤ (n.tmod 1000 + 1000) % 1000 := by omega
  have n1 : (n.tmod 1000 + 1000) % 1000 ≤ 999 := by omega
  have m0 : 0 ≤ (m.tmod 1000 + 1000) % 1000 := by omega
  have m1 : (m.tmod 1000 + 1000) % 1000 ≤ 999 := by omega
  generalize (n.tmod 1000 + 1000) % 1000 = u at *
  generalize (m.tmod 1000 + 1000) % 1000 = v at *
  clear t0 t1 t2 t3
  have p0 := Int.mul_nonneg n0 H1.out
  have q0 := Int.mul_nonneg m0 H1.out
  have hA := capped_in h8 h9 p0
  have hE := capped_add (k := k) (l := l) (x := u * c) q0
  rw [← Int.add_mul] at hE
  have HE := Lib.hid hE
  have HA := Lib.hid hA
  clear hE hA
  refine (calls_ok _ _ _ _ _ _ ⟨H.out, h8, h9, n0, by omega⟩ _).mono ?_
  rintro e1 w2 ⟨rfl, hb⟩
  have HX2 := Lib.hid (HX.out.below hb (by first | exact hz | omega))
  have HB2 := Lib.hid (below_step HB.out hb)
  have hz2 := Nat.lt_of_lt_of_le hz hb.size
  clear d0 d1 d2 d3 hb hz
  obtain ⟨d0, d1, d2, d3⟩ := HX2.out.cell
  go_wp2_with (fail)
  refine (calls_ok _ _ _ _ _ _ ⟨H.out, HA.out.1, HA.out.2.1, m0, by omega⟩ _).mono ?_
  rintro e1 w3 ⟨rfl, hb⟩
  rw [HE.out]
  have HX3 := Lib.hid (HX2.out.below hb (by first | exact hz2 | omega))
  have HB3 := Lib.hid (below_step HB2.out hb)
  clear d0 d1 d2 d3 hb hz2
  obtain ⟨d0, d1, d2, d3⟩ := HX3.out.cell
  go_wp2_with (fail)
  refine (calls_ok _ _ _ _ _ _ ⟨H.out, h8, h9, by omega, by omega⟩ _).mono ?_
  rintro e1 w4 ⟨rfl, hb⟩
  have HB4 := Lib.hid (below_step HB3.out hb)
  clear d0 d1 d2 d3 hb
  go_wp2_with (go_at_call 11; refine (num_any _ _).mono ?_; rintro e1 w3 ⟨rfl, rfl⟩)
  go_ret
  exact ⟨rfl, HB4.out⟩

theorem many_walk (c t r k l n m : Int) (w : World) :
    Calls Try.prog 6 #[.agg #[.int .i64 c, .int .i64 t, .int .i64 r, .int .i64 k], .int .i64 l, .int .i64 n, .int .i64 m] w (Gives (.bool true) w) := by
  rcases bad_or c t r k l with ⟨x, h⟩ | ⟨h, h1, h2⟩
  · exact many_bad _ _ _ _ _ _ _ _ _ h
  · exact many_ok _ _ _ _ _ _ _ _ h h1 h2
end Go.Proofs.Ytaaebnfagbiaiaa
