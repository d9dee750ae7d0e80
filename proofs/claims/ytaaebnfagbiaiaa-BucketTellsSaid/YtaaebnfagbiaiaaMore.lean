/- What bucket's some, Calls, Ticks, Take hand back. Conditions: none beyond the cases that are named. -/
import Derived.Test.YtaaebnfagbiaiaaActs
namespace Go.Proofs.Ytaaebnfagbiaiaa
open Go.RowKit

theorem budget_new (c t r k l : Int) (w : World) : BudgetAt (w.alloc (.cells #[.int .i64 c, .int .i64 t, .int .i64 r, .int .i64 k, .int .i64 l] 52)) w.heap.size c t r k l := by
  unfold BudgetAt
  show (w.heap.push _)[w.heap.size]? = _
  simp

/-- Why settings, or a level, may not be. -/
def BadAt (c t r k l x : Int) : Prop := (x = 4 ∧ ¬ SetsP c t r k) ∨ (x = 9 ∧ SetsP c t r k ∧ (l < 0 ∨ 1000 * k < l))

theorem check_bad (c t r k l x : Int) (h : BadAt c t r k l x) (w : World) :
    Calls Try.prog 21 #[.agg #[.int .i64 c, .int .i64 t, .int .i64 r, .int .i64 k], .int .i64 l] w (Gives (.int .i64 x) w) := by
  rcases h with ⟨rfl, h⟩ | ⟨rfl, h, hl⟩
  · exact check_no c t r k l h w
  · exact check_out c t r k l h hl w

theorem rcheck_bad (c t r k l x : Int) (h : BadAt c t r k l x) (w : World) :
    Calls Try.prog 22 #[.agg #[.int .i64 c, .int .i64 t, .int .i64 r, .int .i64 k], .int .i64 l] w (Gives (.int .i64 x) w) := by
  rcases h with ⟨rfl, h⟩ | ⟨rfl, h, hl⟩
  · exact rcheck_no c t r k l h w
  · exact rcheck_out c t r k l h hl w

theorem bad_or (c t r k l : Int) : (∃ x, BadAt c t r k l x) ∨ (SetsP c t r k ∧ 0 ≤ l ∧ l ≤ 1000 * k) := by
  by_cases h : SetsP c t r k
  · by_cases hl : l < 0 ∨ 1000 * k < l
    · exact .inl ⟨9, .inr ⟨rfl, h, hl⟩⟩
    · exact .inr ⟨h, by omega, by omega⟩
  · exact .inl ⟨4, .inl ⟨rfl, h⟩⟩

theorem BadAt.ne {c t r k l x : Int} (h : BadAt c t r k l x) : x = 4 ∨ x = 9 := by
  rcases h with ⟨rfl, _⟩ | ⟨rfl, _⟩
  · exact .inl rfl
  · exact .inr rfl

set_option maxHeartbeats 1000000 in
theorem some_bad (c t r k l n each x : Int) (h : BadAt c t r k l x) (w : World) :
    Calls Try.prog 27 #[.agg #[.int .i64 c, .int .i64 t, .int .i64 r, .int .i64 k], .int .i64 l, .int .i64 n, .int .i64 each] w (Gives (.tuple #[.int .i64 0, .int .i64 x]) w) := by
  have H := Lib.hid h
  have hx := h.ne
  clear h
  rcases hx with rfl | rfl
  all_goals
    go_enter Try.func27, Try.ntmps27
    go_wp2_with (go_at_call 21; refine (check_bad _ _ _ _ _ _ H.out _).mono ?_; rintro e w1 ⟨rfl, hb⟩; obtain ⟨hc, hf⟩ := bcell hb)
    go_ret2
    exact ⟨rfl, below_step (below_alloc (Below.refl _ _) _) hb⟩

set_option maxHeartbeats 1000000 in
theorem some_count (c t r k l n each : Int) (h : SetsP c t r k) (h0 : 0 ≤ l) (hl : l ≤ 1000 * k) (hn : n < 0 ∨ 1048576 < n) (w : World) :
    Calls Try.prog 27 #[.agg #[.int .i64 c, .int .i64 t, .int .i64 r, .int .i64 k], .int .i64 l, .int .i64 n, .int .i64 each] w (Gives (.tuple #[.int .i64 0, .int .i64 3]) w) := by
  have H := Lib.hid h
  have H0 := Lib.hid h0
  have HL := Lib.hid hl
  clear h h0 hl
  by_cases h8 : n < 0
  all_goals
    go_enter Try.func27, Try.ntmps27
    go_wp2_with (go_at_call 21; refine (check_ok _ _ _ _ _ H.out H0.out HL.out _).mono ?_; rintro e w1 ⟨rfl, hb⟩; obtain ⟨hc, hf⟩ := bcell hb)
    go_ret2
    exact ⟨rfl, below_step (below_alloc (Below.refl _ _) _) hb⟩

set_option maxHeartbeats 1000000 in
theorem some_ok (c t r k l n each : Int) (h : SetsP c t r k) (h0 : 0 ≤ l) (hl : l ≤ 1000 * k) (hn0 : 0 ≤ n) (hn1 : n ≤ 1048576) (he0 : 0 ≤ each) (he1 : each ≤ 1000) (w : World) :
    Calls Try.prog 27 #[.agg #[.int .i64 c, .int .i64 t, .int .i64 r, .int .i64 k], .int .i64 l, .int .i64 n, .int .i64 each] w (Gives (.tuple #[.int .i64 (capped l (n * each) k), .int .i64 0]) w) := by
  have H := Lib.hid h
  have H0 := Lib.hid h0
  have HL := Lib.hid hl
  obtain ⟨h1, h2, h3, h4, h5, h6, h7⟩ := h
  have hm0 : 0 ≤ n * each := Int.mul_nonneg hn0 he0
  have hm1 : n * each ≤ 1048576 * 1000 := Int.mul_le_mul hn1 he1 he0 (by omega)
  go_enter Try.func27, Try.ntmps27
  go_wp2_with (first | (go_at_call 21; refine (check_ok _ _ _ _ _ H.out H0.out HL.out _).mono ?_; rintro e w1 ⟨rfl, hb⟩; obtain ⟨hc, hf⟩ := bcell hb; have hz := hb.size; simp at hz) | (go_at_call 25; refine (in_any _ _ _ _ _ _ _ _ (budget_new _ _ _ _ _ _) ⟨by omega, by omega⟩ ⟨by omega, by omega⟩ ⟨by omega, by omega⟩).mono ?_; rintro e w2 ⟨rfl, hB, hb2⟩; obtain ⟨d0, d1, d2, d3, d4, hf2⟩ := hB.cell; clear hB))
  go_ret2
  exact ⟨rfl, below_at (below_alloc (below_step (below_alloc (Below.refl _ _) _) hb) _) hb2 (by omega)⟩
end Go.Proofs.Ytaaebnfagbiaiaa
