/- What bucket.Sets hands back (judge's Budget asks it). Conditions: none. -/
import Derived.Test.YtoingfnpffaopaaPins
namespace Go.Proofs.Ytoingfnpffaopaa
open Go.RowKit

/-- The settings of a bucket are good. -/
def bsets (c t r k : Int) : Bool := decide (0 ≤ c ∧ 0 ≤ t ∧ 0 ≤ r ∧ c ≤ 1000 ∧ t ≤ 1000 ∧ k ≤ 1000 ∧ r ≤ k)

set_option maxHeartbeats 1000000 in
theorem bsets_any (c t r k : Int) (w : World) :
    Calls Try.prog 26 #[.agg #[.int .i64 c, .int .i64 t, .int .i64 r, .int .i64 k]] w (Gives (.bool (bsets c t r k)) w) := by
  by_cases h : 0 ≤ c ∧ 0 ≤ t ∧ 0 ≤ r ∧ c ≤ 1000 ∧ t ≤ 1000 ∧ k ≤ 1000 ∧ r ≤ k
  · rw [show bsets c t r k = true by unfold bsets; exact decide_eq_true h]
    obtain ⟨h1, h2, h3, h4, h5, h6, h7⟩ := h
    go_enter Try.func26, Try.ntmps26
    go_wp2
    all_goals
      go_ret
      exact ⟨ret_bool (by simp <;> omega), below_alloc (Below.refl _ _) _⟩
  · rw [show bsets c t r k = false by unfold bsets; exact decide_eq_false h]
    have H := Lib.hid h
    clear h
    go_enter Try.func26, Try.ntmps26
    go_wp2
    all_goals
      go_ret
      exact ⟨ret_bool (by have h := H.out; simp <;> omega), below_alloc (Below.refl _ _) _⟩
end Go.Proofs.Ytoingfnpffaopaa
