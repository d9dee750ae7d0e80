/- What the document's Sets of a bucket hands back. Conditions: none. -/
import Derived.Test.YtoingfnpffaopaaBud5
namespace Go.Proofs.Ytoingfnpffaopaa
open Go.RowKit

set_option maxHeartbeats 2000000 in
theorem rsets_any (c t r k : Int) (w : World) :
    Calls Try.prog 11 #[.agg #[.int .i64 c, .int .i64 t, .int .i64 r, .int .i64 k]] w (Gives (.bool (bsets c t r k)) w) := by
  by_cases h : 0 ≤ c ∧ 0 ≤ t ∧ 0 ≤ r ∧ c ≤ 1000 ∧ t ≤ 1000 ∧ k ≤ 1000 ∧ r ≤ k
  · rw [show bsets c t r k = true by unfold bsets; exact decide_eq_true h]
    obtain ⟨h1, h2, h3, h4, h5, h6, h7⟩ := h
    go_enter Try.func11, Try.ntmps11
    go_wp2
    all_goals
      go_ret
      exact ⟨ret_bool (by simp <;> omega), below_alloc (Below.refl _ _) _⟩
  · rw [show bsets c t r k = false by unfold bsets; exact decide_eq_false h]
    have H := Lib.hid h
    clear h
    go_enter Try.func11, Try.ntmps11
    go_wp2
    all_goals
      go_ret
      exact ⟨ret_bool (by have h := H.out; simp <;> omega), below_alloc (Below.refl _ _) _⟩
end Go.Proofs.Ytoingfnpffaopaa
