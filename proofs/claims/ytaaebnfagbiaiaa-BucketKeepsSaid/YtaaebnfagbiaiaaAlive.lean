/- The number of an error, and the page's example. Conditions: none. -/
import Derived.Test.YtaaebnfagbiaiaaROk
namespace Go.Proofs.Ytaaebnfagbiaiaa
open Go.RowKit

theorem num_any (n : Int) (w : World) : Calls Try.prog 11 #[.int .i64 n] w fun e w' => e = .returned (.int .i64 n) ∧ w = w' := by
  go_enter Try.func11, Try.ntmps11
  go_wp2
  go_ret
  exact ⟨rfl, rfl⟩

theorem threes (w : World) (t : TypeId) : IntsAt (w.alloc (.cells #[.int .i64 3, .int .i64 3] t)) (some ⟨w.heap.size, 0, none⟩) [3, 3] := by
  refine .inr ⟨w.heap.size, 0, rfl, by simp, fun i hi => ?_⟩
  rcases i with _ | _ | i
  · simp
  · simp
  · simp at hi; omega

theorem alive_acts : acts 0 0 1 2 [3, 3] = (0, 1) := by decide

theorem alive_run (w : World) (t : TypeId) : Calls Try.prog 9 #[.agg #[.int .i64 0, .int .i64 0, .int .i64 1, .int .i64 2], .slice (some ⟨w.heap.size, 0, none⟩) 2 2] (w.alloc (.cells #[.int .i64 3, .int .i64 3] t))
    (Gives (.tuple #[.int .i64 0, .int .i64 1, .int .i64 0]) (w.alloc (.cells #[.int .i64 3, .int .i64 3] t))) := by
  have h := run_ok 0 0 1 2 _ [3, 3] 2 _ (by decide) (threes w t) (by decide) (by intro x hx; simp at hx; subst hx; decide)
  rw [alive_acts] at h
  exact h

set_option maxHeartbeats 1000000 in
theorem alive_any (w : World) : Calls Try.prog 12 #[] w (Gives (.bool true) w) := by
  go_enter Try.func12, Try.ntmps12
  go_wp2_with (first | (go_at_call 9; refine (alive_run _ _).mono ?_; rintro e w1 ⟨rfl, hb⟩) | (go_at_call 11; refine (num_any _ _).mono ?_; rintro e w1 ⟨rfl, rfl⟩))
  go_ret
  exact ⟨rfl, below_step (below_alloc (Below.refl _ _) _) hb⟩
end Go.Proofs.Ytaaebnfagbiaiaa
