/- What the document's Sets, and Check and Start of both, hand back. Conditions: none beyond the cases that are named. -/
import Derived.Test.YtaaebnfagbiaiaaSets
namespace Go.Proofs.Ytaaebnfagbiaiaa
open Go.RowKit

set_option maxHeartbeats 1000000 in
theorem rsets_yes (c t r k : Int) (h : SetsP c t r k) (w : World) :
    Calls Try.prog 29 #[.agg #[.int .i64 c, .int .i64 t, .int .i64 r, .int .i64 k]] w (Gives (.bool true) w) := by
  obtain ⟨h1, h2, h3, h4, h5, h6, h7⟩ := h
  go_enter Try.func29, Try.ntmps29
  go_wp2
  all_goals
    go_ret
    exact ⟨ret_bool (by simp <;> omega), below_alloc (Below.refl _ _) _⟩

set_option maxHeartbeats 1000000 in
theorem rsets_no (c t r k : Int) (h : ¬ SetsP c t r k) (w : World) :
    Calls Try.prog 29 #[.agg #[.int .i64 c, .int .i64 t, .int .i64 r, .int .i64 k]] w (Gives (.bool false) w) := by
  have H := Lib.hid h
  clear h
  go_enter Try.func29, Try.ntmps29
  go_wp2
  all_goals
    go_ret
    exact ⟨ret_bool (by have h := H.out; unfold SetsP at h; simp <;> omega), below_alloc (Below.refl _ _) _⟩

set_option maxHeartbeats 1000000 in
theorem check_no (c t r k l : Int) (h : ¬ SetsP c t r k) (w : World) :
    Calls Try.prog 21 #[.agg #[.int .i64 c, .int .i64 t, .int .i64 r, .int .i64 k], .int .i64 l] w (Gives (.int .i64 4) w) := by
  have H := Lib.hid h
  clear h
  go_enter Try.func21, Try.ntmps21
  go_wp2_with (go_at_call 28; refine (sets_no _ _ _ _ H.out _).mono ?_; rintro e w1 ⟨rfl, hb⟩)
  go_ret
  exact ⟨rfl, below_step (below_alloc (Below.refl _ _) _) hb⟩

set_option maxHeartbeats 1000000 in
theorem check_out (c t r k l : Int) (h : SetsP c t r k) (hl : l < 0 ∨ 1000 * k < l) (w : World) :
    Calls Try.prog 21 #[.agg #[.int .i64 c, .int .i64 t, .int .i64 r, .int .i64 k], .int .i64 l] w (Gives (.int .i64 9) w) := by
  have H := Lib.hid h
  obtain ⟨h1, h2, h3, h4, h5, h6, h7⟩ := h
  by_cases h8 : l < 0
  all_goals
    go_enter Try.func21, Try.ntmps21
    go_wp2_with (go_at_call 28; refine (sets_yes _ _ _ _ H.out _).mono ?_; rintro e w1 ⟨rfl, hb⟩; obtain ⟨hc, hf⟩ := bcell hb)
    go_ret
    exact ⟨rfl, below_step (below_alloc (Below.refl _ _) _) hb⟩
end Go.Proofs.Ytaaebnfagbiaiaa
