/- What bucket.Sets, bucket.Check, bucket.Start and the document's own Sets, Check, Start hand back. Conditions: none beyond the cases that are named. -/
import Derived.Test.YtaaebnfagbiaiaaProg
import Derived.Test.YtaaebnfagbiaiaaBase
import Derived.Test.YtaaebnfagbiaiaaPlain
namespace Go.Proofs.Ytaaebnfagbiaiaa
open Go.RowKit

set_option maxHeartbeats 1000000 in
theorem sets_yes (c t r k : Int) (h : SetsP c t r k) (w : World) :
    Calls Try.prog 28 #[.agg #[.int .i64 c, .int .i64 t, .int .i64 r, .int .i64 k]] w (Gives (.bool true) w) := by
  obtain ⟨h1, h2, h3, h4, h5, h6, h7⟩ := h
  go_enter Try.func28, Try.ntmps28
  go_wp2
  all_goals
    go_ret
    exact ⟨ret_bool (by simp <;> omega), below_alloc (Below.refl _ _) _⟩

set_option maxHeartbeats 1000000 in
theorem sets_no (c t r k : Int) (h : ¬ SetsP c t r k) (w : World) :
    Calls Try.prog 28 #[.agg #[.int .i64 c, .int .i64 t, .int .i64 r, .int .i64 k]] w (Gives (.bool false) w) := by
  have H := Lib.hid h
  clear h
  go_enter Try.func28, Try.ntmps28
  go_wp2
  all_goals
    go_ret
    exact ⟨ret_bool (by have h := H.out; unfold SetsP at h; simp <;> omega), below_alloc (Below.refl _ _) _⟩
end Go.Proofs.Ytaaebnfagbiaiaa
