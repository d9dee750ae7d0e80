/- alive holds: without rows there is no fault; what is done twice is one. Conditions: none. -/
import Derived.Test.YtoingfnpffaopaaAll
import Derived.Test.YtoingfnpffaopaaRowc
namespace Go.Proofs.Ytoingfnpffaopaa
open Go.RowKit

theorem six_nil : six ⟨0, false, 0, 0, 0, 0, 0, 0, 0, 0, 0, 0, 0, 0, 0, 0, 0, 0, 0, 0, 0, 0, 0, 0, 0, 0⟩ [] = [-1, -1, -1, -1, -1, -1] := by
  have h : ∀ p, idx p ([] : List Rw).length = -1 := fun p => idx_none fun i hi => absurd hi (Nat.not_lt_zero _)
  unfold six budI
  simp only [h, ite_self]

theorem all_nil (w : World) : Calls Try.prog 12 #[.agg #[.int .i64 0, .bool false, .int .i64 0, .int .i64 0, .int .i64 0, .int .i64 0, .int .i64 0, .int .i64 0, .int .i64 0, .int .i64 0, .int .i64 0, .int .i64 0, .int .i64 0, .int .i64 0, .int .i64 0, .int .i64 0, .int .i64 0, .int .i64 0, .int .i64 0, .int .i64 0, .int .i64 0, .int .i64 0, .int .i64 0, .int .i64 0, .int .i64 0, .int .i64 0], .slice none 0 0] w (Gives (.tuple #[.int .i64 0, .int .i64 (-1)]) w) := by
  have h := all_any ⟨0, false, 0, 0, 0, 0, 0, 0, 0, 0, 0, 0, 0, 0, 0, 0, 0, 0, 0, 0, 0, 0, 0, 0, 0, 0⟩ none [] 0 w (Nat.zero_le _) (by simp) (.inl rfl)
  rw [six_nil] at h
  exact h

/-- What was done once. -/
def rOne : Rw := ⟨3, 0, 0, 0, 0, 0, 0, 1, 0, 0, 0, 0, 0, 0, 0, 0⟩

theorem six_two : allR (six ⟨0, false, 0, 0, 0, 0, 0, 0, 0, 0, 0, 0, 0, 0, 0, 0, 0, 0, 0, 0, 0, 0, 0, 0, 0, 0⟩ [rOne, rOne]) = (1, 1) := by
  have e : idx (twiceP 3 [rOne, rOne]) 2 = 1 := idx_some (i := 1) (by decide) (by decide) fun j hj => by
    obtain rfl : j = 0 := by omega
    decide
  have h := allR_some (vs := six ⟨0, false, 0, 0, 0, 0, 0, 0, 0, 0, 0, 0, 0, 0, 0, 0, 0, 0, 0, 0, 0, 0, 0, 0, 0, 0⟩ [rOne, rOne]) (i := 0) (by decide) (by show 0 ≤ idx (twiceP 3 [rOne, rOne]) 2; rw [e]; decide) fun j hj => absurd hj (Nat.not_lt_zero _)
  rw [h]
  show (_, idx (twiceP 3 [rOne, rOne]) 2) = _
  rw [e]
  rfl

theorem all_two (w : World) (b : Nat) (h : RowsAt w (some ⟨b, 0, none⟩) [rOne, rOne]) : Calls Try.prog 12 #[.agg #[.int .i64 0, .bool false, .int .i64 0, .int .i64 0, .int .i64 0, .int .i64 0, .int .i64 0, .int .i64 0, .int .i64 0, .int .i64 0, .int .i64 0, .int .i64 0, .int .i64 0, .int .i64 0, .int .i64 0, .int .i64 0, .int .i64 0, .int .i64 0, .int .i64 0, .int .i64 0, .int .i64 0, .int .i64 0, .int .i64 0, .int .i64 0, .int .i64 0, .int .i64 0], .slice (some ⟨b, 0, none⟩) 2 2] w (Gives (.tuple #[.int .i64 1, .int .i64 1]) w) := by
  have h := all_any ⟨0, false, 0, 0, 0, 0, 0, 0, 0, 0, 0, 0, 0, 0, 0, 0, 0, 0, 0, 0, 0, 0, 0, 0, 0, 0⟩ (some ⟨b, 0, none⟩) [rOne, rOne] 2 w (by decide) (by decide) h
  rw [six_two] at h
  exact h

set_option maxHeartbeats 4000000 in
set_option maxRecDepth 100000 in
theorem alive_any (w : World) : Calls Try.prog 8 #[] w (Gives (.bool true) w) := by
  go_enter Try.func8, Try.ntmps8
  go_wp2_with (fail)
  refine (all_nil _).mono ?_
  rintro e w1 ⟨rfl, hb⟩
  have hX : RowBox w1 w.heap.size rOne := (RowBox.new w w.heap.size rfl rOne).kept hb
  have HB := Lib.hid (below_step (below_alloc (Below.refl w.heap.size w) _) hb)
  have hc := hX.cell
  simp only [rOne] at hc
  obtain ⟨⟨q0, q1, q2, q3, q4, q5, q6, q7, q8, q9, q10, q11, q12, q13, q14, q15⟩, _⟩ := hc
  clear hb hX
  go_wp2_with (fail)
  refine (all_two _ _ (rows_new w1 _ rfl [rOne, rOne] 30)).mono ?_
  rintro e w2 ⟨rfl, hb⟩
  have HB2 := Lib.hid (below_step (below_alloc HB.out _) hb)
  clear hb q0 q1 q2 q3 q4 q5 q6 q7 q8 q9 q10 q11 q12 q13 q14 q15
  go_wp2
  go_ret
  exact ⟨rfl, HB2.out⟩
end Go.Proofs.Ytoingfnpffaopaa
