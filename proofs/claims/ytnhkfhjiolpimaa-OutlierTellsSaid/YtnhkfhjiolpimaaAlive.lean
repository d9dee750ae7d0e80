/- The number of an error, and the page's example. Conditions: none. -/
import Derived.Test.YtnhkfhjiolpimaaRoom
namespace Go.Proofs.Ytnhkfhjiolpimaa
open Go.RowKit

theorem num_any (n : Int) (w : World) : Calls Try.prog 11 #[.int .i64 n] w fun e w' => e = .returned (.int .i64 n) ∧ w = w' := by
  go_enter Try.func11, Try.ntmps11
  go_wp2
  go_ret
  exact ⟨rfl, rfl⟩

def exS : OSet := ⟨1, 500, 2, 3, 9, 50, 10⟩
theorem exS_in : SetsP exS := ⟨by decide, by decide, by decide, by decide, by decide, by decide, by decide, by decide, by decide, by decide, by decide, by decide, by decide, by decide, by decide⟩
theorem ex_tick : TickP 4 := ⟨by decide, by decide⟩
theorem ex_room : roomI exS 5 1 = 1 := by decide
theorem ex_eject : ejectO Out.zero exS 4 = ⟨0, 0, 0, 1, 4, 7, true⟩ := by
  have h1 : timesO Out.zero.times = 1 := by decide
  have h2 : longO exS 1 = 3 := by decide
  unfold ejectO
  rw [h1, h2]
  rfl

theorem alive_room (w : World) : Calls Try.prog 10 #[.agg #[.int .i64 1, .int .i64 500, .int .i64 2, .int .i64 3, .int .i64 9, .int .i64 50, .int .i64 10], .int .i64 5, .int .i64 1] w (Gives (.tuple #[.int .i64 1, .int .i64 0]) w) := by
  have h := room_ok exS 5 1 w ⟨exS_in, by decide, by decide, by decide, by decide⟩
  rw [ex_room] at h
  exact h

theorem alive_eject (w : World) : Calls Try.prog 13 #[.agg #[.int .i64 0, .int .i64 0, .int .i64 0, .int .i64 0, .int .i64 0, .int .i64 0, .bool false], .agg #[.int .i64 1, .int .i64 500, .int .i64 2, .int .i64 3, .int .i64 9, .int .i64 50, .int .i64 10], .int .i64 4] w
    (Gives (.tuple #[.agg #[.int .i64 0, .int .i64 0, .int .i64 0, .int .i64 1, .int .i64 4, .int .i64 7, .bool true], .int .i64 0]) w) := by
  have h := eject_ok Out.zero exS 4 w (chk_ok exS_in ex_tick zero_in) rfl
  rw [ex_eject] at h
  exact h

set_option maxHeartbeats 1000000 in
theorem alive_any (w : World) : Calls Try.prog 9 #[] w (Gives (.bool true) w) := by
  go_enter Try.func9, Try.ntmps9
  go_wp2_with (fail)
  refine (alive_room _).mono ?_
  rintro e w1 ⟨rfl, hb⟩
  obtain ⟨⟨s0, s1, s2, s3, s4, s5, s6⟩, _⟩ := ((SetBox.new w w.heap.size rfl exS).kept hb).cell
  have HB := Lib.hid (below_step (below_alloc (Below.refl w.heap.size w) _) hb)
  clear hb
  simp only [exS] at s0 s1 s2 s3 s4 s5 s6
  go_wp2_with (fail)
  refine (alive_eject _).mono ?_
  rintro e w2 ⟨rfl, hb⟩
  have HB2 := Lib.hid (below_step HB.out hb)
  clear hb s0 s1 s2 s3 s4 s5 s6
  go_wp2_with (go_at_call 11; refine (num_any _ _).mono ?_; rintro e w3 ⟨rfl, rfl⟩)
  go_ret
  exact ⟨rfl, by repeat (first | exact HB2.out | apply below_alloc)⟩
end Go.Proofs.Ytnhkfhjiolpimaa
