/- The walk of BucketTells: it hands back true. Condition: none but that the numbers are ints. -/
import Derived.Test.YtaaebnfagbiaiaaKeeps
import Derived.Deep.RegionHeld3
namespace Go.Proofs.Ytaaebnfagbiaiaa
open Go.RowKit

/-- What both texts come to, of whatever settings, level and number. -/
structure Same (c t r k l n : Int) (sa se ca ce ta te ua : Int) (ub : Bool) (ue ch : Int) : Prop where
  start : ∀ w, Calls Try.prog 14 #[.agg #[.int .i64 c, .int .i64 t, .int .i64 r, .int .i64 k]] w (Gives (.tuple #[.int .i64 sa, .int .i64 se]) w)
  rstart : ∀ w, Calls Try.prog 15 #[.agg #[.int .i64 c, .int .i64 t, .int .i64 r, .int .i64 k]] w (Gives (.tuple #[.int .i64 sa, .int .i64 se]) w)
  calls : ∀ w, Calls Try.prog 13 #[.agg #[.int .i64 c, .int .i64 t, .int .i64 r, .int .i64 k], .int .i64 l, .int .i64 n] w (Gives (.tuple #[.int .i64 ca, .int .i64 ce]) w)
  rcalls : ∀ w, Calls Try.prog 16 #[.agg #[.int .i64 c, .int .i64 t, .int .i64 r, .int .i64 k], .int .i64 l, .int .i64 n] w (Gives (.tuple #[.int .i64 ca, .int .i64 ce]) w)
  ticks : ∀ w, Calls Try.prog 17 #[.agg #[.int .i64 c, .int .i64 t, .int .i64 r, .int .i64 k], .int .i64 l, .int .i64 n] w (Gives (.tuple #[.int .i64 ta, .int .i64 te]) w)
  rticks : ∀ w, Calls Try.prog 18 #[.agg #[.int .i64 c, .int .i64 t, .int .i64 r, .int .i64 k], .int .i64 l, .int .i64 n] w (Gives (.tuple #[.int .i64 ta, .int .i64 te]) w)
  take : ∀ w, Calls Try.prog 19 #[.agg #[.int .i64 c, .int .i64 t, .int .i64 r, .int .i64 k], .int .i64 l] w (Gives (.tuple #[.int .i64 ua, .bool ub, .int .i64 ue]) w)
  rtake : ∀ w, Calls Try.prog 20 #[.agg #[.int .i64 c, .int .i64 t, .int .i64 r, .int .i64 k], .int .i64 l] w (Gives (.tuple #[.int .i64 ua, .bool ub, .int .i64 ue]) w)
  check : ∀ w, Calls Try.prog 21 #[.agg #[.int .i64 c, .int .i64 t, .int .i64 r, .int .i64 k], .int .i64 l] w (Gives (.int .i64 ch) w)
  rcheck : ∀ w, Calls Try.prog 22 #[.agg #[.int .i64 c, .int .i64 t, .int .i64 r, .int .i64 k], .int .i64 l] w (Gives (.int .i64 ch) w)

theorem same_some (c t r k l n : Int) : ∃ sa se ca ce ta te ua ub ue ch, Same c t r k l n sa se ca ce ta te ua ub ue ch := by
  by_cases h : SetsP c t r k
  · rcases bad_or c t r k l with ⟨x, hb⟩ | ⟨_, h0, h1⟩
    · exact ⟨_, _, _, _, _, _, _, _, _, _, ⟨start_ok c t r k h, rstart_ok c t r k h, calls_bad _ _ _ _ _ _ x hb, rcalls_bad _ _ _ _ _ _ x hb, ticks_bad _ _ _ _ _ _ x hb, rticks_bad _ _ _ _ _ _ x hb, take_bad _ _ _ _ _ x hb, rtake_bad _ _ _ _ _ x hb, check_bad _ _ _ _ _ x hb, rcheck_bad _ _ _ _ _ x hb⟩⟩
    · have hT : ∃ ua ub ue, (∀ w, Calls Try.prog 19 #[.agg #[.int .i64 c, .int .i64 t, .int .i64 r, .int .i64 k], .int .i64 l] w (Gives (.tuple #[.int .i64 ua, .bool ub, .int .i64 ue]) w)) ∧
          ∀ w, Calls Try.prog 20 #[.agg #[.int .i64 c, .int .i64 t, .int .i64 r, .int .i64 k], .int .i64 l] w (Gives (.tuple #[.int .i64 ua, .bool ub, .int .i64 ue]) w) := by
        by_cases h2 : 1000 ≤ l
        · exact ⟨_, _, _, take_yes _ _ _ _ _ ⟨h, h0, h1⟩ h2, rtake_yes _ _ _ _ _ ⟨h, h0, h1⟩ h2⟩
        · exact ⟨_, _, _, take_no _ _ _ _ _ ⟨h, h0, h1⟩ (by omega), rtake_no _ _ _ _ _ ⟨h, h0, h1⟩ (by omega)⟩
      obtain ⟨ua, ub, ue, hT1, hT2⟩ := hT
      by_cases hn : n < 0 ∨ 1048576 < n
      · exact ⟨_, _, _, _, _, _, _, _, _, _, ⟨start_ok c t r k h, rstart_ok c t r k h, calls_count _ _ _ _ _ _ ⟨h, h0, h1, hn⟩, rcalls_count _ _ _ _ _ _ ⟨h, h0, h1, hn⟩, ticks_count _ _ _ _ _ _ ⟨h, h0, h1, hn⟩, rticks_count _ _ _ _ _ _ ⟨h, h0, h1, hn⟩, hT1, hT2, check_ok _ _ _ _ _ h h0 h1, rcheck_ok _ _ _ _ _ h h0 h1⟩⟩
      · have hm : 0 ≤ n ∧ n ≤ 1048576 := by omega
        exact ⟨_, _, _, _, _, _, _, _, _, _, ⟨start_ok c t r k h, rstart_ok c t r k h, calls_ok _ _ _ _ _ _ ⟨h, h0, h1, hm⟩, rcalls_ok _ _ _ _ _ _ ⟨h, h0, h1, hm⟩, ticks_ok _ _ _ _ _ _ ⟨h, h0, h1, hm⟩, rticks_ok _ _ _ _ _ _ ⟨h, h0, h1, hm⟩, hT1, hT2, check_ok _ _ _ _ _ h h0 h1, rcheck_ok _ _ _ _ _ h h0 h1⟩⟩
  · have hb : BadAt c t r k l 4 := .inl ⟨rfl, h⟩
    exact ⟨_, _, _, _, _, _, _, _, _, _, ⟨start_no c t r k h, rstart_no c t r k h, calls_bad _ _ _ _ _ _ _ hb, rcalls_bad _ _ _ _ _ _ _ hb, ticks_bad _ _ _ _ _ _ _ hb, rticks_bad _ _ _ _ _ _ _ hb, take_bad _ _ _ _ _ _ hb, rtake_bad _ _ _ _ _ _ hb, check_bad _ _ _ _ _ _ hb, rcheck_bad _ _ _ _ _ _ hb⟩⟩

/-- The box stands, and nothing older has turned. -/
theorem keep_box {c t r k : Int} {w W w1 : World} {b : Nat} (hB : Below w.heap.size w W) (hX : BoxAt W b c t r k) (hb : Below W.heap.size W w1) : Below w.heap.size w w1 ∧ BoxAt w1 b c t r k := by
  refine ⟨below_step hB hb, hX.below hb ?_⟩
  unfold BoxAt at hX
  by_cases h : b < W.heap.size
  · exact h
  · rw [Array.getElem?_eq_none (by omega)] at hX
    exact absurd hX (by simp)

theorem held_kept {c t r k : Int} {w W w1 : World} (h : Below w.heap.size w W ∧ W.cell? ⟨w.heap.size, 0, none⟩ = some (.int .i64 c) ∧ W.cell? ⟨w.heap.size, 1, none⟩ = some (.int .i64 t) ∧ W.cell? ⟨w.heap.size, 2, none⟩ = some (.int .i64 r) ∧ W.cell? ⟨w.heap.size, 3, none⟩ = some (.int .i64 k))
    (hb : Below W.heap.size W w1) : Below w.heap.size w w1 ∧ w1.cell? ⟨w.heap.size, 0, none⟩ = some (.int .i64 c) ∧ w1.cell? ⟨w.heap.size, 1, none⟩ = some (.int .i64 t) ∧ w1.cell? ⟨w.heap.size, 2, none⟩ = some (.int .i64 r) ∧ w1.cell? ⟨w.heap.size, 3, none⟩ = some (.int .i64 k) := by
  obtain ⟨h0, h1, h2, h3, h4⟩ := h
  have hlt := (World.block_lt_of_cell? W _ h1)
  exact ⟨below_step h0 hb, (hb.cell (p := ⟨w.heap.size, 0, none⟩) hlt).trans h1, (hb.cell (p := ⟨w.heap.size, 1, none⟩) hlt).trans h2, (hb.cell (p := ⟨w.heap.size, 2, none⟩) hlt).trans h3, (hb.cell (p := ⟨w.heap.size, 3, none⟩) hlt).trans h4⟩

set_option maxHeartbeats 4000000 in
theorem tells_walk (c t r k l n : Int) (w : World) :
    Calls Try.prog 7 #[.agg #[.int .i64 c, .int .i64 t, .int .i64 r, .int .i64 k], .int .i64 l, .int .i64 n] w (Gives (.bool true) w) := by
  obtain ⟨sa, se, ca, ce, ta, te, ua, ub, ue, ch, hS⟩ := same_some c t r k l n
  have HS := Lib.hid hS
  clear hS
  go_enter Try.func7, Try.ntmps7
  go_wp2_with (fail)
  refine (HS.out.start _).mono ?_
  rintro e1 w1 ⟨rfl, hb⟩
  obtain ⟨B, X⟩ := keep_box (below_alloc (Below.refl w.heap.size w) _) (box_new c t r k w) hb
  clear hb
  have HB := Lib.hid B
  have HX := Lib.hid X
  obtain ⟨d0, d1, d2, d3⟩ := X.cell
  clear B X
  go_wp2_with (fail)
  refine (HS.out.rstart _).mono ?_
  rintro e1 w2 ⟨rfl, hb⟩
  obtain ⟨B, X⟩ := keep_box HB.out HX.out hb
  clear hb HB HX d0 d1 d2 d3
  have HB := Lib.hid B
  have HX := Lib.hid X
  obtain ⟨d0, d1, d2, d3⟩ := X.cell
  clear B X
  go_wp2_with (fail)
  refine (HS.out.calls _).mono ?_
  rintro e1 w3 ⟨rfl, hb⟩
  obtain ⟨B, X⟩ := keep_box HB.out HX.out hb
  clear hb HB HX d0 d1 d2 d3
  have HB := Lib.hid B
  have HX := Lib.hid X
  obtain ⟨d0, d1, d2, d3⟩ := X.cell
  clear B X
  go_wp2_with (fail)
  refine (HS.out.rcalls _).mono ?_
  rintro e1 w4 ⟨rfl, hb⟩
  obtain ⟨B, X⟩ := keep_box HB.out HX.out hb
  clear hb HB HX d0 d1 d2 d3
  have HB := Lib.hid B
  have HX := Lib.hid X
  obtain ⟨d0, d1, d2, d3⟩ := X.cell
  clear B X
  go_wp2_with (fail)
  refine (HS.out.ticks _).mono ?_
  rintro e1 w5 ⟨rfl, hb⟩
  obtain ⟨B, X⟩ := keep_box HB.out HX.out hb
  clear hb HB HX d0 d1 d2 d3
  have HB := Lib.hid B
  have HX := Lib.hid X
  obtain ⟨d0, d1, d2, d3⟩ := X.cell
  clear B X
  go_wp2_with (fail)
  refine (HS.out.rticks _).mono ?_
  rintro e1 w6 ⟨rfl, hb⟩
  obtain ⟨B, X⟩ := keep_box HB.out HX.out hb
  clear hb HB HX d0 d1 d2 d3
  have HB := Lib.hid B
  have HX := Lib.hid X
  obtain ⟨d0, d1, d2, d3⟩ := X.cell
  clear B X
  go_wp2_with (fail)
  refine (HS.out.take _).mono ?_
  rintro e1 w7 ⟨rfl, hb⟩
  obtain ⟨B, X⟩ := keep_box HB.out HX.out hb
  clear hb HB HX d0 d1 d2 d3
  have HB := Lib.hid B
  have HX := Lib.hid X
  obtain ⟨d0, d1, d2, d3⟩ := X.cell
  clear B X
  go_wp2_with (fail)
  refine (HS.out.rtake _).mono ?_
  rintro e1 w8 ⟨rfl, hb⟩
  obtain ⟨B, X⟩ := keep_box HB.out HX.out hb
  clear hb HB HX d0 d1 d2 d3
  have HB := Lib.hid B
  have HX := Lib.hid X
  obtain ⟨d0, d1, d2, d3⟩ := X.cell
  clear B X
  go_wp2_with (fail)
  have hBW := HB.out
  go_region_held3 (fun w' => Below w.heap.size w w' ∧ w'.cell? ⟨w.heap.size, 0, none⟩ = some (.int .i64 c) ∧ w'.cell? ⟨w.heap.size, 1, none⟩ = some (.int .i64 t) ∧ w'.cell? ⟨w.heap.size, 2, none⟩ = some (.int .i64 r) ∧ w'.cell? ⟨w.heap.size, 3, none⟩ = some (.int .i64 k))
    (first | exact ⟨hBW.drew, d0, d1, d2, d3⟩ | exact held_kept (by assumption) (by assumption) | go_keep)
    (first | (go_at_call 11; refine (num_any _ _).mono ?_; rintro e1 wx ⟨rfl, rfl⟩) | (go_at_call 21; refine (HS.out.check _).mono ?_; rintro e1 wx ⟨rfl, hbx⟩) | (go_at_call 22; refine (HS.out.rcheck _).mono ?_; rintro e1 wx ⟨rfl, hbx⟩) | (go_at_call 12; refine (alive_any _).mono ?_; rintro e1 wx ⟨rfl, hbx⟩))
  all_goals
    go_wp2
    go_ret
    exact ⟨rfl, And.left (by assumption)⟩
end Go.Proofs.Ytaaebnfagbiaiaa
