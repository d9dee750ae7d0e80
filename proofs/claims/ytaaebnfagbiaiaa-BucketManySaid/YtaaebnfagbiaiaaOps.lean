/- What the document's more, and Calls, Ticks, Take of both texts, hand back. Conditions: none beyond the cases that are named. -/
import Derived.Test.YtaaebnfagbiaiaaMore
namespace Go.Proofs.Ytaaebnfagbiaiaa
open Go.RowKit

set_option maxHeartbeats 1000000 in
theorem rmore_bad (c t r k l n each x : Int) (h : BadAt c t r k l x) (w : World) :
    Calls Try.prog 30 #[.agg #[.int .i64 c, .int .i64 t, .int .i64 r, .int .i64 k], .int .i64 l, .int .i64 n, .int .i64 each] w (Gives (.tuple #[.int .i64 0, .int .i64 x]) w) := by
  have H := Lib.hid h
  have hx := h.ne
  clear h
  rcases hx with rfl | rfl
  all_goals
    go_enter Try.func30, Try.ntmps30
    go_wp2_with (go_at_call 22; refine (rcheck_bad _ _ _ _ _ _ H.out _).mono ?_; rintro e w1 ⟨rfl, hb⟩; obtain ⟨hc, hf⟩ := bcell hb)
    go_ret2
    exact ⟨rfl, below_step (below_alloc (Below.refl _ _) _) hb⟩

set_option maxHeartbeats 1000000 in
theorem rmore_count (c t r k l n each : Int) (h : SetsP c t r k) (h0 : 0 ≤ l) (hl : l ≤ 1000 * k) (hn : n < 0 ∨ 1048576 < n) (w : World) :
    Calls Try.prog 30 #[.agg #[.int .i64 c, .int .i64 t, .int .i64 r, .int .i64 k], .int .i64 l, .int .i64 n, .int .i64 each] w (Gives (.tuple #[.int .i64 0, .int .i64 3]) w) := by
  have H := Lib.hid h
  have H0 := Lib.hid h0
  have HL := Lib.hid hl
  clear h h0 hl
  by_cases h8 : n < 0
  all_goals
    go_enter Try.func30, Try.ntmps30
    go_wp2_with (go_at_call 22; refine (rcheck_ok _ _ _ _ _ H.out H0.out HL.out _).mono ?_; rintro e w1 ⟨rfl, hb⟩; obtain ⟨hc, hf⟩ := bcell hb)
    go_ret2
    exact ⟨rfl, below_step (below_alloc (Below.refl _ _) _) hb⟩

set_option maxHeartbeats 1000000 in
theorem rmore_ok (c t r k l n each : Int) (h : SetsP c t r k) (h0 : 0 ≤ l) (hl : l ≤ 1000 * k) (hn0 : 0 ≤ n) (hn1 : n ≤ 1048576) (he0 : 0 ≤ each) (he1 : each ≤ 1000) (w : World) :
    Calls Try.prog 30 #[.agg #[.int .i64 c, .int .i64 t, .int .i64 r, .int .i64 k], .int .i64 l, .int .i64 n, .int .i64 each] w (Gives (.tuple #[.int .i64 (capped l (n * each) k), .int .i64 0]) w) := by
  have H := Lib.hid h
  have H0 := Lib.hid h0
  have HL := Lib.hid hl
  obtain ⟨h1, h2, h3, h4, h5, h6, h7⟩ := h
  have hm0 : 0 ≤ n * each := Int.mul_nonneg hn0 he0
  have hm1 : n * each ≤ 1048576 * 1000 := Int.mul_le_mul hn1 he1 he0 (by omega)
  go_enter Try.func30, Try.ntmps30
  go_wp2_with (go_at_call 22; refine (rcheck_ok _ _ _ _ _ H.out H0.out HL.out _).mono ?_; rintro e w1 ⟨rfl, hb⟩; obtain ⟨hc, hf⟩ := bcell hb; have hz := hb.size; simp at hz)
  all_goals
    go_ret2
    refine ⟨congrArg (fun x => Ending.returned (.tuple #[.int .i64 x, .int .i64 0])) ?_, below_step (below_alloc (Below.refl _ _) _) hb⟩
    unfold capped
    repeat' split
    all_goals omega

set_option maxHeartbeats 1000000 in
theorem calls_bad (c t r k l n : Int) (x : Int) (h : BadAt c t r k l x) (w : World) :
    Calls Try.prog 13 #[.agg #[.int .i64 c, .int .i64 t, .int .i64 r, .int .i64 k], .int .i64 l, .int .i64 n] w (Gives (.tuple #[.int .i64 0, .int .i64 x]) w) := by
  have H := Lib.hid h
  clear h
  go_enter Try.func13, Try.ntmps13
  go_wp2_with (go_at_call 27; refine (some_bad _ _ _ _ _ _ _ _ H.out _).mono ?_; rintro e w1 ⟨rfl, hb⟩)
  go_ret2
  exact ⟨rfl, below_step (below_alloc (Below.refl _ _) _) hb⟩

set_option maxHeartbeats 1000000 in
theorem calls_count (c t r k l n : Int) (h : SetsP c t r k ∧ 0 ≤ l ∧ l ≤ 1000 * k ∧ (n < 0 ∨ 1048576 < n)) (w : World) :
    Calls Try.prog 13 #[.agg #[.int .i64 c, .int .i64 t, .int .i64 r, .int .i64 k], .int .i64 l, .int .i64 n] w (Gives (.tuple #[.int .i64 0, .int .i64 3]) w) := by
  have H := Lib.hid h
  clear h
  go_enter Try.func13, Try.ntmps13
  go_wp2_with (go_at_call 27; refine (some_count _ _ _ _ _ _ _ H.out.1 H.out.2.1 H.out.2.2.1 H.out.2.2.2 _).mono ?_; rintro e w1 ⟨rfl, hb⟩)
  go_ret2
  exact ⟨rfl, below_step (below_alloc (Below.refl _ _) _) hb⟩

set_option maxHeartbeats 1000000 in
theorem calls_ok (c t r k l n : Int) (h : SetsP c t r k ∧ 0 ≤ l ∧ l ≤ 1000 * k ∧ 0 ≤ n ∧ n ≤ 1048576) (w : World) :
    Calls Try.prog 13 #[.agg #[.int .i64 c, .int .i64 t, .int .i64 r, .int .i64 k], .int .i64 l, .int .i64 n] w (Gives (.tuple #[.int .i64 (capped l (n * c) k), .int .i64 0]) w) := by
  have H := Lib.hid h
  clear h
  go_enter Try.func13, Try.ntmps13
  go_wp2_with (go_at_call 27; refine (some_ok _ _ _ _ _ _ _ H.out.1 H.out.2.1 H.out.2.2.1 H.out.2.2.2.1 H.out.2.2.2.2 H.out.1.1 H.out.1.2.1 _).mono ?_; rintro e w1 ⟨rfl, hb⟩)
  go_ret2
  exact ⟨rfl, below_step (below_alloc (Below.refl _ _) _) hb⟩

set_option maxHeartbeats 1000000 in
theorem ticks_bad (c t r k l n : Int) (x : Int) (h : BadAt c t r k l x) (w : World) :
    Calls Try.prog 17 #[.agg #[.int .i64 c, .int .i64 t, .int .i64 r, .int .i64 k], .int .i64 l, .int .i64 n] w (Gives (.tuple #[.int .i64 0, .int .i64 x]) w) := by
  have H := Lib.hid h
  clear h
  go_enter Try.func17, Try.ntmps17
  go_wp2_with (go_at_call 27; refine (some_bad _ _ _ _ _ _ _ _ H.out _).mono ?_; rintro e w1 ⟨rfl, hb⟩)
  go_ret2
  exact ⟨rfl, below_step (below_alloc (Below.refl _ _) _) hb⟩

set_option maxHeartbeats 1000000 in
theorem ticks_count (c t r k l n : Int) (h : SetsP c t r k ∧ 0 ≤ l ∧ l ≤ 1000 * k ∧ (n < 0 ∨ 1048576 < n)) (w : World) :
    Calls Try.prog 17 #[.agg #[.int .i64 c, .int .i64 t, .int .i64 r, .int .i64 k], .int .i64 l, .int .i64 n] w (Gives (.tuple #[.int .i64 0, .int .i64 3]) w) := by
  have H := Lib.hid h
  clear h
  go_enter Try.func17, Try.ntmps17
  go_wp2_with (go_at_call 27; refine (some_count _ _ _ _ _ _ _ H.out.1 H.out.2.1 H.out.2.2.1 H.out.2.2.2 _).mono ?_; rintro e w1 ⟨rfl, hb⟩)
  go_ret2
  exact ⟨rfl, below_step (below_alloc (Below.refl _ _) _) hb⟩

set_option maxHeartbeats 1000000 in
theorem ticks_ok (c t r k l n : Int) (h : SetsP c t r k ∧ 0 ≤ l ∧ l ≤ 1000 * k ∧ 0 ≤ n ∧ n ≤ 1048576) (w : World) :
    Calls Try.prog 17 #[.agg #[.int .i64 c, .int .i64 t, .int .i64 r, .int .i64 k], .int .i64 l, .int .i64 n] w (Gives (.tuple #[.int .i64 (capped l (n * t) k), .int .i64 0]) w) := by
  have H := Lib.hid h
  clear h
  go_enter Try.func17, Try.ntmps17
  go_wp2_with (go_at_call 27; refine (some_ok _ _ _ _ _ _ _ H.out.1 H.out.2.1 H.out.2.2.1 H.out.2.2.2.1 H.out.2.2.2.2 H.out.1.2.2.1 H.out.1.2.2.2.1 _).mono ?_; rintro e w1 ⟨rfl, hb⟩)
  go_ret2
  exact ⟨rfl, below_step (below_alloc (Below.refl _ _) _) hb⟩

set_option maxHeartbeats 1000000 in
theorem rcalls_bad (c t r k l n : Int) (x : Int) (h : BadAt c t r k l x) (w : World) :
    Calls Try.prog 16 #[.agg #[.int .i64 c, .int .i64 t, .int .i64 r, .int .i64 k], .int .i64 l, .int .i64 n] w (Gives (.tuple #[.int .i64 0, .int .i64 x]) w) := by
  have H := Lib.hid h
  clear h
  go_enter Try.func16, Try.ntmps16
  go_wp2_with (go_at_call 30; refine (rmore_bad _ _ _ _ _ _ _ _ H.out _).mono ?_; rintro e w1 ⟨rfl, hb⟩)
  go_ret2
  exact ⟨rfl, below_step (below_alloc (Below.refl _ _) _) hb⟩

set_option maxHeartbeats 1000000 in
theorem rcalls_count (c t r k l n : Int) (h : SetsP c t r k ∧ 0 ≤ l ∧ l ≤ 1000 * k ∧ (n < 0 ∨ 1048576 < n)) (w : World) :
    Calls Try.prog 16 #[.agg #[.int .i64 c, .int .i64 t, .int .i64 r, .int .i64 k], .int .i64 l, .int .i64 n] w (Gives (.tuple #[.int .i64 0, .int .i64 3]) w) := by
  have H := Lib.hid h
  clear h
  go_enter Try.func16, Try.ntmps16
  go_wp2_with (go_at_call 30; refine (rmore_count _ _ _ _ _ _ _ H.out.1 H.out.2.1 H.out.2.2.1 H.out.2.2.2 _).mono ?_; rintro e w1 ⟨rfl, hb⟩)
  go_ret2
  exact ⟨rfl, below_step (below_alloc (Below.refl _ _) _) hb⟩

set_option maxHeartbeats 1000000 in
theorem rcalls_ok (c t r k l n : Int) (h : SetsP c t r k ∧ 0 ≤ l ∧ l ≤ 1000 * k ∧ 0 ≤ n ∧ n ≤ 1048576) (w : World) :
    Calls Try.prog 16 #[.agg #[.int .i64 c, .int .i64 t, .int .i64 r, .int .i64 k], .int .i64 l, .int .i64 n] w (Gives (.tuple #[.int .i64 (capped l (n * c) k), .int .i64 0]) w) := by
  have H := Lib.hid h
  clear h
  go_enter Try.func16, Try.ntmps16
  go_wp2_with (go_at_call 30; refine (rmore_ok _ _ _ _ _ _ _ H.out.1 H.out.2.1 H.out.2.2.1 H.out.2.2.2.1 H.out.2.2.2.2 H.out.1.1 H.out.1.2.1 _).mono ?_; rintro e w1 ⟨rfl, hb⟩)
  go_ret2
  exact ⟨rfl, below_step (below_alloc (Below.refl _ _) _) hb⟩

set_option maxHeartbeats 1000000 in
theorem rticks_bad (c t r k l n : Int) (x : Int) (h : BadAt c t r k l x) (w : World) :
    Calls Try.prog 18 #[.agg #[.int .i64 c, .int .i64 t, .int .i64 r, .int .i64 k], .int .i64 l, .int .i64 n] w (Gives (.tuple #[.int .i64 0, .int .i64 x]) w) := by
  have H := Lib.hid h
  clear h
  go_enter Try.func18, Try.ntmps18
  go_wp2_with (go_at_call 30; refine (rmore_bad _ _ _ _ _ _ _ _ H.out _).mono ?_; rintro e w1 ⟨rfl, hb⟩)
  go_ret2
  exact ⟨rfl, below_step (below_alloc (Below.refl _ _) _) hb⟩

set_option maxHeartbeats 1000000 in
theorem rticks_count (c t r k l n : Int) (h : SetsP c t r k ∧ 0 ≤ l ∧ l ≤ 1000 * k ∧ (n < 0 ∨ 1048576 < n)) (w : World) :
    Calls Try.prog 18 #[.agg #[.int .i64 c, .int .i64 t, .int .i64 r, .int .i64 k], .int .i64 l, .int .i64 n] w (Gives (.tuple #[.int .i64 0, .int .i64 3]) w) := by
  have H := Lib.hid h
  clear h
  go_enter Try.func18, Try.ntmps18
  go_wp2_with (go_at_call 30; refine (rmore_count _ _ _ _ _ _ _ H.out.1 H.out.2.1 H.out.2.2.1 H.out.2.2.2 _).mono ?_; rintro e w1 ⟨rfl, hb⟩)
  go_ret2
  exact ⟨rfl, below_step (below_alloc (Below.refl _ _) _) hb⟩

set_option maxHeartbeats 1000000 in
theorem rticks_ok (c t r k l n : Int) (h : SetsP c t r k ∧ 0 ≤ l ∧ l ≤ 1000 * k ∧ 0 ≤ n ∧ n ≤ 1048576) (w : World) :
    Calls Try.prog 18 #[.agg #[.int .i64 c, .int .i64 t, .int .i64 r, .int .i64 k], .int .i64 l, .int .i64 n] w (Gives (.tuple #[.int .i64 (capped l (n * t) k), .int .i64 0]) w) := by
  have H := Lib.hid h
  clear h
  go_enter Try.func18, Try.ntmps18
  go_wp2_with (go_at_call 30; refine (rmore_ok _ _ _ _ _ _ _ H.out.1 H.out.2.1 H.out.2.2.1 H.out.2.2.2.1 H.out.2.2.2.2 H.out.1.2.2.1 H.out.1.2.2.2.1 _).mono ?_; rintro e w1 ⟨rfl, hb⟩)
  go_ret2
  exact ⟨rfl, below_step (below_alloc (Below.refl _ _) _) hb⟩

set_option maxHeartbeats 1000000 in
theorem take_bad (c t r k l x : Int) (h : BadAt c t r k l x) (w : World) :
    Calls Try.prog 19 #[.agg #[.int .i64 c, .int .i64 t, .int .i64 r, .int .i64 k], .int .i64 l] w (Gives (.tuple #[.int .i64 0, .bool false, .int .i64 x]) w) := by
  have H := Lib.hid h
  have hx := h.ne
  clear h
  rcases hx with rfl | rfl
  all_goals
    go_enter Try.func19, Try.ntmps19
    go_wp2_with (go_at_call 21; refine (check_bad _ _ _ _ _ _ H.out _).mono ?_; rintro e w1 ⟨rfl, hb⟩; obtain ⟨hc, hf⟩ := bcell hb)
    go_ret3
    exact ⟨rfl, below_step (below_alloc (Below.refl _ _) _) hb⟩

set_option maxHeartbeats 1000000 in
theorem take_no (c t r k l : Int) (h : SetsP c t r k ∧ 0 ≤ l ∧ l ≤ 1000 * k) (h9 : l < 1000) (w : World) :
    Calls Try.prog 19 #[.agg #[.int .i64 c, .int .i64 t, .int .i64 r, .int .i64 k], .int .i64 l] w (Gives (.tuple #[.int .i64 l, .bool false, .int .i64 0]) w) := by
  have H := Lib.hid h
  obtain ⟨⟨h1, h2, h3, h4, h5, h6, h7⟩, h8, h10⟩ := h
  go_enter Try.func19, Try.ntmps19
  go_wp2_with (first | (go_at_call 21; refine (check_ok _ _ _ _ _ H.out.1 H.out.2.1 H.out.2.2 _).mono ?_; rintro e w1 ⟨rfl, hb⟩; obtain ⟨hc, hf⟩ := bcell hb; have hz := hb.size; simp at hz) | (go_at_call 26; refine (out_no _ _ _ _ _ _ _ (budget_new _ _ _ _ _ _) (by omega)).mono ?_; rintro e w2 ⟨rfl, hB, hb2⟩; obtain ⟨d0, d1, d2, d3, d4, hf2⟩ := hB.cell; clear hB))
  go_ret3
  exact ⟨rfl, below_at (below_alloc (below_step (below_alloc (Below.refl _ _) _) hb) _) hb2 (by omega)⟩

set_option maxHeartbeats 1000000 in
theorem take_yes (c t r k l : Int) (h : SetsP c t r k ∧ 0 ≤ l ∧ l ≤ 1000 * k) (h9 : 1000 ≤ l) (w : World) :
    Calls Try.prog 19 #[.agg #[.int .i64 c, .int .i64 t, .int .i64 r, .int .i64 k], .int .i64 l] w (Gives (.tuple #[.int .i64 (l - 1000), .bool true, .int .i64 0]) w) := by
  have H := Lib.hid h
  obtain ⟨⟨h1, h2, h3, h4, h5, h6, h7⟩, h8, h10⟩ := h
  go_enter Try.func19, Try.ntmps19
  go_wp2_with (first | (go_at_call 21; refine (check_ok _ _ _ _ _ H.out.1 H.out.2.1 H.out.2.2 _).mono ?_; rintro e w1 ⟨rfl, hb⟩; obtain ⟨hc, hf⟩ := bcell hb; have hz := hb.size; simp at hz) | (go_at_call 26; refine (out_yes _ _ _ _ _ _ _ (budget_new _ _ _ _ _ _) (by omega) (by omega)).mono ?_; rintro e w2 ⟨rfl, hB, hb2⟩; obtain ⟨d0, d1, d2, d3, d4, hf2⟩ := hB.cell; clear hB))
  go_ret3
  exact ⟨rfl, below_at (below_alloc (below_step (below_alloc (Below.refl _ _) _) hb) _) hb2 (by omega)⟩

set_option maxHeartbeats 1000000 in
theorem rtake_bad (c t r k l x : Int) (h : BadAt c t r k l x) (w : World) :
    Calls Try.prog 20 #[.agg #[.int .i64 c, .int .i64 t, .int .i64 r, .int .i64 k], .int .i64 l] w (Gives (.tuple #[.int .i64 0, .bool false, .int .i64 x]) w) := by
  have H := Lib.hid h
  have hx := h.ne
  clear h
  rcases hx with rfl | rfl
  all_goals
    go_enter Try.func20, Try.ntmps20
    go_wp2_with (go_at_call 22; refine (rcheck_bad _ _ _ _ _ _ H.out _).mono ?_; rintro e w1 ⟨rfl, hb⟩; obtain ⟨hc, hf⟩ := bcell hb)
    go_ret3
    exact ⟨rfl, below_step (below_alloc (Below.refl _ _) _) hb⟩

set_option maxHeartbeats 1000000 in
theorem rtake_no (c t r k l : Int) (h : SetsP c t r k ∧ 0 ≤ l ∧ l ≤ 1000 * k) (h9 : l < 1000) (w : World) :
    Calls Try.prog 20 #[.agg #[.int .i64 c, .int .i64 t, .int .i64 r, .int .i64 k], .int .i64 l] w (Gives (.tuple #[.int .i64 l, .bool false, .int .i64 0]) w) := by
  have H := Lib.hid h
  obtain ⟨⟨h1, h2, h3, h4, h5, h6, h7⟩, h8, h10⟩ := h
  go_enter Try.func20, Try.ntmps20
  go_wp2_with (first | (go_at_call 22; refine (rcheck_ok _ _ _ _ _ H.out.1 H.out.2.1 H.out.2.2 _).mono ?_; rintro e w1 ⟨rfl, hb⟩; obtain ⟨hc, hf⟩ := bcell hb; have hz := hb.size; simp at hz))
  go_ret3
  exact ⟨rfl, below_step (below_alloc (Below.refl _ _) _) hb⟩

set_option maxHeartbeats 1000000 in
theorem rtake_yes (c t r k l : Int) (h : SetsP c t r k ∧ 0 ≤ l ∧ l ≤ 1000 * k) (h9 : 1000 ≤ l) (w : World) :
    Calls Try.prog 20 #[.agg #[.int .i64 c, .int .i64 t, .int .i64 r, .int .i64 k], .int .i64 l] w (Gives (.tuple #[.int .i64 (l - 1000), .bool true, .int .i64 0]) w) := by
  have H := Lib.hid h
  obtain ⟨⟨h1, h2, h3, h4, h5, h6, h7⟩, h8, h10⟩ := h
  go_enter Try.func20, Try.ntmps20
  go_wp2_with (first | (go_at_call 22; refine (rcheck_ok _ _ _ _ _ H.out.1 H.out.2.1 H.out.2.2 _).mono ?_; rintro e w1 ⟨rfl, hb⟩; obtain ⟨hc, hf⟩ := bcell hb; have hz := hb.size; simp at hz))
  go_ret3
  exact ⟨rfl, below_step (below_alloc (Below.refl _ _) _) hb⟩
end Go.Proofs.Ytaaebnfagbiaiaa
