/- What outlier's Check and ask hand back. Conditions: none. -/
import Derived.Test.YtnhkfhjiolpimaaRSets
import Derived.Test.YtnhkfhjiolpimaaBoxes
namespace Go.Proofs.Ytnhkfhjiolpimaa
open Go.RowKit

def in2B (lo hi x y : Int) : Bool := inB lo hi x && inB lo hi y
def in3B (lo hi x y z : Int) : Bool := inB lo hi x && inB lo hi y && inB lo hi z
theorem in2B_iff {lo hi x y : Int} : in2B lo hi x y = true ↔ (lo ≤ x ∧ x ≤ hi) ∧ lo ≤ y ∧ y ≤ hi := by unfold in2B; simp [inB_iff]
theorem in3B_iff {lo hi x y z : Int} : in3B lo hi x y z = true ↔ (lo ≤ x ∧ x ≤ hi) ∧ (lo ≤ y ∧ y ≤ hi) ∧ lo ≤ z ∧ z ≤ hi := by unfold in3B; simp [inB_iff, and_assoc]
theorem in2B_no {lo hi x y : Int} : in2B lo hi x y = false ↔ ¬ ((lo ≤ x ∧ x ≤ hi) ∧ lo ≤ y ∧ y ≤ hi) := by rw [← in2B_iff]; simp
theorem in3B_no {lo hi x y z : Int} : in3B lo hi x y z = false ↔ ¬ ((lo ≤ x ∧ x ≤ hi) ∧ (lo ≤ y ∧ y ≤ hi) ∧ lo ≤ z ∧ z ≤ hi) := by rw [← in3B_iff]; simp

theorem new_cell (W : World) (cs : Array Value) (t : TypeId) (b : Nat) (hb : b = W.heap.size) (o : Nat) : (W.alloc (.cells cs t)).cell? ⟨b, o, none⟩ = cs[o]? := by
  subst hb
  have h : (W.heap.push (Obj.cells cs t))[W.heap.size]? = some (Obj.cells cs t) := by simp
  show World.cell? _ _ = _
  unfold World.cell?
  show (match (W.heap.push (Obj.cells cs t))[W.heap.size]? with | some (.cells c _ _) => if (none : Option Nat).isSome then none else c[o]? | _ => none) = _
  rw [h]
  rfl

theorem in1_b (lo hi x : Int) (b : Nat) (W : World) (t : TypeId) (hb : b = W.heap.size) :
    Calls Try.prog 26 #[.int .i64 lo, .int .i64 hi, .slice (some ⟨b, 0, none⟩) 1 1] (W.alloc (.cells #[.int .i64 x] t)) fun e w' => e = .returned (.bool (inB lo hi x)) ∧ W.alloc (.cells #[.int .i64 x] t) = w' :=
  in1 lo hi x b _ (new_cell W _ t b hb 0) _ inB_iff

theorem in2_b (lo hi x y : Int) (b : Nat) (W : World) (t : TypeId) (hb : b = W.heap.size) :
    Calls Try.prog 26 #[.int .i64 lo, .int .i64 hi, .slice (some ⟨b, 0, none⟩) 2 2] (W.alloc (.cells #[.int .i64 x, .int .i64 y] t)) fun e w' => e = .returned (.bool (in2B lo hi x y)) ∧ W.alloc (.cells #[.int .i64 x, .int .i64 y] t) = w' :=
  in2 lo hi x y b _ (new_cell W _ t b hb 0) (new_cell W _ t b hb 1) _ in2B_iff

theorem in3_b (lo hi x y z : Int) (b : Nat) (W : World) (t : TypeId) (hb : b = W.heap.size) :
    Calls Try.prog 26 #[.int .i64 lo, .int .i64 hi, .slice (some ⟨b, 0, none⟩) 3 3] (W.alloc (.cells #[.int .i64 x, .int .i64 y, .int .i64 z] t)) fun e w' => e = .returned (.bool (in3B lo hi x y z)) ∧ W.alloc (.cells #[.int .i64 x, .int .i64 y, .int .i64 z] t) = w' :=
  in3 lo hi x y z b _ (new_cell W _ t b hb 0) (new_cell W _ t b hb 1) (new_cell W _ t b hb 2) _ in3B_iff

set_option maxHeartbeats 4000000 in
theorem check_nosets (o : Out) (s : OSet) (t : Int) (w : World) (h : ¬ SetsP s) : Calls Try.prog 24 #[.agg #[.int .i64 o.row, .int .i64 o.good, .int .i64 o.bad, .int .i64 o.times, .int .i64 o.since, .int .i64 o.till, .bool o.out], .agg #[.int .i64 s.row, .int .i64 s.mille, .int .i64 s.least, .int .i64 s.base, .int .i64 s.most, .int .i64 s.percent, .int .i64 s.panic], .int .i64 t] w (Gives (.int .i64 4) w) := by
  have H := Lib.hid h
  clear h
  go_enter Try.func24, Try.ntmps24
  go_wp2_with (go_at_call 25; refine (sets_no _ _ H.out).mono ?_; rintro e w1 ⟨rfl, hb⟩)
  go_ret
  exact ⟨rfl, below_step (below_alloc (below_alloc (Below.refl _ _) _) _) hb⟩

set_option maxHeartbeats 4000000 in
theorem check_sets (o : Out) (s : OSet) (t : Int) (w : World) (h : SetsP s) (x : Int) (hx : Chk o s t x) : Calls Try.prog 24 #[.agg #[.int .i64 o.row, .int .i64 o.good, .int .i64 o.bad, .int .i64 o.times, .int .i64 o.since, .int .i64 o.till, .bool o.out], .agg #[.int .i64 s.row, .int .i64 s.mille, .int .i64 s.least, .int .i64 s.base, .int .i64 s.most, .int .i64 s.percent, .int .i64 s.panic], .int .i64 t] w (Gives (.int .i64 x) w) := by
  have H := Lib.hid h
  have HX := Lib.hid hx
  clear h hx
  go_enter Try.func24, Try.ntmps24
  go_wp2_with (fail)
  refine (sets_yes _ _ H.out).mono ?_
  rintro e w1 ⟨rfl, hb⟩
  obtain ⟨⟨d0, d1, d2, d3, d4, d5, d6⟩, _⟩ := (((OutBox.new w w.heap.size rfl o).alloc _).kept hb).cell
  have hz := hb.size
  simp at hz
  have HB := Lib.hid (below_step (below_alloc (below_alloc (Below.refl w.heap.size w) _) _) hb)
  clear hb
  have z0 : w.heap.size < w1.heap.size := by omega
  have z1 : w.heap.size < w1.heap.size + 1 := by omega
  have z2 : w.heap.size < w1.heap.size + 1 + 1 := by omega
  have z3 : w.heap.size < w1.heap.size + 1 + 1 + 1 := by omega
  clear hz
  go_wp2_with (first | (go_at_call 26; (with_reducible refine (in1_b _ _ _ _ _ _ ?_).mono ?_); (· simp); rintro e w2 ⟨rfl, rfl⟩) | (go_at_call 26; (with_reducible refine (in2_b _ _ _ _ _ _ _ ?_).mono ?_); (· simp); rintro e w2 ⟨rfl, rfl⟩) | (go_at_call 26; (with_reducible refine (in3_b _ _ _ _ _ _ _ _ ?_).mono ?_); (· simp); rintro e w2 ⟨rfl, rfl⟩))
  all_goals
    go_ret
    refine ⟨ret_int ?_, by repeat (first | exact HB.out | apply below_alloc)⟩
    have hx := HX.out
    have hs := H.out
    unfold Chk at hx
    rw [tick_iff, out_iff] at hx
    simp only [hs, true_and] at hx
    clear HX H hs HB z0 z1 z2 z3 d0 d1 d2 d3 d4 d5 d6
    simp only [inB_iff, inB_no, in2B_iff, in2B_no, in3B_iff, Bool.not_eq_eq_eq_not, Bool.not_true, Bool.not_false] at *
    omega

theorem check_any (o : Out) (s : OSet) (t x : Int) (w : World) (hx : Chk o s t x) : Calls Try.prog 24 #[.agg #[.int .i64 o.row, .int .i64 o.good, .int .i64 o.bad, .int .i64 o.times, .int .i64 o.since, .int .i64 o.till, .bool o.out], .agg #[.int .i64 s.row, .int .i64 s.mille, .int .i64 s.least, .int .i64 s.base, .int .i64 s.most, .int .i64 s.percent, .int .i64 s.panic], .int .i64 t] w (Gives (.int .i64 x) w) := by
  by_cases h : SetsP s
  · exact check_sets o s t w h x hx
  · have : x = 4 := by
      rcases hx with h1 | h1 | h1
      · exact h1.1
      · exact absurd h1.2.1 h
      · exact absurd h1.2.1 h
    subst this
    exact check_nosets o s t w h

theorem rcheck_any (o : Out) (s : OSet) (t x : Int) (w : World) (hx : Chk o s t x) : Calls Try.prog 14 #[.agg #[.int .i64 o.row, .int .i64 o.good, .int .i64 o.bad, .int .i64 o.times, .int .i64 o.since, .int .i64 o.till, .bool o.out], .agg #[.int .i64 s.row, .int .i64 s.mille, .int .i64 s.least, .int .i64 s.base, .int .i64 s.most, .int .i64 s.percent, .int .i64 s.panic], .int .i64 t] w (Gives (.int .i64 x) w) := by
  by_cases h : SetsP s
  · exact rcheck_sets o s t w h x hx
  · have : x = 4 := by
      rcases hx with h1 | h1 | h1
      · exact h1.1
      · exact absurd h1.2.1 h
      · exact absurd h1.2.1 h
    subst this
    exact rcheck_nosets o s t w h

def OSet.zero : OSet := ⟨0, 0, 0, 0, 0, 0, 0⟩

/-- ask hands back a known at a new block, and the number of an error. -/
def Asked (o : Out) (s : OSet) (t x : Int) (w : World) (e : Ending) (w' : World) : Prop :=
  ∃ b, e = .returned (.tuple #[.pointer (some ⟨b, 0, none⟩), .int .i64 x]) ∧ Below w.heap.size w w' ∧ w.heap.size ≤ b ∧ Known w' b o s t

set_option maxHeartbeats 1000000 in
theorem ask_ok (o : Out) (s : OSet) (t : Int) (w : World) (hx : Chk o s t 0) : Calls Try.prog 27 #[.agg #[.int .i64 o.row, .int .i64 o.good, .int .i64 o.bad, .int .i64 o.times, .int .i64 o.since, .int .i64 o.till, .bool o.out], .agg #[.int .i64 s.row, .int .i64 s.mille, .int .i64 s.least, .int .i64 s.base, .int .i64 s.most, .int .i64 s.percent, .int .i64 s.panic], .int .i64 t] w (Asked o s t 0 w) := by
  have HX := Lib.hid hx
  clear hx
  go_enter Try.func27, Try.ntmps27
  go_wp2_with (fail)
  refine (check_any _ _ _ _ _ HX.out).mono ?_
  rintro e w1 ⟨rfl, hb⟩
  obtain ⟨⟨d0, d1, d2, d3, d4, d5, d6⟩, _⟩ := (((OutBox.new w w.heap.size rfl o).alloc _).kept hb).cell
  obtain ⟨⟨c0, c1, c2, c3, c4, c5, c6⟩, _⟩ := ((SetBox.new (w.alloc _) (w.heap.size + 1) (by simp) s).kept hb).cell
  have HB := Lib.hid (below_step (below_alloc (below_alloc (Below.refl w.heap.size w) _) _) hb)
  clear hb
  go_wp2
  go_ret2
  exact ⟨_, rfl, below_alloc HB.out _, HB.out.size, Known.new _ _ rfl o s t⟩

set_option maxHeartbeats 1000000 in
theorem ask_bad (o : Out) (s : OSet) (t x : Int) (w : World) (hx : Chk o s t x) (h : x = 4 ∨ x = 9) : Calls Try.prog 27 #[.agg #[.int .i64 o.row, .int .i64 o.good, .int .i64 o.bad, .int .i64 o.times, .int .i64 o.since, .int .i64 o.till, .bool o.out], .agg #[.int .i64 s.row, .int .i64 s.mille, .int .i64 s.least, .int .i64 s.base, .int .i64 s.most, .int .i64 s.percent, .int .i64 s.panic], .int .i64 t] w (Asked Out.zero OSet.zero 0 x w) := by
  have HX := Lib.hid hx
  clear hx
  rcases h with rfl | rfl
  all_goals
    go_enter Try.func27, Try.ntmps27
    go_wp2_with (fail)
    refine (check_any _ _ _ _ _ HX.out).mono ?_
    rintro e w1 ⟨rfl, hb⟩
    have HB := Lib.hid (below_step (below_alloc (below_alloc (Below.refl w.heap.size w) _) _) hb)
    clear hb
    go_wp2
    go_ret2
    exact ⟨_, rfl, below_alloc HB.out _, HB.out.size, Known.new _ _ rfl Out.zero OSet.zero 0⟩
end Go.Proofs.Ytnhkfhjiolpimaa
