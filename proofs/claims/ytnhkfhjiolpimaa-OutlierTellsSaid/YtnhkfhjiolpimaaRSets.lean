/- What the document's Sets hands back. Conditions: none. -/
import Derived.Test.YtnhkfhjiolpimaaIn
namespace Go.Proofs.Ytnhkfhjiolpimaa
open Go.RowKit

/-- Does a number lie between two? -/
def inB (lo hi n : Int) : Bool := decide (lo ≤ n) && decide (n ≤ hi)
theorem inB_iff {lo hi n : Int} : inB lo hi n = true ↔ lo ≤ n ∧ n ≤ hi := by unfold inB; simp

theorem inB_no {lo hi n : Int} : inB lo hi n = false ↔ ¬ (lo ≤ n ∧ n ≤ hi) := by rw [← inB_iff]; simp

set_option maxHeartbeats 1000000 in
theorem rin_any (n lo hi : Int) (w : World) : Calls Try.prog 30 #[.int .i64 n, .int .i64 lo, .int .i64 hi] w fun e w' => e = .returned (.bool (inB lo hi n)) ∧ w = w' := by
  by_cases h : lo ≤ n
  all_goals
    go_enter Try.func30, Try.ntmps30
    go_wp2
    go_ret
    exact ⟨ret_bool (by unfold inB; simp <;> omega), rfl⟩

theorem sets_iff {s : OSet} : SetsP s ↔ (1 ≤ s.row ∧ s.row ≤ 1000) ∧ (1 ≤ s.mille ∧ s.mille ≤ 1000) ∧ (1 ≤ s.least ∧ s.least ≤ 1000) ∧ (1 ≤ s.base ∧ s.base ≤ 1048576) ∧ (s.base ≤ s.most ∧ s.most ≤ 1048576) ∧ (0 ≤ s.percent ∧ s.percent ≤ 100) ∧ (0 ≤ s.panic ∧ s.panic ≤ 100) :=
  ⟨fun h => ⟨⟨h.row0, h.row1⟩, ⟨h.mille0, h.mille1⟩, ⟨h.least0, h.least1⟩, ⟨h.base0, h.base1⟩, ⟨h.order, h.most1⟩, ⟨h.percent0, h.percent1⟩, ⟨h.panic0, h.panic1⟩⟩,
   fun h => ⟨h.1.1, h.1.2, h.2.1.1, h.2.1.2, h.2.2.1.1, h.2.2.1.2, h.2.2.2.1.1, h.2.2.2.1.2, by omega, h.2.2.2.2.1.2, h.2.2.2.2.1.1, h.2.2.2.2.2.1.1, h.2.2.2.2.2.1.2, h.2.2.2.2.2.2.1, h.2.2.2.2.2.2.2⟩⟩

theorem tick_iff {t : Int} : TickP t ↔ 0 ≤ t ∧ t ≤ 536870912 := ⟨fun h => ⟨h.t0, h.t1⟩, fun h => ⟨h.1, h.2⟩⟩

theorem out_iff {o : Out} : OutP o ↔ ((0 ≤ o.row ∧ o.row ≤ 1048576) ∧ (0 ≤ o.good ∧ o.good ≤ 1048576) ∧ (0 ≤ o.bad ∧ o.bad ≤ 1048576)) ∧ (0 ≤ o.times ∧ o.times ≤ 1000) ∧ (0 ≤ o.since ∧ o.since ≤ 1073741824) ∧ (0 ≤ o.till ∧ o.till ≤ 1073741824) :=
  ⟨fun h => ⟨⟨⟨h.row0, h.row1⟩, ⟨h.good0, h.good1⟩, ⟨h.bad0, h.bad1⟩⟩, ⟨h.times0, h.times1⟩, ⟨h.since0, h.since1⟩, ⟨h.till0, h.till1⟩⟩,
   fun h => ⟨h.1.1.1, h.1.1.2, h.1.2.1.1, h.1.2.1.2, h.1.2.2.1, h.1.2.2.2, h.2.1.1, h.2.1.2, h.2.2.1.1, h.2.2.1.2, h.2.2.2.1, h.2.2.2.2⟩⟩

set_option maxHeartbeats 4000000 in
theorem rsets_any (s : OSet) (w : World) (r : Bool) (hr : r = true ↔ SetsP s) : Calls Try.prog 29 #[.agg #[.int .i64 s.row, .int .i64 s.mille, .int .i64 s.least, .int .i64 s.base, .int .i64 s.most, .int .i64 s.percent, .int .i64 s.panic]] w (Gives (.bool r) w) := by
  rw [sets_iff] at hr
  have HR := Lib.hid hr
  clear hr
  go_enter Try.func29, Try.ntmps29
  go_wp2_with (go_at_call 30; refine (rin_any _ _ _ _).mono ?_; rintro e w1 ⟨rfl, rfl⟩)
  all_goals
    go_ret
    refine ⟨ret_bool ?_, below_alloc (Below.refl _ _) _⟩
    rw [Bool.eq_iff_iff, HR.out]
    clear HR
    simp only [inB_iff, Bool.false_eq_true, false_iff] at *
    omega

theorem rsets_yes (s : OSet) (w : World) (h : SetsP s) : Calls Try.prog 29 #[.agg #[.int .i64 s.row, .int .i64 s.mille, .int .i64 s.least, .int .i64 s.base, .int .i64 s.most, .int .i64 s.percent, .int .i64 s.panic]] w (Gives (.bool true) w) := rsets_any s w true ⟨fun _ => h, fun _ => rfl⟩
theorem rsets_no (s : OSet) (w : World) (h : ¬ SetsP s) : Calls Try.prog 29 #[.agg #[.int .i64 s.row, .int .i64 s.mille, .int .i64 s.least, .int .i64 s.base, .int .i64 s.most, .int .i64 s.percent, .int .i64 s.panic]] w (Gives (.bool false) w) := rsets_any s w false ⟨fun h => by simp at h, fun hs => absurd hs h⟩

/-- May what is known be, with settings, at a tick? The number of the error. -/
def Chk (o : Out) (s : OSet) (t x : Int) : Prop := (x = 4 ∧ ¬ (SetsP s ∧ TickP t)) ∨ (x = 9 ∧ SetsP s ∧ TickP t ∧ ¬ OutP o) ∨ (x = 0 ∧ SetsP s ∧ TickP t ∧ OutP o)

theorem chk_some (o : Out) (s : OSet) (t : Int) : (SetsP s ∧ TickP t ∧ OutP o) ∨ ∃ x, Chk o s t x ∧ (x = 4 ∨ x = 9) := by
  by_cases h : SetsP s ∧ TickP t
  · by_cases h2 : OutP o
    · exact .inl ⟨h.1, h.2, h2⟩
    · exact .inr ⟨9, .inr (.inl ⟨rfl, h.1, h.2, h2⟩), .inr rfl⟩
  · exact .inr ⟨4, .inl ⟨rfl, h⟩, .inl rfl⟩

theorem chk_ok {o : Out} {s : OSet} {t : Int} (hs : SetsP s) (ht : TickP t) (ho : OutP o) : Chk o s t 0 := .inr (.inr ⟨rfl, hs, ht, ho⟩)

set_option maxHeartbeats 4000000 in
theorem rcheck_nosets (o : Out) (s : OSet) (t : Int) (w : World) (h : ¬ SetsP s) : Calls Try.prog 14 #[.agg #[.int .i64 o.row, .int .i64 o.good, .int .i64 o.bad, .int .i64 o.times, .int .i64 o.since, .int .i64 o.till, .bool o.out], .agg #[.int .i64 s.row, .int .i64 s.mille, .int .i64 s.least, .int .i64 s.base, .int .i64 s.most, .int .i64 s.percent, .int .i64 s.panic], .int .i64 t] w (Gives (.int .i64 4) w) := by
  have H := Lib.hid h
  clear h
  go_enter Try.func14, Try.ntmps14
  go_wp2_with (go_at_call 29; refine (rsets_no _ _ H.out).mono ?_; rintro e w1 ⟨rfl, hb⟩)
  go_ret
  exact ⟨rfl, below_step (below_alloc (below_alloc (Below.refl _ _) _) _) hb⟩

set_option maxHeartbeats 4000000 in
theorem rcheck_sets (o : Out) (s : OSet) (t : Int) (w : World) (h : SetsP s) (x : Int) (hx : Chk o s t x) : Calls Try.prog 14 #[.agg #[.int .i64 o.row, .int .i64 o.good, .int .i64 o.bad, .int .i64 o.times, .int .i64 o.since, .int .i64 o.till, .bool o.out], .agg #[.int .i64 s.row, .int .i64 s.mille, .int .i64 s.least, .int .i64 s.base, .int .i64 s.most, .int .i64 s.percent, .int .i64 s.panic], .int .i64 t] w (Gives (.int .i64 x) w) := by
  have H := Lib.hid h
  have HX := Lib.hid hx
  clear h hx
  go_enter Try.func14, Try.ntmps14
  go_wp2_with (first | (go_at_call 29; refine (rsets_yes _ _ H.out).mono ?_; rintro e w1 ⟨rfl, hb⟩; obtain ⟨hc, hf⟩ := bcell hb) | (go_at_call 30; refine (rin_any _ _ _ _).mono ?_; rintro e w2 ⟨rfl, rfl⟩))
  all_goals
    go_ret
    refine ⟨ret_int ?_, below_step (below_alloc (below_alloc (Below.refl _ _) _) _) hb⟩
    have hx := HX.out
    have hs := H.out
    unfold Chk at hx
    rw [tick_iff, out_iff] at hx
    simp only [hs, true_and] at hx
    clear HX H hs hc hf hb
    simp only [inB_iff, inB_no, Bool.not_eq_eq_eq_not, Bool.not_true, Bool.not_false] at *
    omega
end Go.Proofs.Ytnhkfhjiolpimaa
