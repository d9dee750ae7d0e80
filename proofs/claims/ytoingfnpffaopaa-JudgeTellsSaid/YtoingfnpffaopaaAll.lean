/- What judge's All hands back: the first of the six with a fault. Conditions: none. -/
import Derived.Test.YtoingfnpffaopaaTru4
import Derived.Test.YtoingfnpffaopaaBud5
import Derived.Test.YtoingfnpffaopaaReads
import Derived.Test.YtoingfnpffaopaaHeld
namespace Go.Proofs.Ytoingfnpffaopaa
open Go.RowKit

/-- The first that is not below zero, and which it is. -/
def allR (vs : List Int) : Int × Int := match (List.range 6).find? (fun j => decide (0 ≤ vs.getD j 0)) with | some i => ((i : Int) + 1, vs.getD i 0) | none => (0, -1)

theorem allR_some {vs : List Int} {i : Nat} (hi : i < 6) (h : 0 ≤ vs.getD i 0) (hn : ∀ j, j < i → vs.getD j 0 < 0) : allR vs = ((i : Int) + 1, vs.getD i 0) := by
  unfold allR
  have e : (List.range 6).find? (fun j => decide (0 ≤ vs.getD j 0)) = some i := by
    rw [List.find?_range_eq_some]
    exact ⟨decide_eq_true h, by simpa using hi, fun j hj => by have := hn j hj; simp only [decide_eq_false_iff_not, Bool.not_eq_eq_eq_not, Bool.not_true]; omega⟩
  rw [e]
theorem allR_none {vs : List Int} (hn : ∀ j, j < 6 → vs.getD j 0 < 0) : allR vs = (0, -1) := by
  unfold allR
  rw [List.find?_eq_none.2 fun j hj => by have := hn j (by simpa using hj); simp only [decide_eq_true_eq]; omega]

theorem below_helda {w w1 : World} {o : Obj} {p : Prop} (h : Below w.heap.size w w1 ∧ p) : Below w.heap.size w (w1.alloc o) := below_alloc h.1 o

/-- What holds at the head of a round. -/
def AllRel (vs : List Int) (vi : Value) : Prop := ∃ i : Nat, i ≤ 6 ∧ vi = .int .i64 i ∧ ∀ j, j < i → vs.getD j 0 < 0

theorem ints6 (w : World) (v0 v1 v2 v3 v4 v5 : Int) : IntsAt (w.alloc (.cells #[.int .i64 v0, .int .i64 v1, .int .i64 v2, .int .i64 v3, .int .i64 v4, .int .i64 v5] 3)) (some ⟨w.heap.size, 0, none⟩) [v0, v1, v2, v3, v4, v5] := by
  refine .inr ⟨w.heap.size, 0, rfl, by simp, fun i hi => ?_⟩
  have h : (w.alloc (.cells #[.int .i64 v0, .int .i64 v1, .int .i64 v2, .int .i64 v3, .int .i64 v4, .int .i64 v5] 3)).heap[w.heap.size]? = some (.cells #[.int .i64 v0, .int .i64 v1, .int .i64 v2, .int .i64 v3, .int .i64 v4, .int .i64 v5] 3) := by
    show (w.heap.push _)[w.heap.size]? = _
    simp
  rw [Nat.zero_add, cell_of_row _ _ _ _ _ _ h]
  rcases i with _ | _ | _ | _ | _ | _ | i
  all_goals first | rfl | exact absurd hi (by simp)

attribute [local go_sem ↓] run_load43

set_option maxHeartbeats 8000000 in
set_option maxRecDepth 100000 in
theorem all_gen (cs : List Value) (hcs : cs.length = 26) (a : Option Addr) (n : Nat) (cap : Nat) (v0 v1 v2 v3 v4 v5 : Int) (w : World)
    (h0 : ∀ w1, Below w.heap.size w w1 → Calls Try.prog 9 #[.slice a n cap] w1 (Gives (.int .i64 v0) w1))
    (h1 : ∀ w1, Below w.heap.size w w1 → Calls Try.prog 15 #[.slice a n cap] w1 (Gives (.int .i64 v1) w1))
    (h2 : ∀ w1, Below w.heap.size w w1 → Calls Try.prog 17 #[.slice a n cap] w1 (Gives (.int .i64 v2) w1))
    (h3 : ∀ w1, Below w.heap.size w w1 → Calls Try.prog 19 #[.slice a n cap] w1 (Gives (.int .i64 v3) w1))
    (h4 : ∀ w1, Below w.heap.size w w1 → Calls Try.prog 21 #[.slice a n cap] w1 (Gives (.int .i64 v4) w1))
    (h5 : ∀ w1, Below w.heap.size w w1 → Calls Try.prog 10 #[.agg cs.toArray, .slice a n cap] w1 (Gives (.int .i64 v5) w1)) :
    Calls Try.prog 12 #[.agg cs.toArray, .slice a n cap] w (Gives (.tuple #[.int .i64 (allR [v0, v1, v2, v3, v4, v5]).1, .int .i64 (allR [v0, v1, v2, v3, v4, v5]).2]) w) := by
  have H0 := Lib.hid h0
  have H1 := Lib.hid h1
  have H2 := Lib.hid h2
  have H3 := Lib.hid h3
  have H4 := Lib.hid h4
  have H5 := Lib.hid h5
  have hX := CsB.new w w.heap.size rfl cs hcs
  have hB0 := below_alloc (Below.refl w.heap.size w) (.cells cs.toArray 43)
  clear h0 h1 h2 h3 h4 h5 hcs
  go_enter Try.func12, Try.ntmps12
  go_wp2_with (fail)
  generalize w.alloc (.cells cs.toArray 43) = W at *
  have hK : ∀ w', Below W.heap.size W w' → Below W.heap.size W w' ∧ HeldCs w' (.pointer (some ⟨w.heap.size, 0, none⟩)) ∧ csOf w' (.pointer (some ⟨w.heap.size, 0, none⟩)) = cs := fun w' hb => ⟨hb, (hX.kept hb).held, (hX.kept hb).of⟩
  have HK := Lib.hid hK
  have HB := Lib.hid hB0
  clear hK hB0 hX
  go_region_held3 (fun w' => Below W.heap.size W w' ∧ HeldCs w' (.pointer (some ⟨w.heap.size, 0, none⟩)) ∧ csOf w' (.pointer (some ⟨w.heap.size, 0, none⟩)) = cs)
    (first | with_reducible assumption | (refine HK.out _ ?_; (first | with_reducible exact (Below.refl _ _).drew | with_reducible exact below_held (by with_reducible assumption) (by with_reducible assumption) | with_reducible exact below_helda (by with_reducible assumption))))
    (first | (go_at_call 9; refine (H0.out _ (below_step HB.out (And.left (by with_reducible assumption)))).mono ?_; rintro e1 wx ⟨rfl, hbx⟩)
           | (go_at_call 15; refine (H1.out _ (below_step HB.out (And.left (by with_reducible assumption)))).mono ?_; rintro e1 wx ⟨rfl, hbx⟩)
           | (go_at_call 17; refine (H2.out _ (below_step HB.out (And.left (by with_reducible assumption)))).mono ?_; rintro e1 wx ⟨rfl, hbx⟩)
           | (go_at_call 19; refine (H3.out _ (below_step HB.out (And.left (by with_reducible assumption)))).mono ?_; rintro e1 wx ⟨rfl, hbx⟩)
           | (go_at_call 21; refine (H4.out _ (below_step HB.out (And.left (by with_reducible assumption)))).mono ?_; rintro e1 wx ⟨rfl, hbx⟩)
           | (go_at_call 10; refine (H5.out _ (below_step HB.out (And.left (by with_reducible assumption)))).mono ?_; rintro e1 wx ⟨rfl, hbx⟩))
  have HI := Lib.hid (ints6 wx v0 v1 v2 v3 v4 v5)
  have HB2 : Hid (Below w.heap.size w (wx.alloc (.cells #[.int .i64 v0, .int .i64 v1, .int .i64 v2, .int .i64 v3, .int .i64 v4, .int .i64 v5] 3))) := below_step HB.out (And.left (by with_reducible assumption))
  rename_i hh
  clear hh
  generalize wx.alloc (.cells #[.int .i64 v0, .int .i64 v1, .int .i64 v2, .int .i64 v3, .int .i64 v4, .int .i64 v5] 3) = W2 at *
  generalize wx.heap.size = g at *
  have hvl : [v0, v1, v2, v3, v4, v5].length = 6 := rfl
  generalize [v0, v1, v2, v3, v4, v5] = vs at *
  have HVL := Lib.hid hvl
  clear hvl
  go_wp2
  go_loop [23] (fun vi => AllRel vs vi) (fun i => 6 - (intOf i).toNat)
  case atStart => exact ⟨0, Nat.zero_le _, rfl, fun j hj => absurd hj (Nat.not_lt_zero _)⟩
  case round =>
    obtain ⟨i, hi, rfl, hn⟩ := hrel
    have HN := Lib.hid hn
    clear hn
    by_cases hlt : i < 6
    · obtain ⟨ba, off, hba, hbw, hcell⟩ := HI.out.at (i := i) (by rw [HVL.out]; exact hlt)
      cases hba
      rw [Nat.zero_add] at hcell
      generalize hx : vs.getD i 0 = x at hcell
      have HX := Lib.hid hx
      clear hx hbw
      by_cases h0 : 0 ≤ x
      · go_wp2
        go_ret2
        have e := allR_some hlt (by rw [HX.out]; exact h0) HN.out
        rw [HX.out] at e
        exact ⟨by rw [e]; rfl, HB2.out⟩
      · go_wp2
        go_round
        case rel => exact ⟨i + 1, by omega, by go_num, fun j hj => by
          rcases Nat.lt_or_ge j i with h | h
          · exact HN.out j h
          · obtain rfl : j = i := by omega
            rw [HX.out]; omega⟩
        case measure => simp [intOf]; omega
    · obtain rfl : i = 6 := by omega
      go_wp2
      go_ret2
      exact ⟨by rw [allR_none HN.out]; rfl, HB2.out⟩

/-- The six answers. -/
def six (s : CS) (l : List Rw) : List Int := [idx (twiceP 3 l) l.length, idx (outP l) l.length, idx (rejP l) l.length, idx (pinP l) l.length, idx (truP l) l.length, budI s l]

theorem all_any (s : CS) (a : Option Addr) (l : List Rw) (cap : Nat) (w : World) (hm : l.length ≤ maxLen) (hbig : l.length * 128 ≤ 140737488355328) (hr : RowsAt w a l) :
    Calls Try.prog 12 #[.agg #[.int .i64 s.s0, .bool s.s1, .int .i64 s.s2, .int .i64 s.s3, .int .i64 s.s4, .int .i64 s.s5, .int .i64 s.s6, .int .i64 s.s7, .int .i64 s.s8, .int .i64 s.s9, .int .i64 s.s10, .int .i64 s.s11, .int .i64 s.s12, .int .i64 s.s13, .int .i64 s.s14, .int .i64 s.s15, .int .i64 s.s16, .int .i64 s.s17, .int .i64 s.s18, .int .i64 s.s19, .int .i64 s.s20, .int .i64 s.s21, .int .i64 s.s22, .int .i64 s.s23, .int .i64 s.s24, .int .i64 s.s25], .slice a l.length cap] w (Gives (.tuple #[.int .i64 (allR (six s l)).1, .int .i64 (allR (six s l)).2]) w) :=
  all_gen [.int .i64 s.s0, .bool s.s1, .int .i64 s.s2, .int .i64 s.s3, .int .i64 s.s4, .int .i64 s.s5, .int .i64 s.s6, .int .i64 s.s7, .int .i64 s.s8, .int .i64 s.s9, .int .i64 s.s10, .int .i64 s.s11, .int .i64 s.s12, .int .i64 s.s13, .int .i64 s.s14, .int .i64 s.s15, .int .i64 s.s16, .int .i64 s.s17, .int .i64 s.s18, .int .i64 s.s19, .int .i64 s.s20, .int .i64 s.s21, .int .i64 s.s22, .int .i64 s.s23, .int .i64 s.s24, .int .i64 s.s25] rfl a l.length cap _ _ _ _ _ _ w (fun w1 hb => once_any a l cap w1 hm (hr.below hb (Nat.le_refl _))) (fun w1 hb => outcomes_any a l cap w1 hm (hr.below hb (Nat.le_refl _)))
    (fun w1 hb => rejected_any a l cap w1 hm (hr.below hb (Nat.le_refl _))) (fun w1 hb => pins_any a l cap w1 hm (hr.below hb (Nat.le_refl _))) (fun w1 hb => true_any a l cap w1 hm hbig (hr.below hb (Nat.le_refl _)))
    (fun w1 hb => budget_any s a l cap w1 hm (hr.below hb (Nat.le_refl _)))
end Go.Proofs.Ytoingfnpffaopaa
