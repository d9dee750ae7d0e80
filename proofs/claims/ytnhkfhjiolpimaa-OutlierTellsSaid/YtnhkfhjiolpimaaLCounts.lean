/- The walk of OutlierCounts: it hands back true. Condition: the slice reads as the list. -/
import Derived.Test.YtnhkfhjiolpimaaLSame
namespace Go.Proofs.Ytnhkfhjiolpimaa
open Go.RowKit

theorem tick0 : TickP 0 := ⟨by decide, by decide⟩

theorem rec_zero_no (s : OSet) (t : Int) (hs : ¬ (SetsP s ∧ TickP t)) (a : Option Addr) (l : List Bool) (cap : Nat) (w : World) :
    Calls Try.prog 17 #[.agg #[.int .i64 0, .int .i64 0, .int .i64 0, .int .i64 0, .int .i64 0, .int .i64 0, .bool false], .agg #[.int .i64 s.row, .int .i64 s.mille, .int .i64 s.least, .int .i64 s.base, .int .i64 s.most, .int .i64 s.percent, .int .i64 s.panic], .int .i64 t, .slice a l.length cap] w (Gives (.tuple #[.agg #[.int .i64 0, .int .i64 0, .int .i64 0, .int .i64 0, .int .i64 0, .int .i64 0, .bool false], .int .i64 4]) w) :=
  record_bad Out.zero s t 4 a l cap w (.inl ⟨rfl, hs⟩) (.inl rfl)

theorem rec_zero_ok (s : OSet) (t : Int) (hs : SetsP s) (ht : TickP t) (a : Option Addr) (l : List Bool) (cap : Nat) (w : World) (hl : BoolsAt w a l) (hm : l.length ≤ maxLen) (o : Out) (ho : endsO Out.zero l = o) :
    Calls Try.prog 17 #[.agg #[.int .i64 0, .int .i64 0, .int .i64 0, .int .i64 0, .int .i64 0, .int .i64 0, .bool false], .agg #[.int .i64 s.row, .int .i64 s.mille, .int .i64 s.least, .int .i64 s.base, .int .i64 s.most, .int .i64 s.percent, .int .i64 s.panic], .int .i64 t, .slice a l.length cap] w (Gives (.tuple #[.agg #[.int .i64 o.row, .int .i64 o.good, .int .i64 o.bad, .int .i64 o.times, .int .i64 o.since, .int .i64 o.till, .bool o.out], .int .i64 0]) w) := by
  subst ho
  exact record_ok Out.zero s t a l cap w hl hm (chk_ok hs ht zero_in)

set_option maxHeartbeats 1000000 in
theorem counts_no (s : OSet) (a : Option Addr) (l : List Bool) (cap : Nat) (w : World) (_hm : l.length ≤ maxLen) (hs : ¬ SetsP s) : Calls Try.prog 6 #[.agg #[.int .i64 s.row, .int .i64 s.mille, .int .i64 s.least, .int .i64 s.base, .int .i64 s.most, .int .i64 s.percent, .int .i64 s.panic], .slice a l.length cap] w (Gives (.bool true) w) := by
  have HS : Hid (¬ (SetsP s ∧ TickP 0)) := fun h => hs h.1
  clear hs
  go_enter Try.func6, Try.ntmps6
  go_wp2_with (fail)
  refine (alive_any _).mono ?_
  rintro e1 w1 ⟨rfl, hb⟩
  have HX1 := Lib.hid ((SetBox.new w w.heap.size rfl s).kept hb)
  have HB1 := Lib.hid (below_step (below_alloc (Below.refl w.heap.size w) _) hb)
  clear hb
  obtain ⟨⟨s0, s1, s2, s3, s4, s5, s6⟩, _⟩ := HX1.out.cell
  go_wp2_with (fail)
  refine (rec_zero_no s 0 HS.out _ _ _ _).mono ?_
  rintro e1 w2 ⟨rfl, hb⟩
  have HB2 := Lib.hid (below_step HB1.out hb)
  clear hb s0 s1 s2 s3 s4 s5 s6
  go_wp2_with (go_at_call 11; refine (num_any _ _).mono ?_; rintro e1 w9 ⟨rfl, rfl⟩)
  go_ret
  exact ⟨rfl, by repeat (first | exact HB2.out | apply below_alloc)⟩

set_option maxHeartbeats 1000000 in
theorem counts_long (s : OSet) (a : Option Addr) (l : List Bool) (cap : Nat) (w : World) (hl : BoolsAt w a l) (hm : l.length ≤ maxLen) (hs : SetsP s) (h : 524288 < l.length) : Calls Try.prog 6 #[.agg #[.int .i64 s.row, .int .i64 s.mille, .int .i64 s.least, .int .i64 s.base, .int .i64 s.most, .int .i64 s.percent, .int .i64 s.panic], .slice a l.length cap] w (Gives (.bool true) w) := by
  have HS := Lib.hid hs
  have HL := Lib.hid hl
  have HM := Lib.hid hm
  unfold maxLen at hm
  clear hs hl
  go_enter Try.func6, Try.ntmps6
  go_wp2_with (fail)
  refine (alive_any _).mono ?_
  rintro e1 w1 ⟨rfl, hb⟩
  have HX1 := Lib.hid ((SetBox.new w w.heap.size rfl s).kept hb)
  have HB1 := Lib.hid (below_step (below_alloc (Below.refl w.heap.size w) _) hb)
  clear hb
  obtain ⟨⟨s0, s1, s2, s3, s4, s5, s6⟩, _⟩ := HX1.out.cell
  go_wp2_with (fail)
  refine (rec_zero_ok s 0 HS.out tick0 _ _ _ _ (HL.out.below HB1.out (Nat.le_refl _)) HM.out _ rfl).mono ?_
  generalize endsO Out.zero l = o
  rintro e1 w2 ⟨rfl, hb⟩
  have HB2 := Lib.hid (below_step HB1.out hb)
  clear hb s0 s1 s2 s3 s4 s5 s6
  go_wp2_with (go_at_call 11; refine (num_any _ _).mono ?_; rintro e1 w9 ⟨rfl, rfl⟩)
  go_ret
  exact ⟨rfl, by repeat (first | exact HB2.out | apply below_alloc)⟩

/-- What is counted of the first i ends. -/
def Counted (l : List Bool) (vg vb vr vi : Value) : Prop :=
  ∃ (i : Nat) (g b r : Int), i ≤ l.length ∧ vi = .int .i64 i ∧ vg = .int .i64 g ∧ vb = .int .i64 b ∧ vr = .int .i64 r ∧ endsO Out.zero (l.take i) = ⟨r, g, b, 0, 0, 0, false⟩ ∧ (0 ≤ g ∧ g ≤ i) ∧ (0 ≤ b ∧ b ≤ i) ∧ (0 ≤ r ∧ r ≤ i)

theorem up_small {n : Int} (h : n < 1048576) : up n = n + 1 := by unfold up; rw [if_neg (by omega)]

theorem counted_next {l : List Bool} {i : Nat} {g b r : Int} {x : Bool} (hi : i < l.length) (hs : l.length ≤ 524288) (hx : l.getD i false = x) (h : endsO Out.zero (l.take i) = ⟨r, g, b, 0, 0, 0, false⟩) (hg : 0 ≤ g ∧ g ≤ i) (hb : 0 ≤ b ∧ b ≤ i) (hr : 0 ≤ r ∧ r ≤ i)
    {vg vb vr vi : Value} (h1 : vi = .int .i64 ((i + 1 : Nat) : Int)) (h2 : vg = .int .i64 (if x then g + 1 else g)) (h3 : vb = .int .i64 (if x then b else b + 1)) (h4 : vr = .int .i64 (if x then 0 else r + 1)) : Counted l vg vb vr vi := by
  refine ⟨i + 1, _, _, _, hi, h1, h2, h3, h4, ?_, ?_, ?_, ?_⟩
  · rw [endsO_take _ l i hi, h, hx]
    cases x
    · simp [endO, up_small (show b < 1048576 by omega), up_small (show r < 1048576 by omega)]
    · simp [endO, up_small (show g < 1048576 by omega)]
  all_goals
    cases x <;> simp <;> omega

set_option maxHeartbeats 2000000 in
theorem counts_ok (s : OSet) (a : Option Addr) (l : List Bool) (cap : Nat) (w : World) (hl : BoolsAt w a l) (hm : l.length ≤ maxLen) (hs : SetsP s) (h : l.length ≤ 524288) : Calls Try.prog 6 #[.agg #[.int .i64 s.row, .int .i64 s.mille, .int .i64 s.least, .int .i64 s.base, .int .i64 s.most, .int .i64 s.percent, .int .i64 s.panic], .slice a l.length cap] w (Gives (.bool true) w) := by
  have HS := Lib.hid hs
  have HL := Lib.hid hl
  have HM := Lib.hid hm
  unfold maxLen at hm
  clear hs hl
  obtain ⟨o, ho⟩ : ∃ o, endsO Out.zero l = o := ⟨_, rfl⟩
  have HO := Lib.hid ho
  clear ho
  go_enter Try.func6, Try.ntmps6
  go_wp2_with (fail)
  refine (alive_any _).mono ?_
  rintro e1 w1 ⟨rfl, hb⟩
  have HX1 := Lib.hid ((SetBox.new w w.heap.size rfl s).kept hb)
  have HB1 := Lib.hid (below_step (below_alloc (Below.refl w.heap.size w) _) hb)
  clear hb
  obtain ⟨⟨s0, s1, s2, s3, s4, s5, s6⟩, _⟩ := HX1.out.cell
  go_wp2_with (fail)
  refine (rec_zero_ok s 0 HS.out tick0 _ _ _ _ (HL.out.below HB1.out (Nat.le_refl _)) HM.out o HO.out).mono ?_
  rintro e1 w2 ⟨rfl, hb⟩
  have HB2 := Lib.hid (below_step HB1.out hb)
  clear hb s0 s1 s2 s3 s4 s5 s6
  have XO := Lib.hid (OutBox.new w2 _ rfl o)
  have HB3 := Lib.hid (below_alloc HB2.out (.cells #[.int .i64 o.row, .int .i64 o.good, .int .i64 o.bad, .int .i64 o.times, .int .i64 o.since, .int .i64 o.till, .bool o.out] 33))
  have HL3 := Lib.hid (HL.out.below HB3.out (Nat.le_refl _))
  go_wp2_with (go_at_call 11; refine (num_any _ _).mono ?_; rintro e1 w9 ⟨rfl, rfl⟩)
  generalize hW : w2.alloc _ = W at *
  clear hW
  go_loop [7, 8, 9, 10] (fun g b r i => Counted l g b r i) (fun _ _ _ i => l.length - (intOf i).toNat)
  case atStart => exact ⟨0, 0, 0, 0, Nat.zero_le _, rfl, rfl, rfl, rfl, rfl, ⟨Int.le_refl _, Int.le_refl _⟩, ⟨Int.le_refl _, Int.le_refl _⟩, ⟨Int.le_refl _, Int.le_refl _⟩⟩
  case round =>
    obtain ⟨i, g, b, r, hi, rfl, rfl, rfl, rfl, hE, hg, hb, hr⟩ := hrel
    have HE := Lib.hid hE
    have HG := Lib.hid hg
    have HBd := Lib.hid hb
    have HRd := Lib.hid hr
    obtain ⟨g0, g1⟩ := hg
    obtain ⟨b0, b1⟩ := hb
    obtain ⟨r0, r1⟩ := hr
    clear hE
    by_cases hlt : i < l.length
    · obtain ⟨ba, off, rfl, hbw, hcell⟩ := HL3.out.at hlt
      generalize hx : l.getD i false = x at hcell
      have HXx := Lib.hid hx
      clear hx hbw
      cases x with
      | true =>
        go_wp2
        go_round
        case rel => exact counted_next hlt h HXx.out HE.out HG.out HBd.out HRd.out (by go_num) rfl rfl rfl
        case measure => simp [intOf]; omega
      | false =>
        go_wp2
        go_round
        case rel => exact counted_next hlt h HXx.out HE.out HG.out HBd.out HRd.out (by go_num) rfl rfl rfl
        case measure => simp [intOf]; omega
    · obtain rfl : i = l.length := by omega
      have hX := XO.out
      have e := HE.out
      rw [List.take_length, HO.out] at e
      rw [e] at hX
      obtain ⟨⟨d0, d1, d2, d3, d4, d5, d6⟩, _⟩ := hX.cell
      clear hX e HE
      go_wp2
      go_ret
      exact ⟨rfl, HB3.out⟩

theorem counts_walk (s : OSet) (a : Option Addr) (l : List Bool) (cap : Nat) (w : World) (hl : BoolsAt w a l) (hm : l.length ≤ maxLen) : Calls Try.prog 6 #[.agg #[.int .i64 s.row, .int .i64 s.mille, .int .i64 s.least, .int .i64 s.base, .int .i64 s.most, .int .i64 s.percent, .int .i64 s.panic], .slice a l.length cap] w (Gives (.bool true) w) := by
  by_cases hs : SetsP s
  · by_cases h : l.length ≤ 524288
    · exact counts_ok s a l cap w hl hm hs h
    · exact counts_long s a l cap w hl hm hs (by omega)
  · exact counts_no s a l cap w hm hs
end Go.Proofs.Ytnhkfhjiolpimaa
