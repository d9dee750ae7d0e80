/- The walk of OutlierRow: it hands back true. Condition: the slice reads as the list. -/
import Derived.Test.YtnhkfhjiolpimaaLCounts
namespace Go.Proofs.Ytnhkfhjiolpimaa
open Go.RowKit

set_option maxHeartbeats 1000000 in
theorem row_no (s : OSet) (a : Option Addr) (l : List Bool) (cap : Nat) (t : Int) (w : World) (hs : ¬ (SetsP s ∧ TickP t)) : Calls Try.prog 7 #[.agg #[.int .i64 s.row, .int .i64 s.mille, .int .i64 s.least, .int .i64 s.base, .int .i64 s.most, .int .i64 s.percent, .int .i64 s.panic], .slice a l.length cap, .int .i64 t] w (Gives (.bool true) w) := by
  have HS := Lib.hid hs
  clear hs
  go_enter Try.func7, Try.ntmps7
  go_wp2_with (fail)
  refine (alive_any _).mono ?_
  rintro e1 w1 ⟨rfl, hb⟩
  have HX1 := Lib.hid ((SetBox.new w w.heap.size rfl s).kept hb)
  have HB1 := Lib.hid (below_step (below_alloc (Below.refl w.heap.size w) _) hb)
  clear hb
  obtain ⟨⟨s0, s1, s2, s3, s4, s5, s6⟩, _⟩ := HX1.out.cell
  go_wp2_with (fail)
  refine (rec_zero_no s t HS.out _ _ _ _).mono ?_
  rintro e1 w2 ⟨rfl, hb⟩
  have HB2 := Lib.hid (below_step HB1.out hb)
  clear hb s0 s1 s2 s3 s4 s5 s6
  go_wp2_with (go_at_call 11; refine (num_any _ _).mono ?_; rintro e1 w9 ⟨rfl, rfl⟩)
  go_ret
  exact ⟨rfl, by repeat (first | exact HB2.out | apply below_alloc)⟩

set_option maxHeartbeats 1000000 in
theorem row_long (s : OSet) (a : Option Addr) (l : List Bool) (cap : Nat) (t : Int) (w : World) (hl : BoolsAt w a l) (hm : l.length ≤ maxLen) (hs : SetsP s) (ht : TickP t) (h : 10000 < l.length) : Calls Try.prog 7 #[.agg #[.int .i64 s.row, .int .i64 s.mille, .int .i64 s.least, .int .i64 s.base, .int .i64 s.most, .int .i64 s.percent, .int .i64 s.panic], .slice a l.length cap, .int .i64 t] w (Gives (.bool true) w) := by
  have HS := Lib.hid hs
  have HT := Lib.hid ht
  have HL := Lib.hid hl
  have HM := Lib.hid hm
  unfold maxLen at hm
  clear hs hl ht
  go_enter Try.func7, Try.ntmps7
  go_wp2_with (fail)
  refine (alive_any _).mono ?_
  rintro e1 w1 ⟨rfl, hb⟩
  have HX1 := Lib.hid ((SetBox.new w w.heap.size rfl s).kept hb)
  have HB1 := Lib.hid (below_step (below_alloc (Below.refl w.heap.size w) _) hb)
  clear hb
  obtain ⟨⟨s0, s1, s2, s3, s4, s5, s6⟩, _⟩ := HX1.out.cell
  go_wp2_with (fail)
  refine (rec_zero_ok s t HS.out HT.out _ _ _ _ (HL.out.below HB1.out (Nat.le_refl _)) HM.out _ rfl).mono ?_
  generalize endsO Out.zero l = o
  rintro e1 w2 ⟨rfl, hb⟩
  have HB2 := Lib.hid (below_step HB1.out hb)
  clear hb s0 s1 s2 s3 s4 s5 s6
  go_wp2_with (go_at_call 11; refine (num_any _ _).mono ?_; rintro e1 w9 ⟨rfl, rfl⟩)
  go_ret
  exact ⟨rfl, by repeat (first | exact HB2.out | apply below_alloc)⟩

/-- One end more: Record of a slice of one. -/
theorem rec_one (o : Out) (s : OSet) (t : Int) (g : Bool) (W : World) (T : TypeId) (b : Nat) (hb : b = W.heap.size) (hx : Chk o s t 0) :
    Calls Try.prog 17 #[.agg #[.int .i64 o.row, .int .i64 o.good, .int .i64 o.bad, .int .i64 o.times, .int .i64 o.since, .int .i64 o.till, .bool o.out], .agg #[.int .i64 s.row, .int .i64 s.mille, .int .i64 s.least, .int .i64 s.base, .int .i64 s.most, .int .i64 s.percent, .int .i64 s.panic], .int .i64 t, .slice (some ⟨b, 0, none⟩) 1 1] (W.alloc (.cells #[.bool g] T)) (Gives (.tuple #[.agg #[.int .i64 (endO o g).row, .int .i64 (endO o g).good, .int .i64 (endO o g).bad, .int .i64 (endO o g).times, .int .i64 (endO o g).since, .int .i64 (endO o g).till, .bool (endO o g).out], .int .i64 0]) (W.alloc (.cells #[.bool g] T))) := by
  subst hb
  exact record_ok o s t _ [g] 1 _ (.inr ⟨W.heap.size, 0, rfl, by simp, fun i hi => by
    obtain rfl : i = 0 := by simpa using hi
    simp⟩) (by unfold maxLen; simp) hx

/-- What holds at the head of a round: i bad ends more are in the row. -/
def RowRel (s : OSet) (w : World) (b : Nat) (wr : World) (ve vi : Value) : Prop :=
  ∃ (i : Nat) (o : Out), (i : Int) ≤ s.row ∧ vi = .int .i64 i ∧ ve = .int .i64 0 ∧ OutP o ∧ o.out = false ∧ (i : Int) ≤ o.row ∧ OutBox wr b o ∧ SetBox wr w.heap.size s ∧ Below w.heap.size w wr

theorem up_more {n i : Int} (h : i ≤ n) (hi : i < 1048576) : i + 1 ≤ up n := by unfold up; split <;> omega

theorem endsO_out (o : Out) (l : List Bool) : (endsO o l).out = o.out := by
  induction l generalizing o with
  | nil => rfl
  | cons g l ih =>
    have := ih (endO o g)
    unfold endsO at this ⊢
    rw [List.foldl_cons, this]
    unfold endO
    cases g <;> rfl

theorem ripe_row {o : Out} {s : OSet} (h : o.out = false) (hr : s.row ≤ o.row) : ripeO o s = true := by unfold ripeO; simp [h, hr]

set_option maxRecDepth 100000 in
set_option maxHeartbeats 4000000 in
theorem row_ok (s : OSet) (a : Option Addr) (l : List Bool) (cap : Nat) (t : Int) (w : World) (hl : BoolsAt w a l) (hm : l.length ≤ maxLen) (hs : SetsP s) (ht : TickP t) (h : l.length ≤ 10000) : Calls Try.prog 7 #[.agg #[.int .i64 s.row, .int .i64 s.mille, .int .i64 s.least, .int .i64 s.base, .int .i64 s.most, .int .i64 s.percent, .int .i64 s.panic], .slice a l.length cap, .int .i64 t] w (Gives (.bool true) w) := by
  have HS := Lib.hid hs
  have HT := Lib.hid ht
  have HL := Lib.hid hl
  have HM := Lib.hid hm
  have r0 := hs.row0
  have r1 := hs.row1
  unfold maxLen at hm
  clear hs hl ht
  have HP : Hid (OutP (endsO Out.zero l) ∧ (endsO Out.zero l).out = false) := ⟨endsO_in zero_in l, endsO_out _ _⟩
  obtain ⟨o, ho⟩ : ∃ o, endsO Out.zero l = o := ⟨_, rfl⟩
  have HO := Lib.hid ho
  rw [ho] at HP
  clear ho
  go_enter Try.func7, Try.ntmps7
  go_wp2_with (fail)
  refine (alive_any _).mono ?_
  rintro e1 w1 ⟨rfl, hb⟩
  have HX1 := Lib.hid ((SetBox.new w w.heap.size rfl s).kept hb)
  have HB1 := Lib.hid (below_step (below_alloc (Below.refl w.heap.size w) _) hb)
  clear hb
  obtain ⟨⟨s0, s1, s2, s3, s4, s5, s6⟩, _⟩ := HX1.out.cell
  go_wp2_with (fail)
  refine (rec_zero_ok s t HS.out HT.out _ _ _ _ (HL.out.below HB1.out (Nat.le_refl _)) HM.out o HO.out).mono ?_
  rintro e1 w2 ⟨rfl, hb⟩
  have HB2 := Lib.hid (below_step HB1.out hb)
  have HX2 := Lib.hid (HX1.out.kept hb)
  clear hb s0 s1 s2 s3 s4 s5 s6
  go_wp2_with (go_at_call 11; refine (num_any _ _).mono ?_; rintro e1 w9 ⟨rfl, rfl⟩)
  go_loopw [8, 9] (fun e i wr => RowRel s w w2.heap.size wr e i) (fun _ i _ => (s.row - intOf i).toNat)
  case atStart => exact ⟨0, o, by omega, rfl, rfl, HP.out.1, HP.out.2, HP.out.1.row0, OutBox.new w2 _ rfl o, HX2.out.alloc _, below_alloc HB2.out _⟩
  case round =>
    obtain ⟨i, o1, hi, rfl, rfl, hP1, hout, hrow, hO, hX, hB⟩ := hrel
    have HO1 := Lib.hid hO
    have HXr := Lib.hid hX
    have HBr := Lib.hid hB
    have HP1 := Lib.hid hP1
    have HOut := Lib.hid hout
    have HRow := Lib.hid hrow
    obtain ⟨⟨d0, d1, d2, d3, d4, d5, d6⟩, _⟩ := hO.cell
    obtain ⟨⟨s0, s1, s2, s3, s4, s5, s6⟩, _⟩ := hX.cell
    have y := hX.lt
    have z := hO.lt
    have yz := HX2.out.lt
    clear hO hX hB hP1 hout hrow
    by_cases hlt : (i : Int) < s.row
    · go_wp2_with (fail)
      refine (rec_one o1 s t false _ _ _ (by simp) (chk_ok HS.out HT.out HP1.out)).mono ?_
      have H2 : Hid (OutP (endO o1 false) ∧ (endO o1 false).out = false ∧ (i : Int) + 1 ≤ (endO o1 false).row) := ⟨endO_in HP1.out _, HOut.out, up_more HRow.out (by omega)⟩
      generalize endO o1 false = o2 at *
      rintro e1 w3 ⟨rfl, hb⟩
      have HO3 := Lib.hid ((HO1.out.alloc _).kept hb)
      have HX3 := Lib.hid ((HXr.out.alloc _).kept hb)
      have HB3 := Lib.hid (below_step (below_alloc HBr.out _) hb)
      clear hb s0 s1 s2 s3 s4 s5 s6 d0 d1 d2 d3 d4 d5 d6 y z
      obtain ⟨⟨d0, d1, d2, d3, d4, d5, d6⟩, hf⟩ := HO3.out.cell
      have f0 := hf 0
      have f1 := hf 1
      have f2 := hf 2
      have f3 := hf 3
      have f4 := hf 4
      have f5 := hf 5
      have f6 := hf 6
      clear hf
      go_wp2
      go_roundw
      case rel => exact ⟨i + 1, o2, by omega, by go_num, rfl, H2.out.1, H2.out.2.1, H2.out.2.2, HO3.out.whole _ _ _ _ _ _ _, ((((((HX3.out.setFar _ (by omega)).setFar _ (by omega)).setFar _ (by omega)).setFar _ (by omega)).setFar _ (by omega)).setFar _ (by omega)).setFar _ (by omega), whole_below HB3.out (by omega) _ _ _ _ _ _ _⟩
      case measure => simp [intOf]; omega
    · go_wp2_with (fail)
      refine (ripe_ok o1 s t _ (chk_ok HS.out HT.out HP1.out)).mono ?_
      rw [ripe_row HOut.out (by have := HRow.out; omega)]
      rintro e1 w3 ⟨rfl, hb⟩
      have HO3 := Lib.hid (HO1.out.kept hb)
      have HX3 := Lib.hid (HXr.out.kept hb)
      have HB3 := Lib.hid (below_step HBr.out hb)
      clear hb s0 s1 s2 s3 s4 s5 s6 d0 d1 d2 d3 d4 d5 d6 y z
      obtain ⟨⟨s0, s1, s2, s3, s4, s5, s6⟩, _⟩ := HX3.out.cell
      obtain ⟨⟨d0, d1, d2, d3, d4, d5, d6⟩, _⟩ := HO3.out.cell
      have y := HX3.out.lt
      have z := HO3.out.lt
      go_wp2_with (fail)
      refine (rec_one o1 s t true _ _ _ (by simp) (chk_ok HS.out HT.out HP1.out)).mono ?_
      have H2 : Hid ((endO o1 true).row = 0) := rfl
      generalize endO o1 true = o2 at *
      obtain ⟨q0, q1, q2, q3, q4, q5, q6⟩ := o2
      have e0 : q0 = 0 := H2.out
      subst e0
      rintro e1 w4 ⟨rfl, hb⟩
      have HB4 := Lib.hid (below_step (below_alloc HB3.out _) hb)
      clear hb s0 s1 s2 s3 s4 s5 s6 d0 d1 d2 d3 d4 d5 d6 y z
      go_wp2_with (go_at_call 11; refine (num_any _ _).mono ?_; rintro e1 w9 ⟨rfl, rfl⟩)
      go_ret
      exact ⟨rfl, by repeat (first | exact HB4.out | apply below_alloc)⟩

theorem row_walk (s : OSet) (a : Option Addr) (l : List Bool) (cap : Nat) (t : Int) (w : World) (hl : BoolsAt w a l) (hm : l.length ≤ maxLen) : Calls Try.prog 7 #[.agg #[.int .i64 s.row, .int .i64 s.mille, .int .i64 s.least, .int .i64 s.base, .int .i64 s.most, .int .i64 s.percent, .int .i64 s.panic], .slice a l.length cap, .int .i64 t] w (Gives (.bool true) w) := by
  by_cases hs : SetsP s ∧ TickP t
  · by_cases h : l.length ≤ 10000
    · exact row_ok s a l cap t w hl hm hs.1 hs.2 h
    · exact row_long s a l cap t w hl hm hs.1 hs.2 (by omega)
  · exact row_no s a l cap t w hs
end Go.Proofs.Ytnhkfhjiolpimaa
