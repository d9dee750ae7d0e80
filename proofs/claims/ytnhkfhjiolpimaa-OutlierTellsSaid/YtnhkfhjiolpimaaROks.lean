/- What the document's Ripe and Record hand back where all may be. Condition: a slice reads as its list. -/
import Derived.Test.YtnhkfhjiolpimaaRCalls
namespace Go.Proofs.Ytnhkfhjiolpimaa
open Go.RowKit

set_option maxHeartbeats 2000000 in
theorem rripe_ok (o : Out) (s : OSet) (t : Int) (w : World) (hx : Chk o s t 0) : Calls Try.prog 19 #[.agg #[.int .i64 o.row, .int .i64 o.good, .int .i64 o.bad, .int .i64 o.times, .int .i64 o.since, .int .i64 o.till, .bool o.out], .agg #[.int .i64 s.row, .int .i64 s.mille, .int .i64 s.least, .int .i64 s.base, .int .i64 s.most, .int .i64 s.percent, .int .i64 s.panic], .int .i64 t] w (Gives (.tuple #[.bool (ripeO o s), .int .i64 0]) w) := by
  have HX := Lib.hid hx
  have g0 := (chk_in hx).2.2.good0
  have g1 := (chk_in hx).2.2.good1
  have b0 := (chk_in hx).2.2.bad0
  have b1 := (chk_in hx).2.2.bad1
  have m0 := (chk_in hx).1.mille0
  have m1 := (chk_in hx).1.mille1
  clear hx
  go_enter Try.func19, Try.ntmps19
  go_wp2_with (fail)
  refine (rcheck_any _ _ _ _ _ HX.out).mono ?_
  rintro e w1 ⟨rfl, hb⟩
  have hO := ((OutBox.new w w.heap.size rfl o).alloc _).kept hb
  obtain ⟨⟨d0, d1, d2, d3, d4, d5, d6⟩, _⟩ := hO.cell
  have HO := Lib.hid hO
  clear hO
  have hS := (SetBox.new (w.alloc _) (w.heap.size + 1) (by simp) s).kept hb
  obtain ⟨⟨s0, s1, s2, s3, s4, s5, s6⟩, _⟩ := hS.cell
  clear hS
  have HB := Lib.hid (below_step (below_alloc (below_alloc (Below.refl w.heap.size w) _) _) hb)
  clear hb
  clear HX HO
  obtain ⟨row, good, bad, times, since, till, out⟩ := o
  simp only at d0 d1 d2 d3 d4 d5 d6 g0 g1 b0 b1
  have p0 : 0 ≤ s.mille * (good + bad) := Int.mul_nonneg (by omega) (by omega)
  have p1 : s.mille * (good + bad) ≤ 1000 * 2097152 := Int.mul_le_mul m1 (by omega) (by omega) (by omega)
  cases out with
  | true =>
    by_cases h1 : s.least ≤ good + bad
    · have e1 : decide (s.least ≤ good + bad) = true := decide_eq_true h1
      go_wp2
      go_ret2
      exact ⟨by simp only [ripeO]; simp [*], HB.out⟩
    · have e1 : decide (s.least ≤ good + bad) = false := decide_eq_false h1
      go_wp2
      go_ret2
      exact ⟨by simp only [ripeO]; simp [*], HB.out⟩
  | false =>
    by_cases h2 : s.row ≤ row
    · by_cases h1 : s.least ≤ good + bad
      · have e2 : decide (s.row ≤ row) = true := decide_eq_true h2
        have e1 : decide (s.least ≤ good + bad) = true := decide_eq_true h1
        go_wp2
        go_ret2
        exact ⟨by simp only [ripeO]; simp [*], HB.out⟩
      · have e2 : decide (s.row ≤ row) = true := decide_eq_true h2
        have e1 : decide (s.least ≤ good + bad) = false := decide_eq_false h1
        go_wp2
        go_ret2
        exact ⟨by simp only [ripeO]; simp [*], HB.out⟩
    · by_cases h1 : s.least ≤ good + bad
      · have e2 : decide (s.row ≤ row) = false := decide_eq_false h2
        have e1 : decide (s.least ≤ good + bad) = true := decide_eq_true h1
        go_wp2
        go_ret2
        exact ⟨by simp only [ripeO]; simp [*], HB.out⟩
      · have e2 : decide (s.row ≤ row) = false := decide_eq_false h2
        have e1 : decide (s.least ≤ good + bad) = false := decide_eq_false h1
        go_wp2
        go_ret2
        exact ⟨by simp only [ripeO]; simp [*], HB.out⟩

/-- What holds at the head of a round of the document's: i ends are counted. -/
def RRec (o : Out) (l : List Bool) (w : World) (b r : Nat) (wr : World) (vi : Value) : Prop :=
  ∃ i : Nat, i ≤ l.length ∧ vi = .int .i64 i ∧ OutBox wr b (endsO o (l.take i)) ∧ OutBox wr r Out.zero ∧ Below w.heap.size w wr

theorem OutBox.good_end {w : World} {b : Nat} {o : Out} (h : OutBox w b o) (x : Int) (hx : x = up o.good) : OutBox ((w.setCell ⟨b, 0, none⟩ (.int .i64 0)).setCell ⟨b, 1, none⟩ (.int .i64 x)) b (endO o true) := by
  subst hx
  unfold OutBox at h ⊢
  rw [block_set (block_set h 0 _) 1 _]; rfl

theorem OutBox.bad_end {w : World} {b : Nat} {o : Out} (h : OutBox w b o) (x y : Int) (hx : x = up o.row) (hy : y = up o.bad) : OutBox ((w.setCell ⟨b, 0, none⟩ (.int .i64 x)).setCell ⟨b, 2, none⟩ (.int .i64 y)) b (endO o false) := by
  subst hx hy
  unfold OutBox at h ⊢
  rw [block_set (block_set h 0 _) 2 _]; rfl

set_option maxHeartbeats 4000000 in
theorem rrecord_ok (o : Out) (s : OSet) (t : Int) (a : Option Addr) (l : List Bool) (cap : Nat) (w : World) (hl : BoolsAt w a l) (hm : l.length ≤ maxLen) (hx : Chk o s t 0) : Calls Try.prog 18 #[.agg #[.int .i64 o.row, .int .i64 o.good, .int .i64 o.bad, .int .i64 o.times, .int .i64 o.since, .int .i64 o.till, .bool o.out], .agg #[.int .i64 s.row, .int .i64 s.mille, .int .i64 s.least, .int .i64 s.base, .int .i64 s.most, .int .i64 s.percent, .int .i64 s.panic], .int .i64 t, .slice a l.length cap] w (Gives (.tuple #[.agg #[.int .i64 (endsO o l).row, .int .i64 (endsO o l).good, .int .i64 (endsO o l).bad, .int .i64 (endsO o l).times, .int .i64 (endsO o l).since, .int .i64 (endsO o l).till, .bool (endsO o l).out], .int .i64 0]) w) := by
  unfold maxLen at hm
  have HX := Lib.hid hx
  have HL := Lib.hid hl
  clear hx hl
  go_enter Try.func18, Try.ntmps18
  go_wp2_with (fail)
  refine (rcheck_any _ _ _ _ _ HX.out).mono ?_
  rintro e w1 ⟨rfl, hb⟩
  have hO := (((OutBox.new w w.heap.size rfl o).alloc _).alloc _).kept hb
  obtain ⟨⟨d0, d1, d2, d3, d4, d5, d6⟩, _⟩ := hO.cell
  have HO := Lib.hid hO
  clear hO
  have HR := Lib.hid ((zero_new _ (w.heap.size + 1 + 1) (by simp)).kept hb)
  have HB := Lib.hid (below_step (below_alloc (below_alloc (below_alloc (Below.refl w.heap.size w) _) _) _) hb)
  clear hb
  clear d0 d1 d2 d3 d4 d5 d6
  go_wp2
  go_loopw [11] (fun i wr => RRec o l w w.heap.size (w.heap.size + 1 + 1) wr i) (fun i _ => l.length - (intOf i).toNat)
  case atStart => exact ⟨0, Nat.zero_le _, rfl, HO.out, HR.out, HB.out⟩
  case round =>
    obtain ⟨i, hi, rfl, hK, hR, hB⟩ := hrel
    have HK1 := Lib.hid hK
    have HR1 := Lib.hid hR
    have HB1 := Lib.hid hB
    clear hK hR hB
    have HE : Hid (OutP (endsO o (l.take i))) := endsO_in (chk_in HX.out).2.2 _
    by_cases hlt : i < l.length
    · have HT := Lib.hid (endsO_take o l i hlt)
      generalize endsO o (l.take i) = o' at *
      obtain ⟨⟨d0, d1, d2, d3, d4, d5, d6⟩, hf⟩ := HK1.out.cell
      have f0 := hf 0
      have f1 := hf 1
      have f2 := hf 2
      have x0 := HE.out.good0
      have x1 := HE.out.good1
      have x2 := HE.out.bad0
      have x3 := HE.out.bad1
      have x4 := HE.out.row0
      have x5 := HE.out.row1
      obtain ⟨ba, off, rfl, hbw, hcell⟩ := (HL.out.below HB1.out (Nat.le_refl _)).at hlt
      generalize hg : l.getD i false = g at hcell HT
      clear hg hbw hf
      cases g with
      | true =>
        go_wp2
        all_goals
          go_roundw
          case rel => exact ⟨i + 1, by omega, by go_num, by rw [HT.out]; exact HK1.out.good_end _ (by unfold up; repeat' split <;> omega), (HR1.out.setFar _ (by omega)).setFar _ (by omega), below_set (below_set HB1.out (Nat.le_refl _) _) (Nat.le_refl _) _⟩
          case measure => simp [intOf]; omega
      | false =>
        go_wp2
        all_goals
          go_roundw
          case rel => exact ⟨i + 1, by omega, by go_num, by rw [HT.out]; exact HK1.out.bad_end _ _ (by unfold up; repeat' split <;> omega) (by unfold up; repeat' split <;> omega), (HR1.out.setFar _ (by omega)).setFar _ (by omega), below_set (below_set HB1.out (Nat.le_refl _) _) (Nat.le_refl _) _⟩
          case measure => simp [intOf]; omega
    · obtain rfl : i = l.length := by omega
      have hK := HK1.out
      rw [List.take_length] at hK
      clear HK1 HE
      generalize endsO o l = o' at *
      obtain ⟨⟨d0, d1, d2, d3, d4, d5, d6⟩, _⟩ := hK.cell
      obtain ⟨⟨r0, r1, r2, r3, r4, r5, r6⟩, hg⟩ := HR1.out.cell
      have g0 := hg 0
      have g1 := hg 1
      have g2 := hg 2
      have g3 := hg 3
      have g4 := hg 4
      have g5 := hg 5
      have g6 := hg 6
      clear hg hK
      go_wp2
      refine bodyPost_ret (results_out Try.results18 rfl rfl ?_) rfl ⟨rfl, ?_⟩
      · exact OutBox.whole HR1.out _ _ _ _ _ _ _
      · exact whole_below HB1.out (by omega) _ _ _ _ _ _ _
end Go.Proofs.Ytnhkfhjiolpimaa
