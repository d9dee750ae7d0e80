/- What outlier's Record hands back. Condition: the slice reads as the list. -/
import Derived.Test.YtnhkfhjiolpimaaCalls
import Derived.LoopTactic
namespace Go.Proofs.Ytnhkfhjiolpimaa
open Go.RowKit

set_option maxHeartbeats 1000000 in
theorem record_bad (o : Out) (s : OSet) (t x : Int) (a : Option Addr) (l : List Bool) (cap : Nat) (w : World) (hx : Chk o s t x) (h : x = 4 ∨ x = 9) : Calls Try.prog 17 #[.agg #[.int .i64 o.row, .int .i64 o.good, .int .i64 o.bad, .int .i64 o.times, .int .i64 o.since, .int .i64 o.till, .bool o.out], .agg #[.int .i64 s.row, .int .i64 s.mille, .int .i64 s.least, .int .i64 s.base, .int .i64 s.most, .int .i64 s.percent, .int .i64 s.panic], .int .i64 t, .slice a l.length cap] w (Gives (.tuple #[.agg #[.int .i64 0, .int .i64 0, .int .i64 0, .int .i64 0, .int .i64 0, .int .i64 0, .bool false], .int .i64 x]) w) := by
  have HX := Lib.hid hx
  clear hx
  rcases h with rfl | rfl
  all_goals
    go_enter Try.func17, Try.ntmps17
    go_wp2_with (fail)
    refine (ask_bad _ _ _ _ _ HX.out (by simp)).mono ?_
    rintro e w1 ⟨b, rfl, hb, hlt, hK⟩
    have HK := Lib.hid hK
    have hR := (zero_new _ (w.heap.size + 1 + 1) (by simp)).kept hb
    obtain ⟨⟨r0, r1, r2, r3, r4, r5, r6⟩, hg⟩ := hR.cell
    have HR := Lib.hid hR
    have g0 := hg 0
    have g1 := hg 1
    have g2 := hg 2
    have g3 := hg 3
    have g4 := hg 4
    have g5 := hg 5
    have g6 := hg 6
    have hz := hlt
    simp at hz
    have z : w.heap.size + 1 + 1 < b := by omega
    have HZ := Lib.hid z
    have HB := Lib.hid (below_step (below_alloc (below_alloc (below_alloc (Below.refl w.heap.size w) _) _) _) hb)
    clear hb hlt hz hK hg hR
    go_wp2
    refine bodyPost_ret (results_out (o := Out.zero) Try.results17 rfl rfl ?_) rfl ⟨rfl, ?_⟩
    · exact OutBox.whole HR.out _ _ _ _ _ _ _
    · exact whole_below HB.out (by omega) _ _ _ _ _ _ _

/-- What holds at the head of a round: i ends are counted. -/
def Rec (o : Out) (s : OSet) (t : Int) (l : List Bool) (w : World) (b r : Nat) (wr : World) (vi : Value) : Prop :=
  ∃ i : Nat, i ≤ l.length ∧ vi = .int .i64 i ∧ Known wr b (endsO o (l.take i)) s t ∧ OutBox wr r Out.zero ∧ Below w.heap.size w wr

set_option maxHeartbeats 2000000 in
theorem record_ok (o : Out) (s : OSet) (t : Int) (a : Option Addr) (l : List Bool) (cap : Nat) (w : World) (hl : BoolsAt w a l) (hm : l.length ≤ maxLen) (hx : Chk o s t 0) : Calls Try.prog 17 #[.agg #[.int .i64 o.row, .int .i64 o.good, .int .i64 o.bad, .int .i64 o.times, .int .i64 o.since, .int .i64 o.till, .bool o.out], .agg #[.int .i64 s.row, .int .i64 s.mille, .int .i64 s.least, .int .i64 s.base, .int .i64 s.most, .int .i64 s.percent, .int .i64 s.panic], .int .i64 t, .slice a l.length cap] w (Gives (.tuple #[.agg #[.int .i64 (endsO o l).row, .int .i64 (endsO o l).good, .int .i64 (endsO o l).bad, .int .i64 (endsO o l).times, .int .i64 (endsO o l).since, .int .i64 (endsO o l).till, .bool (endsO o l).out], .int .i64 0]) w) := by
  unfold maxLen at hm
  have HX := Lib.hid hx
  have HL := Lib.hid hl
  clear hx hl
  go_enter Try.func17, Try.ntmps17
  go_wp2_with (fail)
  refine (ask_ok _ _ _ _ HX.out).mono ?_
  rintro e w1 ⟨b, rfl, hb, hlt, hK⟩
  have HK := Lib.hid hK
  have hR := (zero_new _ (w.heap.size + 1 + 1) (by simp)).kept hb
  obtain ⟨⟨r0, r1, r2, r3, r4, r5, r6⟩, hg⟩ := hR.cell
  have HR := Lib.hid hR
  have g0 := hg 0
  have g1 := hg 1
  have g2 := hg 2
  have g3 := hg 3
  have g4 := hg 4
  have g5 := hg 5
  have g6 := hg 6
  have hz := hlt
  simp at hz
  have z : w.heap.size + 1 + 1 < b := by omega
  have HZ := Lib.hid z
  have HB := Lib.hid (below_step (below_alloc (below_alloc (below_alloc (Below.refl w.heap.size w) _) _) _) hb)
  clear hb hlt hz hK hg hR
  go_wp2
  clear r0 r1 r2 r3 r4 r5 r6 g0 g1 g2 g3 g4 g5 g6
  go_loopw [27] (fun i wr => Rec o s t l w b (w.heap.size + 1 + 1) wr i) (fun i _ => l.length - (intOf i).toNat)
  case atStart => exact ⟨0, Nat.zero_le _, rfl, HK.out, HR.out, HB.out⟩
  case round =>
    obtain ⟨i, hi, rfl, hK, hR, hB⟩ := hrel
    have HK1 := Lib.hid hK
    have HR1 := Lib.hid hR
    have HB1 := Lib.hid hB
    clear hK hR hB
    by_cases hlt : i < l.length
    · obtain ⟨ba, off, rfl, hbw, hcell⟩ := (HL.out.below HB1.out (Nat.le_refl _)).at hlt
      generalize hg : l.getD i false = g at hcell
      have HG := Lib.hid hg
      clear hg hbw
      go_wp2_with (fail)
      refine (end_any _ _ _ _ _ _ HK1.out (endsO_in (chk_in HX.out).2.2 _)).mono ?_
      rintro e w2 ⟨rfl, hK2, hb2⟩
      have hR2 := HR1.out.below hb2 HZ.out
      have hB2 := below_at HB1.out hb2 (by have := HZ.out; omega)
      have H2 : Hid (Known w2 b (endO (endsO o (l.take i)) g) s t ∧ OutBox w2 (w.heap.size + 1 + 1) Out.zero ∧ Below w.heap.size w w2) := ⟨hK2, hR2, hB2⟩
      clear hK2 hb2 hR2 hB2
      go_wp2
      go_roundw
      case rel => exact ⟨i + 1, by omega, by go_num, by rw [endsO_take o l i hlt, HG.out]; exact H2.out.1, H2.out.2.1, H2.out.2.2⟩
      case measure => simp [intOf]; omega
    · obtain rfl : i = l.length := by omega
      have hK := HK1.out
      rw [List.take_length] at hK
      generalize endsO o l = o' at *
      obtain ⟨⟨d0, d1, d2, d3, d4, d5, d6, _⟩, _⟩ := hK.cell
      obtain ⟨⟨r0, r1, r2, r3, r4, r5, r6⟩, hg⟩ := HR1.out.cell
      have g0 := hg 0
      have g1 := hg 1
      have g2 := hg 2
      have g3 := hg 3
      have g4 := hg 4
      have g5 := hg 5
      have g6 := hg 6
      clear hg hK
      go_wp2
      refine bodyPost_ret (results_out Try.results17 rfl rfl ?_) rfl ⟨rfl, ?_⟩
      · exact OutBox.whole HR1.out _ _ _ _ _ _ _
      · exact whole_below HB1.out (by omega) _ _ _ _ _ _ _
end Go.Proofs.Ytnhkfhjiolpimaa
