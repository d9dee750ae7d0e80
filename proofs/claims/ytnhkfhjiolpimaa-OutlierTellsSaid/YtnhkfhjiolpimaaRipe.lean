/- What ripe of a known hands back. Condition: a known lies at the block. -/
import Derived.Test.YtnhkfhjiolpimaaEnds
namespace Go.Proofs.Ytnhkfhjiolpimaa
open Go.RowKit

theorem below_quiet {a w : World} (h : Below a.heap.size a w) (n : Nat) : Below a.heap.size a (w.drewN n) := below_drewN h n

set_option maxHeartbeats 4000000 in
theorem ripe_any (b : Nat) (o : Out) (s : OSet) (t : Int) (w : World) (hK : Known w b o s t) (ho : OutP o) (hs : SetsP s) :
    Calls Try.prog 31 #[.pointer (some ⟨b, 0, none⟩)] w (Gives (.bool (ripeO o s)) w) := by
  obtain ⟨⟨d0, d1, d2, d3, d4, d5, d6, d7, d8, d9, _⟩, _⟩ := hK.cell
  obtain ⟨row, good, bad, times, since, till, out⟩ := o
  simp only at d0 d1 d2 d3 d4 d5 d6
  have g0 : 0 ≤ good := ho.good0
  have g1 : good ≤ 1048576 := ho.good1
  have b0 : 0 ≤ bad := ho.bad0
  have b1 : bad ≤ 1048576 := ho.bad1
  have m0 := hs.mille0
  have m1 := hs.mille1
  have p0 : 0 ≤ s.mille * (good + bad) := Int.mul_nonneg (by omega) (by omega)
  have p1 : s.mille * (good + bad) ≤ 1000 * 2097152 := Int.mul_le_mul m1 (by omega) (by omega) (by omega)
  clear hK ho hs
  cases out with
  | true =>
    by_cases h1 : s.least ≤ good + bad
    · have e1 : decide (s.least ≤ good + bad) = true := decide_eq_true h1
      go_enter Try.func31, Try.ntmps31
      go_wp2
      go_quiet (fail)
      go_wp2
      go_quiet (fail)
      go_wp2
      go_quiet (fail)
      go_wp2
      go_ret
      exact ⟨ret_bool (by simp only [ripeO]; simp [*]), below_drewN (below_drewN (below_drewN (Below.refl _ _) _) _) _⟩
    · have e1 : decide (s.least ≤ good + bad) = false := decide_eq_false h1
      go_enter Try.func31, Try.ntmps31
      go_wp2
      go_quiet (fail)
      go_wp2
      go_quiet (fail)
      go_wp2
      go_quiet (fail)
      go_wp2
      go_ret
      exact ⟨ret_bool (by simp only [ripeO]; simp [*]), below_drewN (below_drewN (below_drewN (Below.refl _ _) _) _) _⟩
  | false =>
    by_cases h2 : s.row ≤ row
    · by_cases h1 : s.least ≤ good + bad
      · have e2 : decide (s.row ≤ row) = true := decide_eq_true h2
        have e1 : decide (s.least ≤ good + bad) = true := decide_eq_true h1
        go_enter Try.func31, Try.ntmps31
        go_wp2
        go_quiet (fail)
        go_wp2
        go_quiet (fail)
        go_wp2
        go_quiet (fail)
        go_wp2
        go_ret
        exact ⟨ret_bool (by simp only [ripeO]; simp [*]), below_drewN (below_drewN (below_drewN (Below.refl _ _) _) _) _⟩
      · have e2 : decide (s.row ≤ row) = true := decide_eq_true h2
        have e1 : decide (s.least ≤ good + bad) = false := decide_eq_false h1
        go_enter Try.func31, Try.ntmps31
        go_wp2
        go_quiet (fail)
        go_wp2
        go_quiet (fail)
        go_wp2
        go_quiet (fail)
        go_wp2
        go_ret
        exact ⟨ret_bool (by simp only [ripeO]; simp [*]), below_drewN (below_drewN (below_drewN (Below.refl _ _) _) _) _⟩
    · by_cases h1 : s.least ≤ good + bad
      · have e2 : decide (s.row ≤ row) = false := decide_eq_false h2
        have e1 : decide (s.least ≤ good + bad) = true := decide_eq_true h1
        go_enter Try.func31, Try.ntmps31
        go_wp2
        go_quiet (fail)
        go_wp2
        go_quiet (fail)
        go_wp2
        go_quiet (fail)
        go_wp2
        go_ret
        exact ⟨ret_bool (by simp only [ripeO]; simp [*]), below_drewN (below_drewN (below_drewN (Below.refl _ _) _) _) _⟩
      · have e2 : decide (s.row ≤ row) = false := decide_eq_false h2
        have e1 : decide (s.least ≤ good + bad) = false := decide_eq_false h1
        go_enter Try.func31, Try.ntmps31
        go_wp2
        go_quiet (fail)
        go_wp2
        go_quiet (fail)
        go_wp2
        go_quiet (fail)
        go_wp2
        go_ret
        exact ⟨ret_bool (by simp only [ripeO]; simp [*]), below_drewN (below_drewN (below_drewN (Below.refl _ _) _) _) _⟩
end Go.Proofs.Ytnhkfhjiolpimaa
