/- What the document's True hands back, by what its told says. Conditions: told's contract. -/
import Derived.Test.YtoingfnpffaopaaOut5
import Derived.Deep.DeepCutAuto
namespace Go.Proofs.Ytoingfnpffaopaa
open Go.RowKit

theorem tru_told {l : List Rw} {i : Nat} (h5 : (l.getD i Rw.zero).kind = 5) (h1 : (l.getD i Rw.zero).n = 1) : truP l i = !toldP l i := by
  rw [told_iff]
  unfold truP
  rw [decide_eq_true (And.intro h5 h1), Bool.true_and]
theorem tru_off {l : List Rw} {i : Nat} (h : ¬ ((l.getD i Rw.zero).kind = 5 ∧ (l.getD i Rw.zero).n = 1)) : truP l i = false := by
  unfold truP
  rw [decide_eq_false h, Bool.false_and]

set_option maxHeartbeats 16000000 in
set_option maxRecDepth 100000 in
theorem rtrue_gen (a : Option Addr) (l : List Rw) (cap : Nat) (w : World) (hm : l.length ≤ maxLen) (hr : RowsAt w a l)
    (ht : ∀ (i : Nat) (w1 : World), i < l.length → RowsAt w1 a l → Calls Try.prog 40 #[.slice a l.length cap, .int .i64 i] w1 (Gives (.bool (toldP l i)) w1)) :
    Calls Try.prog 22 #[.slice a l.length cap] w (Gives (.int .i64 (idx (truP l) l.length)) w) := by
  unfold maxLen at hm
  have HR := Lib.hid hr
  have HT := Lib.hid ht
  clear hr ht
  go_enter Try.func22, Try.ntmps22
  go_wp2
  go_loopw [3] (fun vi wr => RefRel (truP l) l.length w vi wr) (fun i _ => l.length - (intOf i).toNat)
  case atStart => exact ⟨0, Nat.zero_le _, rfl, Below.refl _ _, fun j hj => absurd hj (Nat.not_lt_zero _)⟩
  case round =>
    obtain ⟨i, hi, rfl, hb, hn⟩ := hrel
    have HB := Lib.hid hb
    have HN := Lib.hid hn
    clear hb hn
    by_cases hlt : i < l.length
    · have HRB := Lib.hid (HR.out.below HB.out (Nat.le_refl _))
      obtain ⟨b, off, hab, hbw, hA⟩ := HRB.out.at hlt
      have HC := Lib.hid (HT.out i wr hlt HRB.out)
      have i0 : (i : Int) < (l.length : Int) := by omega
      obtain ⟨R, hR⟩ : ∃ R, l.getD i Rw.zero = R := ⟨_, rfl⟩
      rw [hR] at hA
      have HRR := Lib.hid hR
      obtain ⟨q0, q1, q2, q3, q4, q5, q6, q7, q8, q9, q10, q11, q12, q13, q14, q15⟩ := hA
      clear hR hbw
      cases hab
      by_cases h5 : R.kind = 5
      · by_cases h1 : R.n = 1
        · have d5 : decide (R.kind = 5) = true := decide_eq_true h5
          have e5 : (R.kind == 5) = true := d5
          have d1 : decide (R.n = 1) = true := decide_eq_true h1
          have e1 : (R.n == 1) = true := d1
          have HV := Lib.hid (tru_told (l := l) (i := i) (by rw [HRR.out]; exact h5) (by rw [HRR.out]; exact h1))
          clear h5 h1
          go_wp2_with (fail)
          refine HC.out.mono ?_
          rintro e w2 ⟨rfl, hb2⟩
          have HB2 := Lib.hid (below_step HB.out hb2)
          clear hb2 q0 q1 q2 q3 q4 q5 q6 q7 q8 q9 q10 q11 q12 q13 q14 q15
          cases hv : toldP l i with
          | true =>
            have HVV : Hid (truP l i = false) := Lib.hid (by rw [HV.out, hv]; rfl)
            clear hv
            go_wp2
            go_roundw
            case rel => exact ⟨i + 1, by omega, by go_num, HB2.out, fun j hj => by
              rcases Nat.lt_or_ge j i with h | h
              · exact HN.out j h
              · obtain rfl : j = i := by omega
                exact HVV.out⟩
            case measure => simp [intOf]; omega
          | false =>
            have HVV : Hid (truP l i = true) := Lib.hid (by rw [HV.out, hv]; rfl)
            clear hv
            go_wp2
            go_ret
            exact ⟨ret_int (idx_some hlt HVV.out HN.out).symm, HB2.out⟩
        · have d5 : decide (R.kind = 5) = true := decide_eq_true h5
          have e5 : (R.kind == 5) = true := d5
          have d1 : decide (R.n = 1) = false := decide_eq_false h1
          have e1 : (R.n == 1) = false := d1
          have HVV := Lib.hid (tru_off (l := l) (i := i) (by rw [HRR.out]; exact fun h => h1 h.2))
          clear h5 h1
          go_wp2
          go_roundw
          case rel => exact ⟨i + 1, by omega, by go_num, HB.out, fun j hj => by
            rcases Nat.lt_or_ge j i with h | h
            · exact HN.out j h
            · obtain rfl : j = i := by omega
              exact HVV.out⟩
          case measure => simp [intOf]; omega
      · have d5 : decide (R.kind = 5) = false := decide_eq_false h5
        have e5 : (R.kind == 5) = false := d5
        have HVV := Lib.hid (tru_off (l := l) (i := i) (by rw [HRR.out]; exact fun h => h5 h.1))
        clear h5
        go_wp2
        go_roundw
        case rel => exact ⟨i + 1, by omega, by go_num, HB.out, fun j hj => by
          rcases Nat.lt_or_ge j i with h | h
          · exact HN.out j h
          · obtain rfl : j = i := by omega
            exact HVV.out⟩
        case measure => simp [intOf]; omega
    · obtain rfl : i = l.length := by omega
      go_wp2
      go_ret
      exact ⟨ret_int (idx_none HN.out).symm, HB.out⟩
end Go.Proofs.Ytoingfnpffaopaa
