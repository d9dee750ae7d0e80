/- What slices.IndexFunc over judge's closures hands back: the first row that the closure answers yes of. Condition: a contract of the closure. -/
import Derived.Test.YtoingfnpffaopaaKeyA
import Derived.Test.YtoingfnpffaopaaRowz
import Derived.LoopTactic
namespace Go.Proofs.Ytoingfnpffaopaa
open Go.RowKit

/-- The first place, and what holds behind some rows. -/
def Finds (Inv : Nat → World → Prop) (p : Nat → Bool) (n : Nat) (e : Ending) (w' : World) : Prop := e = .returned (.int .i64 (idx p n)) ∧ ∃ i, Inv i w'

/-- What holds at the head of a round. -/
def FindRel (Inv : Nat → World → Prop) (p : Nat → Bool) (n : Nat) (wr : World) (vi : Value) : Prop := ∃ i : Nat, i ≤ n ∧ vi = .int .i64 i ∧ Inv i wr ∧ ∀ j, j < i → p j = false

set_option maxHeartbeats 2000000 in
theorem find41 (a : Option Addr) (l : List Rw) (cap : Nat) (b1 b2 b3 : Nat) (w : World) (hm : l.length ≤ maxLen) (Inv : Nat → World → Prop) (p : Nat → Bool) (h0 : Inv 0 w) (hrow : ∀ i W, Inv i W → RowsAt W a l)
    (hstep : ∀ i W, i < l.length → Inv i W → Calls Try.prog 41 #[.agg #[.int .i64 (l.getD i Rw.zero).kind, .int .i64 (l.getD i Rw.zero).step, .int .i64 (l.getD i Rw.zero).client, .int .i64 (l.getD i Rw.zero).call, .int .i64 (l.getD i Rw.zero).backend, .int .i64 (l.getD i Rw.zero).incarnation, .int .i64 (l.getD i Rw.zero).session, .int .i64 (l.getD i Rw.zero).seq, .int .i64 (l.getD i Rw.zero).what, .int .i64 (l.getD i Rw.zero).key, .int .i64 (l.getD i Rw.zero).other, .int .i64 (l.getD i Rw.zero).amount, .int .i64 (l.getD i Rw.zero).code, .int .i64 (l.getD i Rw.zero).place, .int .i64 (l.getD i Rw.zero).value, .int .i64 (l.getD i Rw.zero).n], .pointer (some ⟨b1, 0, none⟩), .pointer (some ⟨b2, 0, none⟩), .pointer (some ⟨b3, 0, none⟩)] W (fun e w' => e = .returned (.bool (p i)) ∧ Inv (i + 1) w')) :
    Calls Try.prog 27 #[.slice a l.length cap, .func (.func 41) #[] #[.pointer (some ⟨b1, 0, none⟩), .pointer (some ⟨b2, 0, none⟩), .pointer (some ⟨b3, 0, none⟩)]] w (Finds Inv p l.length) := by
  unfold maxLen at hm
  have HR := Lib.hid hrow
  have HS := Lib.hid hstep
  have H0 := Lib.hid h0
  clear hrow hstep h0
  go_enter Try.func27, Try.ntmps27
  go_wp2
  go_loopw [8] (fun vi wr => FindRel Inv p l.length wr vi) (fun i _ => l.length - (intOf i).toNat)
  case atStart => exact ⟨0, Nat.zero_le _, rfl, H0.out, fun j hj => absurd hj (Nat.not_lt_zero _)⟩
  case round =>
    obtain ⟨i, hi, rfl, hI, hn⟩ := hrel
    have HI := Lib.hid hI
    have HN := Lib.hid hn
    clear hI hn
    by_cases hlt : i < l.length
    · obtain ⟨ba, off, rfl, hbw, hA⟩ := (HR.out _ _ HI.out).at hlt
      have hc := HS.out i wr hlt HI.out
      generalize l.getD i Rw.zero = r at *
      have HC := Lib.hid hc
      obtain ⟨q0, q1, q2, q3, q4, q5, q6, q7, q8, q9, q10, q11, q12, q13, q14, q15⟩ := hA
      clear hc hbw
      go_wp2_with (fail)
      refine HC.out.mono ?_
      rintro e w1 ⟨rfl, hI1⟩
      have HI1 := Lib.hid hI1
      clear hI1 q0 q1 q2 q3 q4 q5 q6 q7 q8 q9 q10 q11 q12 q13 q14 q15 HC
      cases hp : p i with
      | true =>
        have HP := Lib.hid hp
        clear hp
        go_wp2
        go_ret
        exact ⟨ret_int (idx_some hlt HP.out HN.out).symm, i + 1, HI1.out⟩
      | false =>
        have HP := Lib.hid hp
        clear hp
        go_wp2
        go_roundw
        case rel => exact ⟨i + 1, by omega, by go_num, HI1.out, fun j hj => by
          rcases Nat.lt_or_ge j i with h | h
          · exact HN.out j h
          · obtain rfl : j = i := by omega
            exact HP.out⟩
        case measure => simp [intOf]; omega
    · obtain rfl : i = l.length := by omega
      go_wp2
      go_ret
      exact ⟨ret_int (idx_none HN.out).symm, _, HI.out⟩

set_option maxHeartbeats 2000000 in
theorem find28 (a : Option Addr) (l : List Rw) (cap : Nat) (b1 b2 : Nat) (w : World) (hm : l.length ≤ maxLen) (Inv : Nat → World → Prop) (p : Nat → Bool) (h0 : Inv 0 w) (hrow : ∀ i W, Inv i W → RowsAt W a l)
    (hstep : ∀ i W, i < l.length → Inv i W → Calls Try.prog 28 #[.agg #[.int .i64 (l.getD i Rw.zero).kind, .int .i64 (l.getD i Rw.zero).step, .int .i64 (l.getD i Rw.zero).client, .int .i64 (l.getD i Rw.zero).call, .int .i64 (l.getD i Rw.zero).backend, .int .i64 (l.getD i Rw.zero).incarnation, .int .i64 (l.getD i Rw.zero).session, .int .i64 (l.getD i Rw.zero).seq, .int .i64 (l.getD i Rw.zero).what, .int .i64 (l.getD i Rw.zero).key, .int .i64 (l.getD i Rw.zero).other, .int .i64 (l.getD i Rw.zero).amount, .int .i64 (l.getD i Rw.zero).code, .int .i64 (l.getD i Rw.zero).place, .int .i64 (l.getD i Rw.zero).value, .int .i64 (l.getD i Rw.zero).n], .pointer (some ⟨b1, 0, none⟩), .pointer (some ⟨b2, 0, none⟩)] W (fun e w' => e = .returned (.bool (p i)) ∧ Inv (i + 1) w')) :
    Calls Try.prog 27 #[.slice a l.length cap, .func (.func 28) #[] #[.pointer (some ⟨b1, 0, none⟩), .pointer (some ⟨b2, 0, none⟩)]] w (Finds Inv p l.length) := by
  unfold maxLen at hm
  have HR := Lib.hid hrow
  have HS := Lib.hid hstep
  have H0 := Lib.hid h0
  clear hrow hstep h0
  go_enter Try.func27, Try.ntmps27
  go_wp2
  go_loopw [8] (fun vi wr => FindRel Inv p l.length wr vi) (fun i _ => l.length - (intOf i).toNat)
  case atStart => exact ⟨0, Nat.zero_le _, rfl, H0.out, fun j hj => absurd hj (Nat.not_lt_zero _)⟩
  case round =>
    obtain ⟨i, hi, rfl, hI, hn⟩ := hrel
    have HI := Lib.hid hI
    have HN := Lib.hid hn
    clear hI hn
    by_cases hlt : i < l.length
    · obtain ⟨ba, off, rfl, hbw, hA⟩ := (HR.out _ _ HI.out).at hlt
      have hc := HS.out i wr hlt HI.out
      generalize l.getD i Rw.zero = r at *
      have HC := Lib.hid hc
      obtain ⟨q0, q1, q2, q3, q4, q5, q6, q7, q8, q9, q10, q11, q12, q13, q14, q15⟩ := hA
      clear hc hbw
      go_wp2_with (fail)
      refine HC.out.mono ?_
      rintro e w1 ⟨rfl, hI1⟩
      have HI1 := Lib.hid hI1
      clear hI1 q0 q1 q2 q3 q4 q5 q6 q7 q8 q9 q10 q11 q12 q13 q14 q15 HC
      cases hp : p i with
      | true =>
        have HP := Lib.hid hp
        clear hp
        go_wp2
        go_ret
        exact ⟨ret_int (idx_some hlt HP.out HN.out).symm, i + 1, HI1.out⟩
      | false =>
        have HP := Lib.hid hp
        clear hp
        go_wp2
        go_roundw
        case rel => exact ⟨i + 1, by omega, by go_num, HI1.out, fun j hj => by
          rcases Nat.lt_or_ge j i with h | h
          · exact HN.out j h
          · obtain rfl : j = i := by omega
            exact HP.out⟩
        case measure => simp [intOf]; omega
    · obtain rfl : i = l.length := by omega
      go_wp2
      go_ret
      exact ⟨ret_int (idx_none HN.out).symm, _, HI.out⟩

set_option maxHeartbeats 2000000 in
theorem find30 (a : Option Addr) (l : List Rw) (cap : Nat) (b1 : Nat) (w : World) (hm : l.length ≤ maxLen) (Inv : Nat → World → Prop) (p : Nat → Bool) (h0 : Inv 0 w) (hrow : ∀ i W, Inv i W → RowsAt W a l)
    (hstep : ∀ i W, i < l.length → Inv i W → Calls Try.prog 30 #[.agg #[.int .i64 (l.getD i Rw.zero).kind, .int .i64 (l.getD i Rw.zero).step, .int .i64 (l.getD i Rw.zero).client, .int .i64 (l.getD i Rw.zero).call, .int .i64 (l.getD i Rw.zero).backend, .int .i64 (l.getD i Rw.zero).incarnation, .int .i64 (l.getD i Rw.zero).session, .int .i64 (l.getD i Rw.zero).seq, .int .i64 (l.getD i Rw.zero).what, .int .i64 (l.getD i Rw.zero).key, .int .i64 (l.getD i Rw.zero).other, .int .i64 (l.getD i Rw.zero).amount, .int .i64 (l.getD i Rw.zero).code, .int .i64 (l.getD i Rw.zero).place, .int .i64 (l.getD i Rw.zero).value, .int .i64 (l.getD i Rw.zero).n], .pointer (some ⟨b1, 0, none⟩)] W (fun e w' => e = .returned (.bool (p i)) ∧ Inv (i + 1) w')) :
    Calls Try.prog 27 #[.slice a l.length cap, .func (.func 30) #[] #[.pointer (some ⟨b1, 0, none⟩)]] w (Finds Inv p l.length) := by
  unfold maxLen at hm
  have HR := Lib.hid hrow
  have HS := Lib.hid hstep
  have H0 := Lib.hid h0
  clear hrow hstep h0
  go_enter Try.func27, Try.ntmps27
  go_wp2
  go_loopw [8] (fun vi wr => FindRel Inv p l.length wr vi) (fun i _ => l.length - (intOf i).toNat)
  case atStart => exact ⟨0, Nat.zero_le _, rfl, H0.out, fun j hj => absurd hj (Nat.not_lt_zero _)⟩
  case round =>
    obtain ⟨i, hi, rfl, hI, hn⟩ := hrel
    have HI := Lib.hid hI
    have HN := Lib.hid hn
    clear hI hn
    by_cases hlt : i < l.length
    · obtain ⟨ba, off, rfl, hbw, hA⟩ := (HR.out _ _ HI.out).at hlt
      have hc := HS.out i wr hlt HI.out
      generalize l.getD i Rw.zero = r at *
      have HC := Lib.hid hc
      obtain ⟨q0, q1, q2, q3, q4, q5, q6, q7, q8, q9, q10, q11, q12, q13, q14, q15⟩ := hA
      clear hc hbw
      go_wp2_with (fail)
      refine HC.out.mono ?_
      rintro e w1 ⟨rfl, hI1⟩
      have HI1 := Lib.hid hI1
      clear hI1 q0 q1 q2 q3 q4 q5 q6 q7 q8 q9 q10 q11 q12 q13 q14 q15 HC
      cases hp : p i with
      | true =>
        have HP := Lib.hid hp
        clear hp
        go_wp2
        go_ret
        exact ⟨ret_int (idx_some hlt HP.out HN.out).symm, i + 1, HI1.out⟩
      | false =>
        have HP := Lib.hid hp
        clear hp
        go_wp2
        go_roundw
        case rel => exact ⟨i + 1, by omega, by go_num, HI1.out, fun j hj => by
          rcases Nat.lt_or_ge j i with h | h
          · exact HN.out j h
          · obtain rfl : j = i := by omega
            exact HP.out⟩
        case measure => simp [intOf]; omega
    · obtain rfl : i = l.length := by omega
      go_wp2
      go_ret
      exact ⟨ret_int (idx_none HN.out).symm, _, HI.out⟩

set_option maxHeartbeats 2000000 in
theorem find34 (a : Option Addr) (l : List Rw) (cap : Nat) (b1 : Nat) (w : World) (hm : l.length ≤ maxLen) (Inv : Nat → World → Prop) (p : Nat → Bool) (h0 : Inv 0 w) (hrow : ∀ i W, Inv i W → RowsAt W a l)
    (hstep : ∀ i W, i < l.length → Inv i W → Calls Try.prog 34 #[.agg #[.int .i64 (l.getD i Rw.zero).kind, .int .i64 (l.getD i Rw.zero).step, .int .i64 (l.getD i Rw.zero).client, .int .i64 (l.getD i Rw.zero).call, .int .i64 (l.getD i Rw.zero).backend, .int .i64 (l.getD i Rw.zero).incarnation, .int .i64 (l.getD i Rw.zero).session, .int .i64 (l.getD i Rw.zero).seq, .int .i64 (l.getD i Rw.zero).what, .int .i64 (l.getD i Rw.zero).key, .int .i64 (l.getD i Rw.zero).other, .int .i64 (l.getD i Rw.zero).amount, .int .i64 (l.getD i Rw.zero).code, .int .i64 (l.getD i Rw.zero).place, .int .i64 (l.getD i Rw.zero).value, .int .i64 (l.getD i Rw.zero).n], .pointer (some ⟨b1, 0, none⟩)] W (fun e w' => e = .returned (.bool (p i)) ∧ Inv (i + 1) w')) :
    Calls Try.prog 27 #[.slice a l.length cap, .func (.func 34) #[] #[.pointer (some ⟨b1, 0, none⟩)]] w (Finds Inv p l.length) := by
  unfold maxLen at hm
  have HR := Lib.hid hrow
  have HS := Lib.hid hstep
  have H0 := Lib.hid h0
  clear hrow hstep h0
  go_enter Try.func27, Try.ntmps27
  go_wp2
  go_loopw [8] (fun vi wr => FindRel Inv p l.length wr vi) (fun i _ => l.length - (intOf i).toNat)
  case atStart => exact ⟨0, Nat.zero_le _, rfl, H0.out, fun j hj => absurd hj (Nat.not_lt_zero _)⟩
  case round =>
    obtain ⟨i, hi, rfl, hI, hn⟩ := hrel
    have HI := Lib.hid hI
    have HN := Lib.hid hn
    clear hI hn
    by_cases hlt : i < l.length
    · obtain ⟨ba, off, rfl, hbw, hA⟩ := (HR.out _ _ HI.out).at hlt
      have hc := HS.out i wr hlt HI.out
      generalize l.getD i Rw.zero = r at *
      have HC := Lib.hid hc
      obtain ⟨q0, q1, q2, q3, q4, q5, q6, q7, q8, q9, q10, q11, q12, q13, q14, q15⟩ := hA
      clear hc hbw
      go_wp2_with (fail)
      refine HC.out.mono ?_
      rintro e w1 ⟨rfl, hI1⟩
      have HI1 := Lib.hid hI1
      clear hI1 q0 q1 q2 q3 q4 q5 q6 q7 q8 q9 q10 q11 q12 q13 q14 q15 HC
      cases hp : p i with
      | true =>
        have HP := Lib.hid hp
        clear hp
        go_wp2
        go_ret
        exact ⟨ret_int (idx_some hlt HP.out HN.out).symm, i + 1, HI1.out⟩
      | false =>
        have HP := Lib.hid hp
        clear hp
        go_wp2
        go_roundw
        case rel => exact ⟨i + 1, by omega, by go_num, HI1.out, fun j hj => by
          rcases Nat.lt_or_ge j i with h | h
          · exact HN.out j h
          · obtain rfl : j = i := by omega
            exact HP.out⟩
        case measure => simp [intOf]; omega
    · obtain rfl : i = l.length := by omega
      go_wp2
      go_ret
      exact ⟨ret_int (idx_none HN.out).symm, _, HI.out⟩

set_option maxHeartbeats 2000000 in
theorem find35 (a : Option Addr) (l : List Rw) (cap : Nat) (b1 : Nat) (w : World) (hm : l.length ≤ maxLen) (Inv : Nat → World → Prop) (p : Nat → Bool) (h0 : Inv 0 w) (hrow : ∀ i W, Inv i W → RowsAt W a l)
    (hstep : ∀ i W, i < l.length → Inv i W → Calls Try.prog 35 #[.agg #[.int .i64 (l.getD i Rw.zero).kind, .int .i64 (l.getD i Rw.zero).step, .int .i64 (l.getD i Rw.zero).client, .int .i64 (l.getD i Rw.zero).call, .int .i64 (l.getD i Rw.zero).backend, .int .i64 (l.getD i Rw.zero).incarnation, .int .i64 (l.getD i Rw.zero).session, .int .i64 (l.getD i Rw.zero).seq, .int .i64 (l.getD i Rw.zero).what, .int .i64 (l.getD i Rw.zero).key, .int .i64 (l.getD i Rw.zero).other, .int .i64 (l.getD i Rw.zero).amount, .int .i64 (l.getD i Rw.zero).code, .int .i64 (l.getD i Rw.zero).place, .int .i64 (l.getD i Rw.zero).value, .int .i64 (l.getD i Rw.zero).n], .pointer (some ⟨b1, 0, none⟩)] W (fun e w' => e = .returned (.bool (p i)) ∧ Inv (i + 1) w')) :
    Calls Try.prog 27 #[.slice a l.length cap, .func (.func 35) #[] #[.pointer (some ⟨b1, 0, none⟩)]] w (Finds Inv p l.length) := by
  unfold maxLen at hm
  have HR := Lib.hid hrow
  have HS := Lib.hid hstep
  have H0 := Lib.hid h0
  clear hrow hstep h0
  go_enter Try.func27, Try.ntmps27
  go_wp2
  go_loopw [8] (fun vi wr => FindRel Inv p l.length wr vi) (fun i _ => l.length - (intOf i).toNat)
  case atStart => exact ⟨0, Nat.zero_le _, rfl, H0.out, fun j hj => absurd hj (Nat.not_lt_zero _)⟩
  case round =>
    obtain ⟨i, hi, rfl, hI, hn⟩ := hrel
    have HI := Lib.hid hI
    have HN := Lib.hid hn
    clear hI hn
    by_cases hlt : i < l.length
    · obtain ⟨ba, off, rfl, hbw, hA⟩ := (HR.out _ _ HI.out).at hlt
      have hc := HS.out i wr hlt HI.out
      generalize l.getD i Rw.zero = r at *
      have HC := Lib.hid hc
      obtain ⟨q0, q1, q2, q3, q4, q5, q6, q7, q8, q9, q10, q11, q12, q13, q14, q15⟩ := hA
      clear hc hbw
      go_wp2_with (fail)
      refine HC.out.mono ?_
      rintro e w1 ⟨rfl, hI1⟩
      have HI1 := Lib.hid hI1
      clear hI1 q0 q1 q2 q3 q4 q5 q6 q7 q8 q9 q10 q11 q12 q13 q14 q15 HC
      cases hp : p i with
      | true =>
        have HP := Lib.hid hp
        clear hp
        go_wp2
        go_ret
        exact ⟨ret_int (idx_some hlt HP.out HN.out).symm, i + 1, HI1.out⟩
      | false =>
        have HP := Lib.hid hp
        clear hp
        go_wp2
        go_roundw
        case rel => exact ⟨i + 1, by omega, by go_num, HI1.out, fun j hj => by
          rcases Nat.lt_or_ge j i with h | h
          · exact HN.out j h
          · obtain rfl : j = i := by omega
            exact HP.out⟩
        case measure => simp [intOf]; omega
    · obtain rfl : i = l.length := by omega
      go_wp2
      go_ret
      exact ⟨ret_int (idx_none HN.out).symm, _, HI.out⟩

set_option maxHeartbeats 2000000 in
theorem find37 (a : Option Addr) (l : List Rw) (cap : Nat) (b1 b2 : Nat) (w : World) (hm : l.length ≤ maxLen) (Inv : Nat → World → Prop) (p : Nat → Bool) (h0 : Inv 0 w) (hrow : ∀ i W, Inv i W → RowsAt W a l)
    (hstep : ∀ i W, i < l.length → Inv i W → Calls Try.prog 37 #[.agg #[.int .i64 (l.getD i Rw.zero).kind, .int .i64 (l.getD i Rw.zero).step, .int .i64 (l.getD i Rw.zero).client, .int .i64 (l.getD i Rw.zero).call, .int .i64 (l.getD i Rw.zero).backend, .int .i64 (l.getD i Rw.zero).incarnation, .int .i64 (l.getD i Rw.zero).session, .int .i64 (l.getD i Rw.zero).seq, .int .i64 (l.getD i Rw.zero).what, .int .i64 (l.getD i Rw.zero).key, .int .i64 (l.getD i Rw.zero).other, .int .i64 (l.getD i Rw.zero).amount, .int .i64 (l.getD i Rw.zero).code, .int .i64 (l.getD i Rw.zero).place, .int .i64 (l.getD i Rw.zero).value, .int .i64 (l.getD i Rw.zero).n], .pointer (some ⟨b1, 0, none⟩), .pointer (some ⟨b2, 0, none⟩)] W (fun e w' => e = .returned (.bool (p i)) ∧ Inv (i + 1) w')) :
    Calls Try.prog 27 #[.slice a l.length cap, .func (.func 37) #[] #[.pointer (some ⟨b1, 0, none⟩), .pointer (some ⟨b2, 0, none⟩)]] w (Finds Inv p l.length) := by
  unfold maxLen at hm
  have HR := Lib.hid hrow
  have HS := Lib.hid hstep
  have H0 := Lib.hid h0
  clear hrow hstep h0
  go_enter Try.func27, Try.ntmps27
  go_wp2
  go_loopw [8] (fun vi wr => FindRel Inv p l.length wr vi) (fun i _ => l.length - (intOf i).toNat)
  case atStart => exact ⟨0, Nat.zero_le _, rfl, H0.out, fun j hj => absurd hj (Nat.not_lt_zero _)⟩
  case round =>
    obtain ⟨i, hi, rfl, hI, hn⟩ := hrel
    have HI := Lib.hid hI
    have HN := Lib.hid hn
    clear hI hn
    by_cases hlt : i < l.length
    · obtain ⟨ba, off, rfl, hbw, hA⟩ := (HR.out _ _ HI.out).at hlt
      have hc := HS.out i wr hlt HI.out
      generalize l.getD i Rw.zero = r at *
      have HC := Lib.hid hc
      obtain ⟨q0, q1, q2, q3, q4, q5, q6, q7, q8, q9, q10, q11, q12, q13, q14, q15⟩ := hA
      clear hc hbw
      go_wp2_with (fail)
      refine HC.out.mono ?_
      rintro e w1 ⟨rfl, hI1⟩
      have HI1 := Lib.hid hI1
      clear hI1 q0 q1 q2 q3 q4 q5 q6 q7 q8 q9 q10 q11 q12 q13 q14 q15 HC
      cases hp : p i with
      | true =>
        have HP := Lib.hid hp
        clear hp
        go_wp2
        go_ret
        exact ⟨ret_int (idx_some hlt HP.out HN.out).symm, i + 1, HI1.out⟩
      | false =>
        have HP := Lib.hid hp
        clear hp
        go_wp2
        go_roundw
        case rel => exact ⟨i + 1, by omega, by go_num, HI1.out, fun j hj => by
          rcases Nat.lt_or_ge j i with h | h
          · exact HN.out j h
          · obtain rfl : j = i := by omega
            exact HP.out⟩
        case measure => simp [intOf]; omega
    · obtain rfl : i = l.length := by omega
      go_wp2
      go_ret
      exact ⟨ret_int (idx_none HN.out).symm, _, HI.out⟩
end Go.Proofs.Ytoingfnpffaopaa
