/- Whether some act is none of the three: slices.ContainsFunc over bucket's own test. Condition: the slice reads as the list. -/
import Derived.Test.YtaaebnfagbiaiaaOps
import Derived.LoopTactic
import Derived.Test.YtaaebnfagbiaiaaReads
namespace Go.Proofs.Ytaaebnfagbiaiaa
open Go.RowKit

/-- Is it none of the three acts? -/
def NoAct (n : Int) : Prop := n < 1 ∨ 3 < n
instance (n : Int) : Decidable (NoAct n) := by unfold NoAct; infer_instance

set_option maxHeartbeats 1000000 in
theorem test_yes (n : Int) (h : NoAct n) (w : World) : Calls Try.prog 24 #[.int .i64 n] w fun e w' => e = .returned (.bool true) ∧ w = w' := by
  unfold NoAct at h
  by_cases h1 : n < 1
  all_goals
    go_enter Try.func24, Try.ntmps24
    go_wp2
    go_ret
    exact ⟨ret_bool (by simp <;> omega), rfl⟩

set_option maxHeartbeats 1000000 in
theorem test_no (n : Int) (h : ¬ NoAct n) (w : World) : Calls Try.prog 24 #[.int .i64 n] w fun e w' => e = .returned (.bool false) ∧ w = w' := by
  unfold NoAct at h
  have h1 : 1 ≤ n := by omega
  have h2 : n ≤ 3 := by omega
  clear h
  go_enter Try.func24, Try.ntmps24
  go_wp2
  go_ret
  exact ⟨ret_bool (by simp <;> omega), rfl⟩

/-- Where it stands, or -1. -/
def Found (l : List Int) (w : World) (e : Ending) (w' : World) : Prop := ∃ r : Int, e = .returned (.int .i64 r) ∧ (0 ≤ r ↔ ∃ x, x ∈ l ∧ NoAct x) ∧ w = w'

theorem none_of {l : List Int} (h : ∀ j, j < l.length → ¬ NoAct (l.getD j 0)) : ¬ ∃ x, x ∈ l ∧ NoAct x := by
  rintro ⟨x, hx, hn⟩
  obtain ⟨j, hj, rfl⟩ := List.getElem_of_mem hx
  have := h j hj
  simp [List.getD, hj] at this
  exact this hn

theorem some_of {l : List Int} {j : Nat} (hj : j < l.length) (h : NoAct (l.getD j 0)) : ∃ x, x ∈ l ∧ NoAct x :=
  ⟨l.getD j 0, by simp [List.getD, hj], h⟩

set_option maxHeartbeats 2000000 in
theorem find_any (a : Option Addr) (l : List Int) (cap : Nat) (w : World) (hl : IntsAt w a l) (hm : l.length ≤ maxLen) :
    Calls Try.prog 31 #[.slice a l.length cap, .func (.func 24) #[] #[]] w (Found l w) := by
  unfold maxLen at hm
  rcases hl with rfl | ⟨b, off, rfl, hbw, hcell⟩
  · go_enter Try.func31, Try.ntmps31
    go_wp2
    go_loop [8] (fun i => i = .int .i64 0) (fun _ => 0)
    case atStart => rfl
    case round =>
      subst hrel
      go_wp2
      go_ret
      exact ⟨-1, rfl, by simp, rfl⟩
  · have HC := Lib.hid hcell
    clear hcell
    go_enter Try.func31, Try.ntmps31
    go_wp2
    go_loop [8] (fun i => ∃ k : Nat, k ≤ l.length ∧ i = .int .i64 k ∧ Hid (∀ j, j < k → ¬ NoAct (l.getD j 0))) (fun i => l.length - (intOf i).toNat)
    case atStart => exact ⟨0, Nat.zero_le _, rfl, fun j hj => absurd hj (Nat.not_lt_zero _)⟩
    case round =>
      obtain ⟨k, hk, rfl, hn⟩ := hrel
      by_cases hlt : k < l.length
      · have hcell := HC.out k hlt
        generalize hg : l.getD k 0 = x at hcell
        have HG := Lib.hid hg
        clear hg
        by_cases hx : NoAct x
        · have HX := Lib.hid hx
          clear hx
          go_wp2_with (go_at_call 24; refine (test_yes _ HX.out _).mono ?_; rintro e w1 ⟨rfl, rfl⟩)
          go_ret
          exact ⟨k, rfl, ⟨fun _ => some_of hlt (by rw [HG.out]; exact HX.out), fun _ => by omega⟩, rfl⟩
        · have HX := Lib.hid hx
          clear hx
          go_wp2_with (go_at_call 24; refine (test_no _ HX.out _).mono ?_; rintro e w1 ⟨rfl, rfl⟩)
          go_round
          case rel => exact ⟨k + 1, by omega, by go_num, fun j hj => by
            rcases Nat.lt_or_ge j k with h | h
            · exact hn.out j h
            · obtain rfl : j = k := by omega
              rw [HG.out]; exact HX.out⟩
          case measure => simp [intOf]; omega
      · have hn' : ∀ j, j < l.length → ¬ NoAct (l.getD j 0) := fun j hj => hn.out j (by omega)
        have HN := Lib.hid hn'
        clear hn'
        go_wp2
        go_ret
        exact ⟨-1, rfl, ⟨fun h => absurd h (by omega), fun h => absurd h (none_of HN.out)⟩, rfl⟩

set_option maxHeartbeats 1000000 in
theorem contains_any (a : Option Addr) (l : List Int) (cap : Nat) (w : World) (hl : IntsAt w a l) (hm : l.length ≤ maxLen) (b : Bool) (hb : b = true ↔ ∃ x, x ∈ l ∧ NoAct x) :
    Calls Try.prog 23 #[.slice a l.length cap, .func (.func 24) #[] #[]] w fun e w' => e = .returned (.bool b) ∧ w = w' := by
  have HB := Lib.hid hb
  have HL := Lib.hid hl
  have HM := Lib.hid hm
  clear hb hl hm
  go_enter Try.func23, Try.ntmps23
  go_wp2_with (go_at_call 31; refine (find_any _ _ _ _ HL.out HM.out).mono ?_; rintro e w1 ⟨r, rfl, hr, rfl⟩; have HR := Lib.hid hr; clear hr)
  go_ret
  exact ⟨ret_bool (by rw [Bool.eq_iff_iff, HB.out, ← HR.out]; simp), rfl⟩
end Go.Proofs.Ytaaebnfagbiaiaa
