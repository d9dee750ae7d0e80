/- Plain laws of one request for each issue: no budget is passed. No program in sight. -/
import Derived.Test.YtoingfnpffaopaaLoc
import Derived.IntWalk
namespace Go.Proofs.Ytoingfnpffaopaa
open Go.RowKit

/-- The issue, the request of call i of client c. -/
def rIss (c : Int) (i : Nat) : Rw := ⟨1, 0, c, i, 0, 0, 0, 0, 0, 0, 0, 0, 0, 0, 0, 0⟩
def rSnt (c : Int) (i : Nat) : Rw := ⟨2, 0, c, i, 0, 0, 0, 0, 0, 0, 0, 0, 0, 0, 0, 0⟩
/-- One request for each issue. -/
def freeR (cl : List Int) : Nat → List Rw
  | 0 => []
  | i + 1 => freeR cl i ++ [rIss (cl.getD i 0) i, rSnt (cl.getD i 0) i]

theorem free_len (cl : List Int) : ∀ k, (freeR cl k).length = 2 * k
  | 0 => rfl
  | k + 1 => by
    unfold freeR
    rw [List.length_append, free_len cl k]
    simp only [List.length_cons, List.length_nil]
    omega
theorem free_at (cl : List Int) : ∀ k m, m < k → (freeR cl k).getD (2 * m) Rw.zero = rIss (cl.getD m 0) m ∧ (freeR cl k).getD (2 * m + 1) Rw.zero = rSnt (cl.getD m 0) m
  | 0, _, h => absurd h (Nat.not_lt_zero _)
  | k + 1, m, h => by
    have hl := free_len cl k
    unfold freeR
    simp only [List.getD_eq_getElem?_getD]
    by_cases e : m = k
    · subst e
      rw [List.getElem?_append_right (by omega), List.getElem?_append_right (by omega), hl, show 2 * m - 2 * m = 0 by omega, show 2 * m + 1 - 2 * m = 1 by omega]
      exact ⟨rfl, rfl⟩
    · have ih := free_at cl k m (by omega)
      simp only [List.getD_eq_getElem?_getD] at ih
      rw [List.getElem?_append_left (by omega), List.getElem?_append_left (by omega)]
      exact ih

theorem cnt_step (l : List Rw) (K c : Int) (i : Nat) : cnt l K c (i + 1) = if (l.getD i Rw.zero).client = c ∧ (l.getD i Rw.zero).kind = K then wrap64 (cnt l K c i + 1) else cnt l K c i := rfl

/-- As many requests as issues. -/
theorem free_cnt (cl : List Int) (k : Nat) (hk : k ≤ 60) (c : Int) : ∀ m : Nat, m ≤ k → cnt (freeR cl k) 1 c (2 * m) = cnt (freeR cl k) 2 c (2 * m) ∧ cnt (freeR cl k) 11 c (2 * m) = 0 ∧ 0 ≤ cnt (freeR cl k) 1 c (2 * m) ∧ cnt (freeR cl k) 1 c (2 * m) ≤ m
  | 0, _ => ⟨rfl, rfl, Int.le_refl _, Int.le_refl _⟩
  | m + 1, h => by
    obtain ⟨h1, h2, h3, h4⟩ := free_cnt cl k hk c m (by omega)
    obtain ⟨ha, hb⟩ := free_at cl k m (by omega)
    rw [show 2 * (m + 1) = 2 * m + 1 + 1 by omega]
    simp only [cnt_step, ha, hb, rIss, rSnt]
    simp only [show ((2 : Int) = 1) = False by simp, show ((1 : Int) = 2) = False by simp, show ((1 : Int) = 11) = False by simp, show ((2 : Int) = 11) = False by simp, and_false, and_true, if_false]
    by_cases e : cl.getD m 0 = c
    · simp only [if_pos e]
      rw [← h1, IntWalk.wrap64_in _ (by omega)]
      exact ⟨rfl, h2, by omega, by omega⟩
    · simp only [if_neg e]
      exact ⟨h1, h2, h3, by omega⟩

theorem allow_in {s : CS} (h : bsets s.s13 s.s14 s.s15 s.s16 = true) (a : Int) (ha : 0 ≤ a) (hb : a ≤ 60) : a ≤ allow s a 0 := by
  unfold bsets at h
  obtain ⟨h1, h2, h3, h4, h5, h6, h7⟩ := of_decide_eq_true h
  have m0 : 0 ≤ s.s13 * a := Int.mul_nonneg h1 ha
  have m1 : s.s13 * a ≤ 1000 * 60 := Int.le_trans (Int.mul_le_mul_of_nonneg_right h4 ha) (Int.mul_le_mul_of_nonneg_left hb (by omega))
  unfold allow
  rw [Int.mul_zero]
  generalize s.s13 * a = q at *
  rw [IntWalk.wrap64_in 0 (by omega), IntWalk.wrap64_in (a + s.s15) (by omega), IntWalk.wrap64_in q (by omega), Int.add_zero, IntWalk.wrap64_in q (by omega), Int.tdiv_eq_ediv_of_nonneg m0, IntWalk.wrap64_in (q / 1000) (by omega), IntWalk.wrap64_in _ (by omega)]
  omega

theorem free_fine (s : CS) (cl : List Int) (k : Nat) (hk : k ≤ 60) : budI s (freeR cl k) = -1 := by
  unfold budI
  split
  · rename_i hs
    refine idx_none fun i hi => ?_
    rw [free_len] at hi
    obtain ⟨m, hm | hm⟩ : ∃ m, i = 2 * m ∨ i = 2 * m + 1 := ⟨i / 2, by omega⟩
    · obtain ⟨ha, hb⟩ := free_at cl k m (by omega)
      subst hm
      unfold budP
      rw [ha, show decide ((rIss (cl.getD m 0) m).kind = 2) = false from rfl, Bool.false_and]
    · obtain ⟨ha, hb⟩ := free_at cl k m (by omega)
      subst hm
      unfold budP
      rw [hb]
      have hc := free_cnt cl k hk (rSnt (cl.getD m 0) m).client (m + 1) (by omega)
      rw [show 2 * (m + 1) = 2 * m + 1 + 1 by omega] at hc
      obtain ⟨h1, h2, h3, h4⟩ := hc
      rw [← h1, h2]
      have := allow_in hs _ h3 (by omega)
      rw [show decide ((rSnt (cl.getD m 0) m).kind = 2) = true from rfl, Bool.true_and]
      exact decide_eq_false (by omega)
  · rfl

/-- One request, nothing else. -/
def rReq : Rw := ⟨2, 0, 0, 0, 0, 0, 0, 0, 0, 0, 0, 0, 0, 0, 0, 0⟩
theorem one_req (s : CS) : budI s [rReq] = if bsets s.s13 s.s14 s.s15 s.s16 = true ∧ s.s15 = 0 then 0 else -1 := by
  unfold budI
  by_cases hs : bsets s.s13 s.s14 s.s15 s.s16 = true
  · rw [if_pos hs]
    unfold bsets at hs
    obtain ⟨h1, h2, h3, h4, h5, h6, h7⟩ := of_decide_eq_true hs
    have e : budP s [rReq] 0 = decide (allow s 0 0 < 1) := by
      show (decide ((2 : Int) = 2) && decide (allow s (cnt [rReq] 1 0 1) (cnt [rReq] 11 0 1) < cnt [rReq] 2 0 1)) = _
      rw [show cnt [rReq] 1 0 1 = 0 from rfl, show cnt [rReq] 11 0 1 = 0 from rfl, show cnt [rReq] 2 0 1 = 1 from by show wrap64 (0 + 1) = 1; exact IntWalk.wrap64_in _ (by omega)]
      rfl
    rw [allow_zero, IntWalk.wrap64_in s.s15 (by omega), IntWalk.wrap64_in s.s15 (by omega)] at e
    by_cases h0 : s.s15 = 0
    · rw [if_pos ⟨by unfold bsets; exact hs, h0⟩]
      exact idx_some (i := 0) (by simp) (by rw [e]; exact decide_eq_true (by omega)) fun j hj => absurd hj (Nat.not_lt_zero _)
    · rw [if_neg fun h => h0 h.2]
      refine idx_none fun i hi => ?_
      obtain rfl : i = 0 := by simpa using hi
      rw [e]
      exact decide_eq_false (by omega)
  · rw [if_neg hs, if_neg fun h => hs h.1]
end Go.Proofs.Ytoingfnpffaopaa
