/- Plain laws of the first fault: a fault of the rows up to a place hangs on these rows alone. No program in sight. -/
import Derived.Test.YtoingfnpffaopaaAll
namespace Go.Proofs.Ytoingfnpffaopaa
open Go.RowKit

/-- p hangs on the rows up to the place alone. -/
def Loc (p : List Rw → Nat → Bool) : Prop := ∀ (l m : List Rw) (i : Nat), (∀ j, j ≤ i → l.getD j Rw.zero = m.getD j Rw.zero) → p l i = p m i

theorem seen_loc {K : Type} [DecidableEq K] (c : Rw → Bool) (f : Rw → K) (l m : List Rw) : ∀ (i : Nat), (∀ j, j < i → l.getD j Rw.zero = m.getD j Rw.zero) → ∀ k, seen c f l i k = seen c f m i k
  | 0, _, _ => rfl
  | i + 1, h, k => by
    unfold seen
    rw [h i (Nat.lt_succ_self i), seen_loc c f l m i (fun j hj => h j (Nat.lt_succ_of_lt hj)) k]

theorem open_loc (l m : List Rw) : ∀ (i : Nat), (∀ j, j < i → l.getD j Rw.zero = m.getD j Rw.zero) → ∀ k, openO l i k = openO m i k
  | 0, _, _ => rfl
  | i + 1, h, k => by
    unfold openO
    rw [h i (Nat.lt_succ_self i), open_loc l m i (fun j hj => h j (Nat.lt_succ_of_lt hj)) k]

theorem pin_loc (l m : List Rw) : ∀ (i : Nat), (∀ j, j < i → l.getD j Rw.zero = m.getD j Rw.zero) → ∀ k, pinO l i k = pinO m i k
  | 0, _, _ => rfl
  | i + 1, h, k => by
    have ih := pin_loc l m i (fun j hj => h j (Nat.lt_succ_of_lt hj))
    unfold pinO
    rw [h i (Nat.lt_succ_self i), ih, ih]

theorem sents_loc (l m : List Rw) : ∀ (i : Nat), (∀ j, j < i → l.getD j Rw.zero = m.getD j Rw.zero) → ∀ k, sents l i k = sents m i k
  | 0, _, _ => rfl
  | i + 1, h, k => by
    unfold sents
    rw [h i (Nat.lt_succ_self i), sents_loc l m i (fun j hj => h j (Nat.lt_succ_of_lt hj)) k]

theorem cnt_loc (l m : List Rw) (K c : Int) : ∀ (i : Nat), (∀ j, j < i → l.getD j Rw.zero = m.getD j Rw.zero) → cnt l K c i = cnt m K c i
  | 0, _ => rfl
  | i + 1, h => by
    unfold cnt
    rw [h i (Nat.lt_succ_self i), cnt_loc l m K c i (fun j hj => h j (Nat.lt_succ_of_lt hj))]

theorem twice_loc (k : Int) : Loc (twiceP k) := fun l m i h => by
  unfold twiceP
  rw [h i (Nat.le_refl i), seen_loc _ _ l m i (fun j hj => h j (Nat.le_of_lt hj))]
theorem out_loc : Loc outP := fun l m i h => by
  unfold outP
  rw [h i (Nat.le_refl i), open_loc l m i (fun j hj => h j (Nat.le_of_lt hj))]
theorem pin_loc' : Loc pinP := fun l m i h => by
  unfold pinP
  rw [h i (Nat.le_refl i), pin_loc l m i (fun j hj => h j (Nat.le_of_lt hj))]
theorem tru_loc : Loc truP := fun l m i h => by
  have e : seen isDid Rw.ans l i = seen isDid Rw.ans m i := funext fun k => seen_loc _ _ l m i (fun j hj => h j (Nat.le_of_lt hj)) k
  unfold truP
  rw [h i (Nat.le_refl i), e, sents_loc l m i (fun j hj => h j (Nat.le_of_lt hj))]
theorem bud_loc (s : CS) : Loc (budP s) := fun l m i h => by
  unfold budP
  rw [h i (Nat.le_refl i), cnt_loc l m 1 _ (i + 1) (fun j hj => h j (Nat.le_of_lt_succ hj)), cnt_loc l m 11 _ (i + 1) (fun j hj => h j (Nat.le_of_lt_succ hj)), cnt_loc l m 2 _ (i + 1) (fun j hj => h j (Nat.le_of_lt_succ hj))]

theorem idx_cases (p : Nat → Bool) (n : Nat) : (idx p n = -1 ∧ ∀ i, i < n → p i = false) ∨ ∃ i : Nat, i < n ∧ idx p n = i ∧ p i = true ∧ ∀ j, j < i → p j = false := by
  unfold idx
  cases h : (List.range n).find? p with
  | none =>
    rw [List.find?_eq_none] at h
    exact .inl ⟨rfl, fun i hi => by simpa using h i (by simpa using hi)⟩
  | some i =>
    rw [List.find?_range_eq_some] at h
    obtain ⟨hp, hi, hn⟩ := h
    exact .inr ⟨i, by simpa using hi, rfl, hp, fun j hj => by simpa using hn j hj⟩

theorem getD_take (l : List Rw) (k j : Nat) (h : j < k) : (l.take k).getD j Rw.zero = l.getD j Rw.zero := by
  simp [List.getD_eq_getElem?_getD, h]

/-- Ahead of the first fault there is none. -/
theorem idx_low {p : List Rw → Nat → Bool} (hp : Loc p) (l : List Rw) (k : Nat) (hk : k ≤ l.length) (h : idx (p l) l.length = -1 ∨ idx (p l) l.length = k) : idx (p (l.take k)) k = -1 := by
  refine idx_none fun i hi => ?_
  rw [hp (l.take k) l i fun j hj => getD_take l k j (by omega)]
  rcases idx_cases (p l) l.length with ⟨_, hn⟩ | ⟨i', hi', e, _, hn⟩
  · exact hn i (by omega)
  · exact hn i (by omega)
/-- The rows up to the first fault have it, just there. -/
theorem idx_up {p : List Rw → Nat → Bool} (hp : Loc p) (l : List Rw) (k : Nat) (h : idx (p l) l.length = k) : idx (p (l.take (k + 1))) (k + 1) = k := by
  rcases idx_cases (p l) l.length with ⟨e, _⟩ | ⟨i', hi', e, ht, hn⟩
  · omega
  · obtain rfl : i' = k := by omega
    refine idx_some (Nat.lt_succ_self _) ?_ fun j hj => ?_
    · rw [hp (l.take (i' + 1)) l i' fun j hj => getD_take l _ j (by omega)]; exact ht
    · rw [hp (l.take (i' + 1)) l j fun j' hj' => getD_take l _ j' (by omega)]; exact hn j hj
theorem idx_lt (p : Nat → Bool) (n : Nat) : -1 ≤ idx p n ∧ idx p n < n := by
  rcases idx_cases p n with ⟨e, _⟩ | ⟨i, hi, e, _⟩ <;> omega

theorem getD_app (l : List Rw) (r : Rw) (j : Nat) (h : j < l.length) : (l ++ [r]).getD j Rw.zero = l.getD j Rw.zero := by
  simp [List.getD_eq_getElem?_getD, List.getElem?_append_left h]
theorem getD_end (l : List Rw) (r : Rw) : (l ++ [r]).getD l.length Rw.zero = r := by
  simp [List.getD_eq_getElem?_getD]

theorem seen_at {K : Type} [DecidableEq K] (c : Rw → Bool) (f : Rw → K) (l : List Rw) (j : Nat) (hc : c (l.getD j Rw.zero) = true) : ∀ i, j < i → seen c f l i (f (l.getD j Rw.zero)) = true
  | 0, h => absurd h (Nat.not_lt_zero _)
  | i + 1, h => by
    unfold seen
    by_cases e : j = i
    · subst e
      rw [hc, decide_eq_true rfl]
      rfl
    · rw [seen_at c f l j hc i (by omega)]
      simp

/-- What is done once more at the end. -/
theorem twice_end (l : List Rw) (j : Nat) (hj : j < l.length) (h : idx (twiceP 3 l) l.length = -1) : idx (twiceP 3 (l ++ [l.getD j Rw.zero])) (l.length + 1) = if (l.getD j Rw.zero).kind = 3 then (l.length : Int) else -1 := by
  have hlow : ∀ i, i < l.length → twiceP 3 (l ++ [l.getD j Rw.zero]) i = false := fun i hi => by
    rw [twice_loc 3 _ l i fun j' hj' => getD_app l _ j' (by omega)]
    rcases idx_cases (twiceP 3 l) l.length with ⟨_, hn⟩ | ⟨i', hi', e, _, hn⟩
    · exact hn i hi
    · omega
  have hend : twiceP 3 (l ++ [l.getD j Rw.zero]) l.length = decide ((l.getD j Rw.zero).kind = 3) := by
    unfold twiceP
    rw [getD_end]
    by_cases h3 : (l.getD j Rw.zero).kind = 3
    · have := seen_at (fun r => decide (r.kind = 3)) Rw.spot (l ++ [l.getD j Rw.zero]) j (by rw [getD_app l _ j hj]; exact decide_eq_true h3) l.length hj
      rw [getD_app l _ j hj] at this
      rw [this, Bool.and_true]
    · rw [decide_eq_false h3, Bool.false_and]
  split
  · rename_i h3
    exact idx_some (Nat.lt_succ_self _) (by rw [hend]; exact decide_eq_true h3) hlow
  · rename_i h3
    refine idx_none fun i hi => ?_
    rcases Nat.lt_or_ge i l.length with h' | h'
    · exact hlow i h'
    · obtain rfl : i = l.length := by omega
      rw [hend]; exact decide_eq_false h3
end Go.Proofs.Ytoingfnpffaopaa
