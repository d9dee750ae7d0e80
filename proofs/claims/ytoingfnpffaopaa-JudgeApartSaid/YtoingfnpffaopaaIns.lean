/- Plain laws of a row that has no say, put between others: nothing changes, but the place. No program in sight. -/
import Derived.Test.YtoingfnpffaopaaLoc
namespace Go.Proofs.Ytoingfnpffaopaa
open Go.RowKit

/-- A row put in at j. -/
def ins (l : List Rw) (j : Nat) (r : Rw) : List Rw := (l.take j ++ [r]) ++ l.drop j

theorem ins_len (l : List Rw) (j : Nat) (hj : j ≤ l.length) (r : Rw) : (ins l j r).length = l.length + 1 := by
  unfold ins
  simp
  omega
theorem ins_low (l : List Rw) (j : Nat) (hj : j ≤ l.length) (r : Rw) (i : Nat) (hi : i < j) : (ins l j r).getD i Rw.zero = l.getD i Rw.zero := by
  unfold ins
  have h1 : i < (l.take j).length := by simp; omega
  simp only [List.getD_eq_getElem?_getD]
  rw [List.getElem?_append_left (by simp; omega), List.getElem?_append_left h1, List.getElem?_take_of_lt hi]
theorem ins_at (l : List Rw) (j : Nat) (hj : j ≤ l.length) (r : Rw) : (ins l j r).getD j Rw.zero = r := by
  unfold ins
  have h1 : (l.take j).length = j := by simp; omega
  simp only [List.getD_eq_getElem?_getD]
  rw [List.getElem?_append_left (by simp; omega), List.getElem?_append_right (by omega), h1, Nat.sub_self]
  rfl
theorem ins_up (l : List Rw) (j : Nat) (hj : j ≤ l.length) (r : Rw) (i : Nat) (hi : j ≤ i) : (ins l j r).getD (i + 1) Rw.zero = l.getD i Rw.zero := by
  unfold ins
  have h1 : (l.take j ++ [r]).length = j + 1 := by simp; omega
  simp only [List.getD_eq_getElem?_getD]
  rw [List.getElem?_append_right (by omega), h1, List.getElem?_drop, show j + (i + 1 - (j + 1)) = i by omega]

/-- What is kept from row to row does not see the row that has no say. -/
theorem st_shift {σ : Type} (st : List Rw → Nat → σ) (step : Rw → σ → σ) (h0 : ∀ l m, st l 0 = st m 0) (hs : ∀ l i, st l (i + 1) = step (l.getD i Rw.zero) (st l i)) (l : List Rw) (j : Nat) (hj : j ≤ l.length) (r : Rw) (hr : ∀ S, step r S = S) :
    (∀ i, i ≤ j → st (ins l j r) i = st l i) ∧ ∀ i, j ≤ i → st (ins l j r) (i + 1) = st l i := by
  have hA : ∀ i, i ≤ j → st (ins l j r) i = st l i := by
    intro i
    induction i with
    | zero => intro _; exact h0 _ _
    | succ i ih =>
      intro hi
      rw [hs, hs, ins_low l j hj r i (by omega), ih (by omega)]
  refine ⟨hA, fun i => ?_⟩
  induction i with
  | zero =>
    intro hi
    obtain rfl : j = 0 := by omega
    rw [hs, ins_at l 0 hj r, hr, hA 0 (Nat.le_refl _)]
  | succ i ih =>
    intro hi
    by_cases e : j = i + 1
    · subst e
      rw [hs, ins_at l (i + 1) hj r, hr, hA (i + 1) (Nat.le_refl _)]
    · rw [hs, ins_up l j hj r i (by omega), ih (by omega), hs l i]

/-- Where a place lies behind the row that was put in. -/
def shiftI (j : Nat) (v : Int) : Int := if (j : Int) ≤ v then v + 1 else v

theorem idx_shift (p q : Nat → Bool) (n j : Nat) (hj : j ≤ n) (hlow : ∀ i, i < j → q i = p i) (hat : q j = false) (hup : ∀ i, j ≤ i → i < n → q (i + 1) = p i) : idx q (n + 1) = shiftI j (idx p n) := by
  unfold shiftI
  rcases idx_cases p n with ⟨e, hn⟩ | ⟨i, hi, e, hp, hn⟩
  · rw [e, if_neg (by omega)]
    refine idx_none fun k hk => ?_
    rcases Nat.lt_trichotomy k j with h | h | h
    · rw [hlow k h]; exact hn k (by omega)
    · subst h; exact hat
    · obtain ⟨k', rfl⟩ : ∃ k', k = k' + 1 := ⟨k - 1, by omega⟩
      rw [hup k' (by omega) (by omega)]; exact hn k' (by omega)
  · rw [e]
    by_cases hij : j ≤ i
    · rw [if_pos (by omega)]
      have := idx_some (p := q) (n := n + 1) (i := i + 1) (by omega) (by rw [hup i hij hi]; exact hp) fun k hk => by
        rcases Nat.lt_trichotomy k j with h | h | h
        · rw [hlow k h]; exact hn k (by omega)
        · subst h; exact hat
        · obtain ⟨k', rfl⟩ : ∃ k', k = k' + 1 := ⟨k - 1, by omega⟩
          rw [hup k' (by omega) (by omega)]; exact hn k' (by omega)
      rw [this]
      omega
    · rw [if_neg (by omega)]
      exact idx_some (by omega) (by rw [hlow i (by omega)]; exact hp) fun k hk => by rw [hlow k (by omega)]; exact hn k hk


theorem seen_ins (l : List Rw) (j : Nat) (hj : j ≤ l.length) (r : Rw) {K : Type} [DecidableEq K] (c : Rw → Bool) (f : Rw → K) (hc : c r = false) : (∀ i, i ≤ j → seen c f (ins l j r) i = seen c f l i) ∧ ∀ i, j ≤ i → seen c f (ins l j r) (i + 1) = seen c f l i :=
  st_shift (seen c f) (fun r S k => (c r && decide (k = f r)) || S k) (fun _ _ => rfl) (fun _ _ => rfl) l j hj r fun S => funext fun k => by rw [hc, Bool.false_and, Bool.false_or]

theorem twice_ins (l : List Rw) (j : Nat) (hj : j ≤ l.length) (r : Rw) (k : Int) (hk : r.kind ≠ k) : idx (twiceP k (ins l j r)) (l.length + 1) = shiftI j (idx (twiceP k l) l.length) := by
  obtain ⟨hA, hB⟩ := seen_ins l j hj r (fun r => decide (r.kind = k)) Rw.spot (decide_eq_false hk)
  refine idx_shift _ _ _ _ hj (fun i hi => ?_) ?_ fun i hi _ => ?_
  · unfold twiceP; rw [ins_low l j hj r i hi, hA i (by omega)]
  · unfold twiceP; rw [ins_at l j hj r, decide_eq_false hk, Bool.false_and]
  · unfold twiceP; rw [ins_up l j hj r i hi, hB i hi]

theorem out_ins (l : List Rw) (j : Nat) (hj : j ≤ l.length) (r : Rw) (h1 : r.kind ≠ 1) (h5 : r.kind ≠ 5) : idx (outP (ins l j r)) (l.length + 1) = shiftI j (idx (outP l) l.length) := by
  obtain ⟨hA, hB⟩ := st_shift openO (fun r S k => if r.kind = 1 ∧ k = r.ckey then some true else if r.kind = 5 ∧ k = r.ckey then some false else S k) (fun _ _ => rfl) (fun _ _ => rfl) l j hj r fun S => funext fun k => by
    rw [if_neg fun h => h1 h.1, if_neg fun h => h5 h.1]
  refine idx_shift _ _ _ _ hj (fun i hi => ?_) ?_ fun i hi _ => ?_
  · unfold outP; rw [ins_low l j hj r i hi, hA i (by omega)]
  · unfold outP; rw [ins_at l j hj r, decide_eq_false h5, Bool.false_and]
  · unfold outP; rw [ins_up l j hj r i hi, hB i hi]

theorem rej_ins (l : List Rw) (j : Nat) (hj : j ≤ l.length) (r : Rw) (h2 : r.kind ≠ 2) (h5 : r.kind ≠ 5) : idx (rejP (ins l j r)) (l.length + 1) = shiftI j (idx (rejP l) l.length) := by
  obtain ⟨hA, hB⟩ := seen_ins l j hj r (isK 2) Rw.ckey (decide_eq_false h2)
  have hl := ins_len l j hj r
  refine idx_shift _ _ _ _ hj (fun i hi => ?_) ?_ fun i hi _ => ?_
  · unfold rejP; rw [ins_low l j hj r i hi, hl, hB l.length hj]
  · unfold rejP; rw [ins_at l j hj r, decide_eq_false fun h => h5 h.1, Bool.false_and]
  · unfold rejP; rw [ins_up l j hj r i hi, hl, hB l.length hj]

theorem pin_ins (l : List Rw) (j : Nat) (hj : j ≤ l.length) (r : Rw) (h2 : r.kind ≠ 2) : idx (pinP (ins l j r)) (l.length + 1) = shiftI j (idx (pinP l) l.length) := by
  have hp : isPin r = false := decide_eq_false fun h => h2 h.1
  obtain ⟨hA, hB⟩ := st_shift pinO (fun r S k => if isPin r = true ∧ (S r.ckey).isSome = false ∧ k = r.ckey then some r.spot else S k) (fun _ _ => rfl) (fun _ _ => rfl) l j hj r fun S => funext fun k => by
    rw [if_neg fun h => by rw [hp] at h; exact absurd h.1 (by simp)]
  refine idx_shift _ _ _ _ hj (fun i hi => ?_) ?_ fun i hi _ => ?_
  · unfold pinP; rw [ins_low l j hj r i hi, hA i (by omega)]
  · unfold pinP; rw [ins_at l j hj r, hp, Bool.false_and]
  · unfold pinP; rw [ins_up l j hj r i hi, hB i hi]

theorem tru_ins (l : List Rw) (j : Nat) (hj : j ≤ l.length) (r : Rw) (h2 : r.kind ≠ 2) (h3 : r.kind ≠ 3) (h4 : r.kind ≠ 4) (h5 : r.kind ≠ 5) : idx (truP (ins l j r)) (l.length + 1) = shiftI j (idx (truP l) l.length) := by
  obtain ⟨hA, hB⟩ := seen_ins l j hj r isDid Rw.ans (decide_eq_false fun h => by omega)
  obtain ⟨hA2, hB2⟩ := st_shift sents (fun r S k => if r.kind = 2 ∧ k = r.ckey then S k ++ [r.spot] else S k) (fun _ _ => rfl) (fun _ _ => rfl) l j hj r fun S => funext fun k => by
    rw [if_neg fun h => h2 h.1]
  refine idx_shift _ _ _ _ hj (fun i hi => ?_) ?_ fun i hi _ => ?_
  · unfold truP; rw [ins_low l j hj r i hi, hA i (by omega), hA2 i (by omega)]
  · unfold truP; rw [ins_at l j hj r, decide_eq_false fun h => h5 h.1, Bool.false_and]
  · unfold truP; rw [ins_up l j hj r i hi, hB i hi, hB2 i hi]

theorem cnt_ins (l : List Rw) (j : Nat) (hj : j ≤ l.length) (r : Rw) (K : Int) (hK : r.kind ≠ K) (c : Int) : (∀ i, i ≤ j → cnt (ins l j r) K c i = cnt l K c i) ∧ ∀ i, j ≤ i → cnt (ins l j r) K c (i + 1) = cnt l K c i :=
  st_shift (fun l i => cnt l K c i) (fun r S => if r.client = c ∧ r.kind = K then wrap64 (S + 1) else S) (fun _ _ => rfl) (fun _ _ => rfl) l j hj r fun _ => if_neg fun h => hK h.2

theorem bud_ins (l : List Rw) (j : Nat) (hj : j ≤ l.length) (r : Rw) (s : CS) (h1 : r.kind ≠ 1) (h2 : r.kind ≠ 2) (h11 : r.kind ≠ 11) : budI s (ins l j r) = shiftI j (budI s l) := by
  unfold budI
  rw [ins_len l j hj r]
  split
  · refine idx_shift _ _ _ _ hj (fun i hi => ?_) ?_ fun i hi _ => ?_
    · unfold budP
      rw [ins_low l j hj r i hi, (cnt_ins l j hj r 1 h1 _).1 (i + 1) hi, (cnt_ins l j hj r 11 h11 _).1 (i + 1) hi, (cnt_ins l j hj r 2 h2 _).1 (i + 1) hi]
    · unfold budP; rw [ins_at l j hj r, decide_eq_false h2, Bool.false_and]
    · unfold budP
      rw [ins_up l j hj r i hi, (cnt_ins l j hj r 1 h1 _).2 (i + 1) (by omega), (cnt_ins l j hj r 11 h11 _).2 (i + 1) (by omega), (cnt_ins l j hj r 2 h2 _).2 (i + 1) (by omega)]
  · unfold shiftI
    rw [if_neg (by omega)]

/-- The row that has no say. -/
def rOut : Rw := ⟨12, 0, 0, 0, 0, 0, 0, 0, 0, 0, 0, 0, 0, 0, 0, 0⟩

/-- The six answers. -/
def sixI (s : CS) (l : List Rw) : Nat → Int
  | 0 => idx (twiceP 3 l) l.length
  | 1 => idx (outP l) l.length
  | 2 => idx (rejP l) l.length
  | 3 => idx (pinP l) l.length
  | 4 => idx (truP l) l.length
  | _ => budI s l

theorem six_ins (s : CS) (l : List Rw) (j : Nat) (hj : j ≤ l.length) (i : Nat) : sixI s (ins l j rOut) i = shiftI j (sixI s l i) := by
  unfold sixI
  rw [ins_len l j hj rOut]
  split
  · exact twice_ins l j hj rOut 3 (by decide)
  · exact out_ins l j hj rOut (by decide) (by decide)
  · exact rej_ins l j hj rOut (by decide) (by decide)
  · exact pin_ins l j hj rOut (by decide)
  · exact tru_ins l j hj rOut (by decide) (by decide) (by decide) (by decide)
  · exact bud_ins l j hj rOut s (by decide) (by decide) (by decide)
end Go.Proofs.Ytoingfnpffaopaa
