/- Plain laws of the document's Outcomes: the last row of the call, behind it. No program in sight. -/
import Derived.Test.YtoingfnpffaopaaRf1
namespace Go.Proofs.Ytoingfnpffaopaa
open Go.RowKit

/-- The row of the call that counts. -/
def outR (l : List Rw) (i k : Nat) : Bool := decide ((l.getD k Rw.zero).ckey = (l.getD i Rw.zero).ckey) && (decide ((l.getD k Rw.zero).kind = 1) || decide ((l.getD k Rw.zero).kind = 5))

theorem open_skip {l : List Rw} {i k : Nat} (h : outR l i k = false) : openO l (k + 1) (l.getD i Rw.zero).ckey = openO l k (l.getD i Rw.zero).ckey := by
  have hs : openO l (k + 1) (l.getD i Rw.zero).ckey = if (l.getD k Rw.zero).kind = 1 ∧ (l.getD i Rw.zero).ckey = (l.getD k Rw.zero).ckey then some true else if (l.getD k Rw.zero).kind = 5 ∧ (l.getD i Rw.zero).ckey = (l.getD k Rw.zero).ckey then some false else openO l k (l.getD i Rw.zero).ckey := rfl
  unfold outR at h
  rw [hs]
  by_cases hc : (l.getD k Rw.zero).ckey = (l.getD i Rw.zero).ckey
  · rw [decide_eq_true hc, Bool.true_and, Bool.or_eq_false_iff] at h
    rw [if_neg fun g => of_decide_eq_false h.1 g.1, if_neg fun g => of_decide_eq_false h.2 g.1]
  · rw [if_neg fun g => hc g.2.symm, if_neg fun g => hc g.2.symm]

theorem open_hit {l : List Rw} {i k : Nat} (h : outR l i k = true) : openO l (k + 1) (l.getD i Rw.zero).ckey = some (decide ((l.getD k Rw.zero).kind = 1)) := by
  have hs : openO l (k + 1) (l.getD i Rw.zero).ckey = if (l.getD k Rw.zero).kind = 1 ∧ (l.getD i Rw.zero).ckey = (l.getD k Rw.zero).ckey then some true else if (l.getD k Rw.zero).kind = 5 ∧ (l.getD i Rw.zero).ckey = (l.getD k Rw.zero).ckey then some false else openO l k (l.getD i Rw.zero).ckey := rfl
  unfold outR at h
  rw [Bool.and_eq_true, Bool.or_eq_true, decide_eq_true_eq, decide_eq_true_eq, decide_eq_true_eq] at h
  obtain ⟨hc, hk⟩ := h
  rw [hs]
  by_cases h1 : (l.getD k Rw.zero).kind = 1
  · rw [if_pos ⟨h1, hc.symm⟩, decide_eq_true h1]
  · rw [if_neg fun g => h1 g.1, if_pos ⟨hk.resolve_left h1, hc.symm⟩, decide_eq_false h1]

theorem out_none {l : List Rw} {i : Nat} (h5 : (l.getD i Rw.zero).kind = 5) (h : openO l i (l.getD i Rw.zero).ckey = none) : outP l i = true := by
  unfold outP
  rw [h5, h]
  rfl
theorem out_some {l : List Rw} {i : Nat} {x : Bool} (h5 : (l.getD i Rw.zero).kind = 5) (h : openO l i (l.getD i Rw.zero).ckey = some x) : outP l i = !x := by
  unfold outP
  rw [h5, h]
  cases x <;> rfl
theorem out_not {l : List Rw} {i : Nat} (h5 : (l.getD i Rw.zero).kind ≠ 5) : outP l i = false := by
  unfold outP
  rw [decide_eq_false h5, Bool.false_and]

/-- What the document's told says. -/
def toldR (l : List Rw) (a i k : Nat) : Bool := decide ((l.getD k Rw.zero).kind = 2) && (decide ((l.getD k Rw.zero).ckey = (l.getD a Rw.zero).ckey) && decide ((l.getD k Rw.zero).spot = (l.getD i Rw.zero).spot))
def goodR (l : List Rw) (a i : Nat) : Bool := isDid (l.getD i Rw.zero) && (decide ((l.getD i Rw.zero).client = (l.getD a Rw.zero).client) && (decide ((l.getD i Rw.zero).op = (l.getD a Rw.zero).op) && decide ((l.getD i Rw.zero).res = (l.getD a Rw.zero).res)))
def toldP (l : List Rw) (a : Nat) : Bool := (List.range a).any fun i => goodR l a i && (List.range a).any (toldR l a i)

theorem sents_iff (l : List Rw) (x : Key) (s : Spot) : ∀ (i : Nat), s ∈ sents l i x ↔ ∃ k, k < i ∧ (l.getD k Rw.zero).kind = 2 ∧ x = (l.getD k Rw.zero).ckey ∧ s = (l.getD k Rw.zero).spot
  | 0 => ⟨fun h => absurd h (by simp [sents]), fun ⟨k, hk, _⟩ => absurd hk (Nat.not_lt_zero _)⟩
  | i + 1 => by
    have hs : sents l (i + 1) x = if (l.getD i Rw.zero).kind = 2 ∧ x = (l.getD i Rw.zero).ckey then sents l i x ++ [(l.getD i Rw.zero).spot] else sents l i x := rfl
    have ih := sents_iff l x s i
    rw [hs]
    constructor
    · intro h
      split at h
      · rename_i hc
        rw [List.mem_append, List.mem_singleton] at h
        rcases h with h | h
        · obtain ⟨k, hk, h'⟩ := ih.1 h
          exact ⟨k, by omega, h'⟩
        · exact ⟨i, Nat.lt_succ_self i, hc.1, hc.2, h⟩
      · obtain ⟨k, hk, h'⟩ := ih.1 h
        exact ⟨k, by omega, h'⟩
    · rintro ⟨k, hk, h1, h2, h3⟩
      by_cases e : k = i
      · subst e
        rw [if_pos ⟨h1, h2⟩, h3]
        simp
      · have hm := ih.2 ⟨k, by omega, h1, h2, h3⟩
        split
        · exact List.mem_append_left _ hm
        · exact hm

theorem any_iff (S : Ans → Bool) (L : List Spot) (R : Rw) : anyS S L R = true ↔ ∃ s, s ∈ L ∧ S (s, R.op, R.res) = true := by
  unfold anyS
  rw [decide_eq_true_eq]
  rcases idx_cases (fun j => S (L.getD j (0, 0, 0, 0, 0), R.op, R.res)) L.length with ⟨e, hn⟩ | ⟨i, hi, e, hp, _⟩
  · rw [e]
    refine ⟨fun h => absurd h (by decide), fun ⟨s, hs, h⟩ => ?_⟩
    obtain ⟨j, hj, rfl⟩ := List.getElem_of_mem hs
    have := hn j hj
    rw [List.getD_eq_getElem?_getD, List.getElem?_eq_getElem hj, Option.getD_some, h] at this
    exact absurd this (by simp)
  · rw [e]
    refine ⟨fun _ => ⟨L.getD i (0, 0, 0, 0, 0), ?_, hp⟩, fun _ => Int.natCast_nonneg _⟩
    rw [List.getD_eq_getElem?_getD, List.getElem?_eq_getElem hi, Option.getD_some]
    exact List.getElem_mem hi

/-- Told, just if some place of the call has the answer. -/
theorem told_iff (l : List Rw) (a : Nat) : toldP l a = anyS (seen isDid Rw.ans l a) (sents l a (l.getD a Rw.zero).ckey) (l.getD a Rw.zero) := by
  rw [Bool.eq_iff_iff, any_iff]
  unfold toldP
  rw [List.any_eq_true]
  constructor
  · rintro ⟨i, hi, h⟩
    rw [Bool.and_eq_true, List.any_eq_true] at h
    obtain ⟨h1, k, hk, h2⟩ := h
    unfold goodR at h1
    unfold toldR at h2
    simp only [Bool.and_eq_true, decide_eq_true_eq] at h1 h2
    obtain ⟨g1, _, g2, g3⟩ := h1
    obtain ⟨f1, f2, f3⟩ := h2
    refine ⟨(l.getD k Rw.zero).spot, (sents_iff l _ _ a).2 ⟨k, by simpa using hk, f1, f2.symm, rfl⟩, (seen_iff _ _ l a _).2 ⟨i, by simpa using hi, g1, ?_⟩⟩
    show ((l.getD k Rw.zero).spot, (l.getD a Rw.zero).op, (l.getD a Rw.zero).res) = ((l.getD i Rw.zero).spot, (l.getD i Rw.zero).op, (l.getD i Rw.zero).res)
    rw [f3, g2, g3]
  · rintro ⟨s, hs, h⟩
    obtain ⟨k, hk, f1, f2, f3⟩ := (sents_iff l _ _ a).1 hs
    obtain ⟨i, hi, g1, g2⟩ := (seen_iff _ _ l a _).1 h
    have g3 : s = (l.getD i Rw.zero).spot := congrArg (fun x : Ans => x.1) g2
    have g4 : (l.getD a Rw.zero).op = (l.getD i Rw.zero).op := congrArg (fun x : Ans => x.2.1) g2
    have g5 : (l.getD a Rw.zero).res = (l.getD i Rw.zero).res := congrArg (fun x : Ans => x.2.2) g2
    have g6 : (l.getD k Rw.zero).spot = (l.getD i Rw.zero).spot := by rw [← f3, g3]
    have g7 : (l.getD k Rw.zero).client = (l.getD i Rw.zero).client := congrArg (fun x : Spot => x.1) g6
    have g8 : (l.getD a Rw.zero).client = (l.getD k Rw.zero).client := congrArg (fun x : Key => x.1) f2
    refine ⟨i, by simpa using hi, ?_⟩
    rw [Bool.and_eq_true, List.any_eq_true]
    refine ⟨?_, k, by simpa using hk, ?_⟩
    · unfold goodR
      rw [g1, decide_eq_true (show (l.getD i Rw.zero).client = (l.getD a Rw.zero).client by rw [g8, g7]), decide_eq_true g4.symm, decide_eq_true g5.symm]
      rfl
    · unfold toldR
      rw [decide_eq_true f1, decide_eq_true f2.symm, decide_eq_true g6]
      rfl
end Go.Proofs.Ytoingfnpffaopaa
