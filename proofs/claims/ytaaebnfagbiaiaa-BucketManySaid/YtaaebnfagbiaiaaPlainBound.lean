/- The plain law of what acts bring: no more than the reserve and what calls and ticks bring. No program in sight. -/
import Derived.Test.YtaaebnfagbiaiaaPlain
namespace Go.Proofs.Ytaaebnfagbiaiaa

/-- How many of the first i acts are of a kind. -/
def cnt (a : Int) (l : List Int) : Int := (l.filter fun x => x == a).length

theorem cnt_nil (a : Int) : cnt a [] = 0 := rfl
theorem cnt_cons (a x : Int) (l : List Int) : cnt a (x :: l) = (if x = a then 1 else 0) + cnt a l := by
  unfold cnt
  by_cases h : x = a <;> simp [h]
  omega
theorem cnt_append (a : Int) (l m : List Int) : cnt a (l ++ m) = cnt a l + cnt a m := by
  unfold cnt
  simp
theorem cnt_take (a : Int) (l : List Int) (i : Nat) (h : i < l.length) : cnt a (l.take (i + 1)) = cnt a (l.take i) + if l.getD i 0 = a then 1 else 0 := by
  rw [List.take_succ_eq_append_getElem h, cnt_append, cnt_cons, cnt_nil]
  simp [List.getD, h]
theorem cnt_bd (a : Int) (l : List Int) : 0 ≤ cnt a l ∧ cnt a l ≤ l.length := by
  unfold cnt
  have := List.length_filter_le (fun x => x == a) l
  omega

theorem fold_bound (c t k : Int) : ∀ (l : List Int) (p : Int × Int), 1000 * (l.foldl (act c t k) p).2 + (l.foldl (act c t k) p).1 ≤ 1000 * p.2 + p.1 + c * cnt 1 l + t * cnt 2 l := by
  intro l
  induction l with
  | nil => intro p; simp [cnt_nil]
  | cons a l ih =>
    intro p
    have h := ih (act c t k p a)
    rw [List.foldl_cons, cnt_cons, cnt_cons, Int.mul_add, Int.mul_add]
    have hs : 1000 * (act c t k p a).2 + (act c t k p a).1 ≤ 1000 * p.2 + p.1 + c * (if a = 1 then 1 else 0) + t * (if a = 2 then 1 else 0) := by
      unfold act capped
      by_cases h1 : a = 1
      · subst h1; simp; split <;> omega
      · by_cases h2 : a = 2
        · subst h2; simp; split <;> omega
        · simp [h1, h2]; split <;> simp <;> omega
    omega

theorem acts_bound (c t r k : Int) (l : List Int) : 1000 * (acts c t r k l).2 + (acts c t r k l).1 ≤ 1000 * r + c * cnt 1 l + t * cnt 2 l := by
  have := fold_bound c t k l (1000 * r, 0)
  simpa [acts] using this

theorem act_fits {c t k : Int} {i : Nat} {p : Int × Int} (hc : 0 ≤ c) (ht : 0 ≤ t) (h : Fits k i p) (a : Int) : Fits k (i + 1) (act c t k p a) := by
  obtain ⟨f1, f2, f3, f4⟩ := h
  have g1 := capped_in f1 f2 hc
  have g2 := capped_in f1 f2 ht
  unfold act
  split
  · exact ⟨g1.1, g1.2.1, f3, by simp; omega⟩
  · split
    · exact ⟨g2.1, g2.2.1, f3, by simp; omega⟩
    · split
      · exact ⟨by simp; omega, by simp; omega, by simp; omega, by simp; omega⟩
      · exact ⟨f1, f2, f3, by omega⟩

theorem acts_fits {c t r k : Int} (h : SetsP c t r k) (l : List Int) : Fits k l.length (acts c t r k l) := by
  have key : ∀ i, i ≤ l.length → Fits k i (acts c t r k (l.take i)) := by
    intro i
    induction i with
    | zero => intro _; exact Fits.start h
    | succ i ih =>
      intro hi
      rw [acts_take c t r k l i (by omega)]
      exact act_fits h.1 h.2.2.1 (ih (by omega)) _
  have := key l.length (Nat.le_refl _)
  rwa [List.take_length] at this

/-- Without reserve, and where nothing comes in, nothing is there and nothing is taken. -/
theorem acts_empty (k : Int) (hk : 0 ≤ k) (l : List Int) : acts 0 0 0 k l = (0, 0) := by
  unfold acts
  induction l with
  | nil => rfl
  | cons a l ih =>
    rw [List.foldl_cons]
    have h : act 0 0 k (1000 * 0, 0) a = (1000 * 0, 0) := by
      unfold act capped
      by_cases h1 : a = 1
      · simp [h1]; omega
      · by_cases h2 : a = 2
        · simp [h2]; omega
        · simp [h1, h2]
    rw [h]
    exact ih
end Go.Proofs.Ytaaebnfagbiaiaa
