/- The plain law of a budget: what acts make of a level and of the tokens taken. No program in sight. -/
namespace Go.Proofs.Ytaaebnfagbiaiaa

/-- May settings be? -/
def SetsP (c t r k : Int) : Prop := 0 ≤ c ∧ c ≤ 1000 ∧ 0 ≤ t ∧ t ≤ 1000 ∧ 0 ≤ r ∧ r ≤ k ∧ k ≤ 1000
instance (c t r k : Int) : Decidable (SetsP c t r k) := by unfold SetsP; infer_instance

/-- What comes in, up to the cap. -/
def capped (l n k : Int) : Int := if 1000 * k < l + n then 1000 * k else l + n

/-- One act: a level, and how many were taken. -/
def act (c t k : Int) (p : Int × Int) (a : Int) : Int × Int :=
  if a = 1 then (capped p.1 c k, p.2) else if a = 2 then (capped p.1 t k, p.2) else if 1000 ≤ p.1 then (p.1 - 1000, p.2 + 1) else p

/-- Acts from the start on. -/
def acts (c t r k : Int) (l : List Int) : Int × Int := l.foldl (act c t k) (1000 * r, 0)

theorem acts_snoc (c t r k : Int) (l : List Int) (a : Int) : acts c t r k (l ++ [a]) = act c t k (acts c t r k l) a := by
  simp [acts, List.foldl_append]

theorem acts_take (c t r k : Int) (l : List Int) (i : Nat) (h : i < l.length) : acts c t r k (l.take (i + 1)) = act c t k (acts c t r k (l.take i)) (l.getD i 0) := by
  rw [List.take_succ_eq_append_getElem h, acts_snoc]
  congr 1
  simp [List.getD, h]

/-- Levels stay in their bounds; of i acts at most i tokens come. -/
structure Fits (k : Int) (i : Nat) (p : Int × Int) : Prop where
  lo : 0 ≤ p.1
  hi : p.1 ≤ 1000 * k
  n0 : 0 ≤ p.2
  n1 : p.2 ≤ i

theorem Fits.start {c t r k : Int} (h : SetsP c t r k) : Fits k 0 (acts c t r k []) := by
  obtain ⟨h1, h2, h3, h4, h5, h6, h7⟩ := h
  exact ⟨by simp [acts]; omega, by simp [acts]; omega, by simp [acts], by simp [acts]⟩

theorem capped_in {l n k : Int} (h0 : 0 ≤ l) (h1 : l ≤ 1000 * k) (hn : 0 ≤ n) : 0 ≤ capped l n k ∧ capped l n k ≤ 1000 * k ∧ l ≤ capped l n k ∧ capped l n k ≤ l + n := by
  unfold capped
  split <;> omega
end Go.Proofs.Ytaaebnfagbiaiaa
