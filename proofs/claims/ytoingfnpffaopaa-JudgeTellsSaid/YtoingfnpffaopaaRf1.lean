/- What the document's call and spot hand back. Conditions: none. -/
import Derived.Test.YtoingfnpffaopaaLoc
namespace Go.Proofs.Ytoingfnpffaopaa
open Go.RowKit

set_option maxHeartbeats 4000000 in
theorem rcall_any (R S : Rw) (w : World) : Calls Try.prog 32 #[.agg #[.int .i64 R.kind, .int .i64 R.step, .int .i64 R.client, .int .i64 R.call, .int .i64 R.backend, .int .i64 R.incarnation, .int .i64 R.session, .int .i64 R.seq, .int .i64 R.what, .int .i64 R.key, .int .i64 R.other, .int .i64 R.amount, .int .i64 R.code, .int .i64 R.place, .int .i64 R.value, .int .i64 R.n], .agg #[.int .i64 S.kind, .int .i64 S.step, .int .i64 S.client, .int .i64 S.call, .int .i64 S.backend, .int .i64 S.incarnation, .int .i64 S.session, .int .i64 S.seq, .int .i64 S.what, .int .i64 S.key, .int .i64 S.other, .int .i64 S.amount, .int .i64 S.code, .int .i64 S.place, .int .i64 S.value, .int .i64 S.n]] w (Gives (.bool (decide (R.ckey = S.ckey))) w) := by
  obtain ⟨v, hv⟩ : ∃ v, decide (R.ckey = S.ckey) = v := ⟨_, rfl⟩
  have HV : Hid (v = (decide (R.client = S.client) && decide (R.call = S.call))) := by
    show v = _
    rw [← hv]
    unfold Rw.ckey
    by_cases h0 : R.client = S.client <;> by_cases h1 : R.call = S.call <;> simp [*]
  rw [hv]
  clear hv
  go_enter Try.func32, Try.ntmps32
  go_wp2
  all_goals
    go_ret
    exact ⟨ret_bool (by rw [HV.out]; first | (simp [*]; done) | (simp [*]; rfl)), below_alloc (below_alloc (Below.refl _ _) _) _⟩

set_option maxHeartbeats 4000000 in
theorem rspot_any (R S : Rw) (w : World) : Calls Try.prog 29 #[.agg #[.int .i64 R.kind, .int .i64 R.step, .int .i64 R.client, .int .i64 R.call, .int .i64 R.backend, .int .i64 R.incarnation, .int .i64 R.session, .int .i64 R.seq, .int .i64 R.what, .int .i64 R.key, .int .i64 R.other, .int .i64 R.amount, .int .i64 R.code, .int .i64 R.place, .int .i64 R.value, .int .i64 R.n], .agg #[.int .i64 S.kind, .int .i64 S.step, .int .i64 S.client, .int .i64 S.call, .int .i64 S.backend, .int .i64 S.incarnation, .int .i64 S.session, .int .i64 S.seq, .int .i64 S.what, .int .i64 S.key, .int .i64 S.other, .int .i64 S.amount, .int .i64 S.code, .int .i64 S.place, .int .i64 S.value, .int .i64 S.n]] w (Gives (.bool (decide (R.spot = S.spot))) w) := by
  obtain ⟨v, hv⟩ : ∃ v, decide (R.spot = S.spot) = v := ⟨_, rfl⟩
  have HV : Hid (v = (decide (R.client = S.client) && decide (R.backend = S.backend) && decide (R.incarnation = S.incarnation) && decide (R.session = S.session) && decide (R.seq = S.seq))) := by
    show v = _
    rw [← hv]
    unfold Rw.spot
    by_cases h0 : R.client = S.client <;> by_cases h1 : R.backend = S.backend <;> by_cases h2 : R.incarnation = S.incarnation <;> by_cases h3 : R.session = S.session <;> by_cases h4 : R.seq = S.seq <;> simp [*]
  rw [hv]
  clear hv
  go_enter Try.func29, Try.ntmps29
  go_wp2
  all_goals
    go_ret
    exact ⟨ret_bool (by rw [HV.out]; first | (simp [*]; done) | (simp [*]; rfl)), below_alloc (below_alloc (Below.refl _ _) _) _⟩

theorem seen_iff {K : Type} [DecidableEq K] (c : Rw → Bool) (f : Rw → K) (l : List Rw) : ∀ (i : Nat) (x : K), seen c f l i x = true ↔ ∃ k, k < i ∧ c (l.getD k Rw.zero) = true ∧ x = f (l.getD k Rw.zero)
  | 0, x => ⟨fun h => absurd h (by simp [seen]), fun ⟨k, hk, _⟩ => absurd hk (Nat.not_lt_zero _)⟩
  | i + 1, x => by
    unfold seen
    rw [Bool.or_eq_true, Bool.and_eq_true, decide_eq_true_eq, seen_iff c f l i x]
    constructor
    · rintro (⟨h1, h2⟩ | ⟨k, hk, h1, h2⟩)
      · exact ⟨i, Nat.lt_succ_self i, h1, h2⟩
      · exact ⟨k, Nat.lt_succ_of_lt hk, h1, h2⟩
    · rintro ⟨k, hk, h1, h2⟩
      by_cases e : k = i
      · subst e; exact .inl ⟨h1, h2⟩
      · exact .inr ⟨k, by omega, h1, h2⟩

/-- What holds at the head of a round of the document's loops. -/
def RefRel (p : Nat → Bool) (n : Nat) (w : World) (v : Value) (wr : World) : Prop := ∃ i : Nat, i ≤ n ∧ v = .int .i64 i ∧ Below w.heap.size w wr ∧ ∀ j, j < i → p j = false

theorem idx_same {p q : Nat → Bool} {n : Nat} (h1 : ∀ i, i < n → p i = true → q i = true) (h2 : ∀ i, i < n → q i = true → ∃ k, k ≤ i ∧ p k = true) : idx p n = idx q n := by
  rcases idx_cases q n with ⟨e, hn⟩ | ⟨i, hi, e, hq, hn⟩
  · rw [e]
    refine idx_none fun i hi => ?_
    cases hp : p i with
    | false => rfl
    | true => exact absurd (h1 i hi hp) (by rw [hn i hi]; simp)
  · rw [e]
    obtain ⟨k, hk, hp⟩ := h2 i hi hq
    have hki : k = i := by
      rcases Nat.lt_or_ge k i with h | h
      · exact absurd (h1 k (by omega) hp) (by rw [hn k h]; simp)
      · omega
    subst hki
    refine idx_some hi hp fun j hj => ?_
    cases hp : p j with
    | false => rfl
    | true => exact absurd (h1 j (by omega) hp) (by rw [hn j hj]; simp)
end Go.Proofs.Ytoingfnpffaopaa
