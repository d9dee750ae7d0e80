/- The walk of BucketEmpty: it hands back true. Condition: the slice reads as the list, and is no longer than the reach. -/
import Derived.Test.YtaaebnfagbiaiaaBound
namespace Go.Proofs.Ytaaebnfagbiaiaa
open Go.RowKit

theorem tmod_in (n : Int) : -1000 < n.tmod 1000 ∧ n.tmod 1000 < 1000 := by
  rcases Int.le_total 0 n with h | h
  · rw [Int.tmod_eq_emod_of_nonneg h]
    omega
  · have e : n.tmod 1000 = -((-n).tmod 1000) := by rw [Int.neg_tmod, Int.neg_neg]
    rw [e, Int.tmod_eq_emod_of_nonneg (by omega)]
    omega

theorem empty_comes (k : Int) (l : List Int) (h : SetsP 0 0 0 k) (hk : 0 ≤ k) : ∃ e, Comes 0 0 0 k l 0 0 e ∧ (e = 0 ∨ 0 < l.length) := by
  obtain ⟨x, y, e, hC⟩ := comes_some 0 0 0 k l
  cases hC with
  | no h2 => exact absurd h h2
  | long h h2 => exact ⟨3, .long h h2, .inr (by omega)⟩
  | kind h h2 h3 =>
    refine ⟨23, .kind h h2 h3, .inr ?_⟩
    obtain ⟨x, hx, _⟩ := h3
    exact List.length_pos_of_mem hx
  | ok h h2 h3 =>
    refine ⟨0, ?_, .inl rfl⟩
    have := Comes.ok h h2 h3
    rwa [acts_empty k hk l] at this

set_option maxHeartbeats 2000000 in
theorem empty_walk (top : Int) (a : Option Addr) (l : List Int) (cap : Nat) (w : World) (hl : IntsAt w a l) (hm : l.length ≤ maxLen) :
    Calls Try.prog 5 #[.int .i64 top, .slice a l.length cap] w (Gives (.bool true) w) := by
  have HL := Lib.hid hl
  have HM := Lib.hid hm
  obtain ⟨t0, t1⟩ := tmod_in top
  clear hl hm
  go_enter Try.func5, Try.ntmps5
  go_wp2_with (fail)
  refine (alive_any _).mono ?_
  rintro e1 w1 ⟨rfl, hb⟩
  have HB := Lib.hid hb
  clear hb
  go_wp2_with (fail)
  have k0 : 0 ≤ top.tmod 1000 % 1000 := by omega
  have k1 : top.tmod 1000 % 1000 ≤ 1000 := by omega
  generalize top.tmod 1000 % 1000 = k at *
  have hS : SetsP 0 0 0 k := ⟨by omega, by omega, by omega, by omega, by omega, by omega, by omega⟩
  obtain ⟨e, hC, he⟩ := empty_comes k l hS k0
  have HE := Lib.hid he
  clear he
  refine (run_comes hC _ _ _ (HL.out.below (below_alloc HB.out _) (Nat.le_refl _)) HM.out).mono ?_
  rintro e1 w2 ⟨rfl, hb⟩
  have HB2 := Lib.hid (below_step (below_alloc HB.out _) hb)
  have HM2 : Hid (l.length ≤ maxLen) := HM.out
  clear hb hC hS
  unfold maxLen at HM2
  have hm2 := HM2.out
  by_cases h0 : e = 0
  · subst h0
    go_wp2_with (go_at_call 11; refine (num_any _ _).mono ?_; rintro e1 w3 ⟨rfl, rfl⟩)
    go_ret
    exact ⟨rfl, HB2.out⟩
  · have h1 : 0 < l.length := by
      rcases HE.out with h | h
      · exact absurd h h0
      · exact h
    go_wp2_with (go_at_call 11; refine (num_any _ _).mono ?_; rintro e1 w3 ⟨rfl, rfl⟩)
    go_ret
    exact ⟨ret_bool (by simp <;> omega), HB2.out⟩
end Go.Proofs.Ytaaebnfagbiaiaa
