/- The first of rows: where they lie; the budget of them. Conditions: none. -/
import Derived.Test.YtoingfnpffaopaaApnd
import Derived.Test.YtoingfnpffaopaaRSets
namespace Go.Proofs.Ytoingfnpffaopaa
open Go.RowKit

theorem csb_mk {w : World} {b : Nat} {s : CS} (h : CsBox w b s) : CsB w b [.int .i64 s.s0, .bool s.s1, .int .i64 s.s2, .int .i64 s.s3, .int .i64 s.s4, .int .i64 s.s5, .int .i64 s.s6, .int .i64 s.s7, .int .i64 s.s8, .int .i64 s.s9, .int .i64 s.s10, .int .i64 s.s11, .int .i64 s.s12, .int .i64 s.s13, .int .i64 s.s14, .int .i64 s.s15, .int .i64 s.s16, .int .i64 s.s17, .int .i64 s.s18, .int .i64 s.s19, .int .i64 s.s20, .int .i64 s.s21, .int .i64 s.s22, .int .i64 s.s23, .int .i64 s.s24, .int .i64 s.s25] := ⟨rfl, h⟩

theorem RowsAt.take {w : World} {a : Option Addr} {l : List Rw} (h : RowsAt w a l) (k : Nat) (hk : k ≤ l.length) : RowsAt w a (l.take k) := by
  rcases h with rfl | ⟨b, off, h1, h2, h3⟩
  · exact .inl (by simp)
  · exact .inr ⟨b, off, h1, h2, fun i hi => by
      have hi' : i < k := by simp at hi; omega
      rw [getD_take l k i hi']
      exact h3 i (by omega)⟩

theorem take_len (l : List Rw) (k : Nat) (hk : k ≤ l.length) : (l.take k).length = k := by simp; omega

theorem bud_low (s : CS) (l : List Rw) (k : Nat) (hk : k ≤ l.length) (h : budI s l = -1 ∨ budI s l = k) : budI s (l.take k) = -1 := by
  unfold budI at h ⊢
  rw [take_len l k hk]
  split
  · rename_i hs
    rw [if_pos hs] at h
    exact idx_low (bud_loc s) l k hk h
  · rfl
theorem bud_up (s : CS) (l : List Rw) (k : Nat) (hk : k < l.length) (h : budI s l = k) : budI s (l.take (k + 1)) = k := by
  unfold budI at h ⊢
  rw [take_len l (k + 1) hk]
  split
  · rename_i hs
    rw [if_pos hs] at h
    exact idx_up (bud_loc s) l k h
  · rename_i hs
    rw [if_neg hs] at h
    omega
theorem bud_range (s : CS) (l : List Rw) : budI s l = -1 ∨ ∃ k : Nat, k < l.length ∧ budI s l = k := by
  unfold budI
  split
  · rcases idx_cases (budP s l) l.length with ⟨e, _⟩ | ⟨i, hi, e, _⟩
    · exact .inl e
    · exact .inr ⟨i, hi, e⟩
  · exact .inl rfl
theorem idx_range (p : Nat → Bool) (n : Nat) : idx p n = -1 ∨ ∃ k : Nat, k < n ∧ idx p n = k := by
  rcases idx_cases p n with ⟨e, _⟩ | ⟨i, hi, e, _⟩
  · exact .inl e
  · exact .inr ⟨i, hi, e⟩

/-- The five answers of rows. -/
def five (s : CS) (l : List Rw) : Nat → Int
  | 0 => idx (twiceP 3 l) l.length
  | 1 => idx (outP l) l.length
  | 2 => idx (pinP l) l.length
  | 3 => idx (truP l) l.length
  | _ => budI s l

theorem five_range (s : CS) (l : List Rw) (i : Nat) : five s l i = -1 ∨ ∃ k : Nat, k < l.length ∧ five s l i = k := by
  unfold five
  split
  all_goals first | exact idx_range _ _ | exact bud_range s l
theorem five_low (s : CS) (l : List Rw) (i k : Nat) (hk : k ≤ l.length) (h : five s l i = -1 ∨ five s l i = k) : five s (l.take k) i = -1 := by
  unfold five at h ⊢
  rw [take_len l k hk]
  split
  · exact idx_low (twice_loc 3) l k hk h
  · exact idx_low out_loc l k hk h
  · exact idx_low pin_loc' l k hk h
  · exact idx_low tru_loc l k hk h
  · simp only at h
    exact bud_low s l k hk h
theorem five_up (s : CS) (l : List Rw) (i k : Nat) (hk : k < l.length) (h : five s l i = k) : five s (l.take (k + 1)) i = k := by
  unfold five at h ⊢
  rw [take_len l (k + 1) hk]
  split
  · exact idx_up (twice_loc 3) l k h
  · exact idx_up out_loc l k h
  · exact idx_up pin_loc' l k h
  · exact idx_up tru_loc l k h
  · simp only at h
    exact bud_up s l k hk h

/-- The five calls on rows. -/
structure Five (cs : List Value) (a : Option Addr) (k cap : Nat) (f : Nat → Int) (w : World) : Prop where
  c0 : Calls Try.prog 9 #[.slice a k cap] w (Gives (.int .i64 (f 0)) w)
  c1 : Calls Try.prog 15 #[.slice a k cap] w (Gives (.int .i64 (f 1)) w)
  c2 : Calls Try.prog 19 #[.slice a k cap] w (Gives (.int .i64 (f 2)) w)
  c3 : Calls Try.prog 21 #[.slice a k cap] w (Gives (.int .i64 (f 3)) w)
  c4 : Calls Try.prog 10 #[.agg cs.toArray, .slice a k cap] w (Gives (.int .i64 (f 4)) w)

theorem five_calls (s : CS) (a : Option Addr) (l : List Rw) (k cap : Nat) (w : World) (hk : l.length = k) (hm : k ≤ maxLen) (hbig : k * 128 ≤ 140737488355328) (hr : RowsAt w a l) : Five [.int .i64 s.s0, .bool s.s1, .int .i64 s.s2, .int .i64 s.s3, .int .i64 s.s4, .int .i64 s.s5, .int .i64 s.s6, .int .i64 s.s7, .int .i64 s.s8, .int .i64 s.s9, .int .i64 s.s10, .int .i64 s.s11, .int .i64 s.s12, .int .i64 s.s13, .int .i64 s.s14, .int .i64 s.s15, .int .i64 s.s16, .int .i64 s.s17, .int .i64 s.s18, .int .i64 s.s19, .int .i64 s.s20, .int .i64 s.s21, .int .i64 s.s22, .int .i64 s.s23, .int .i64 s.s24, .int .i64 s.s25] a k cap (five s l) w := by
  subst hk
  exact ⟨once_any a l cap w hm hr, outcomes_any a l cap w hm hr, pins_any a l cap w hm hr, true_any a l cap w hm hbig hr, budget_any s a l cap w hm hr⟩
end Go.Proofs.Ytoingfnpffaopaa
