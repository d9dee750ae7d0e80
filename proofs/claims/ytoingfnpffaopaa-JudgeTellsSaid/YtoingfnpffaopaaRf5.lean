/- What the document's Outcomes hands back. Conditions: none. -/
import Derived.Test.YtoingfnpffaopaaRgO
import Derived.Test.YtoingfnpffaopaaOut5
import Derived.Deep.DeepCutAuto
namespace Go.Proofs.Ytoingfnpffaopaa
open Go.RowKit

/-- What holds at the head of a round, from behind. -/
def OutRel (l : List Rw) (i : Nat) (w : World) (v : Value) (wr : World) : Prop :=
  (v = .int .i64 (-1) ∧ openO l i (l.getD i Rw.zero).ckey = none ∧ Below w.heap.size w wr) ∨
  ∃ m : Nat, v = .int .i64 m ∧ m < i ∧ openO l i (l.getD i Rw.zero).ckey = openO l (m + 1) (l.getD i Rw.zero).ckey ∧ Below w.heap.size w wr

theorem out_start (l : List Rw) (i : Nat) (w wr : World) (hb : Below w.heap.size w wr) : OutRel l i w (.int .i64 ((i : Int) - 1)) wr := by
  cases i with
  | zero => exact .inl ⟨by rfl, rfl, hb⟩
  | succ m => exact .inr ⟨m, by rw [show (((m + 1 : Nat) : Int) - 1) = (m : Int) by omega], Nat.lt_succ_self m, rfl, hb⟩
theorem out_next (l : List Rw) (i m : Nat) (w wr : World) (hm : m < i) (h : openO l i (l.getD i Rw.zero).ckey = openO l (m + 1) (l.getD i Rw.zero).ckey) (hn : outR l i m = false) (hb : Below w.heap.size w wr) : OutRel l i w (.int .i64 ((m : Int) - 1)) wr := by
  rw [open_skip hn] at h
  cases m with
  | zero => exact .inl ⟨by rfl, h, hb⟩
  | succ m => exact .inr ⟨m, by rw [show (((m + 1 : Nat) : Int) - 1) = (m : Int) by omega], by omega, h, hb⟩

set_option maxHeartbeats 16000000 in
set_option maxRecDepth 100000 in
theorem rout_any (a : Option Addr) (l : List Rw) (cap : Nat) (w : World) (hm : l.length ≤ maxLen) (hr : RowsAt w a l) :
    Calls Try.prog 16 #[.slice a l.length cap] w (Gives (.int .i64 (idx (outP l) l.length)) w) := by
  unfold maxLen at hm
  have HR := Lib.hid hr
  clear hr
  go_enter Try.func16, Try.ntmps16
  go_wp2
  go_loopw [3] (fun vi wr => RefRel (outP l) l.length w vi wr) (fun i _ => l.length - (intOf i).toNat)
  case atStart => exact ⟨0, Nat.zero_le _, rfl, Below.refl _ _, fun j hj => absurd hj (Nat.not_lt_zero _)⟩
  case round =>
    obtain ⟨i, hi, rfl, hb, hn⟩ := hrel
    have HB := Lib.hid hb
    have HN := Lib.hid hn
    clear hb hn
    by_cases hlt : i < l.length
    · obtain ⟨b, off, hab, hbw, hA⟩ := (HR.out.below HB.out (Nat.le_refl _)).at hlt
      have i2 : (i : Int) < (l.length : Int) := by omega
      obtain ⟨R, hR⟩ : ∃ R, l.getD i Rw.zero = R := ⟨_, rfl⟩
      rw [hR] at hA
      have HRR := Lib.hid hR
      obtain ⟨q0, q1, q2, q3, q4, q5, q6, q7, q8, q9, q10, q11, q12, q13, q14, q15⟩ := hA
      clear hR hbw
      cases hab
      by_cases h5 : R.kind = 5
      · have d5 : decide (R.kind = 5) = true := decide_eq_true h5
        have e5 : (R.kind == 5) = true := d5
        have f5 : (R.kind != 5) = false := by rw [bne, e5]; rfl
        have H5 := Lib.hid (show (l.getD i Rw.zero).kind = 5 by rw [HRR.out]; exact h5)
        clear h5
        go_wp2
        clear q0 q1 q2 q3 q4 q5 q6 q7 q8 q9 q10 q11 q12 q13 q14 q15
        go_loopw [4] (fun vk wr => OutRel l i w vk wr) (fun k _ => (intOf k + 1).toNat)
        case atStart => exact out_start l i w _ HB.out
        case round =>
          rcases hrel with ⟨rfl, ho, hb⟩ | ⟨m, rfl, hmi, ho, hb⟩
          · have HO := Lib.hid (out_none H5.out ho)
            have HBK := Lib.hid hb
            clear ho hb
            go_upto_region 6 with fail
            go_quiet (fail)
            go_wp2
            go_ret
            exact ⟨ret_int (idx_some hlt HO.out HN.out).symm, below_drewN HBK.out _⟩
          · have HO := Lib.hid ho
            have HBK := Lib.hid hb
            clear ho hb
            obtain ⟨b1, off1, e1, hbw, hA⟩ := (HR.out.below HBK.out (Nat.le_refl _)).at hlt
            cases e1
            obtain ⟨b3, off3, e3, _, hS⟩ := (HR.out.below HBK.out (Nat.le_refl _)).at (i := m) (by omega)
            cases e3
            have i1 : (m : Int) < (l.length : Int) := by omega
            have HA := Lib.hid hA
            have HS := Lib.hid hS
            have HBW2 := Lib.hid hbw
            clear hA hS hbw
            go_upto_region 6 with fail
            go_cut [48] (fun s48 wx => s48 = .bool (!outR l i m) ∧ Below wr.heap.size wr wx)
            case first =>
              rename_i J K' hJ hK'
              refine outreg i m b off l.length cap _ _ wr _ _ _ _ _ _ _ _ _ _ _ _ _ _ _ _ _ _ _ _ _ _ _ _ _ _ _ _ _ _ _ _ _ _ _ _ _ _ _ _ _ _ _ _ _ _ _ _ _ _ _ _ _ _ _ _ _ _ _ _ _ HBW2.out i1 i2 HA.out HS.out ?_
              intro y19 y20 y21 y22 y23 y24 y25 y26 y27 y28 y29 y30 y31 y32 y33 y34 y35 y36 y37 y38 y39 y40 y41 y42 y43 y44 y45 y46 y47 wz hbz
              refine hK' _ _ (Met.intro (hJ _ _ ?_))
              (try dsimp only)
              (repeat apply Exists.intro)
              exact ⟨⟨rfl, hbz⟩, rfl⟩
            case rest =>
              obtain ⟨rfl, hbc⟩ := hcut
              have HBY := Lib.hid (below_step HBK.out hbc)
              clear hbc
              cases hv : outR l i m with
              | false =>
                have HVV := Lib.hid (out_next l i m w wc hmi HO.out hv HBY.out)
                clear hv
                go_wp2
                go_roundw
                case rel => exact HVV.out
                case measure => simp [intOf] <;> omega
              | true =>
                have hx := open_hit hv
                rw [← HO.out] at hx
                have hq := out_some H5.out hx
                have hk1 : (l.getD m Rw.zero).kind = 1 ∨ ((l.getD m Rw.zero).kind = 5) := by
                  unfold outR at hv
                  simp only [Bool.and_eq_true, Bool.or_eq_true, decide_eq_true_eq] at hv
                  exact hv.2
                obtain ⟨b4, off4, e4, _, hS⟩ := (HR.out.below HBY.out (Nat.le_refl _)).at (i := m) (by omega)
                cases e4
                obtain ⟨S, hSS⟩ : ∃ S, l.getD m Rw.zero = S := ⟨_, rfl⟩
                rw [hSS] at hS hq hk1
                obtain ⟨q0, q1, q2, q3, q4, q5, q6, q7, q8, q9, q10, q11, q12, q13, q14, q15⟩ := hS
                have j1 : (0 : Int) ≤ (m : Int) := by omega
                clear hv hx hSS
                rcases hk1 with hk1 | hk5
                · have HQ := Lib.hid (show outP l i = false by rw [hq, decide_eq_true hk1]; rfl)
                  have g1 : decide (S.kind = 5) = false := decide_eq_false (by omega)
                  have g2 : (S.kind == 5) = false := g1
                  clear hq hk1
                  go_wp2
                  go_roundw
                  case rel => exact ⟨i + 1, by omega, by go_num, HBY.out, fun j hj => by
                    rcases Nat.lt_or_ge j i with h | h
                    · exact HN.out j h
                    · obtain rfl : j = i := by omega
                      exact HQ.out⟩
                  case measure => simp [intOf]; omega
                · have HQ := Lib.hid (show outP l i = true by rw [hq, decide_eq_false (show ¬ S.kind = 1 by omega)]; rfl)
                  have g1 : decide (S.kind = 5) = true := decide_eq_true hk5
                  have g2 : (S.kind == 5) = true := g1
                  clear hq hk5
                  go_wp2
                  go_ret
                  exact ⟨ret_int (idx_some hlt HQ.out HN.out).symm, HBY.out⟩
      · have d5 : decide (R.kind = 5) = false := decide_eq_false h5
        have e5 : (R.kind == 5) = false := d5
        have f5 : (R.kind != 5) = true := by rw [bne, e5]; rfl
        have HQ := Lib.hid (out_not (show (l.getD i Rw.zero).kind ≠ 5 by rw [HRR.out]; exact h5))
        clear h5
        go_wp2
        go_roundw
        case rel => exact ⟨i + 1, by omega, by go_num, HB.out, fun j hj => by
          rcases Nat.lt_or_ge j i with h | h
          · exact HN.out j h
          · obtain rfl : j = i := by omega
            exact HQ.out⟩
        case measure => simp [intOf]; omega
    · obtain rfl : i = l.length := by omega
      go_wp2
      go_ret
      exact ⟨ret_int (idx_none HN.out).symm, HB.out⟩
end Go.Proofs.Ytoingfnpffaopaa
