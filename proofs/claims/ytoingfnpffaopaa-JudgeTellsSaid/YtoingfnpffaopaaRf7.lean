/- What the document's Budget hands back. Conditions: none. -/
import Derived.Test.YtoingfnpffaopaaRf1
import Derived.Test.YtoingfnpffaopaaRSets
import Derived.Deep.DeepCutAuto
namespace Go.Proofs.Ytoingfnpffaopaa
open Go.RowKit

/-- What holds at the head of a round of the counts. -/
def CntRel (l : List Rw) (c : Int) (i : Nat) (w : World) (v6 v7 v8 v9 : Value) (wr : World) : Prop :=
  ∃ k : Nat, k ≤ i + 1 ∧ v6 = .int .i64 (cnt l 1 c k) ∧ v7 = .int .i64 (cnt l 11 c k) ∧ v8 = .int .i64 (cnt l 2 c k) ∧ v9 = .int .i64 k ∧ Below w.heap.size w wr

theorem cnt_next {l : List Rw} {K c : Int} {k : Nat} {S : Rw} (h : l.getD k Rw.zero = S) : cnt l K c (k + 1) = if S.client = c ∧ S.kind = K then wrap64 (cnt l K c k + 1) else cnt l K c k := by
  subst h
  rfl

set_option maxHeartbeats 16000000 in
set_option maxRecDepth 100000 in
theorem rbud_no (s : CS) (a : Option Addr) (l : List Rw) (cap : Nat) (w : World) (hs : bsets s.s13 s.s14 s.s15 s.s16 = false) :
    Calls Try.prog 23 #[.agg #[.int .i64 s.s0, .bool s.s1, .int .i64 s.s2, .int .i64 s.s3, .int .i64 s.s4, .int .i64 s.s5, .int .i64 s.s6, .int .i64 s.s7, .int .i64 s.s8, .int .i64 s.s9, .int .i64 s.s10, .int .i64 s.s11, .int .i64 s.s12, .int .i64 s.s13, .int .i64 s.s14, .int .i64 s.s15, .int .i64 s.s16, .int .i64 s.s17, .int .i64 s.s18, .int .i64 s.s19, .int .i64 s.s20, .int .i64 s.s21, .int .i64 s.s22, .int .i64 s.s23, .int .i64 s.s24, .int .i64 s.s25], .slice a l.length cap] w (Gives (.int .i64 (-1)) w) := by
  have HS := Lib.hid hs
  have hB := Lib.hid (below_alloc (Below.refl w.heap.size w) (.cells #[.int .i64 s.s0, .bool s.s1, .int .i64 s.s2, .int .i64 s.s3, .int .i64 s.s4, .int .i64 s.s5, .int .i64 s.s6, .int .i64 s.s7, .int .i64 s.s8, .int .i64 s.s9, .int .i64 s.s10, .int .i64 s.s11, .int .i64 s.s12, .int .i64 s.s13, .int .i64 s.s14, .int .i64 s.s15, .int .i64 s.s16, .int .i64 s.s17, .int .i64 s.s18, .int .i64 s.s19, .int .i64 s.s20, .int .i64 s.s21, .int .i64 s.s22, .int .i64 s.s23, .int .i64 s.s24, .int .i64 s.s25] 43))
  clear hs
  go_enter Try.func23, Try.ntmps23
  go_wp2_with (fail)
  refine (rsets_any _ _ _ _ _).mono ?_
  rw [HS.out]
  rintro e w1 ⟨rfl, hb⟩
  have HB := Lib.hid (below_step hB.out hb)
  clear hb hB
  go_wp2
  go_ret
  exact ⟨rfl, HB.out⟩

set_option maxHeartbeats 16000000 in
set_option maxRecDepth 100000 in
theorem rbud_yes (s : CS) (a : Option Addr) (l : List Rw) (cap : Nat) (w : World) (hm : l.length ≤ maxLen) (hr : RowsAt w a l) (hs : bsets s.s13 s.s14 s.s15 s.s16 = true) :
    Calls Try.prog 23 #[.agg #[.int .i64 s.s0, .bool s.s1, .int .i64 s.s2, .int .i64 s.s3, .int .i64 s.s4, .int .i64 s.s5, .int .i64 s.s6, .int .i64 s.s7, .int .i64 s.s8, .int .i64 s.s9, .int .i64 s.s10, .int .i64 s.s11, .int .i64 s.s12, .int .i64 s.s13, .int .i64 s.s14, .int .i64 s.s15, .int .i64 s.s16, .int .i64 s.s17, .int .i64 s.s18, .int .i64 s.s19, .int .i64 s.s20, .int .i64 s.s21, .int .i64 s.s22, .int .i64 s.s23, .int .i64 s.s24, .int .i64 s.s25], .slice a l.length cap] w (Gives (.int .i64 (idx (budP s l) l.length)) w) := by
  unfold maxLen at hm
  have HS := Lib.hid hs
  have HR := Lib.hid hr
  have hB := Lib.hid (below_alloc (Below.refl w.heap.size w) (.cells #[.int .i64 s.s0, .bool s.s1, .int .i64 s.s2, .int .i64 s.s3, .int .i64 s.s4, .int .i64 s.s5, .int .i64 s.s6, .int .i64 s.s7, .int .i64 s.s8, .int .i64 s.s9, .int .i64 s.s10, .int .i64 s.s11, .int .i64 s.s12, .int .i64 s.s13, .int .i64 s.s14, .int .i64 s.s15, .int .i64 s.s16, .int .i64 s.s17, .int .i64 s.s18, .int .i64 s.s19, .int .i64 s.s20, .int .i64 s.s21, .int .i64 s.s22, .int .i64 s.s23, .int .i64 s.s24, .int .i64 s.s25] 43))
  have hX := Lib.hid (CsBox.new w w.heap.size rfl s)
  clear hs hr
  go_enter Try.func23, Try.ntmps23
  go_wp2_with (fail)
  refine (rsets_any _ _ _ _ _).mono ?_
  rw [HS.out]
  rintro e w1 ⟨rfl, hb⟩
  have HB1 := Lib.hid (below_step hB.out hb)
  have HX1 := Lib.hid (hX.out.kept hb)
  have HR1 := Lib.hid (HR.out.below HB1.out (Nat.le_refl _))
  clear hb hB hX HS HR
  go_wp2
  go_loopw [5] (fun vi wr => RefRel (budP s l) l.length w1 vi wr) (fun i _ => l.length - (intOf i).toNat)
  case atStart => exact ⟨0, Nat.zero_le _, rfl, Below.refl _ _, fun j hj => absurd hj (Nat.not_lt_zero _)⟩
  case round =>
    obtain ⟨i, hi, rfl, hb, hn⟩ := hrel
    have HB := Lib.hid hb
    have HN := Lib.hid hn
    clear hb hn
    by_cases hlt : i < l.length
    · obtain ⟨b, off, hab, hbw, hA⟩ := (HR1.out.below HB.out (Nat.le_refl _)).at hlt
      have i0 : (i : Int) < (l.length : Int) := by omega
      obtain ⟨R, hR⟩ : ∃ R, l.getD i Rw.zero = R := ⟨_, rfl⟩
      rw [hR] at hA
      have HRR := Lib.hid hR
      have HAT := Lib.hid (fun (w' : World) (h : Below wr.heap.size wr w') => hA.below h hbw)
      obtain ⟨q0, q1, q2, q3, q4, q5, q6, q7, q8, q9, q10, q11, q12, q13, q14, q15⟩ := hA
      clear hR hbw
      cases hab
      by_cases h1 : R.kind = 2
      · have d1 : decide (R.kind = 2) = true := decide_eq_true h1
        have e1 : (R.kind == 2) = true := by simpa using h1
        have f1 : (R.kind != 2) = false := by rw [bne, e1]; rfl
        have HV : Hid (budP s l i = decide (allow s (cnt l 1 R.client (i + 1)) (cnt l 11 R.client (i + 1)) < cnt l 2 R.client (i + 1))) := by
          show budP s l i = _
          unfold budP
          rw [HRR.out, d1, Bool.true_and]
        clear h1
        go_wp2
        go_loopw [6, 7, 8, 9] (fun v6 v7 v8 v9 wr => CntRel l R.client i w1 v6 v7 v8 v9 wr) (fun _ _ _ k _ => i + 1 - (intOf k).toNat)
        case atStart => exact ⟨0, Nat.zero_le _, rfl, rfl, rfl, rfl, HB.out⟩
        case round =>
          obtain ⟨k, hk, rfl, rfl, rfl, rfl, hb⟩ := hrel
          have HBK := Lib.hid hb
          clear hb q0 q1 q2 q3 q4 q5 q6 q7 q8 q9 q10 q11 q12 q13 q14 q15
          by_cases hkt : k < i + 1
          · obtain ⟨b2, off2, hab2, hbw2, hC⟩ := (HR1.out.below HBK.out (Nat.le_refl _)).at (i := k) (by omega)
            cases hab2
            obtain ⟨b3, off3, hab3, hbw3, hA⟩ := (HR1.out.below HBK.out (Nat.le_refl _)).at (i := i) (by omega)
            cases hab3
            rw [HRR.out] at hA
            obtain ⟨S, hS⟩ : ∃ S, l.getD k Rw.zero = S := ⟨_, rfl⟩
            rw [hS] at hC
            have hc1 := cnt_next (K := 1) (c := R.client) hS
            have hc2 := cnt_next (K := 2) (c := R.client) hS
            have hc11 := cnt_next (K := 11) (c := R.client) hS
            have i1 : (k : Int) < (l.length : Int) := by omega
            have i2 : (k : Int) ≤ (i : Int) := by omega
            have i3 : (k : Int) < (i : Int) + 1 := by omega
            obtain ⟨q0, q1, q2, q3, q4, q5, q6, q7, q8, q9, q10, q11, q12, q13, q14, q15⟩ := hA
            obtain ⟨p0, p1, p2, p3, p4, p5, p6, p7, p8, p9, p10, p11, p12, p13, p14, p15⟩ := hC
            clear hbw2 hbw3 hS
            have hcase : (S.client ≠ R.client) ∨ (S.client = R.client ∧ S.kind = 1) ∨ (S.client = R.client ∧ S.kind = 2) ∨ (S.client = R.client ∧ S.kind = 11) ∨ (S.client = R.client ∧ S.kind ≠ 1 ∧ S.kind ≠ 2 ∧ S.kind ≠ 11) := by omega
            rcases hcase with g | ⟨g, g2⟩ | ⟨g, g2⟩ | ⟨g, g2⟩ | ⟨g, g2, g3, g4⟩
            · have g1 : decide (S.client = R.client) = false := decide_eq_false g
              have g2 : (S.client == R.client) = false := by simpa using g
              have g3 : (S.client != R.client) = true := by rw [bne, g2]; rfl
              have E1 := Lib.hid (hc1.trans (if_neg fun h => g h.1))
              have E11 := Lib.hid (hc11.trans (if_neg fun h => g h.1))
              have E2 := Lib.hid (hc2.trans (if_neg fun h => g h.1))
              clear hc1 hc2 hc11 g
              go_upto_region 11 with fail
              go_quiet (fail)
              go_wp2
              go_roundw
              case rel => exact ⟨k + 1, by omega, by rw [E1.out], by rw [E11.out], by rw [E2.out], by go_num, below_drewN HBK.out _⟩
              case measure => simp [intOf]; omega
            · have b1 : decide (S.client = R.client) = true := decide_eq_true g
              have b2 : (S.client == R.client) = true := by simpa using g
              have b3 : (S.client != R.client) = false := by rw [bne, b2]; rfl
              have E1 := Lib.hid (hc1.trans (if_pos ⟨g, g2⟩))
              have E11 := Lib.hid (hc11.trans (if_neg fun h => by have := h.2; omega))
              have E2 := Lib.hid (hc2.trans (if_neg fun h => by have := h.2; omega))
              have k1 : decide (S.kind = 1) = true := decide_eq_true g2
              have kb1 : (S.kind == 1) = true := k1
              have k2 : decide (S.kind = 2) = false := decide_eq_false (by omega)
              have kb2 : (S.kind == 2) = false := k2
              have k11 : decide (S.kind = 11) = false := decide_eq_false (by omega)
              have kb11 : (S.kind == 11) = false := k11
              clear hc1 hc2 hc11 g g2
              go_upto_region 11 with fail
              go_quiet (fail)
              go_wp2
              go_roundw
              case rel => exact ⟨k + 1, by omega, by rw [E1.out], by rw [E11.out], by rw [E2.out], by go_num, below_drewN HBK.out _⟩
              case measure => simp [intOf]; omega
            · have b1 : decide (S.client = R.client) = true := decide_eq_true g
              have b2 : (S.client == R.client) = true := by simpa using g
              have b3 : (S.client != R.client) = false := by rw [bne, b2]; rfl
              have E1 := Lib.hid (hc1.trans (if_neg fun h => by have := h.2; omega))
              have E11 := Lib.hid (hc11.trans (if_neg fun h => by have := h.2; omega))
              have E2 := Lib.hid (hc2.trans (if_pos ⟨g, g2⟩))
              have k1 : decide (S.kind = 1) = false := decide_eq_false (by omega)
              have kb1 : (S.kind == 1) = false := k1
              have k2 : decide (S.kind = 2) = true := decide_eq_true g2
              have kb2 : (S.kind == 2) = true := k2
              have k11 : decide (S.kind = 11) = false := decide_eq_false (by omega)
              have kb11 : (S.kind == 11) = false := k11
              clear hc1 hc2 hc11 g g2
              go_upto_region 11 with fail
              go_quiet (fail)
              go_wp2
              go_roundw
              case rel => exact ⟨k + 1, by omega, by rw [E1.out], by rw [E11.out], by rw [E2.out], by go_num, below_drewN HBK.out _⟩
              case measure => simp [intOf]; omega
            · have b1 : decide (S.client = R.client) = true := decide_eq_true g
              have b2 : (S.client == R.client) = true := by simpa using g
              have b3 : (S.client != R.client) = false := by rw [bne, b2]; rfl
              have E1 := Lib.hid (hc1.trans (if_neg fun h => by have := h.2; omega))
              have E11 := Lib.hid (hc11.trans (if_pos ⟨g, g2⟩))
              have E2 := Lib.hid (hc2.trans (if_neg fun h => by have := h.2; omega))
              have k1 : decide (S.kind = 1) = false := decide_eq_false (by omega)
              have kb1 : (S.kind == 1) = false := k1
              have k2 : decide (S.kind = 2) = false := decide_eq_false (by omega)
              have kb2 : (S.kind == 2) = false := k2
              have k11 : decide (S.kind = 11) = true := decide_eq_true g2
              have kb11 : (S.kind == 11) = true := k11
              clear hc1 hc2 hc11 g g2
              go_upto_region 11 with fail
              go_quiet (fail)
              go_wp2
              go_roundw
              case rel => exact ⟨k + 1, by omega, by rw [E1.out], by rw [E11.out], by rw [E2.out], by go_num, below_drewN HBK.out _⟩
              case measure => simp [intOf]; omega
            · have b1 : decide (S.client = R.client) = true := decide_eq_true g
              have b2 : (S.client == R.client) = true := by simpa using g
              have b3 : (S.client != R.client) = false := by rw [bne, b2]; rfl
              have E1 := Lib.hid (hc1.trans (if_neg fun h => by have := h.2; omega))
              have E11 := Lib.hid (hc11.trans (if_neg fun h => by have := h.2; omega))
              have E2 := Lib.hid (hc2.trans (if_neg fun h => by have := h.2; omega))
              have k1 : decide (S.kind = 1) = false := decide_eq_false (by omega)
              have kb1 : (S.kind == 1) = false := k1
              have k2 : decide (S.kind = 2) = false := decide_eq_false (by omega)
              have kb2 : (S.kind == 2) = false := k2
              have k11 : decide (S.kind = 11) = false := decide_eq_false (by omega)
              have kb11 : (S.kind == 11) = false := k11
              clear hc1 hc2 hc11 g g2 g3 g4
              go_upto_region 11 with fail
              go_quiet (fail)
              go_wp2
              go_roundw
              case rel => exact ⟨k + 1, by omega, by rw [E1.out], by rw [E11.out], by rw [E2.out], by go_num, below_drewN HBK.out _⟩
              case measure => simp [intOf]; omega
          · obtain rfl : k = i + 1 := by omega
            have HX2 := Lib.hid (HX1.out.kept HBK.out)
            obtain ⟨c0, c1, c2, c3⟩ := HX2.out.bucket
            generalize cnt l 1 R.client (i + 1) = x1 at *
            generalize cnt l 11 R.client (i + 1) = x11 at *
            generalize cnt l 2 R.client (i + 1) = x2 at *
            cases hv : decide (allow s x1 x11 < x2) with
            | true =>
              have HVV := Lib.hid (show budP s l i = true by rw [HV.out]; exact hv)
              unfold allow at hv
              have hv2 := of_decide_eq_true hv
              go_wp2
              go_ret
              exact ⟨ret_int (idx_some hlt HVV.out HN.out).symm, HB1.out.trans (HBK.out.mono HB1.out.size)⟩
            | false =>
              have HVV := Lib.hid (show budP s l i = false by rw [HV.out]; exact hv)
              unfold allow at hv
              go_wp2
              go_roundw
              case rel => exact ⟨i + 1, by omega, by go_num, HBK.out, fun j hj => by
                rcases Nat.lt_or_ge j i with h | h
                · exact HN.out j h
                · obtain rfl : j = i := by omega
                  exact HVV.out⟩
              case measure => simp [intOf]; omega
      · have d1 : decide (R.kind = 2) = false := decide_eq_false h1
        have e1 : (R.kind == 2) = false := by simpa using h1
        have f1 : (R.kind != 2) = true := by rw [bne, e1]; rfl
        have HV : Hid (budP s l i = false) := by
          show budP s l i = _
          unfold budP
          rw [HRR.out, d1, Bool.false_and]
        clear h1
        go_wp2
        go_roundw
        case rel => exact ⟨i + 1, by omega, by go_num, HB.out, fun j hj => by
          rcases Nat.lt_or_ge j i with h | h
          · exact HN.out j h
          · obtain rfl : j = i := by omega
            exact HV.out⟩
        case measure => simp [intOf]; omega
    · obtain rfl : i = l.length := by omega
      go_wp2
      go_ret
      exact ⟨ret_int (idx_none HN.out).symm, HB1.out.trans (HB.out.mono HB1.out.size)⟩

theorem rbud_any (s : CS) (a : Option Addr) (l : List Rw) (cap : Nat) (w : World) (hm : l.length ≤ maxLen) (hr : RowsAt w a l) :
    Calls Try.prog 23 #[.agg #[.int .i64 s.s0, .bool s.s1, .int .i64 s.s2, .int .i64 s.s3, .int .i64 s.s4, .int .i64 s.s5, .int .i64 s.s6, .int .i64 s.s7, .int .i64 s.s8, .int .i64 s.s9, .int .i64 s.s10, .int .i64 s.s11, .int .i64 s.s12, .int .i64 s.s13, .int .i64 s.s14, .int .i64 s.s15, .int .i64 s.s16, .int .i64 s.s17, .int .i64 s.s18, .int .i64 s.s19, .int .i64 s.s20, .int .i64 s.s21, .int .i64 s.s22, .int .i64 s.s23, .int .i64 s.s24, .int .i64 s.s25], .slice a l.length cap] w (Gives (.int .i64 (budI s l)) w) := by
  unfold budI
  cases h : bsets s.s13 s.s14 s.s15 s.s16 with
  | true => exact rbud_yes s a l cap w hm hr h
  | false => exact rbud_no s a l cap w h
end Go.Proofs.Ytoingfnpffaopaa
