/- JudgeTells: of any settings and rows, the first fault of each kind, and the first of all, are as the document says. No condition. -/
import Derived.Test.YtoingfnpffaopaaRows
import Derived.Test.YtoingfnpffaopaaTells
import Derived.Test.YtoingfnpffaopaaFlat
import Derived.Test.YtoingfnpffaopaaOpen
import Derived.WalkKit
import Derived.ProofKit
import Derived.OpenShut
import Derived.ShutString
import Derived.ChangeOld
import Derived.Below
import Derived.SizedLaws
namespace Go.Proofs.Ytoingfnpffaopaa.judgeTells
open Go.ChangeShapes Go.WideShapes Go.ChangeAt Go.RowKit
set_option linter.unusedVariables false
theorem own : ownKnob Try.prog.godebug = none := by kernel_rfl
theorem laidOut : laidOutB Try.prog = true := by kernel_rfl
theorem flat0 : flat Try.prog 4 43 = some [.int .i64, .bool, .int .i64, .int .i64, .int .i64, .int .i64, .int .i64, .int .i64, .int .i64, .int .i64, .int .i64, .int .i64, .int .i64, .int .i64, .int .i64, .int .i64, .int .i64, .int .i64, .int .i64, .int .i64, .int .i64, .int .i64, .int .i64, .int .i64, .int .i64, .int .i64] := by kernel_rfl
theorem flat1 : flat Try.prog 3 30 = some [.int .i64, .int .i64, .int .i64, .int .i64, .int .i64, .int .i64, .int .i64, .int .i64, .int .i64, .int .i64, .int .i64, .int .i64, .int .i64, .int .i64, .int .i64, .int .i64] := by kernel_rfl
set_option maxRecDepth 100000 in
theorem lifted (os : Os) (started : os.Started) (H : Type) (enc : TypeId × Value → H) :
    ReturnsInHanded {} Try.checked os 5 .any (Rows.judgeTellsSpec.pre6 enc Try.prog Try.f5 Rows.judgeTellsRow.domain false) (Rows.judgeTellsSpec.post enc Try.prog Try.f5 false true false false) := by
  refine returnsInHanded_of_change_sized (C := Try.checked) own started (by kernel_rfl) Try.func5
    (ChangeSpec.witness6 (enc := enc) (C := Try.checked) false ⟨#[], #[.agg #[.int .i64 0, .bool false, .int .i64 0, .int .i64 0, .int .i64 0, .int .i64 0, .int .i64 0, .int .i64 0, .int .i64 0, .int .i64 0, .int .i64 0, .int .i64 0, .int .i64 0, .int .i64 0, .int .i64 0, .int .i64 0, .int .i64 0, .int .i64 0, .int .i64 0, .int .i64 0, .int .i64 0, .int .i64 0, .int .i64 0, .int .i64 0, .int .i64 0, .int .i64 0], .slice none 0 0], []⟩ 8 (by kernel_rfl) (by kernel_rfl) (by kernel_rfl) (by kernel_rfl)) ?_
  intro W base args ds gs before hval0 hW hcnd hsz0 _
  have hsz : (DataW.weightsEach Try.prog (Try.f5.params.toList ++ Rows.judgeTellsSpec.plain.varTypes Try.prog) (ds ++ gs)).all (· ≤ reachBytes) = true := hsz0
  have hval : ∀ (j : Nat) t v, Try.f5.params[j]? = some t → args[j]? = some v → Value.okWide Try.prog W .any base t v := hval0
  have hW' := hW
  obtain ⟨p, q, hA0, hV, rfl, hfz, hnd⟩ := hW
  have hA : DataW.TrodAll enc Try.prog W 0 (fun _ => true) true Try.f5.params.toList args.toList ds p := hA0
  rw [Try.params5] at hA hval hsz
  obtain ⟨v0, vs0, d0, ds0, p0, q0, hargs, rfl, rfl, h0, r0⟩ := trodAll_cons hA
  obtain ⟨v1, vs1, d1, ds1, p1, q1, rfl, rfl, rfl, h1, r1⟩ := trodAll_cons r0
  obtain ⟨rfl, rfl, rfl⟩ := trodAll_nil r1
  obtain rfl : args = #[v0, v1] := by cases args; simp_all
  obtain ⟨rfl, rfl⟩ := trodVars_none hV
  have k0 := h0
  have lt0 : ∀ x ∈ p0, x.block < W.heap.size := by obtain ⟨m, hm⟩ := k0; exact DataW.trod_lt m _ _ _ hm
  have k1 := h1
  have lt1 : ∀ x ∈ p1, x.block < W.heap.size := by obtain ⟨m, hm⟩ := k1; exact DataW.trod_lt m _ _ _ hm
  obtain ⟨cs0, rfl, t0_0⟩ := flat_arg flat0 Try.underlying43 (hval 0 43 v0 rfl rfl) h0
  obtain ⟨c0_0, rs0_0, rfl, w0_0, t0_1⟩ := t0_0.int
  obtain ⟨c0_1, rs0_1, rfl, t0_2⟩ := t0_1.bool
  obtain ⟨c0_2, rs0_2, rfl, w0_2, t0_3⟩ := t0_2.int
  obtain ⟨c0_3, rs0_3, rfl, w0_3, t0_4⟩ := t0_3.int
  obtain ⟨c0_4, rs0_4, rfl, w0_4, t0_5⟩ := t0_4.int
  obtain ⟨c0_5, rs0_5, rfl, w0_5, t0_6⟩ := t0_5.int
  obtain ⟨c0_6, rs0_6, rfl, w0_6, t0_7⟩ := t0_6.int
  obtain ⟨c0_7, rs0_7, rfl, w0_7, t0_8⟩ := t0_7.int
  obtain ⟨c0_8, rs0_8, rfl, w0_8, t0_9⟩ := t0_8.int
  obtain ⟨c0_9, rs0_9, rfl, w0_9, t0_10⟩ := t0_9.int
  obtain ⟨c0_10, rs0_10, rfl, w0_10, t0_11⟩ := t0_10.int
  obtain ⟨c0_11, rs0_11, rfl, w0_11, t0_12⟩ := t0_11.int
  obtain ⟨c0_12, rs0_12, rfl, w0_12, t0_13⟩ := t0_12.int
  obtain ⟨c0_13, rs0_13, rfl, w0_13, t0_14⟩ := t0_13.int
  obtain ⟨c0_14, rs0_14, rfl, w0_14, t0_15⟩ := t0_14.int
  obtain ⟨c0_15, rs0_15, rfl, w0_15, t0_16⟩ := t0_15.int
  obtain ⟨c0_16, rs0_16, rfl, w0_16, t0_17⟩ := t0_16.int
  obtain ⟨c0_17, rs0_17, rfl, w0_17, t0_18⟩ := t0_17.int
  obtain ⟨c0_18, rs0_18, rfl, w0_18, t0_19⟩ := t0_18.int
  obtain ⟨c0_19, rs0_19, rfl, w0_19, t0_20⟩ := t0_19.int
  obtain ⟨c0_20, rs0_20, rfl, w0_20, t0_21⟩ := t0_20.int
  obtain ⟨c0_21, rs0_21, rfl, w0_21, t0_22⟩ := t0_21.int
  obtain ⟨c0_22, rs0_22, rfl, w0_22, t0_23⟩ := t0_22.int
  obtain ⟨c0_23, rs0_23, rfl, w0_23, t0_24⟩ := t0_23.int
  obtain ⟨c0_24, rs0_24, rfl, w0_24, t0_25⟩ := t0_24.int
  obtain ⟨c0_25, rs0_25, rfl, w0_25, t0_26⟩ := t0_25.int
  obtain rfl := t0_26.nil
  obtain ⟨a1, len1, cap1, rfl⟩ := okWide_slice Try.underlying22 (hval 1 22 v1 rfl rfl)
  obtain ⟨g1, e1, f1, z1⟩ := flat_slice flat1 (by kernel_rfl) (by decide) Try.underlying22 h1
  have y1 := flat_reach (j := 1) (B := 128) hsz rfl rfl Try.underlying22 (by kernel_rfl) z1
  have m1 : len1 ≤ maxLen := Nat.le_trans g1 e1
  obtain ⟨l1, rfl, rd1⟩ := rows_at f1
  clear hA0 hval0 hsz0
  refine (tells_walk ⟨c0_0, c0_1, c0_2, c0_3, c0_4, c0_5, c0_6, c0_7, c0_8, c0_9, c0_10, c0_11, c0_12, c0_13, c0_14, c0_15, c0_16, c0_17, c0_18, c0_19, c0_20, c0_21, c0_22, c0_23, c0_24, c0_25⟩ a1 l1 cap1 W m1 (Nat.le_trans y1 (by decide)) rd1).mono fun e W' ⟨he, bel⟩ => ?_
  subst he
  exact ⟨_, rfl, _, _, _, [], _, [], hW', trodAll_mk1 (shut_bool Try.underlying4 _), (trodAll_cons_mk (Below.trod laidOut (by kernel_rfl) (of_decide_eq_true (by kernel_rfl)) k0 bel lt0) (trodAll_cons_mk (Below.trod laidOut (by kernel_rfl) (of_decide_eq_true (by kernel_rfl)) k1 bel lt1) trodAll_mk0)), rfl, bel.frame _, fun h => by cases h⟩
theorem over : Rows.judgeTellsRow.holds Try.pinned (OpenSpec.ofChange Rows.judgeTellsSpec) :=
  OpenClaim.holds_of_wide 5 Try.f5 rfl rfl rfl rfl rfl rfl rfl ⟨rfl, rfl, rfl, rfl, rfl⟩ rfl rfl rfl rfl rfl (by kernel_rfl) Try.func5 (by kernel_rfl)
    (of_decide_eq_true (by kernel_rfl)) (by unfold Func.isWrapper; first | (rw [if_pos (by decide +kernel)]; kernel_rfl) | (rw [if_neg (by decide +kernel)]; exact ⟨rfl, rfl⟩))
    (fun os started H enc _ => lifted os started H enc)
end Go.Proofs.Ytoingfnpffaopaa.judgeTells
namespace Go.Proofs.Ytoingfnpffaopaa
/-- The statement. -/
theorem judgeTells_holds : Rows.JudgeTellsSaid := judgeTells.over
end Go.Proofs.Ytoingfnpffaopaa
