/- OutlierRow: of any settings, ends, tick: so many bad ends in a row are ripe, whatever came before; one good end behind them ends the row. No condition. -/
import Derived.Test.YtnhkfhjiolpimaaRows
import Derived.Test.YtnhkfhjiolpimaaLRow
import Derived.Test.YtnhkfhjiolpimaaFlat
import Derived.WalkKit
import Derived.ProofKit
import Derived.OpenShut
import Derived.ShutString
import Derived.ChangeOld
import Derived.Below
import Derived.SizedLaws
namespace Go.Proofs.Ytnhkfhjiolpimaa.outlierRow
open Go.ChangeShapes Go.WideShapes Go.ChangeAt Go.RowKit
set_option linter.unusedVariables false
theorem own : ownKnob Try.prog.godebug = none := by kernel_rfl
theorem laidOut : laidOutB Try.prog = true := by kernel_rfl
theorem flat0 : flat Try.prog 2 23 = some [.int .i64, .int .i64, .int .i64, .int .i64, .int .i64, .int .i64, .int .i64] := by kernel_rfl
theorem flat1 : flat Try.prog 1 4 = some [.bool] := by kernel_rfl
set_option maxRecDepth 100000 in
theorem lifted (os : Os) (started : os.Started) (H : Type) (enc : TypeId × Value → H) :
    ReturnsInHanded {} Try.checked os 7 .any (Rows.outlierRowSpec.pre6 enc Try.prog Try.f7 Rows.outlierRowRow.domain false) (Rows.outlierRowSpec.post enc Try.prog Try.f7 false true false false) := by
  refine returnsInHanded_of_change_sized (C := Try.checked) own started (by kernel_rfl) Try.func7
    (ChangeSpec.witness6 (enc := enc) (C := Try.checked) false ⟨#[], #[.agg #[.int .i64 0, .int .i64 0, .int .i64 0, .int .i64 0, .int .i64 0, .int .i64 0, .int .i64 0], .slice none 0 0, .int .i64 0], []⟩ 8 (by kernel_rfl) (by kernel_rfl) (by kernel_rfl) (by kernel_rfl)) ?_
  intro W base args ds gs before hval0 hW hcnd hsz0 _
  have hsz : (DataW.weightsEach Try.prog (Try.f7.params.toList ++ Rows.outlierRowSpec.plain.varTypes Try.prog) (ds ++ gs)).all (· ≤ reachBytes) = true := hsz0
  have hval : ∀ (j : Nat) t v, Try.f7.params[j]? = some t → args[j]? = some v → Value.okWide Try.prog W .any base t v := hval0
  have hW' := hW
  obtain ⟨p, q, hA0, hV, rfl, hfz, hnd⟩ := hW
  have hA : DataW.TrodAll enc Try.prog W 0 (fun _ => true) true Try.f7.params.toList args.toList ds p := hA0
  rw [Try.params7] at hA hval hsz
  obtain ⟨v0, vs0, d0, ds0, p0, q0, hargs, rfl, rfl, h0, r0⟩ := trodAll_cons hA
  obtain ⟨v1, vs1, d1, ds1, p1, q1, rfl, rfl, rfl, h1, r1⟩ := trodAll_cons r0
  obtain ⟨v2, vs2, d2, ds2, p2, q2, rfl, rfl, rfl, h2, r2⟩ := trodAll_cons r1
  obtain ⟨rfl, rfl, rfl⟩ := trodAll_nil r2
  obtain rfl : args = #[v0, v1, v2] := by cases args; simp_all
  obtain ⟨rfl, rfl⟩ := trodVars_none hV
  have k0 := h0
  have lt0 : ∀ x ∈ p0, x.block < W.heap.size := by obtain ⟨m, hm⟩ := k0; exact DataW.trod_lt m _ _ _ hm
  have k1 := h1
  have lt1 : ∀ x ∈ p1, x.block < W.heap.size := by obtain ⟨m, hm⟩ := k1; exact DataW.trod_lt m _ _ _ hm
  have k2 := h2
  have lt2 : ∀ x ∈ p2, x.block < W.heap.size := by obtain ⟨m, hm⟩ := k2; exact DataW.trod_lt m _ _ _ hm
  obtain ⟨cs0, rfl, t0_0⟩ := flat_arg flat0 Try.underlying23 (hval 0 23 v0 rfl rfl) h0
  obtain ⟨c0_0, rs0_0, rfl, w0_0, t0_1⟩ := t0_0.int
  obtain ⟨c0_1, rs0_1, rfl, w0_1, t0_2⟩ := t0_1.int
  obtain ⟨c0_2, rs0_2, rfl, w0_2, t0_3⟩ := t0_2.int
  obtain ⟨c0_3, rs0_3, rfl, w0_3, t0_4⟩ := t0_3.int
  obtain ⟨c0_4, rs0_4, rfl, w0_4, t0_5⟩ := t0_4.int
  obtain ⟨c0_5, rs0_5, rfl, w0_5, t0_6⟩ := t0_5.int
  obtain ⟨c0_6, rs0_6, rfl, w0_6, t0_7⟩ := t0_6.int
  obtain rfl := t0_7.nil
  obtain ⟨a1, len1, cap1, rfl⟩ := okWide_slice Try.underlying39 (hval 1 39 v1 rfl rfl)
  obtain ⟨g1, e1, f1, z1⟩ := flat_slice flat1 (by kernel_rfl) (by decide) Try.underlying39 h1
  have y1 := flat_reach (j := 1) (B := 1) hsz rfl rfl Try.underlying39 (by kernel_rfl) z1
  have m1 : len1 ≤ maxLen := Nat.le_trans g1 e1
  obtain ⟨l1, rfl, rd1⟩ := bools_at f1
  obtain ⟨a2, rfl, _, _, w2⟩ := open_int Try.underlying3 (hval 2 3 v2 rfl rfl) h2
  clear hA0 hval0 hsz0
  refine (row_walk ⟨c0_0, c0_1, c0_2, c0_3, c0_4, c0_5, c0_6⟩ a1 l1 cap1 a2 W rd1 m1).mono fun e W' ⟨he, bel⟩ => ?_
  subst he
  exact ⟨_, rfl, _, _, _, [], _, [], hW', trodAll_mk1 (shut_bool Try.underlying4 _), (trodAll_cons_mk (Below.trod laidOut (by kernel_rfl) (of_decide_eq_true (by kernel_rfl)) k0 bel lt0) (trodAll_cons_mk (Below.trod laidOut (by kernel_rfl) (of_decide_eq_true (by kernel_rfl)) k1 bel lt1) (trodAll_cons_mk (Below.trod laidOut (by kernel_rfl) (of_decide_eq_true (by kernel_rfl)) k2 bel lt2) trodAll_mk0))), rfl, bel.frame _, fun h => by cases h⟩
theorem over : Rows.outlierRowRow.holds Try.pinned (OpenSpec.ofChange Rows.outlierRowSpec) :=
  OpenClaim.holds_of_wide 7 Try.f7 rfl rfl rfl rfl rfl rfl rfl ⟨rfl, rfl, rfl, rfl, rfl⟩ rfl rfl rfl rfl rfl (by kernel_rfl) Try.func7 (by kernel_rfl)
    (of_decide_eq_true (by kernel_rfl)) (by unfold Func.isWrapper; first | (rw [if_pos (by decide +kernel)]; kernel_rfl) | (rw [if_neg (by decide +kernel)]; exact ⟨rfl, rfl⟩))
    (fun os started H enc _ => lifted os started H enc)
end Go.Proofs.Ytnhkfhjiolpimaa.outlierRow
namespace Go.Proofs.Ytnhkfhjiolpimaa
/-- The statement. -/
theorem outlierRow_holds : Rows.OutlierRowSaid := outlierRow.over
end Go.Proofs.Ytnhkfhjiolpimaa
