/- OutlierTells: of anything known, settings, tick, ends and numbers: whether it may be, what ends make of it, whether it is ripe, what an ejection and a tick make of it, how much room there is, and whether panic rules, are as the document says. No condition. -/
import Derived.Test.YtnhkfhjiolpimaaRows
import Derived.Test.YtnhkfhjiolpimaaLTells
import Derived.Test.YtnhkfhjiolpimaaFlat
import Derived.WalkKit
import Derived.ProofKit
import Derived.OpenShut
import Derived.ShutString
import Derived.ChangeOld
import Derived.Below
import Derived.SizedLaws
namespace Go.Proofs.Ytnhkfhjiolpimaa.outlierTells
open Go.ChangeShapes Go.WideShapes Go.ChangeAt Go.RowKit
set_option linter.unusedVariables false
theorem own : ownKnob Try.prog.godebug = none := by kernel_rfl
theorem laidOut : laidOutB Try.prog = true := by kernel_rfl
theorem flat0 : flat Try.prog 2 33 = some [.int .i64, .int .i64, .int .i64, .int .i64, .int .i64, .int .i64, .bool] := by kernel_rfl
theorem flat1 : flat Try.prog 2 23 = some [.int .i64, .int .i64, .int .i64, .int .i64, .int .i64, .int .i64, .int .i64] := by kernel_rfl
theorem flat3 : flat Try.prog 1 4 = some [.bool] := by kernel_rfl
set_option maxRecDepth 100000 in
theorem lifted (os : Os) (started : os.Started) (H : Type) (enc : TypeId × Value → H) :
    ReturnsInHanded {} Try.checked os 8 .any (Rows.outlierTellsSpec.pre6 enc Try.prog Try.f8 Rows.outlierTellsRow.domain false) (Rows.outlierTellsSpec.post enc Try.prog Try.f8 false true false false) := by
  refine returnsInHanded_of_change_sized (C := Try.checked) own started (by kernel_rfl) Try.func8
    (ChangeSpec.witness6 (enc := enc) (C := Try.checked) false ⟨#[], #[.agg #[.int .i64 0, .int .i64 0, .int .i64 0, .int .i64 0, .int .i64 0, .int .i64 0, .bool false], .agg #[.int .i64 0, .int .i64 0, .int .i64 0, .int .i64 0, .int .i64 0, .int .i64 0, .int .i64 0], .int .i64 0, .slice none 0 0, .int .i64 0, .int .i64 0], []⟩ 8 (by kernel_rfl) (by kernel_rfl) (by kernel_rfl) (by kernel_rfl)) ?_
  intro W base args ds gs before hval0 hW hcnd hsz0 _
  have hsz : (DataW.weightsEach Try.prog (Try.f8.params.toList ++ Rows.outlierTellsSpec.plain.varTypes Try.prog) (ds ++ gs)).all (· ≤ reachBytes) = true := hsz0
  have hval : ∀ (j : Nat) t v, Try.f8.params[j]? = some t → args[j]? = some v → Value.okWide Try.prog W .any base t v := hval0
  have hW' := hW
  obtain ⟨p, q, hA0, hV, rfl, hfz, hnd⟩ := hW
  have hA : DataW.TrodAll enc Try.prog W 0 (fun _ => true) true Try.f8.params.toList args.toList ds p := hA0
  rw [Try.params8] at hA hval hsz
  obtain ⟨v0, vs0, d0, ds0, p0, q0, hargs, rfl, rfl, h0, r0⟩ := trodAll_cons hA
  obtain ⟨v1, vs1, d1, ds1, p1, q1, rfl, rfl, rfl, h1, r1⟩ := trodAll_cons r0
  obtain ⟨v2, vs2, d2, ds2, p2, q2, rfl, rfl, rfl, h2, r2⟩ := trodAll_cons r1
  obtain ⟨v3, vs3, d3, ds3, p3, q3, rfl, rfl, rfl, h3, r3⟩ := trodAll_cons r2
  obtain ⟨v4, vs4, d4, ds4, p4, q4, rfl, rfl, rfl, h4, r4⟩ := trodAll_cons r3
  obtain ⟨v5, vs5, d5, ds5, p5, q5, rfl, rfl, rfl, h5, r5⟩ := trodAll_cons r4
  obtain ⟨rfl, rfl, rfl⟩ := trodAll_nil r5
  obtain rfl : args = #[v0, v1, v2, v3, v4, v5] := by cases args; simp_all
  obtain ⟨rfl, rfl⟩ := trodVars_none hV
  have k0 := h0
  have lt0 : ∀ x ∈ p0, x.block < W.heap.size := by obtain ⟨m, hm⟩ := k0; exact DataW.trod_lt m _ _ _ hm
  have k1 := h1
  have lt1 : ∀ x ∈ p1, x.block < W.heap.size := by obtain ⟨m, hm⟩ := k1; exact DataW.trod_lt m _ _ _ hm
  have k2 := h2
  have lt2 : ∀ x ∈ p2, x.block < W.heap.size := by obtain ⟨m, hm⟩ := k2; exact DataW.trod_lt m _ _ _ hm
  have k3 := h3
  have lt3 : ∀ x ∈ p3, x.block < W.heap.size := by obtain ⟨m, hm⟩ := k3; exact DataW.trod_lt m _ _ _ hm
  have k4 := h4
  have lt4 : ∀ x ∈ p4, x.block < W.heap.size := by obtain ⟨m, hm⟩ := k4; exact DataW.trod_lt m _ _ _ hm
  have k5 := h5
  have lt5 : ∀ x ∈ p5, x.block < W.heap.size := by obtain ⟨m, hm⟩ := k5; exact DataW.trod_lt m _ _ _ hm
  obtain ⟨cs0, rfl, t0_0⟩ := flat_arg flat0 Try.underlying33 (hval 0 33 v0 rfl rfl) h0
  obtain ⟨c0_0, rs0_0, rfl, w0_0, t0_1⟩ := t0_0.int
  obtain ⟨c0_1, rs0_1, rfl, w0_1, t0_2⟩ := t0_1.int
  obtain ⟨c0_2, rs0_2, rfl, w0_2, t0_3⟩ := t0_2.int
  obtain ⟨c0_3, rs0_3, rfl, w0_3, t0_4⟩ := t0_3.int
  obtain ⟨c0_4, rs0_4, rfl, w0_4, t0_5⟩ := t0_4.int
  obtain ⟨c0_5, rs0_5, rfl, w0_5, t0_6⟩ := t0_5.int
  obtain ⟨c0_6, rs0_6, rfl, t0_7⟩ := t0_6.bool
  obtain rfl := t0_7.nil
  obtain ⟨cs1, rfl, t1_0⟩ := flat_arg flat1 Try.underlying23 (hval 1 23 v1 rfl rfl) h1
  obtain ⟨c1_0, rs1_0, rfl, w1_0, t1_1⟩ := t1_0.int
  obtain ⟨c1_1, rs1_1, rfl, w1_1, t1_2⟩ := t1_1.int
  obtain ⟨c1_2, rs1_2, rfl, w1_2, t1_3⟩ := t1_2.int
  obtain ⟨c1_3, rs1_3, rfl, w1_3, t1_4⟩ := t1_3.int
  obtain ⟨c1_4, rs1_4, rfl, w1_4, t1_5⟩ := t1_4.int
  obtain ⟨c1_5, rs1_5, rfl, w1_5, t1_6⟩ := t1_5.int
  obtain ⟨c1_6, rs1_6, rfl, w1_6, t1_7⟩ := t1_6.int
  obtain rfl := t1_7.nil
  obtain ⟨a2, rfl, _, _, w2⟩ := open_int Try.underlying3 (hval 2 3 v2 rfl rfl) h2
  obtain ⟨a3, len3, cap3, rfl⟩ := okWide_slice Try.underlying39 (hval 3 39 v3 rfl rfl)
  obtain ⟨g3, e3, f3, z3⟩ := flat_slice flat3 (by kernel_rfl) (by decide) Try.underlying39 h3
  have y3 := flat_reach (j := 3) (B := 1) hsz rfl rfl Try.underlying39 (by kernel_rfl) z3
  have m3 : len3 ≤ maxLen := Nat.le_trans g3 e3
  obtain ⟨l3, rfl, rd3⟩ := bools_at f3
  obtain ⟨a4, rfl, _, _, w4⟩ := open_int Try.underlying3 (hval 4 3 v4 rfl rfl) h4
  obtain ⟨a5, rfl, _, _, w5⟩ := open_int Try.underlying3 (hval 5 3 v5 rfl rfl) h5
  clear hA0 hval0 hsz0
  refine (tells_walk ⟨c0_0, c0_1, c0_2, c0_3, c0_4, c0_5, c0_6⟩ ⟨c1_0, c1_1, c1_2, c1_3, c1_4, c1_5, c1_6⟩ a2 a3 l3 cap3 a4 a5 W rd3 m3).mono fun e W' ⟨he, bel⟩ => ?_
  subst he
  exact ⟨_, rfl, _, _, _, [], _, [], hW', trodAll_mk1 (shut_bool Try.underlying4 _), (trodAll_cons_mk (Below.trod laidOut (by kernel_rfl) (of_decide_eq_true (by kernel_rfl)) k0 bel lt0) (trodAll_cons_mk (Below.trod laidOut (by kernel_rfl) (of_decide_eq_true (by kernel_rfl)) k1 bel lt1) (trodAll_cons_mk (Below.trod laidOut (by kernel_rfl) (of_decide_eq_true (by kernel_rfl)) k2 bel lt2) (trodAll_cons_mk (Below.trod laidOut (by kernel_rfl) (of_decide_eq_true (by kernel_rfl)) k3 bel lt3) (trodAll_cons_mk (Below.trod laidOut (by kernel_rfl) (of_decide_eq_true (by kernel_rfl)) k4 bel lt4) (trodAll_cons_mk (Below.trod laidOut (by kernel_rfl) (of_decide_eq_true (by kernel_rfl)) k5 bel lt5) trodAll_mk0)))))), rfl, bel.frame _, fun h => by cases h⟩
theorem over : Rows.outlierTellsRow.holds Try.pinned (OpenSpec.ofChange Rows.outlierTellsSpec) :=
  OpenClaim.holds_of_wide 8 Try.f8 rfl rfl rfl rfl rfl rfl rfl ⟨rfl, rfl, rfl, rfl, rfl⟩ rfl rfl rfl rfl rfl (by kernel_rfl) Try.func8 (by kernel_rfl)
    (of_decide_eq_true (by kernel_rfl)) (by unfold Func.isWrapper; first | (rw [if_pos (by decide +kernel)]; kernel_rfl) | (rw [if_neg (by decide +kernel)]; exact ⟨rfl, rfl⟩))
    (fun os started H enc _ => lifted os started H enc)
end Go.Proofs.Ytnhkfhjiolpimaa.outlierTells
namespace Go.Proofs.Ytnhkfhjiolpimaa
/-- The statement. -/
theorem outlierTells_holds : Rows.OutlierTellsSaid := outlierTells.over
end Go.Proofs.Ytnhkfhjiolpimaa
