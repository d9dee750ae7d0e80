/- BucketBound: of any settings and any acts, no more tokens are taken than the reserve and what calls and ticks bring, and the level stays in its bounds. No condition. -/
import Derived.Test.YtaaebnfagbiaiaaRows
import Derived.Test.YtaaebnfagbiaiaaBound
import Derived.Test.YtaaebnfagbiaiaaFlat
import Derived.WalkKit
import Derived.ProofKit
import Derived.OpenShut
import Derived.ShutString
import Derived.ChangeOld
import Derived.Below
import Derived.SizedLaws
namespace Go.Proofs.Ytaaebnfagbiaiaa.bucketBound
open Go.ChangeShapes Go.WideShapes Go.ChangeAt Go.RowKit
set_option linter.unusedVariables false
theorem own : ownKnob Try.prog.godebug = none := by kernel_rfl
theorem laidOut : laidOutB Try.prog = true := by kernel_rfl
theorem flat0 : flat Try.prog 2 23 = some [.int .i64, .int .i64, .int .i64, .int .i64] := by kernel_rfl
theorem flat1 : flat Try.prog 1 3 = some [.int .i64] := by kernel_rfl
set_option maxRecDepth 100000 in
theorem lifted (os : Os) (started : os.Started) (H : Type) (enc : TypeId × Value → H) :
    ReturnsInHanded {} Try.checked os 4 .any (Rows.bucketBoundSpec.pre6 enc Try.prog Try.f4 Rows.bucketBoundRow.domain false) (Rows.bucketBoundSpec.post enc Try.prog Try.f4 false true false false) := by
  refine returnsInHanded_of_change_sized (C := Try.checked) own started (by kernel_rfl) Try.func4
    (ChangeSpec.witness6 (enc := enc) (C := Try.checked) false ⟨#[], #[.agg #[.int .i64 0, .int .i64 0, .int .i64 0, .int .i64 0], .slice none 0 0], []⟩ 8 (by kernel_rfl) (by kernel_rfl) (by kernel_rfl) (by kernel_rfl)) ?_
  intro W base args ds gs before hval0 hW hcnd hsz0 _
  have hsz : (DataW.weightsEach Try.prog (Try.f4.params.toList ++ Rows.bucketBoundSpec.plain.varTypes Try.prog) (ds ++ gs)).all (· ≤ reachBytes) = true := hsz0
  have hval : ∀ (j : Nat) t v, Try.f4.params[j]? = some t → args[j]? = some v → Value.okWide Try.prog W .any base t v := hval0
  have hW' := hW
  obtain ⟨p, q, hA0, hV, rfl, hfz, hnd⟩ := hW
  have hA : DataW.TrodAll enc Try.prog W 0 (fun _ => true) true Try.f4.params.toList args.toList ds p := hA0
  rw [Try.params4] at hA hval hsz
  obtain ⟨v0, vs0, d0, ds0, p0, q0, hargs, rfl, rfl, h0, r0⟩ := trodAll_cons hA
  obtain ⟨v1, vs1, d1, ds1, p1, q1, rfl, rfl, rfl, h1, r1⟩ := trodAll_cons r0
  obtain ⟨rfl, rfl, rfl⟩ := trodAll_nil r1
  obtain rfl : args = #[v0, v1] := by cases args; simp_all
  obtain ⟨rfl, rfl⟩ := trodVars_none hV
  have k0 := h0
  have lt0 : ∀ x ∈ p0, x.block < W.heap.size := by obtain ⟨m, hm⟩ := k0; exact DataW.trod_lt m _ _ _ hm
  have k1 := h1
  have lt1 : ∀ x ∈ p1, x.block < W.heap.size := by obtain ⟨m, hm⟩ := k1; exact DataW.trod_lt m _ _ _ hm
  obtain ⟨cs0, rfl, t0_0⟩ := flat_arg flat0 Try.underlying23 (hval 0 23 v0 rfl rfl) h0
  obtain ⟨c0_0, rs0_0, rfl, w0_0, t0_1⟩ := t0_0.int
  obtain ⟨c0_1, rs0_1, rfl, w0_1, t0_2⟩ := t0_1.int
  obtain ⟨c0_2, rs0_2, rfl, w0_2, t0_3⟩ := t0_2.int
  obtain ⟨c0_3, rs0_3, rfl, w0_3, t0_4⟩ := t0_3.int
  obtain rfl := t0_4.nil
  obtain ⟨a1, len1, cap1, rfl⟩ := okWide_slice Try.underlying24 (hval 1 24 v1 rfl rfl)
  obtain ⟨g1, e1, f1, z1⟩ := flat_slice flat1 (by kernel_rfl) (by decide) Try.underlying24 h1
  have y1 := flat_reach (j := 1) (B := 8) hsz rfl rfl Try.underlying24 (by kernel_rfl) z1
  have m1 : len1 ≤ maxLen := Nat.le_trans g1 e1
  obtain ⟨l1, rfl, r1, w1⟩ := ints_at f1
  clear hA0 hval0 hsz0
  refine (bound_walk c0_0 c0_1 c0_2 c0_3 a1 l1 cap1 W r1 m1).mono fun e W' ⟨he, bel⟩ => ?_
  subst he
  exact ⟨_, rfl, _, _, _, [], _, [], hW', trodAll_mk1 (shut_bool Try.underlying4 _), (trodAll_cons_mk (Below.trod laidOut (by kernel_rfl) (of_decide_eq_true (by kernel_rfl)) k0 bel lt0) (trodAll_cons_mk (Below.trod laidOut (by kernel_rfl) (of_decide_eq_true (by kernel_rfl)) k1 bel lt1) trodAll_mk0)), rfl, bel.frame _, fun h => by cases h⟩
theorem over : Rows.bucketBoundRow.holds Try.pinned (OpenSpec.ofChange Rows.bucketBoundSpec) :=
  OpenClaim.holds_of_wide 4 Try.f4 rfl rfl rfl rfl rfl rfl rfl ⟨rfl, rfl, rfl, rfl, rfl⟩ rfl rfl rfl rfl rfl (by kernel_rfl) Try.func4 (by kernel_rfl)
    (of_decide_eq_true (by kernel_rfl)) (by unfold Func.isWrapper; first | (rw [if_pos (by decide +kernel)]; kernel_rfl) | (rw [if_neg (by decide +kernel)]; exact ⟨rfl, rfl⟩))
    (fun os started H enc _ => lifted os started H enc)
end Go.Proofs.Ytaaebnfagbiaiaa.bucketBound
namespace Go.Proofs.Ytaaebnfagbiaiaa
/-- The statement. -/
theorem bucketBound_holds : Rows.BucketBoundSaid := bucketBound.over
end Go.Proofs.Ytaaebnfagbiaiaa
