/- The key of judge's answers, and its laws. Conditions: none. -/
import Derived.Test.YtoingfnpffaopaaKeys
namespace Go.Proofs.Ytoingfnpffaopaa
open Go.RowKit

theorem chkAns (n : Nat) (e : Bool) (a b c d f g h i j k l m : Int) (w : World) : (Instr.checkKey e (n + 3) 79 (.agg #[.int .i64 a, .int .i64 b, .int .i64 c, .int .i64 d, .int .i64 f, .int .i64 g, .int .i64 h, .int .i64 i, .int .i64 j, .int .i64 k, .int .i64 l, .int .i64 m])).run Try.prog w = .ok () w := by
  simp only [Instr.checkKey, Sem.run_bind, run_underlying Try.underlying79, Result.andThen_ok]
  go_simp

theorem ite_ok {p : Prop} [Decidable p] (x : Bool) (w : World) : (if p then Result.ok x w else Result.ok false w) = Result.ok (decide p && x) w := by split <;> simp [*]

set_option maxHeartbeats 1000000 in
theorem eqAns (s t : Ans) (w : World) : (Op.equal 79 (encAns s) (encAns t)).run Try.prog w = .ok (decide (s = t)) w := by
  obtain ⟨⟨a, b, c, d, f⟩, ⟨g, h, i, j⟩, k, l, m⟩ := s
  obtain ⟨⟨a', b', c', d', f'⟩, ⟨g', h', i', j'⟩, k', l', m'⟩ := t
  unfold Op.equal Op.maxDepth encAns
  rw [run_equalIn_struct (P := Try.prog) w 9999 79 _ _ (by kernel_rfl) (by kernel_rfl)]
  go_simp
  simp only [ite_ok, Bool.and_true, Bool.and_assoc]

instance ansEq : DecidableEq Ans := fun s t => inferInstanceAs (Decidable (s = t))

theorem ansLaws : KeyLaws Try.prog 79 encAns where
  find := find_struct Try.underlying79 eqAns
  check := fun e a w => chkAns 9997 e _ _ _ _ _ _ _ _ _ _ _ _ w
  same := fun a => by simp [encAns, Instr.sameBits]
end Go.Proofs.Ytoingfnpffaopaa
