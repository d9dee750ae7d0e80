/- The keys of judge's maps: places, calls, answers, clients; their laws. Conditions: none. -/
import Derived.Test.YtoingfnpffaopaaProg
import Derived.Test.YtoingfnpffaopaaMaps
import Derived.Laws.StructEq
namespace Go.Proofs.Ytoingfnpffaopaa
open Go.RowKit

abbrev Spot := Int × Int × Int × Int × Int
abbrev Key := Int × Int
abbrev Ans := Spot × (Int × Int × Int × Int) × (Int × Int × Int)

def encSpot (s : Spot) : Value := .agg #[.int .i64 s.1, .int .i64 s.2.1, .int .i64 s.2.2.1, .int .i64 s.2.2.2.1, .int .i64 s.2.2.2.2]
def encKey (k : Key) : Value := .agg #[.int .i64 k.1, .int .i64 k.2]
def encAns (x : Ans) : Value := .agg #[.int .i64 x.1.1, .int .i64 x.1.2.1, .int .i64 x.1.2.2.1, .int .i64 x.1.2.2.2.1, .int .i64 x.1.2.2.2.2, .int .i64 x.2.1.1, .int .i64 x.2.1.2.1, .int .i64 x.2.1.2.2.1, .int .i64 x.2.1.2.2.2, .int .i64 x.2.2.1, .int .i64 x.2.2.2.1, .int .i64 x.2.2.2.2]
def encInt (n : Int) : Value := .int .i64 n

theorem chkInt (n : Nat) (e : Bool) (t : TypeId) (k : IntKind) (x : Int) (P : Program) (h : P.underlying t = some (.int k)) (w : World) : (Instr.checkKey e (n + 1) t (.int k x)).run P w = .ok () w := by
  simp [Instr.checkKey, run_underlying h]

theorem chkSpot (n : Nat) (e : Bool) (a b c d f : Int) (w : World) : (Instr.checkKey e (n + 2) 55 (.agg #[.int .i64 a, .int .i64 b, .int .i64 c, .int .i64 d, .int .i64 f])).run Try.prog w = .ok () w := by
  simp only [Instr.checkKey, Sem.run_bind, run_underlying Try.underlying55, Result.andThen_ok]
  go_simp

theorem chkKey (n : Nat) (e : Bool) (a b : Int) (w : World) : (Instr.checkKey e (n + 2) 67 (.agg #[.int .i64 a, .int .i64 b])).run Try.prog w = .ok () w := by
  simp only [Instr.checkKey, Sem.run_bind, run_underlying Try.underlying67, Result.andThen_ok]
  go_simp

theorem eqSpot (s t : Spot) (w : World) : (Op.equal 55 (encSpot s) (encSpot t)).run Try.prog w = .ok (decide (s = t)) w := by
  obtain ⟨a, b, c, d, f⟩ := s
  obtain ⟨a', b', c', d', f'⟩ := t
  unfold Op.equal Op.maxDepth encSpot
  rw [run_equalIn_struct (P := Try.prog) w 9999 55 _ _ (by kernel_rfl) (by kernel_rfl)]
  go_simp
  by_cases h1 : a = a' <;> by_cases h2 : b = b' <;> by_cases h3 : c = c' <;> by_cases h4 : d = d' <;> by_cases h5 : f = f' <;> simp [h1, h2, h3, h4, h5]

theorem eqKey (s t : Key) (w : World) : (Op.equal 67 (encKey s) (encKey t)).run Try.prog w = .ok (decide (s = t)) w := by
  obtain ⟨a, b⟩ := s
  obtain ⟨a', b'⟩ := t
  unfold Op.equal Op.maxDepth encKey
  rw [run_equalIn_struct (P := Try.prog) w 9999 67 _ _ (by kernel_rfl) (by kernel_rfl)]
  go_simp
  by_cases h1 : a = a' <;> by_cases h2 : b = b' <;> simp [h1, h2]

theorem spotLaws : KeyLaws Try.prog 55 encSpot where
  find := find_struct Try.underlying55 eqSpot
  check := fun e a w => chkSpot 9998 e _ _ _ _ _ w
  same := fun a => by simp [encSpot, Instr.sameBits]

theorem keyLaws : KeyLaws Try.prog 67 encKey where
  find := find_struct Try.underlying67 eqKey
  check := fun e a w => chkKey 9998 e _ _ w
  same := fun a => by simp [encKey, Instr.sameBits]

theorem find_int (a : Int) (l : List (Int × Value × Nat)) (w : World) : (Instr.findKey 3 (encInt a) (ents encInt l)).run Try.prog w = .ok (findP a l 0) w := by
  unfold Instr.findKey
  rw [Sem.run_bind, run_underlying Try.underlying3]
  simp only [Result.andThen_ok]
  have key : ∀ (l : List (Int × Value × Nat)) (i : Nat), Instr.findNow (.int .i64) (encInt a) (ents encInt l) i = some (findP a l i) := by
    intro l
    induction l with
    | nil => intro i; rfl
    | cons x l ih =>
      intro i
      have h := ih (i + 1)
      simp only [ents, List.map_cons, Instr.findNow, encInt, Instr.sameNow, if_true, findP] at h ⊢
      by_cases e : a = x.1
      · simp [e]
      · rw [show (a == x.1) = false by simpa using e]
        simp only [if_neg e]
        exact h
  rw [key]
  rfl

theorem intLaws : KeyLaws Try.prog 3 encInt where
  find := find_int
  check := fun e a w => chkInt 9999 e 3 .i64 a _ Try.underlying3 w
  same := fun a => by simp [encInt, Instr.sameBits]

theorem zero4 (w : World) : (zeroValue 4).run Try.prog w = .ok (.bool false) w := by kernel_rfl
theorem zero55 (w : World) : (zeroValue 55).run Try.prog w = .ok (.agg #[.int .i64 0, .int .i64 0, .int .i64 0, .int .i64 0, .int .i64 0]) w := by kernel_rfl
theorem zero59 (w : World) : (zeroValue 59).run Try.prog w = .ok (.pointer none) w := by kernel_rfl
theorem zero77 (w : World) : (zeroValue 77).run Try.prog w = .ok (.slice none 0 0) w := by kernel_rfl
end Go.Proofs.Ytoingfnpffaopaa
