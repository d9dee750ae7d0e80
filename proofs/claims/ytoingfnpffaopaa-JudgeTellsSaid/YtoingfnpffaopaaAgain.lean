/- What judge's again hands back, and makes of its marks; twice over them. Condition: a map lies at the block. -/
import Derived.Test.YtoingfnpffaopaaSmall
import Derived.Test.YtoingfnpffaopaaFind
namespace Go.Proofs.Ytoingfnpffaopaa
open Go.RowKit

/-- Of what was there nothing but block r has turned. -/
structure Beside (r : Nat) (w w' : World) : Prop where
  os : w'.os = w.os
  tape : w'.tape = w.tape
  output : w'.output = w.output
  size : w.heap.size ≤ w'.heap.size
  block : ∀ k, k < w.heap.size → k ≠ r → w'.heap[k]? = w.heap[k]?

theorem Beside.refl (r : Nat) (w : World) : Beside r w w := ⟨rfl, rfl, rfl, Nat.le_refl _, fun _ _ _ => rfl⟩
theorem Beside.step {r : Nat} {w w1 w2 : World} (h : Beside r w w1) (h2 : Below w1.heap.size w1 w2) : Beside r w w2 :=
  ⟨h2.os.trans h.os, h2.tape.trans h.tape, h2.output.trans h.output, Nat.le_trans h.size h2.size, fun k hk hr => (h2.block k (Nat.lt_of_lt_of_le hk h.size)).trans (h.block k hk hr)⟩
theorem Beside.only {r : Nat} {w w1 w2 : World} (h : Beside r w w1) (h2 : Only r w1 w2) : Beside r w w2 :=
  ⟨h2.os.trans h.os, h2.tape.trans h.tape, h2.output.trans h.output, by rw [h2.size]; exact h.size, fun k hk hr => (h2.block k hr).trans (h.block k hk hr)⟩
theorem Beside.alloc {r : Nat} {w w1 : World} (h : Beside r w w1) (o : Obj) : Beside r w (w1.alloc o) := h.step (below_alloc (Below.refl _ _) o)
theorem Beside.trans {r : Nat} {w w1 w2 : World} (h : Beside r w w1) (h2 : Beside r w1 w2) : Beside r w w2 :=
  ⟨h2.os.trans h.os, h2.tape.trans h.tape, h2.output.trans h.output, Nat.le_trans h.size h2.size, fun k hk hr => (h2.block k (Nat.lt_of_lt_of_le hk h.size) hr).trans (h.block k hk hr)⟩
theorem Beside.below {r B : Nat} {a w w1 : World} (h : Beside r w w1) (hb : Below B a w) (hB : B ≤ w.heap.size) (hr : B ≤ r) : Below B a w1 :=
  hb.trans ⟨h.os, h.tape, h.output, h.size, fun k hk => h.block k (Nat.lt_of_lt_of_le hk hB) (by omega)⟩

/-- A set, as a map of marks. -/
def setF (S : Spot → Bool) : Spot → Option Value := fun s => if S s = true then some (.bool true) else none

theorem setF_get (S : Spot → Bool) (s : Spot) : (setF S s).getD (.bool false) = .bool (S s) := by
  unfold setF
  cases S s <;> rfl

set_option maxHeartbeats 1000000 in
theorem again_any (r : Nat) (S : Spot → Bool) (x1 x2 x3 x4 x5 : Int) (w : World) (h : MapFn w r encSpot (setF S)) :
    Calls Try.prog 42 #[.map (some r), .agg #[.int .i64 x1, .int .i64 x2, .int .i64 x3, .int .i64 x4, .int .i64 x5]] w fun e w' =>
      e = .returned (.bool (S (x1, x2, x3, x4, x5))) ∧ MapFn w' r encSpot (setF fun s => decide (s = (x1, x2, x3, x4, x5)) || S s) ∧ Beside r w w' := by
  have hM := h.alloc (.cells #[.int .i64 x1, .int .i64 x2, .int .i64 x3, .int .i64 x4, .int .i64 x5] 55)
  have hlk := run_lookup spotLaws hM Try.underlying83 (zero4 _) (x1, x2, x3, x4, x5) false
  obtain ⟨w2, hup, hM2, ho⟩ := run_update spotLaws hM Try.underlying83 (x1, x2, x3, x4, x5) (.bool true)
  rw [setF_get] at hlk
  simp only [encSpot, Bool.false_eq_true, if_false] at hlk hup
  have HM := Lib.hid (hM2.ext (g := setF fun s => decide (s = (x1, x2, x3, x4, x5)) || S s) fun s => by unfold setF; by_cases e : s = (x1, x2, x3, x4, x5) <;> simp [e])
  have HO := Lib.hid (((Beside.refl r w).alloc _).only ho)
  generalize S (x1, x2, x3, x4, x5) = b at *
  clear hM hM2 ho h
  go_enter Try.func42, Try.ntmps42
  go_wp2
  go_ret
  exact ⟨rfl, HM.out, HO.out⟩
end Go.Proofs.Ytoingfnpffaopaa
