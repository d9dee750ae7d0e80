/- What judge's Budget says of one row. Conditions: none. -/
import Derived.Test.YtoingfnpffaopaaCs
namespace Go.Proofs.Ytoingfnpffaopaa
open Go.RowKit

/-- A map of pointers. -/
def ptrF (A : Int → Option Nat) : Int → Option Value := fun c => (A c).map fun b => .pointer (some ⟨b, 0, none⟩)

/-- Of what was there nothing but blocks r and q has turned. -/
structure Beside2 (r q : Nat) (w w' : World) : Prop where
  os : w'.os = w.os
  tape : w'.tape = w.tape
  output : w'.output = w.output
  size : w.heap.size ≤ w'.heap.size
  block : ∀ k, k < w.heap.size → k ≠ r → k ≠ q → w'.heap[k]? = w.heap[k]?

theorem Beside.two {r : Nat} {w w1 : World} (h : Beside r w w1) (q : Nat) : Beside2 r q w w1 := ⟨h.os, h.tape, h.output, h.size, fun k hk hr _ => h.block k hk hr⟩
theorem Beside2.set {r q : Nat} {w w1 : World} (h : Beside2 r q w w1) (j : Nat) (v : Value) : Beside2 r q w (w1.setCell ⟨q, j, none⟩ v) := by
  have hb := (Below.refl q w1).setCell (p := ⟨q, j, none⟩) (Nat.le_refl q) v
  exact ⟨hb.os.trans h.os, hb.tape.trans h.tape, hb.output.trans h.output, Nat.le_trans h.size hb.size, fun k hk hr hq => (block_far w1 j hq v).trans (h.block k hk hr hq)⟩
theorem Beside2.drewN {r q : Nat} {w w1 : World} (h : Beside2 r q w w1) (n : Nat) : Beside2 r q w (w1.drewN n) := ⟨h.os, h.tape, h.output, h.size, h.block⟩

theorem cs_far {w : World} {b q : Nat} {s : CS} {x y z : Int} (h : CsBox w b s) (h2 : BudBox w q x y z) : b ≠ q := by
  rintro rfl
  have e := (show w.heap[b]? = _ from h).symm.trans (show w.heap[b]? = _ from h2)
  simp at e

/-- The allowance of a client. -/
def allow (s : CS) (a c : Int) : Int := wrap64 (wrap64 (a + s.s15) + wrap64 ((wrap64 (wrap64 (s.s13 * a) + wrap64 (s.s14 * c))).tdiv 1000))

theorem allow_zero (s : CS) : allow s 0 0 = wrap64 (wrap64 s.s15) := by
  unfold allow
  rw [Int.zero_add, Int.mul_zero, Int.mul_zero, show wrap64 ((wrap64 (wrap64 0 + wrap64 0)).tdiv 1000) = 0 by kernel_rfl, Int.add_zero]
theorem bud_far {w : World} {r q : Nat} {f : Int → Option Value} {x y z : Int} (h : MapFn w r encInt f) (h2 : BudBox w q x y z) : r ≠ q := by
  rintro rfl
  obtain ⟨l, c, h, _⟩ := h
  have e := (show w.heap[r]? = _ from h).symm.trans (show w.heap[r]? = _ from h2)
  simp at e
theorem BudBox.beside {w w1 : World} {b q : Nat} {x y z : Int} (h : BudBox w b x y z) (hb : Beside q w w1) (hn : b ≠ q) : BudBox w1 b x y z := h.same (hb.block b h.lt hn)
theorem CsBox.beside {w w1 : World} {b q : Nat} {s : CS} (h : CsBox w b s) (hb : Beside q w w1) (hn : b ≠ q) : CsBox w1 b s := h.same (hb.block b h.lt hn)
theorem Beside.of_only {r : Nat} {w w1 : World} (h : Only r w w1) : Beside r w w1 := (Beside.refl r w).only h
theorem ptrF_set (A : Int → Option Nat) (a : Int) (q : Nat) (c : Int) : ptrF (fun d => if d = a then some q else A d) c = if c = a then some (.pointer (some ⟨q, 0, none⟩)) else ptrF A c := by
  unfold ptrF
  by_cases e : c = a <;> simp [e]
theorem cs_map {w : World} {r b : Nat} {s : CS} {f : Int → Option Value} (h : CsBox w b s) (h2 : MapFn w r encInt f) : b ≠ r := by
  rintro rfl
  obtain ⟨l, c, h2, _⟩ := h2
  have e := (show w.heap[b]? = _ from h).symm.trans (show w.heap[b]? = _ from h2)
  simp at e
end Go.Proofs.Ytoingfnpffaopaa
