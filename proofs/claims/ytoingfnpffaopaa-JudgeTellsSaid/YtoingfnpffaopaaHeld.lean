/- A client set's cells in a block, and the load of them at one stroke. Conditions: none. -/
import Derived.Test.YtoingfnpffaopaaBud5
import Derived.Deep.MidRow
namespace Go.Proofs.Ytoingfnpffaopaa
open Go.RowKit

theorem size43 : (Try.prog.info? 43).map (·.size) = some 26 := by kernel_rfl
/-- A block that holds a client set's cells. -/
def CsB (w : World) (b : Nat) (cs : List Value) : Prop := cs.length = 26 ∧ w.heap[b]? = some (.cells cs.toArray 43 (0, 0))
theorem CsB.range {w : World} {b : Nat} {cs : List Value} (h : CsB w b cs) : w.rangeAt b 0 cs := by
  intro j v hv
  rw [Nat.zero_add, cell_of_row _ _ _ _ _ _ h.2]
  simpa using hv
theorem CsB.lt {w : World} {b : Nat} {cs : List Value} (h : CsB w b cs) : b < w.heap.size := by
  have h := h.2
  by_cases hb : b < w.heap.size
  · exact hb
  · rw [Array.getElem?_eq_none (by omega)] at h
    exact absurd h (by simp)
theorem CsB.kept {w w1 : World} {b : Nat} {cs : List Value} (h : CsB w b cs) (hb : Below w.heap.size w w1) : CsB w1 b cs := ⟨h.1, (hb.block b h.lt).trans h.2⟩
theorem CsB.new (w : World) (b : Nat) (hb : b = w.heap.size) (cs : List Value) (hl : cs.length = 26) : CsB (w.alloc (.cells cs.toArray 43)) b cs := by
  subst hb
  refine ⟨hl, ?_⟩
  show (w.heap.push _)[w.heap.size]? = _
  simp

/-- The client set that a pointer leads to. -/
def csOf (w : World) : Value → List Value
  | .pointer (some ⟨b, 0, none⟩) => match w.heap[b]? with | some (.cells cs _ _) => cs.toList | _ => []
  | _ => []
/-- The pointer leads to a client set. -/
def HeldCs (w : World) (v : Value) : Prop := ∃ b cs, v = .pointer (some ⟨b, 0, none⟩) ∧ CsB w b cs
theorem CsB.held {w : World} {b : Nat} {cs : List Value} (h : CsB w b cs) : HeldCs w (.pointer (some ⟨b, 0, none⟩)) := ⟨b, cs, rfl, h⟩
theorem CsB.of {w : World} {b : Nat} {cs : List Value} (h : CsB w b cs) : csOf w (.pointer (some ⟨b, 0, none⟩)) = cs := by
  unfold csOf
  simp [h.2]

/-- The load at one stroke. -/
theorem run_load43 (ρ : Operand → Value) (x : Operand) (d : _) (t : _) (p : _) (f : _) (g : _) (w : World) (h : HeldCs w (ρ x)) :
    (execOp ρ { dst := d, op := .load 43 x, type := t, pos := p, after := f, guard := g }).run Try.prog w = .ok (.value (.agg (csOf w (ρ x)).toArray)) w := by
  obtain ⟨b, cs, e, hb⟩ := h
  unfold execOp
  simp only [e, Instr.loadAt, Instr.sureAddr, Sem.run_bind, Sem.run_pure, Result.andThen_ok, run_loadVar_mid w b 0 43 cs _ hb.range Try.underlying43 rfl (by rw [hb.1]; exact size43), hb.of]
end Go.Proofs.Ytoingfnpffaopaa
