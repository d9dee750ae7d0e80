/- A row's cells, and the load of them at one stroke. Conditions: none. -/
import Derived.Test.YtoingfnpffaopaaRf1
import Derived.Test.YtoingfnpffaopaaReg
namespace Go.Proofs.Ytoingfnpffaopaa
open Go.RowKit

theorem size30 : (Try.prog.info? 30).map (·.size) = some 16 := by kernel_rfl

/-- The row that a pointer leads to. -/
def rwOf (w : World) : Value → Value
  | .pointer (some ⟨b, o, none⟩) => .agg ((List.range 16).map fun i => (w.cell? ⟨b, o + i, none⟩).getD undef).toArray
  | _ => undef
/-- The pointer leads to a row. -/
def HeldRw (w : World) (v : Value) : Prop := ∃ b o r, v = .pointer (some ⟨b, o, none⟩) ∧ RowAt w b o r
theorem RowAt.held {w : World} {b o : Nat} {r : Rw} (h : RowAt w b o r) : HeldRw w (.pointer (some ⟨b, o, none⟩)) := ⟨b, o, r, rfl, h⟩
theorem RowAt.of {w : World} {b o : Nat} {r : Rw} (h : RowAt w b o r) : rwOf w (.pointer (some ⟨b, o, none⟩)) = .agg #[.int .i64 r.kind, .int .i64 r.step, .int .i64 r.client, .int .i64 r.call, .int .i64 r.backend, .int .i64 r.incarnation, .int .i64 r.session, .int .i64 r.seq, .int .i64 r.what, .int .i64 r.key, .int .i64 r.other, .int .i64 r.amount, .int .i64 r.code, .int .i64 r.place, .int .i64 r.value, .int .i64 r.n] := by
  obtain ⟨q0, q1, q2, q3, q4, q5, q6, q7, q8, q9, q10, q11, q12, q13, q14, q15⟩ := h
  unfold rwOf
  simp [List.range_succ, q0, q1, q2, q3, q4, q5, q6, q7, q8, q9, q10, q11, q12, q13, q14, q15]
theorem RowAt.range {w : World} {b o : Nat} {r : Rw} (h : RowAt w b o r) : w.rangeAt b o (cellsR [r]) := by
  have := of_rows w b [r] o fun i hi => by
    obtain rfl : i = 0 := by simpa using hi
    rw [Nat.zero_mul, Nat.add_zero]
    exact h
  exact this

/-- The load at one stroke. -/
theorem run_load30 (ρ : Operand → Value) (x : Operand) (d : _) (t : _) (p : _) (f : _) (g : _) (w : World) (h : HeldRw w (ρ x)) :
    (execOp ρ { dst := d, op := .load 30 x, type := t, pos := p, after := f, guard := g }).run Try.prog w = .ok (.value (rwOf w (ρ x))) w := by
  obtain ⟨b, o, r, e, hb⟩ := h
  unfold execOp
  simp only [e, Instr.loadAt, Instr.sureAddr, Sem.run_bind, Sem.run_pure, Result.andThen_ok, run_loadVar_mid w b o 30 (cellsR [r]) _ hb.range Try.underlying30 rfl (by rw [cellsR_len]; exact size30), hb.of]
  rfl
end Go.Proofs.Ytoingfnpffaopaa
