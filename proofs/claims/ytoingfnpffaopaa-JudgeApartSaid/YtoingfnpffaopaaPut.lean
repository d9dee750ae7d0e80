/- A row put between others by three appends: the laws. Conditions: none. -/
import Derived.Test.YtoingfnpffaopaaReg
import Derived.Test.YtoingfnpffaopaaIns
namespace Go.Proofs.Ytoingfnpffaopaa
open Go.RowKit

/-- The row is put in. -/
noncomputable def r5 : Code := ((Try.f7.body.bind (regionAt 5)).getD .skip)

theorem RowsAt.drop {w : World} {b off : Nat} {l : List Rw} (h : RowsAt w (some ⟨b, off, none⟩) l) (j : Nat) : RowsAt w (some ⟨b, off + j * 16, none⟩) (l.drop j) := by
  rcases h with rfl | ⟨b', off', e, h2, h3⟩
  · exact .inl (by simp)
  · cases e
    refine .inr ⟨b, off + j * 16, rfl, h2, fun i hi => ?_⟩
    have hi' : j + i < l.length := by simp at hi; omega
    have := h3 (j + i) hi'
    rw [show off + j * 16 + i * 16 = off + (j + i) * 16 by omega, show (l.drop j).getD i Rw.zero = l.getD (j + i) Rw.zero by simp [List.getD_eq_getElem?_getD]]
    exact this

theorem run_append_zero {P : Program} (w : World) (t ty e : TypeId) (i : TypeInfo) (ht : P.underlying t = some (.slice e)) (hi : P.info? e = some i) (base ad : Option Addr) (n cap c : Nat) (hn : n ≤ cap) :
    (Builtin.append_ #[t, t] ty #[.slice base n cap, .slice ad 0 c]).run P w = .ok (.slice base n cap) w := by
  cases ad <;> cases base <;> simp [Builtin.append_, run_underlying ht, sizeOf, typeInfo, hi, Builtin.lenOf, Builtin.firstCells, loadCells, loadCellsFrom, storeCells, hn]

theorem step_append_zero {P : Program} (w : World) {ops : Array Oper} {o : Oper} {a : Act} {K : Act → World → Prop} {Q : Exit → Act → World → Prop} {E : Prop} (hgd : o.guard = none) (s x : Operand) (t : TypeId)
    (ho : o.op = .call { callee := .builtin .append, args := #[s, x], argTypes := #[t, t] }) (e : TypeId) (i : TypeInfo) (ht : P.underlying t = some (.slice e)) (hi : P.info? e = some i)
    (base : Option Addr) (n cap : Nat) (hs : a.eval s = .slice base n cap) (hn : n ≤ cap) (ad : Option Addr) (c : Nat) (hx : a.eval x = .slice ad 0 c) (h : K (a.put o.dst (.slice base n cap)) w) :
    if Region.wanted o (yielded ops a.tmps) = true then Oper.wp P o a w K Q else E := by
  have hw : Region.wanted o (yielded ops a.tmps) = true := by simp [Region.wanted, hgd]
  rw [if_pos hw]
  unfold Oper.wp execOp
  simp only [ho, resolve, invoke, builtin, Sem.run_bind, Sem.run_pure, Result.andThen_ok, List.map_toArray, List.map_cons, List.map_nil, hs, hx, run_append_zero w t o.type e i ht hi base ad n cap c hn]
  exact h

theorem own_cap {w : World} {B n cap : Nat} {a : Option Addr} {xs : List Value} (h : w.ownsRow B 30 16 (.slice a n cap) n xs) : n ≤ cap := by
  rcases h.2 with ⟨e, _⟩ | ⟨g, cap', cur, e, _, _, hc, _⟩
  · cases e; exact Nat.le_refl _
  · cases e; exact hc
theorem own_below {w w1 : World} {B n : Nat} {v : Value} {xs : List Value} (hb : Below w.heap.size w w1) (h : w.ownsRow B 30 16 v n xs) : w1.ownsRow B 30 16 v n xs := by
  refine ⟨h.1, ?_⟩
  rcases h.2 with hn | ⟨g, cap, cur, rfl, hb', hgg, rest⟩
  · exact .inl hn
  · exact .inr ⟨g, cap, cur, rfl, hb', (hb.block g (Array.getElem?_eq_some_iff.1 hgg).1).trans hgg, rest⟩
theorem own_drew {w : World} {B n : Nat} {v : Value} {xs : List Value} (h : w.ownsRow B 30 16 v n xs) : w.drew.ownsRow B 30 16 v n xs := h
end Go.Proofs.Ytoingfnpffaopaa
