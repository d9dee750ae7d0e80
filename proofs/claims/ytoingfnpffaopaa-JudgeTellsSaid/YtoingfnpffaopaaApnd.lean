/- Slices of rows that a law makes by append. Conditions: none. -/
import Derived.Test.YtoingfnpffaopaaAlive
import Derived.Test.YtoingfnpffaopaaLoc
namespace Go.Proofs.Ytoingfnpffaopaa
open Go.RowKit

theorem info30 : (Try.prog.info? 30).map (fun i => (i.zero, i.size, i.bytes)) = some (some (.agg #[.int .i64 0, .int .i64 0, .int .i64 0, .int .i64 0, .int .i64 0, .int .i64 0, .int .i64 0, .int .i64 0, .int .i64 0, .int .i64 0, .int .i64 0, .int .i64 0, .int .i64 0, .int .i64 0, .int .i64 0, .int .i64 0]), 16, 128) := by kernel_rfl

theorem one_cells : ∀ (l : List Rw) (u : Value), u ∈ cellsR l → u.oneCell' = true
  | [], u, h => absurd h (by simp [cellsR])
  | r :: l, u, h => by
    simp only [cellsR, List.mem_cons] at h
    rcases h with h | h | h | h | h | h | h | h | h | h | h | h | h | h | h | h | h
    all_goals first | (rw [h]; rfl) | exact one_cells l u h

theorem add_lit (b o j : Nat) : (⟨b, o, none⟩ : Addr).add j = ⟨b, o + j, none⟩ := by unfold Addr.add; split <;> simp_all

/-- The rows of a slice, as an append wants them. -/
theorem news_rows {w : World} {b off : Nat} {l : List Rw} (h : RowsAt w (some ⟨b, off, none⟩) l) : ∀ j u, (cellsR l)[j]? = some u → w.cell? ((⟨b, off, none⟩ : Addr).add j) = some u := fun j u hu => by
  rw [add_lit]
  exact h.cells j u hu

/-- What is known of a slice on the way: v reads these rows. -/
structure OwnR (B : Nat) (w0 : World) (v : Value) (l : List Rw) (w : World) : Prop where
  below : Below B w0 w
  own : w.ownsRow B 30 16 v l.length (cellsR l)

theorem Below.of_grown {B : Nat} {w0 w w1 : World} {row : Option Nat} (h : Below B w0 w) (hB : B ≤ w.heap.size) (hg : w.grownBy w1 row) (hr : ∀ k, row = some k → B ≤ k) : Below B w0 w1 :=
  h.trans ⟨hg.os, hg.tape, hg.output, hg.size, fun k hk => hg.block k (Nat.lt_of_lt_of_le hk hB) fun e => by have := hr k e.symm; omega⟩

theorem grown_new {w0 w1 : World} {o : Obj} {row : Option Nat} (hg : (w0.alloc o).grownBy w1 row) (hr : some w0.heap.size ≠ row) : w1.heap[w0.heap.size]? = some o :=
  (hg.block _ (by simp) hr).trans (heap_alloc_new w0 o)
theorem grown_newd {w0 w1 : World} {o : Obj} {row : Option Nat} (hg : (w0.alloc o).drew.grownBy w1 row) (hr : some w0.heap.size ≠ row) : w1.heap[w0.heap.size]? = some o :=
  (hg.block _ (by simp) hr).trans (heap_alloc_new w0 o)
theorem bg_row {w w1 w2 : World} {v : Value} {n : Nat} {xs : List Value} {p : Prop} (h : Below w.heap.size w w1 ∧ p) (ho : w1.ownsRow w.heap.size 30 16 v n xs) (hg : w1.grownBy w2 v.ownBlock) : Below w.heap.size w w2 :=
  Below.of_grown h.1 h.1.size hg fun k hk => (ho.lt k hk).1
theorem rows_held {w w1 : World} {a : Option Addr} {l : List Rw} {p : Prop} (hr : RowsAt w a l) (h : Below w.heap.size w w1 ∧ p) : RowsAt w1 a l := hr.below h.1 (Nat.le_refl _)
theorem size_held {w w1 : World} {p : Prop} (h : Below w.heap.size w w1 ∧ p) : w.heap.size ≤ w1.heap.size := h.1.size
theorem below_heldd {w w1 : World} {o : Obj} {p : Prop} (h : Below w.heap.size w w1.drew ∧ p) : Below w.heap.size w (w1.alloc o).drew := by
  have h1 : Below w.heap.size w w1 := ⟨h.1.os, h.1.tape, h.1.output, h.1.size, h.1.block⟩
  exact (below_alloc h1 o).drew
end Go.Proofs.Ytoingfnpffaopaa
