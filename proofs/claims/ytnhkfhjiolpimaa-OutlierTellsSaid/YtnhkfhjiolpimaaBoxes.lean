/- Structs that were boxed: settings, what is known of a backend, and both together; their cells, what keeps them. No program in sight. -/
import Derived.Test.YtnhkfhjiolpimaaBase
import Derived.Test.YtnhkfhjiolpimaaPlain
namespace Go.Proofs.Ytnhkfhjiolpimaa
open Go.RowKit

def SetBox (w : World) (b : Nat) (s : OSet) : Prop := w.heap[b]? = some (.cells #[.int .i64 s.row, .int .i64 s.mille, .int .i64 s.least, .int .i64 s.base, .int .i64 s.most, .int .i64 s.percent, .int .i64 s.panic] 23 (0, 0))
theorem SetBox.cell {w : World} {b : Nat} {s : OSet} (h : SetBox w b s) : (w.cell? ⟨b, 0, none⟩ = some (.int .i64 s.row) ∧ w.cell? ⟨b, 1, none⟩ = some (.int .i64 s.mille) ∧ w.cell? ⟨b, 2, none⟩ = some (.int .i64 s.least) ∧ w.cell? ⟨b, 3, none⟩ = some (.int .i64 s.base) ∧ w.cell? ⟨b, 4, none⟩ = some (.int .i64 s.most) ∧ w.cell? ⟨b, 5, none⟩ = some (.int .i64 s.percent) ∧ w.cell? ⟨b, 6, none⟩ = some (.int .i64 s.panic)) ∧ ∀ o, w.frozen? ⟨b, o, none⟩ = false := by
  unfold SetBox at h
  simp [World.cell?, World.frozen?, h]
theorem SetBox.lt {w : World} {b : Nat} {s : OSet} (h : SetBox w b s) : b < w.heap.size := by
  unfold SetBox at h
  by_cases hb : b < w.heap.size
  · exact hb
  · rw [Array.getElem?_eq_none (by omega)] at h
    exact absurd h (by simp)
theorem SetBox.below {w w1 : World} {b B : Nat} {s : OSet} (h : SetBox w b s) (hb : Below B w w1) (hB : b < B) : SetBox w1 b s := by
  unfold SetBox at h ⊢
  rw [hb.block b hB]; exact h
theorem SetBox.kept {w w1 : World} {b : Nat} {s : OSet} (h : SetBox w b s) (hb : Below w.heap.size w w1) : SetBox w1 b s := h.below hb h.lt
theorem SetBox.alloc {w : World} {b : Nat} {s : OSet} (h : SetBox w b s) (x : Obj) : SetBox (w.alloc x) b s := h.kept (below_alloc (Below.refl _ _) x)
theorem SetBox.new (w : World) (b : Nat) (hb : b = w.heap.size) (s : OSet) : SetBox (w.alloc (.cells #[.int .i64 s.row, .int .i64 s.mille, .int .i64 s.least, .int .i64 s.base, .int .i64 s.most, .int .i64 s.percent, .int .i64 s.panic] 23)) b s := by
  subst hb
  unfold SetBox
  show (w.heap.push _)[w.heap.size]? = _
  simp
theorem SetBox.heap {w w1 : World} {b : Nat} {s : OSet} (h : SetBox w b s) (ha : w1.heap = w.heap) : SetBox w1 b s := by
  unfold SetBox at h ⊢
  rw [ha]; exact h

def OutBox (w : World) (b : Nat) (o : Out) : Prop := w.heap[b]? = some (.cells #[.int .i64 o.row, .int .i64 o.good, .int .i64 o.bad, .int .i64 o.times, .int .i64 o.since, .int .i64 o.till, .bool o.out] 33 (0, 0))
theorem OutBox.cell {w : World} {b : Nat} {o : Out} (h : OutBox w b o) : (w.cell? ⟨b, 0, none⟩ = some (.int .i64 o.row) ∧ w.cell? ⟨b, 1, none⟩ = some (.int .i64 o.good) ∧ w.cell? ⟨b, 2, none⟩ = some (.int .i64 o.bad) ∧ w.cell? ⟨b, 3, none⟩ = some (.int .i64 o.times) ∧ w.cell? ⟨b, 4, none⟩ = some (.int .i64 o.since) ∧ w.cell? ⟨b, 5, none⟩ = some (.int .i64 o.till) ∧ w.cell? ⟨b, 6, none⟩ = some (.bool o.out)) ∧ ∀ o, w.frozen? ⟨b, o, none⟩ = false := by
  unfold OutBox at h
  simp [World.cell?, World.frozen?, h]
theorem OutBox.lt {w : World} {b : Nat} {o : Out} (h : OutBox w b o) : b < w.heap.size := by
  unfold OutBox at h
  by_cases hb : b < w.heap.size
  · exact hb
  · rw [Array.getElem?_eq_none (by omega)] at h
    exact absurd h (by simp)
theorem OutBox.below {w w1 : World} {b B : Nat} {o : Out} (h : OutBox w b o) (hb : Below B w w1) (hB : b < B) : OutBox w1 b o := by
  unfold OutBox at h ⊢
  rw [hb.block b hB]; exact h
theorem OutBox.kept {w w1 : World} {b : Nat} {o : Out} (h : OutBox w b o) (hb : Below w.heap.size w w1) : OutBox w1 b o := h.below hb h.lt
theorem OutBox.alloc {w : World} {b : Nat} {o : Out} (h : OutBox w b o) (x : Obj) : OutBox (w.alloc x) b o := h.kept (below_alloc (Below.refl _ _) x)
theorem OutBox.new (w : World) (b : Nat) (hb : b = w.heap.size) (o : Out) : OutBox (w.alloc (.cells #[.int .i64 o.row, .int .i64 o.good, .int .i64 o.bad, .int .i64 o.times, .int .i64 o.since, .int .i64 o.till, .bool o.out] 33)) b o := by
  subst hb
  unfold OutBox
  show (w.heap.push _)[w.heap.size]? = _
  simp
theorem OutBox.heap {w w1 : World} {b : Nat} {o : Out} (h : OutBox w b o) (ha : w1.heap = w.heap) : OutBox w1 b o := by
  unfold OutBox at h ⊢
  rw [ha]; exact h

def Known (w : World) (b : Nat) (o : Out) (s : OSet) (t : Int) : Prop := w.heap[b]? = some (.cells #[.int .i64 o.row, .int .i64 o.good, .int .i64 o.bad, .int .i64 o.times, .int .i64 o.since, .int .i64 o.till, .bool o.out, .int .i64 s.row, .int .i64 s.mille, .int .i64 s.least, .int .i64 s.base, .int .i64 s.most, .int .i64 s.percent, .int .i64 s.panic, .int .i64 t] 59 (0, 0))
theorem Known.cell {w : World} {b : Nat} {o : Out} {s : OSet} {t : Int} (h : Known w b o s t) : (w.cell? ⟨b, 0, none⟩ = some (.int .i64 o.row) ∧ w.cell? ⟨b, 1, none⟩ = some (.int .i64 o.good) ∧ w.cell? ⟨b, 2, none⟩ = some (.int .i64 o.bad) ∧ w.cell? ⟨b, 3, none⟩ = some (.int .i64 o.times) ∧ w.cell? ⟨b, 4, none⟩ = some (.int .i64 o.since) ∧ w.cell? ⟨b, 5, none⟩ = some (.int .i64 o.till) ∧ w.cell? ⟨b, 6, none⟩ = some (.bool o.out) ∧ w.cell? ⟨b, 7, none⟩ = some (.int .i64 s.row) ∧ w.cell? ⟨b, 8, none⟩ = some (.int .i64 s.mille) ∧ w.cell? ⟨b, 9, none⟩ = some (.int .i64 s.least) ∧ w.cell? ⟨b, 10, none⟩ = some (.int .i64 s.base) ∧ w.cell? ⟨b, 11, none⟩ = some (.int .i64 s.most) ∧ w.cell? ⟨b, 12, none⟩ = some (.int .i64 s.percent) ∧ w.cell? ⟨b, 13, none⟩ = some (.int .i64 s.panic) ∧ w.cell? ⟨b, 14, none⟩ = some (.int .i64 t)) ∧ ∀ o, w.frozen? ⟨b, o, none⟩ = false := by
  unfold Known at h
  simp [World.cell?, World.frozen?, h]
theorem Known.lt {w : World} {b : Nat} {o : Out} {s : OSet} {t : Int} (h : Known w b o s t) : b < w.heap.size := by
  unfold Known at h
  by_cases hb : b < w.heap.size
  · exact hb
  · rw [Array.getElem?_eq_none (by omega)] at h
    exact absurd h (by simp)
theorem Known.below {w w1 : World} {b B : Nat} {o : Out} {s : OSet} {t : Int} (h : Known w b o s t) (hb : Below B w w1) (hB : b < B) : Known w1 b o s t := by
  unfold Known at h ⊢
  rw [hb.block b hB]; exact h
theorem Known.kept {w w1 : World} {b : Nat} {o : Out} {s : OSet} {t : Int} (h : Known w b o s t) (hb : Below w.heap.size w w1) : Known w1 b o s t := h.below hb h.lt
theorem Known.alloc {w : World} {b : Nat} {o : Out} {s : OSet} {t : Int} (h : Known w b o s t) (x : Obj) : Known (w.alloc x) b o s t := h.kept (below_alloc (Below.refl _ _) x)
theorem Known.new (w : World) (b : Nat) (hb : b = w.heap.size) (o : Out) (s : OSet) (t : Int) : Known (w.alloc (.cells #[.int .i64 o.row, .int .i64 o.good, .int .i64 o.bad, .int .i64 o.times, .int .i64 o.since, .int .i64 o.till, .bool o.out, .int .i64 s.row, .int .i64 s.mille, .int .i64 s.least, .int .i64 s.base, .int .i64 s.most, .int .i64 s.percent, .int .i64 s.panic, .int .i64 t] 59)) b o s t := by
  subst hb
  unfold Known
  show (w.heap.push _)[w.heap.size]? = _
  simp
theorem Known.heap {w w1 : World} {b : Nat} {o : Out} {s : OSet} {t : Int} (h : Known w b o s t) (ha : w1.heap = w.heap) : Known w1 b o s t := by
  unfold Known at h ⊢
  rw [ha]; exact h

theorem below_at {a w w1 : World} {b : Nat} (h : Below a.heap.size a w) (h1 : Below b w w1) (hb : a.heap.size ≤ b) : Below a.heap.size a w1 := h.trans (h1.mono hb)
end Go.Proofs.Ytnhkfhjiolpimaa
