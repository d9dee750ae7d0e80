/- What was boxed: rows, places, calls, and single values; their cells, what keeps them. No program in sight. -/
import Derived.Test.YtoingfnpffaopaaBase
import Derived.Test.YtoingfnpffaopaaRowz
namespace Go.Proofs.Ytoingfnpffaopaa
open Go.RowKit

def RowBox (w : World) (b : Nat) (r : Rw) : Prop := w.heap[b]? = some (.cells #[.int .i64 r.kind, .int .i64 r.step, .int .i64 r.client, .int .i64 r.call, .int .i64 r.backend, .int .i64 r.incarnation, .int .i64 r.session, .int .i64 r.seq, .int .i64 r.what, .int .i64 r.key, .int .i64 r.other, .int .i64 r.amount, .int .i64 r.code, .int .i64 r.place, .int .i64 r.value, .int .i64 r.n] 30 (0, 0))
theorem RowBox.cell {w : World} {b : Nat} {r : Rw} (h : RowBox w b r) : (w.cell? ⟨b, 0, none⟩ = some (.int .i64 r.kind) ∧ w.cell? ⟨b, 1, none⟩ = some (.int .i64 r.step) ∧ w.cell? ⟨b, 2, none⟩ = some (.int .i64 r.client) ∧ w.cell? ⟨b, 3, none⟩ = some (.int .i64 r.call) ∧ w.cell? ⟨b, 4, none⟩ = some (.int .i64 r.backend) ∧ w.cell? ⟨b, 5, none⟩ = some (.int .i64 r.incarnation) ∧ w.cell? ⟨b, 6, none⟩ = some (.int .i64 r.session) ∧ w.cell? ⟨b, 7, none⟩ = some (.int .i64 r.seq) ∧ w.cell? ⟨b, 8, none⟩ = some (.int .i64 r.what) ∧ w.cell? ⟨b, 9, none⟩ = some (.int .i64 r.key) ∧ w.cell? ⟨b, 10, none⟩ = some (.int .i64 r.other) ∧ w.cell? ⟨b, 11, none⟩ = some (.int .i64 r.amount) ∧ w.cell? ⟨b, 12, none⟩ = some (.int .i64 r.code) ∧ w.cell? ⟨b, 13, none⟩ = some (.int .i64 r.place) ∧ w.cell? ⟨b, 14, none⟩ = some (.int .i64 r.value) ∧ w.cell? ⟨b, 15, none⟩ = some (.int .i64 r.n)) ∧ ∀ o, w.frozen? ⟨b, o, none⟩ = false := by
  unfold RowBox at h
  simp [World.cell?, World.frozen?, h]
theorem RowBox.lt {w : World} {b : Nat} {r : Rw} (h : RowBox w b r) : b < w.heap.size := by
  unfold RowBox at h
  by_cases hb : b < w.heap.size
  · exact hb
  · rw [Array.getElem?_eq_none (by omega)] at h
    exact absurd h (by simp)
theorem RowBox.same {w w1 : World} {b : Nat} {r : Rw} (h : RowBox w b r) (e : w1.heap[b]? = w.heap[b]?) : RowBox w1 b r := by
  unfold RowBox at h ⊢
  rw [e]; exact h
theorem RowBox.kept {w w1 : World} {b : Nat} {r : Rw} (h : RowBox w b r) (hb : Below w.heap.size w w1) : RowBox w1 b r := h.same (hb.block b h.lt)
theorem RowBox.alloc {w : World} {b : Nat} {r : Rw} (h : RowBox w b r) (x : Obj) : RowBox (w.alloc x) b r := h.kept (below_alloc (Below.refl _ _) x)
theorem RowBox.new (w : World) (b : Nat) (hb : b = w.heap.size) (r : Rw) : RowBox (w.alloc (.cells #[.int .i64 r.kind, .int .i64 r.step, .int .i64 r.client, .int .i64 r.call, .int .i64 r.backend, .int .i64 r.incarnation, .int .i64 r.session, .int .i64 r.seq, .int .i64 r.what, .int .i64 r.key, .int .i64 r.other, .int .i64 r.amount, .int .i64 r.code, .int .i64 r.place, .int .i64 r.value, .int .i64 r.n] 30)) b r := by
  subst hb
  unfold RowBox
  show (w.heap.push _)[w.heap.size]? = _
  simp

def SpotBox (w : World) (b : Nat) (x1 x2 x3 x4 x5 : Int) : Prop := w.heap[b]? = some (.cells #[.int .i64 x1, .int .i64 x2, .int .i64 x3, .int .i64 x4, .int .i64 x5] 55 (0, 0))
theorem SpotBox.cell {w : World} {b : Nat} {x1 x2 x3 x4 x5 : Int} (h : SpotBox w b x1 x2 x3 x4 x5) : (w.cell? ⟨b, 0, none⟩ = some (.int .i64 x1) ∧ w.cell? ⟨b, 1, none⟩ = some (.int .i64 x2) ∧ w.cell? ⟨b, 2, none⟩ = some (.int .i64 x3) ∧ w.cell? ⟨b, 3, none⟩ = some (.int .i64 x4) ∧ w.cell? ⟨b, 4, none⟩ = some (.int .i64 x5)) ∧ ∀ o, w.frozen? ⟨b, o, none⟩ = false := by
  unfold SpotBox at h
  simp [World.cell?, World.frozen?, h]
theorem SpotBox.lt {w : World} {b : Nat} {x1 x2 x3 x4 x5 : Int} (h : SpotBox w b x1 x2 x3 x4 x5) : b < w.heap.size := by
  unfold SpotBox at h
  by_cases hb : b < w.heap.size
  · exact hb
  · rw [Array.getElem?_eq_none (by omega)] at h
    exact absurd h (by simp)
theorem SpotBox.same {w w1 : World} {b : Nat} {x1 x2 x3 x4 x5 : Int} (h : SpotBox w b x1 x2 x3 x4 x5) (e : w1.heap[b]? = w.heap[b]?) : SpotBox w1 b x1 x2 x3 x4 x5 := by
  unfold SpotBox at h ⊢
  rw [e]; exact h
theorem SpotBox.kept {w w1 : World} {b : Nat} {x1 x2 x3 x4 x5 : Int} (h : SpotBox w b x1 x2 x3 x4 x5) (hb : Below w.heap.size w w1) : SpotBox w1 b x1 x2 x3 x4 x5 := h.same (hb.block b h.lt)
theorem SpotBox.alloc {w : World} {b : Nat} {x1 x2 x3 x4 x5 : Int} (h : SpotBox w b x1 x2 x3 x4 x5) (x : Obj) : SpotBox (w.alloc x) b x1 x2 x3 x4 x5 := h.kept (below_alloc (Below.refl _ _) x)
theorem SpotBox.new (w : World) (b : Nat) (hb : b = w.heap.size) (x1 x2 x3 x4 x5 : Int) : SpotBox (w.alloc (.cells #[.int .i64 x1, .int .i64 x2, .int .i64 x3, .int .i64 x4, .int .i64 x5] 55)) b x1 x2 x3 x4 x5 := by
  subst hb
  unfold SpotBox
  show (w.heap.push _)[w.heap.size]? = _
  simp

def KeyBox (w : World) (b : Nat) (x1 x2 : Int) : Prop := w.heap[b]? = some (.cells #[.int .i64 x1, .int .i64 x2] 67 (0, 0))
theorem KeyBox.cell {w : World} {b : Nat} {x1 x2 : Int} (h : KeyBox w b x1 x2) : (w.cell? ⟨b, 0, none⟩ = some (.int .i64 x1) ∧ w.cell? ⟨b, 1, none⟩ = some (.int .i64 x2)) ∧ ∀ o, w.frozen? ⟨b, o, none⟩ = false := by
  unfold KeyBox at h
  simp [World.cell?, World.frozen?, h]
theorem KeyBox.lt {w : World} {b : Nat} {x1 x2 : Int} (h : KeyBox w b x1 x2) : b < w.heap.size := by
  unfold KeyBox at h
  by_cases hb : b < w.heap.size
  · exact hb
  · rw [Array.getElem?_eq_none (by omega)] at h
    exact absurd h (by simp)
theorem KeyBox.same {w w1 : World} {b : Nat} {x1 x2 : Int} (h : KeyBox w b x1 x2) (e : w1.heap[b]? = w.heap[b]?) : KeyBox w1 b x1 x2 := by
  unfold KeyBox at h ⊢
  rw [e]; exact h
theorem KeyBox.kept {w w1 : World} {b : Nat} {x1 x2 : Int} (h : KeyBox w b x1 x2) (hb : Below w.heap.size w w1) : KeyBox w1 b x1 x2 := h.same (hb.block b h.lt)
theorem KeyBox.alloc {w : World} {b : Nat} {x1 x2 : Int} (h : KeyBox w b x1 x2) (x : Obj) : KeyBox (w.alloc x) b x1 x2 := h.kept (below_alloc (Below.refl _ _) x)
theorem KeyBox.new (w : World) (b : Nat) (hb : b = w.heap.size) (x1 x2 : Int) : KeyBox (w.alloc (.cells #[.int .i64 x1, .int .i64 x2] 67)) b x1 x2 := by
  subst hb
  unfold KeyBox
  show (w.heap.push _)[w.heap.size]? = _
  simp

def ValBox (w : World) (b : Nat) (T : TypeId) (v : Value) : Prop := w.heap[b]? = some (.cells #[v] T (0, 0))
theorem ValBox.cell {w : World} {b : Nat} {T : TypeId} {v : Value} (h : ValBox w b T v) : (w.cell? ⟨b, 0, none⟩ = some (v)) ∧ ∀ o, w.frozen? ⟨b, o, none⟩ = false := by
  unfold ValBox at h
  simp [World.cell?, World.frozen?, h]
theorem ValBox.lt {w : World} {b : Nat} {T : TypeId} {v : Value} (h : ValBox w b T v) : b < w.heap.size := by
  unfold ValBox at h
  by_cases hb : b < w.heap.size
  · exact hb
  · rw [Array.getElem?_eq_none (by omega)] at h
    exact absurd h (by simp)
theorem ValBox.same {w w1 : World} {b : Nat} {T : TypeId} {v : Value} (h : ValBox w b T v) (e : w1.heap[b]? = w.heap[b]?) : ValBox w1 b T v := by
  unfold ValBox at h ⊢
  rw [e]; exact h
theorem ValBox.kept {w w1 : World} {b : Nat} {T : TypeId} {v : Value} (h : ValBox w b T v) (hb : Below w.heap.size w w1) : ValBox w1 b T v := h.same (hb.block b h.lt)
theorem ValBox.alloc {w : World} {b : Nat} {T : TypeId} {v : Value} (h : ValBox w b T v) (x : Obj) : ValBox (w.alloc x) b T v := h.kept (below_alloc (Below.refl _ _) x)
theorem ValBox.new (w : World) (b : Nat) (hb : b = w.heap.size) (T : TypeId) (v : Value) : ValBox (w.alloc (.cells #[v] T)) b T v := by
  subst hb
  unfold ValBox
  show (w.heap.push _)[w.heap.size]? = _
  simp

def BudBox (w : World) (b : Nat) (x1 x2 x3 : Int) : Prop := w.heap[b]? = some (.cells #[.int .i64 x1, .int .i64 x2, .int .i64 x3] 62 (0, 0))
theorem BudBox.cell {w : World} {b : Nat} {x1 x2 x3 : Int} (h : BudBox w b x1 x2 x3) : (w.cell? ⟨b, 0, none⟩ = some (.int .i64 x1) ∧ w.cell? ⟨b, 1, none⟩ = some (.int .i64 x2) ∧ w.cell? ⟨b, 2, none⟩ = some (.int .i64 x3)) ∧ ∀ o, w.frozen? ⟨b, o, none⟩ = false := by
  unfold BudBox at h
  simp [World.cell?, World.frozen?, h]
theorem BudBox.lt {w : World} {b : Nat} {x1 x2 x3 : Int} (h : BudBox w b x1 x2 x3) : b < w.heap.size := by
  unfold BudBox at h
  by_cases hb : b < w.heap.size
  · exact hb
  · rw [Array.getElem?_eq_none (by omega)] at h
    exact absurd h (by simp)
theorem BudBox.same {w w1 : World} {b : Nat} {x1 x2 x3 : Int} (h : BudBox w b x1 x2 x3) (e : w1.heap[b]? = w.heap[b]?) : BudBox w1 b x1 x2 x3 := by
  unfold BudBox at h ⊢
  rw [e]; exact h
theorem BudBox.kept {w w1 : World} {b : Nat} {x1 x2 x3 : Int} (h : BudBox w b x1 x2 x3) (hb : Below w.heap.size w w1) : BudBox w1 b x1 x2 x3 := h.same (hb.block b h.lt)
theorem BudBox.alloc {w : World} {b : Nat} {x1 x2 x3 : Int} (h : BudBox w b x1 x2 x3) (x : Obj) : BudBox (w.alloc x) b x1 x2 x3 := h.kept (below_alloc (Below.refl _ _) x)
theorem BudBox.new (w : World) (b : Nat) (hb : b = w.heap.size) (x1 x2 x3 : Int) : BudBox (w.alloc (.cells #[.int .i64 x1, .int .i64 x2, .int .i64 x3] 62)) b x1 x2 x3 := by
  subst hb
  unfold BudBox
  show (w.heap.push _)[w.heap.size]? = _
  simp

theorem block_set {w : World} {b : Nat} {cs : Array Value} {T : TypeId} {fr : Nat × Nat} (h : w.heap[b]? = some (.cells cs T fr)) (j : Nat) (v : Value) : (w.setCell ⟨b, j, none⟩ v).heap[b]? = some (.cells (cs.setIfInBounds j v) T fr) := by
  simp [World.setCell, Array.getElem?_modify, h]
theorem block_far (w : World) {b c : Nat} (j : Nat) (hne : b ≠ c) (v : Value) : (w.setCell ⟨c, j, none⟩ v).heap[b]? = w.heap[b]? := by
  simp only [World.setCell, Array.getElem?_modify]
  rw [if_neg (by omega)]
end Go.Proofs.Ytoingfnpffaopaa
