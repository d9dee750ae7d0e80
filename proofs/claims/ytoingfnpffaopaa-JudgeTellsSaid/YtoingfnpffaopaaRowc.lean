/- The cells of rows, one behind the other; where they lie, the rows lie. No program in sight. -/
import Derived.Test.YtoingfnpffaopaaRowz
import Derived.Laws.AppendOwn
namespace Go.Proofs.Ytoingfnpffaopaa
open Go.RowKit

/-- The cells of rows. -/
def cellsR : List Rw → List Value
  | [] => []
  | r :: l => .int .i64 r.kind :: .int .i64 r.step :: .int .i64 r.client :: .int .i64 r.call :: .int .i64 r.backend :: .int .i64 r.incarnation :: .int .i64 r.session :: .int .i64 r.seq :: .int .i64 r.what :: .int .i64 r.key :: .int .i64 r.other :: .int .i64 r.amount :: .int .i64 r.code :: .int .i64 r.place :: .int .i64 r.value :: .int .i64 r.n :: cellsR l
theorem cellsR_append (l m : List Rw) : cellsR (l ++ m) = cellsR l ++ cellsR m := by
  induction l with
  | nil => rfl
  | cons x l ih => simp [cellsR, ih]
theorem cellsR_len (l : List Rw) : (cellsR l).length = l.length * 16 := by
  induction l with
  | nil => rfl
  | cons x l ih => simp only [cellsR, List.length_cons, ih]; omega

theorem rows_of (w : World) (b : Nat) : ∀ (l : List Rw) (off : Nat), (∀ j u, (cellsR l)[j]? = some u → w.cell? ⟨b, off + j, none⟩ = some u) → ∀ i, i < l.length → RowAt w b (off + i * 16) (l.getD i Rw.zero)
  | [], _, _, _, hi => absurd hi (Nat.not_lt_zero _)
  | r :: l, off, h, 0, _ => by
    rw [Nat.zero_mul]
    exact ⟨h 0 _ rfl, h 1 _ rfl, h 2 _ rfl, h 3 _ rfl, h 4 _ rfl, h 5 _ rfl, h 6 _ rfl, h 7 _ rfl, h 8 _ rfl, h 9 _ rfl, h 10 _ rfl, h 11 _ rfl, h 12 _ rfl, h 13 _ rfl, h 14 _ rfl, h 15 _ rfl⟩
  | r :: l, off, h, i + 1, hi => by
    have := rows_of w b l (off + 16) (fun j u hj => by
      have e := h (j + 16) u (by simpa [cellsR] using hj)
      rw [show off + 16 + j = off + (j + 16) by omega]
      exact e) i (by simpa using hi)
    rw [show off + (i + 1) * 16 = off + 16 + i * 16 by omega]
    exact this

theorem of_rows (w : World) (b : Nat) : ∀ (l : List Rw) (off : Nat), (∀ i, i < l.length → RowAt w b (off + i * 16) (l.getD i Rw.zero)) → ∀ j u, (cellsR l)[j]? = some u → w.cell? ⟨b, off + j, none⟩ = some u
  | [], _, _, _, _, hu => absurd hu (by simp [cellsR])
  | r :: l, off, h, j, u, hu => by
    have h0 := h 0 (by simp)
    rw [Nat.zero_mul] at h0
    by_cases hj : j < 16
    · have hc : j = 0 ∨ j = 1 ∨ j = 2 ∨ j = 3 ∨ j = 4 ∨ j = 5 ∨ j = 6 ∨ j = 7 ∨ j = 8 ∨ j = 9 ∨ j = 10 ∨ j = 11 ∨ j = 12 ∨ j = 13 ∨ j = 14 ∨ j = 15 := by omega
      rcases hc with rfl | rfl | rfl | rfl | rfl | rfl | rfl | rfl | rfl | rfl | rfl | rfl | rfl | rfl | rfl | rfl
      · obtain rfl : _ = u := Option.some.inj hu; exact h0.c0
      · obtain rfl : _ = u := Option.some.inj hu; exact h0.c1
      · obtain rfl : _ = u := Option.some.inj hu; exact h0.c2
      · obtain rfl : _ = u := Option.some.inj hu; exact h0.c3
      · obtain rfl : _ = u := Option.some.inj hu; exact h0.c4
      · obtain rfl : _ = u := Option.some.inj hu; exact h0.c5
      · obtain rfl : _ = u := Option.some.inj hu; exact h0.c6
      · obtain rfl : _ = u := Option.some.inj hu; exact h0.c7
      · obtain rfl : _ = u := Option.some.inj hu; exact h0.c8
      · obtain rfl : _ = u := Option.some.inj hu; exact h0.c9
      · obtain rfl : _ = u := Option.some.inj hu; exact h0.c10
      · obtain rfl : _ = u := Option.some.inj hu; exact h0.c11
      · obtain rfl : _ = u := Option.some.inj hu; exact h0.c12
      · obtain rfl : _ = u := Option.some.inj hu; exact h0.c13
      · obtain rfl : _ = u := Option.some.inj hu; exact h0.c14
      · obtain rfl : _ = u := Option.some.inj hu; exact h0.c15
    · obtain ⟨k, rfl⟩ : ∃ k, j = k + 16 := ⟨j - 16, by omega⟩
      have := of_rows w b l (off + 16) (fun i hi => by
        have e := h (i + 1) (by simpa using hi)
        rw [show off + 16 + i * 16 = off + (i + 1) * 16 by omega]
        exact e) k u (by simpa [cellsR] using hu)
      rw [show off + (k + 16) = off + 16 + k by omega]
      exact this

theorem RowsAt.cells {w : World} {b off : Nat} {l : List Rw} (h : RowsAt w (some ⟨b, off, none⟩) l) : ∀ j u, (cellsR l)[j]? = some u → w.cell? ⟨b, off + j, none⟩ = some u := by
  rcases h with rfl | ⟨b', off', e, _, h⟩
  · intro j u hu
    exact absurd hu (by simp [cellsR])
  · cases e
    exact of_rows w b l off h

theorem rows_new (w : World) (b : Nat) (hb : b = w.heap.size) (l : List Rw) (T : TypeId) : RowsAt (w.alloc (.cells (cellsR l).toArray T)) (some ⟨b, 0, none⟩) l := by
  subst hb
  have h : (w.alloc (.cells (cellsR l).toArray T)).heap[w.heap.size]? = some (.cells (cellsR l).toArray T) := by
    show (w.heap.push _)[w.heap.size]? = _
    simp
  refine .inr ⟨w.heap.size, 0, rfl, by simp, rows_of _ _ l 0 fun j u hu => ?_⟩
  rw [Nat.zero_add, cell_of_row _ _ _ _ _ _ h]
  simpa using hu

/-- What a slice that the call owns reads. -/
theorem rows_own {w : World} {B n cap g : Nat} {l : List Rw} (h : w.ownsRow B 30 16 (.slice (some ⟨g, 0, none⟩) n cap) l.length (cellsR l)) : n = l.length ∧ RowsAt w (some ⟨g, 0, none⟩) l := by
  have hc := h.cells (g := g) rfl
  rcases h.2 with ⟨e, _⟩ | ⟨g', cap', cur, e, _, hg, _⟩
  · exact absurd e (by simp)
  · simp only [Value.slice.injEq, Option.some.injEq, Addr.mk.injEq, and_true] at e
    obtain ⟨rfl, rfl, rfl⟩ := e
    refine ⟨rfl, .inr ⟨g, 0, rfl, (Array.getElem?_eq_some_iff.1 hg).1, rows_of _ _ l 0 fun j u hu => ?_⟩⟩
    have hadd : (⟨g, 0, none⟩ : Addr).add j = ⟨g, j, none⟩ := by unfold Addr.add; split <;> simp_all
    rw [Nat.zero_add, ← hadd]
    exact hc j u hu
end Go.Proofs.Ytoingfnpffaopaa
