/- Rows of what happened, and where a slice of them leads. No program in sight. -/
import Derived.Test.YtoingfnpffaopaaBase
namespace Go.Proofs.Ytoingfnpffaopaa
open Go.RowKit

structure Rw where
  kind : Int
  step : Int
  client : Int
  call : Int
  backend : Int
  incarnation : Int
  session : Int
  seq : Int
  what : Int
  key : Int
  other : Int
  amount : Int
  code : Int
  place : Int
  value : Int
  n : Int

def Rw.zero : Rw := ⟨0, 0, 0, 0, 0, 0, 0, 0, 0, 0, 0, 0, 0, 0, 0, 0⟩

/-- A row lies at block b from p on. -/
structure RowAt (w : World) (b p : Nat) (r : Rw) : Prop where
  c0 : w.cell? ⟨b, p, none⟩ = some (.int .i64 r.kind)
  c1 : w.cell? ⟨b, p + 1, none⟩ = some (.int .i64 r.step)
  c2 : w.cell? ⟨b, p + 2, none⟩ = some (.int .i64 r.client)
  c3 : w.cell? ⟨b, p + 3, none⟩ = some (.int .i64 r.call)
  c4 : w.cell? ⟨b, p + 4, none⟩ = some (.int .i64 r.backend)
  c5 : w.cell? ⟨b, p + 5, none⟩ = some (.int .i64 r.incarnation)
  c6 : w.cell? ⟨b, p + 6, none⟩ = some (.int .i64 r.session)
  c7 : w.cell? ⟨b, p + 7, none⟩ = some (.int .i64 r.seq)
  c8 : w.cell? ⟨b, p + 8, none⟩ = some (.int .i64 r.what)
  c9 : w.cell? ⟨b, p + 9, none⟩ = some (.int .i64 r.key)
  c10 : w.cell? ⟨b, p + 10, none⟩ = some (.int .i64 r.other)
  c11 : w.cell? ⟨b, p + 11, none⟩ = some (.int .i64 r.amount)
  c12 : w.cell? ⟨b, p + 12, none⟩ = some (.int .i64 r.code)
  c13 : w.cell? ⟨b, p + 13, none⟩ = some (.int .i64 r.place)
  c14 : w.cell? ⟨b, p + 14, none⟩ = some (.int .i64 r.value)
  c15 : w.cell? ⟨b, p + 15, none⟩ = some (.int .i64 r.n)

/-- A slice's start leads to these rows. -/
def RowsAt (w : World) (a : Option Addr) (l : List Rw) : Prop :=
  l = [] ∨ ∃ b off, a = some ⟨b, off, none⟩ ∧ b < w.heap.size ∧ ∀ i, i < l.length → RowAt w b (off + i * 16) (l.getD i Rw.zero)

theorem RowAt.below {w w1 : World} {B b p : Nat} {r : Rw} (h : RowAt w b p r) (hb : Below B w w1) (hB : b < B) : RowAt w1 b p r :=
  ⟨(hb.cell (p := ⟨b, p, none⟩) hB).trans h.c0, (hb.cell (p := ⟨b, p + 1, none⟩) hB).trans h.c1, (hb.cell (p := ⟨b, p + 2, none⟩) hB).trans h.c2, (hb.cell (p := ⟨b, p + 3, none⟩) hB).trans h.c3, (hb.cell (p := ⟨b, p + 4, none⟩) hB).trans h.c4, (hb.cell (p := ⟨b, p + 5, none⟩) hB).trans h.c5, (hb.cell (p := ⟨b, p + 6, none⟩) hB).trans h.c6, (hb.cell (p := ⟨b, p + 7, none⟩) hB).trans h.c7, (hb.cell (p := ⟨b, p + 8, none⟩) hB).trans h.c8, (hb.cell (p := ⟨b, p + 9, none⟩) hB).trans h.c9, (hb.cell (p := ⟨b, p + 10, none⟩) hB).trans h.c10, (hb.cell (p := ⟨b, p + 11, none⟩) hB).trans h.c11, (hb.cell (p := ⟨b, p + 12, none⟩) hB).trans h.c12, (hb.cell (p := ⟨b, p + 13, none⟩) hB).trans h.c13, (hb.cell (p := ⟨b, p + 14, none⟩) hB).trans h.c14, (hb.cell (p := ⟨b, p + 15, none⟩) hB).trans h.c15⟩

theorem RowsAt.below {w w1 : World} {B : Nat} {a : Option Addr} {l : List Rw} (h : RowsAt w a l) (hb : Below B w w1) (hB : w.heap.size ≤ B) : RowsAt w1 a l := by
  rcases h with h | ⟨b, off, h1, h2, h3⟩
  · exact .inl h
  · exact .inr ⟨b, off, h1, Nat.lt_of_lt_of_le h2 hb.size, fun i hi => (h3 i hi).below hb (Nat.lt_of_lt_of_le h2 hB)⟩

theorem RowsAt.at {w : World} {a : Option Addr} {l : List Rw} (h : RowsAt w a l) {i : Nat} (hi : i < l.length) :
    ∃ b off, a = some ⟨b, off, none⟩ ∧ b < w.heap.size ∧ RowAt w b (off + i * 16) (l.getD i Rw.zero) := by
  rcases h with h | ⟨b, off, h1, h2, h3⟩
  · subst h; exact absurd hi (Nat.not_lt_zero _)
  · exact ⟨b, off, h1, h2, h3 i hi⟩

/-- The first place below n of which p holds, or -1. -/
def idx (p : Nat → Bool) (n : Nat) : Int := match (List.range n).find? p with | some i => i | none => -1

theorem idx_none {p : Nat → Bool} {n : Nat} (h : ∀ i, i < n → p i = false) : idx p n = -1 := by
  unfold idx
  rw [List.find?_eq_none.2 fun i hi => by simp [h i (by simpa using hi)]]

theorem idx_some {p : Nat → Bool} {n i : Nat} (hi : i < n) (hp : p i = true) (h : ∀ j, j < i → p j = false) : idx p n = i := by
  unfold idx
  have e : (List.range n).find? p = some i := by
    rw [List.find?_range_eq_some]
    exact ⟨hp, by simpa using hi, fun j hj => by simpa using h j hj⟩
  rw [e]
end Go.Proofs.Ytoingfnpffaopaa
