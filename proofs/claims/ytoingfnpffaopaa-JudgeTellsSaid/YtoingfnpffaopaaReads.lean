/- Where a slice of whole numbers, or of truth values, leads. No program in sight. -/
import Derived.Test.YtoingfnpffaopaaBase
namespace Go.Proofs.Ytoingfnpffaopaa
open Go.RowKit

/-- A slice's start leads to these whole numbers. -/
def IntsAt (w : World) (a : Option Addr) (l : List Int) : Prop :=
  l = [] ∨ ∃ b off, a = some ⟨b, off, none⟩ ∧ b < w.heap.size ∧ ∀ i, i < l.length → w.cell? ⟨b, off + i, none⟩ = some (.int .i64 (l.getD i 0))

/-- A slice's start leads to these truth values. -/
def BoolsAt (w : World) (a : Option Addr) (l : List Bool) : Prop :=
  l = [] ∨ ∃ b off, a = some ⟨b, off, none⟩ ∧ b < w.heap.size ∧ ∀ i, i < l.length → w.cell? ⟨b, off + i, none⟩ = some (.bool (l.getD i false))

theorem IntsAt.below {w w1 : World} {B : Nat} {a : Option Addr} {l : List Int} (h : IntsAt w a l) (hb : Below B w w1) (hB : w.heap.size ≤ B) : IntsAt w1 a l := by
  rcases h with h | ⟨b, off, h1, h2, h3⟩
  · exact .inl h
  · exact .inr ⟨b, off, h1, Nat.lt_of_lt_of_le h2 hb.size, fun i hi => (hb.cell (p := ⟨b, off + i, none⟩) (Nat.lt_of_lt_of_le h2 hB)).trans (h3 i hi)⟩

theorem IntsAt.at {w : World} {a : Option Addr} {l : List Int} (h : IntsAt w a l) {i : Nat} (hi : i < l.length) :
    ∃ b off, a = some ⟨b, off, none⟩ ∧ b < w.heap.size ∧ w.cell? ⟨b, off + i, none⟩ = some (.int .i64 (l.getD i 0)) := by
  rcases h with h | ⟨b, off, h1, h2, h3⟩
  · subst h; exact absurd hi (Nat.not_lt_zero _)
  · exact ⟨b, off, h1, h2, h3 i hi⟩

theorem BoolsAt.below {w w1 : World} {B : Nat} {a : Option Addr} {l : List Bool} (h : BoolsAt w a l) (hb : Below B w w1) (hB : w.heap.size ≤ B) : BoolsAt w1 a l := by
  rcases h with h | ⟨b, off, h1, h2, h3⟩
  · exact .inl h
  · exact .inr ⟨b, off, h1, Nat.lt_of_lt_of_le h2 hb.size, fun i hi => (hb.cell (p := ⟨b, off + i, none⟩) (Nat.lt_of_lt_of_le h2 hB)).trans (h3 i hi)⟩

theorem BoolsAt.at {w : World} {a : Option Addr} {l : List Bool} (h : BoolsAt w a l) {i : Nat} (hi : i < l.length) :
    ∃ b off, a = some ⟨b, off, none⟩ ∧ b < w.heap.size ∧ w.cell? ⟨b, off + i, none⟩ = some (.bool (l.getD i false)) := by
  rcases h with h | ⟨b, off, h1, h2, h3⟩
  · subst h; exact absurd hi (Nat.not_lt_zero _)
  · exact ⟨b, off, h1, h2, h3 i hi⟩
end Go.Proofs.Ytoingfnpffaopaa
