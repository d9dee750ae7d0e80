/- What more, end, ripe, eject of a known make of it. Condition: a known lies at the block. -/
import Derived.Test.YtnhkfhjiolpimaaCheck
import Derived.RegionTactic
import Derived.ChangeAlike
import Derived.BigRegion
import Derived.Deep.QuietTactic
import Derived.BigQuiet
namespace Go.Proofs.Ytnhkfhjiolpimaa
open Go.RowKit

theorem block_set {w : World} {b : Nat} {cs : Array Value} {T : TypeId} {fr : Nat × Nat} (h : w.heap[b]? = some (.cells cs T fr)) (j : Nat) (v : Value) : (w.setCell ⟨b, j, none⟩ v).heap[b]? = some (.cells (cs.setIfInBounds j v) T fr) := by
  simp [World.setCell, Array.getElem?_modify, h]

theorem Known.row {w : World} {b : Nat} {o : Out} {s : OSet} {t : Int} (h : Known w b o s t) (n : Int) : Known (w.setCell ⟨b, 0, none⟩ (.int .i64 n)) b { o with row := n } s t := by
  unfold Known at h ⊢
  rw [block_set h]; rfl
theorem Known.good {w : World} {b : Nat} {o : Out} {s : OSet} {t : Int} (h : Known w b o s t) (n : Int) : Known (w.setCell ⟨b, 1, none⟩ (.int .i64 n)) b { o with good := n } s t := by
  unfold Known at h ⊢
  rw [block_set h]; rfl
theorem Known.bad {w : World} {b : Nat} {o : Out} {s : OSet} {t : Int} (h : Known w b o s t) (n : Int) : Known (w.setCell ⟨b, 2, none⟩ (.int .i64 n)) b { o with bad := n } s t := by
  unfold Known at h ⊢
  rw [block_set h]; rfl
theorem Known.out {w : World} {b : Nat} {o : Out} {s : OSet} {t : Int} (h : Known w b o s t) (n : Bool) : Known (w.setCell ⟨b, 6, none⟩ (.bool n)) b { o with out := n } s t := by
  unfold Known at h ⊢
  rw [block_set h]; rfl

/-- The known at block b turns to o'; below b nothing has turned. -/
def Turned (b : Nat) (o' : Out) (s : OSet) (t : Int) (v : Value) (w : World) (e : Ending) (w' : World) : Prop := e = .returned v ∧ Known w' b o' s t ∧ Below b w w'

set_option maxHeartbeats 1000000 in
theorem more_any (b off : Nat) (n : Int) (w : World) (h : w.cell? ⟨b, off, none⟩ = some (.int .i64 n)) (hf : w.frozen? ⟨b, off, none⟩ = false) (h0 : 0 ≤ n) (h1 : n ≤ 1048576) :
    Calls Try.prog 33 #[.pointer (some ⟨b, off, none⟩)] w fun e w' => e = .returned (.tuple #[]) ∧ w.setCell ⟨b, off, none⟩ (.int .i64 (up n)) = w' := by
  by_cases h2 : 1048576 < n + 1
  · have HU := Lib.hid (show up n = 1048576 by unfold up; rw [if_pos h2])
    go_enter Try.func33, Try.ntmps33
    go_wp2
    go_end0
    exact ⟨rfl, by rw [HU.out]⟩
  · have HU := Lib.hid (show up n = n + 1 by unfold up; rw [if_neg h2])
    go_enter Try.func33, Try.ntmps33
    go_wp2
    go_end0
    exact ⟨rfl, by rw [HU.out]⟩

set_option maxHeartbeats 2000000 in
theorem end_any (b : Nat) (o : Out) (s : OSet) (t : Int) (g : Bool) (w : World) (hK : Known w b o s t) (ho : OutP o) :
    Calls Try.prog 32 #[.pointer (some ⟨b, 0, none⟩), .bool g] w (Turned b (endO o g) s t (.tuple #[]) w) := by
  obtain ⟨⟨d0, d1, d2, d3, d4, d5, d6, _⟩, hf⟩ := hK.cell
  have f0 := hf 0
  have f1 := hf 1
  have f2 := hf 2
  have HK := Lib.hid hK
  have HO := Lib.hid ho
  clear hf hK ho
  cases g with
  | true =>
    go_enter Try.func32, Try.ntmps32
    go_wp2_with (fail)
    have hK1 := HK.out.row 0
    obtain ⟨⟨_, e1, _⟩, hf1⟩ := hK1.cell
    refine (more_any _ _ _ _ e1 (hf1 1) HO.out.good0 HO.out.good1).mono ?_
    rintro e w1 ⟨rfl, rfl⟩
    have HK2 := Lib.hid (hK1.good (up o.good))
    clear hK1 e1 hf1
    go_wp2
    go_end0
    exact ⟨rfl, HK2.out, ((Below.refl b w).setCell (Nat.le_refl _) _).setCell (Nat.le_refl _) _⟩
  | false =>
    go_enter Try.func32, Try.ntmps32
    go_wp2_with (fail)
    refine (more_any _ _ _ _ d0 f0 HO.out.row0 HO.out.row1).mono ?_
    rintro e w1 ⟨rfl, rfl⟩
    have hK1 := HK.out.row (up o.row)
    obtain ⟨⟨_, _, e1, _⟩, hf1⟩ := hK1.cell
    have HK1 := Lib.hid hK1
    go_wp2_with (fail)
    refine (more_any _ _ _ _ e1 (hf1 2) HO.out.bad0 HO.out.bad1).mono ?_
    rintro e w1 ⟨rfl, rfl⟩
    have HK2 := Lib.hid (HK1.out.bad (up o.bad))
    clear hK1 e1 hf1
    go_wp2
    go_end0
    exact ⟨rfl, HK2.out, ((Below.refl b w).setCell (Nat.le_refl _) _).setCell (Nat.le_refl _) _⟩
end Go.Proofs.Ytnhkfhjiolpimaa
