/- What eject of a known makes of it. Condition: a known lies at the block. -/
import Derived.Test.YtnhkfhjiolpimaaRipe
namespace Go.Proofs.Ytnhkfhjiolpimaa
open Go.RowKit

theorem Known.whole {w : World} {b : Nat} {o : Out} {s : OSet} {t : Int} (h : Known w b o s t) (o' : Out) :
    Known (((((((w.setCell ⟨b, 0, none⟩ (.int .i64 o'.row)).setCell ⟨b, 1, none⟩ (.int .i64 o'.good)).setCell ⟨b, 2, none⟩ (.int .i64 o'.bad)).setCell ⟨b, 3, none⟩ (.int .i64 o'.times)).setCell ⟨b, 4, none⟩ (.int .i64 o'.since)).setCell ⟨b, 5, none⟩ (.int .i64 o'.till)).setCell ⟨b, 6, none⟩ (.bool o'.out)) b o' s t := by
  unfold Known at h ⊢
  rw [block_set (block_set (block_set (block_set (block_set (block_set (block_set h 0 _) 1 _) 2 _) 3 _) 4 _) 5 _) 6 _]; rfl

theorem Known.drew {w : World} {b : Nat} {o : Out} {s : OSet} {t : Int} (h : Known w b o s t) : Known w.drew b o s t := h.heap rfl

theorem eject_end {w : World} {b : Nat} {o : Out} {s : OSet} {t : Int} (h : Known w b o s t) (x y : Int) (hT : timesO o.times = x) (hy : longO s x = y) :
    Turned b (ejectO o s t) s t (.tuple #[]) w (.returned (.tuple #[])) (((((((w.setCell ⟨b, 0, none⟩ (.int .i64 0)).setCell ⟨b, 1, none⟩ (.int .i64 0)).setCell ⟨b, 2, none⟩ (.int .i64 0)).setCell ⟨b, 3, none⟩ (.int .i64 x)).setCell ⟨b, 4, none⟩ (.int .i64 t)).setCell ⟨b, 5, none⟩ (.int .i64 (t + y))).setCell ⟨b, 6, none⟩ (.bool true)).drew := by
  have e : ejectO o s t = ⟨0, 0, 0, x, t, t + y, true⟩ := by unfold ejectO; rw [hT, hy]
  rw [e]
  have k := h.whole ⟨0, 0, 0, x, t, t + y, true⟩
  simp only at k
  exact ⟨rfl, k.drew, ((((((((Below.refl b w).setCell (Nat.le_refl _) _).setCell (Nat.le_refl _) _).setCell (Nat.le_refl _) _).setCell (Nat.le_refl _) _).setCell (Nat.le_refl _) _).setCell (Nat.le_refl _) _).setCell (Nat.le_refl _) _).drew⟩

set_option maxHeartbeats 4000000 in
theorem eject_any (b : Nat) (o : Out) (s : OSet) (t : Int) (w : World) (hK : Known w b o s t) (ho : OutP o) (hs : SetsP s) (ht : TickP t) :
    Calls Try.prog 28 #[.pointer (some ⟨b, 0, none⟩)] w (Turned b (ejectO o s t) s t (.tuple #[]) w) := by
  obtain ⟨⟨d0, d1, d2, d3, d4, d5, d6, d7, d8, d9, d10, d11, d12, d13, d14⟩, hf⟩ := hK.cell
  have f0 := hf 0
  have f1 := hf 1
  have f2 := hf 2
  have f3 := hf 3
  have f4 := hf 4
  have f5 := hf 5
  have f6 := hf 6
  have HK := Lib.hid hK
  have t0 := ho.times0
  have t1 := ho.times1
  have s0 := hs.base0
  have s1 := hs.base1
  have s2 := hs.most0
  have s3 := hs.most1
  have t2 := ht.t0
  have t3 := ht.t1
  clear hf hK ho hs ht
  by_cases h : 1000 < o.times + 1
  · have HT := Lib.hid (show timesO o.times = 1000 by unfold timesO; rw [if_pos h])
    go_enter Try.func28, Try.ntmps28
    go_wp2
    go_region
    go_end0
    exact eject_end HK.out _ _ HT.out rfl
  · have HT := Lib.hid (show timesO o.times = o.times + 1 by unfold timesO; rw [if_neg h])
    have h5 : o.times + 1 ≤ 1000 := by omega
    have p0 : 0 ≤ s.base * (o.times + 1) := Int.mul_nonneg (by omega) (by omega)
    have p1 : s.base * (o.times + 1) ≤ 1048576 * 1000 := Int.mul_le_mul s1 h5 (by omega) (by omega)
    go_enter Try.func28, Try.ntmps28
    go_wp2
    go_region
    go_end0
    exact eject_end HK.out _ _ HT.out rfl
end Go.Proofs.Ytnhkfhjiolpimaa
