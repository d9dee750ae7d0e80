/- A client set, and the block that holds one. Conditions: none. -/
import Derived.Test.YtoingfnpffaopaaBud
namespace Go.Proofs.Ytoingfnpffaopaa
open Go.RowKit

structure CS where
  s0 : Int
  s1 : Bool
  s2 : Int
  s3 : Int
  s4 : Int
  s5 : Int
  s6 : Int
  s7 : Int
  s8 : Int
  s9 : Int
  s10 : Int
  s11 : Int
  s12 : Int
  s13 : Int
  s14 : Int
  s15 : Int
  s16 : Int
  s17 : Int
  s18 : Int
  s19 : Int
  s20 : Int
  s21 : Int
  s22 : Int
  s23 : Int
  s24 : Int
  s25 : Int

def CsBox (w : World) (b : Nat) (s : CS) : Prop := w.heap[b]? = some (.cells #[.int .i64 s.s0, .bool s.s1, .int .i64 s.s2, .int .i64 s.s3, .int .i64 s.s4, .int .i64 s.s5, .int .i64 s.s6, .int .i64 s.s7, .int .i64 s.s8, .int .i64 s.s9, .int .i64 s.s10, .int .i64 s.s11, .int .i64 s.s12, .int .i64 s.s13, .int .i64 s.s14, .int .i64 s.s15, .int .i64 s.s16, .int .i64 s.s17, .int .i64 s.s18, .int .i64 s.s19, .int .i64 s.s20, .int .i64 s.s21, .int .i64 s.s22, .int .i64 s.s23, .int .i64 s.s24, .int .i64 s.s25] 43 (0, 0))
theorem CsBox.bucket {w : World} {b : Nat} {s : CS} (h : CsBox w b s) : w.cell? ⟨b, 13, none⟩ = some (.int .i64 s.s13) ∧ w.cell? ⟨b, 14, none⟩ = some (.int .i64 s.s14) ∧ w.cell? ⟨b, 15, none⟩ = some (.int .i64 s.s15) ∧ w.cell? ⟨b, 16, none⟩ = some (.int .i64 s.s16) := by
  unfold CsBox at h
  simp [World.cell?, h]
theorem CsBox.lt {w : World} {b : Nat} {s : CS} (h : CsBox w b s) : b < w.heap.size := by
  unfold CsBox at h
  by_cases hb : b < w.heap.size
  · exact hb
  · rw [Array.getElem?_eq_none (by omega)] at h
    exact absurd h (by simp)
theorem CsBox.same {w w1 : World} {b : Nat} {s : CS} (h : CsBox w b s) (e : w1.heap[b]? = w.heap[b]?) : CsBox w1 b s := by
  unfold CsBox at h ⊢
  rw [e]; exact h
theorem CsBox.kept {w w1 : World} {b : Nat} {s : CS} (h : CsBox w b s) (hb : Below w.heap.size w w1) : CsBox w1 b s := h.same (hb.block b h.lt)
theorem CsBox.alloc {w : World} {b : Nat} {s : CS} (h : CsBox w b s) (x : Obj) : CsBox (w.alloc x) b s := h.kept (below_alloc (Below.refl _ _) x)
theorem CsBox.new (w : World) (b : Nat) (hb : b = w.heap.size) (s : CS) : CsBox (w.alloc (.cells #[.int .i64 s.s0, .bool s.s1, .int .i64 s.s2, .int .i64 s.s3, .int .i64 s.s4, .int .i64 s.s5, .int .i64 s.s6, .int .i64 s.s7, .int .i64 s.s8, .int .i64 s.s9, .int .i64 s.s10, .int .i64 s.s11, .int .i64 s.s12, .int .i64 s.s13, .int .i64 s.s14, .int .i64 s.s15, .int .i64 s.s16, .int .i64 s.s17, .int .i64 s.s18, .int .i64 s.s19, .int .i64 s.s20, .int .i64 s.s21, .int .i64 s.s22, .int .i64 s.s23, .int .i64 s.s24, .int .i64 s.s25] 43)) b s := by
  subst hb
  unfold CsBox
  show (w.heap.push _)[w.heap.size]? = _
  simp
end Go.Proofs.Ytoingfnpffaopaa
