/- What Check and Start of both texts hand back, and the two acts of a budget. Conditions: none beyond the cases that are named. -/
import Derived.Test.YtaaebnfagbiaiaaSome
import Derived.RegionTactic
import Derived.ChangeAlike
namespace Go.Proofs.Ytaaebnfagbiaiaa
open Go.RowKit

set_option maxHeartbeats 1000000 in
theorem check_ok (c t r k l : Int) (h : SetsP c t r k) (h0 : 0 ≤ l) (hl : l ≤ 1000 * k) (w : World) :
    Calls Try.prog 21 #[.agg #[.int .i64 c, .int .i64 t, .int .i64 r, .int .i64 k], .int .i64 l] w (Gives (.int .i64 0) w) := by
  have H := Lib.hid h
  obtain ⟨h1, h2, h3, h4, h5, h6, h7⟩ := h
  go_enter Try.func21, Try.ntmps21
  go_wp2_with (go_at_call 28; refine (sets_yes _ _ _ _ H.out _).mono ?_; rintro e w1 ⟨rfl, hb⟩; obtain ⟨hc, hf⟩ := bcell hb)
  go_ret
  exact ⟨rfl, below_step (below_alloc (Below.refl _ _) _) hb⟩

set_option maxHeartbeats 1000000 in
theorem rcheck_no (c t r k l : Int) (h : ¬ SetsP c t r k) (w : World) :
    Calls Try.prog 22 #[.agg #[.int .i64 c, .int .i64 t, .int .i64 r, .int .i64 k], .int .i64 l] w (Gives (.int .i64 4) w) := by
  have H := Lib.hid h
  clear h
  go_enter Try.func22, Try.ntmps22
  go_wp2_with (go_at_call 29; refine (rsets_no _ _ _ _ H.out _).mono ?_; rintro e w1 ⟨rfl, hb⟩)
  go_ret
  exact ⟨rfl, below_step (below_alloc (Below.refl _ _) _) hb⟩

set_option maxHeartbeats 1000000 in
theorem rcheck_out (c t r k l : Int) (h : SetsP c t r k) (hl : l < 0 ∨ 1000 * k < l) (w : World) :
    Calls Try.prog 22 #[.agg #[.int .i64 c, .int .i64 t, .int .i64 r, .int .i64 k], .int .i64 l] w (Gives (.int .i64 9) w) := by
  have H := Lib.hid h
  obtain ⟨h1, h2, h3, h4, h5, h6, h7⟩ := h
  by_cases h8 : l < 0
  all_goals
    go_enter Try.func22, Try.ntmps22
    go_wp2_with (go_at_call 29; refine (rsets_yes _ _ _ _ H.out _).mono ?_; rintro e w1 ⟨rfl, hb⟩; obtain ⟨hc, hf⟩ := bcell hb)
    go_ret
    exact ⟨rfl, below_step (below_alloc (Below.refl _ _) _) hb⟩

set_option maxHeartbeats 1000000 in
theorem rcheck_ok (c t r k l : Int) (h : SetsP c t r k) (h0 : 0 ≤ l) (hl : l ≤ 1000 * k) (w : World) :
    Calls Try.prog 22 #[.agg #[.int .i64 c, .int .i64 t, .int .i64 r, .int .i64 k], .int .i64 l] w (Gives (.int .i64 0) w) := by
  have H := Lib.hid h
  obtain ⟨h1, h2, h3, h4, h5, h6, h7⟩ := h
  go_enter Try.func22, Try.ntmps22
  go_wp2_with (go_at_call 29; refine (rsets_yes _ _ _ _ H.out _).mono ?_; rintro e w1 ⟨rfl, hb⟩; obtain ⟨hc, hf⟩ := bcell hb)
  go_ret
  exact ⟨rfl, below_step (below_alloc (Below.refl _ _) _) hb⟩

set_option maxHeartbeats 1000000 in
theorem start_no (c t r k : Int) (h : ¬ SetsP c t r k) (w : World) :
    Calls Try.prog 14 #[.agg #[.int .i64 c, .int .i64 t, .int .i64 r, .int .i64 k]] w (Gives (.tuple #[.int .i64 0, .int .i64 4]) w) := by
  have H := Lib.hid h
  clear h
  go_enter Try.func14, Try.ntmps14
  go_wp2_with (go_at_call 28; refine (sets_no _ _ _ _ H.out _).mono ?_; rintro e w1 ⟨rfl, hb⟩)
  go_ret2
  exact ⟨rfl, below_step (below_alloc (Below.refl _ _) _) hb⟩

set_option maxHeartbeats 1000000 in
theorem start_ok (c t r k : Int) (h : SetsP c t r k) (w : World) :
    Calls Try.prog 14 #[.agg #[.int .i64 c, .int .i64 t, .int .i64 r, .int .i64 k]] w (Gives (.tuple #[.int .i64 (1000 * r), .int .i64 0]) w) := by
  have H := Lib.hid h
  obtain ⟨h1, h2, h3, h4, h5, h6, h7⟩ := h
  go_enter Try.func14, Try.ntmps14
  go_wp2_with (go_at_call 28; refine (sets_yes _ _ _ _ H.out _).mono ?_; rintro e w1 ⟨rfl, hb⟩; obtain ⟨hc, hf⟩ := bcell hb)
  go_ret2
  exact ⟨rfl, below_step (below_alloc (Below.refl _ _) _) hb⟩

set_option maxHeartbeats 1000000 in
theorem rstart_no (c t r k : Int) (h : ¬ SetsP c t r k) (w : World) :
    Calls Try.prog 15 #[.agg #[.int .i64 c, .int .i64 t, .int .i64 r, .int .i64 k]] w (Gives (.tuple #[.int .i64 0, .int .i64 4]) w) := by
  have H := Lib.hid h
  clear h
  go_enter Try.func15, Try.ntmps15
  go_wp2_with (go_at_call 29; refine (rsets_no _ _ _ _ H.out _).mono ?_; rintro e w1 ⟨rfl, hb⟩)
  go_ret2
  exact ⟨rfl, below_step (below_alloc (Below.refl _ _) _) hb⟩

set_option maxHeartbeats 1000000 in
theorem rstart_ok (c t r k : Int) (h : SetsP c t r k) (w : World) :
    Calls Try.prog 15 #[.agg #[.int .i64 c, .int .i64 t, .int .i64 r, .int .i64 k]] w (Gives (.tuple #[.int .i64 (1000 * r), .int .i64 0]) w) := by
  have H := Lib.hid h
  obtain ⟨h1, h2, h3, h4, h5, h6, h7⟩ := h
  go_enter Try.func15, Try.ntmps15
  go_wp2_with (go_at_call 29; refine (rsets_yes _ _ _ _ H.out _).mono ?_; rintro e w1 ⟨rfl, hb⟩; obtain ⟨hc, hf⟩ := bcell hb)
  go_ret2
  exact ⟨rfl, below_step (below_alloc (Below.refl _ _) _) hb⟩

/-- A budget at a block: its settings and its level. -/
def BudgetAt (w : World) (b : Nat) (c t r k l : Int) : Prop := w.heap[b]? = some (.cells #[.int .i64 c, .int .i64 t, .int .i64 r, .int .i64 k, .int .i64 l] 52 (0, 0))

theorem BudgetAt.cell {w : World} {b : Nat} {c t r k l : Int} (h : BudgetAt w b c t r k l) :
    w.cell? ⟨b, 0, none⟩ = some (.int .i64 c) ∧ w.cell? ⟨b, 1, none⟩ = some (.int .i64 t) ∧ w.cell? ⟨b, 2, none⟩ = some (.int .i64 r) ∧ w.cell? ⟨b, 3, none⟩ = some (.int .i64 k) ∧ w.cell? ⟨b, 4, none⟩ = some (.int .i64 l) ∧ ∀ o, w.frozen? ⟨b, o, none⟩ = false := by
  unfold BudgetAt at h
  simp [World.cell?, World.frozen?, h]

theorem BudgetAt.set {w : World} {b : Nat} {c t r k l : Int} (h : BudgetAt w b c t r k l) (l' : Int) : BudgetAt (w.setCell ⟨b, 4, none⟩ (.int .i64 l')) b c t r k l' := by
  unfold BudgetAt at h ⊢
  simp [World.setCell, Array.getElem?_modify, h]

theorem BudgetAt.below {w w1 : World} {b B : Nat} {c t r k l : Int} (h : BudgetAt w b c t r k l) (hb : Below B w w1) (hB : b < B) : BudgetAt w1 b c t r k l := by
  unfold BudgetAt at h ⊢
  rw [hb.block b hB]; exact h

/-- The call hands back v; the budget at block b has the level l'; below b nothing has turned. -/
def Acted (b : Nat) (c t r k l' : Int) (v : Value) (w : World) (e : Ending) (w' : World) : Prop := e = .returned v ∧ BudgetAt w' b c t r k l' ∧ Below b w w'

theorem below_at {a w w1 : World} {b : Nat} (h : Below a.heap.size a w) (h1 : Below b w w1) (hb : a.heap.size ≤ b) : Below a.heap.size a w1 := h.trans (h1.mono hb)

theorem BudgetAt.alike {w w1 : World} {b : Nat} {c t r k l : Int} (h : BudgetAt w b c t r k l) (ha : w1.heap = w.heap) : BudgetAt w1 b c t r k l := by
  unfold BudgetAt at h ⊢
  rw [ha]; exact h

theorem in_end {b : Nat} {c t r k l : Int} {w : World} (hB : BudgetAt w b c t r k l) (x y : Int) (hxy : x = y) :
    Acted b c t r k y (.tuple #[]) w (.returned (.tuple #[])) (w.setCell ⟨b, 4, none⟩ (.int .i64 x)).drew := by
  subst hxy
  exact ⟨rfl, (hB.set x).alike rfl, ((Below.refl b w).setCell (Nat.le_refl _) _).drew⟩

set_option maxHeartbeats 1000000 in
theorem in_any (b : Nat) (c t r k l n : Int) (w : World) (hB : BudgetAt w b c t r k l) (hk : 0 ≤ k ∧ k ≤ 1000) (hl : 0 ≤ l ∧ l ≤ 1000000) (hn : 0 ≤ n ∧ n ≤ 2000000000) :
    Calls Try.prog 25 #[.pointer (some ⟨b, 0, none⟩), .int .i64 n] w (Acted b c t r k (capped l n k) (.tuple #[]) w) := by
  obtain ⟨c0, c1, c2, c3, c4, hf⟩ := hB.cell
  obtain ⟨hk0, hk1⟩ := hk
  obtain ⟨hl0, hl1⟩ := hl
  obtain ⟨hn0, hn1⟩ := hn
  have g4 := hf 4
  have HB := Lib.hid hB
  clear hf hB
  go_enter Try.func25, Try.ntmps25
  go_wp2
  go_region
  go_end0
  exact in_end HB.out _ _ rfl

set_option maxHeartbeats 1000000 in
theorem out_yes (b : Nat) (c t r k l : Int) (w : World) (hB : BudgetAt w b c t r k l) (h0 : 1000 ≤ l) (h1 : l ≤ 1000000) :
    Calls Try.prog 26 #[.pointer (some ⟨b, 0, none⟩)] w (Acted b c t r k (l - 1000) (.bool true) w) := by
  obtain ⟨c0, c1, c2, c3, c4, hf⟩ := hB.cell
  have g4 := hf 4
  have HB := Lib.hid hB
  clear hf hB
  go_enter Try.func26, Try.ntmps26
  go_wp2
  go_ret
  exact ⟨rfl, HB.out.set _, (Below.refl b w).setCell (Nat.le_refl _) _⟩

set_option maxHeartbeats 1000000 in
theorem out_no (b : Nat) (c t r k l : Int) (w : World) (hB : BudgetAt w b c t r k l) (h1 : l < 1000) :
    Calls Try.prog 26 #[.pointer (some ⟨b, 0, none⟩)] w (Acted b c t r k l (.bool false) w) := by
  obtain ⟨c0, c1, c2, c3, c4, hf⟩ := hB.cell
  have HB := Lib.hid hB
  clear hf hB
  go_enter Try.func26, Try.ntmps26
  go_wp2
  go_ret
  exact ⟨rfl, HB.out, Below.refl b w⟩
end Go.Proofs.Ytaaebnfagbiaiaa
