/- What judge's Pins hands back: the first pin that differs from its call's first. Conditions: none. -/
import Derived.Test.YtoingfnpffaopaaThree
namespace Go.Proofs.Ytoingfnpffaopaa
open Go.RowKit

theorem map_kept {α : Type} [DecidableEq α] {enc : α → Value} {w w1 : World} {r : Nat} {f : α → Option Value} (hb : Below w.heap.size w w1) (h : MapFn w r enc f) : MapFn w1 r enc f := h.kept hb
theorem held_only {r : Nat} {w w1 w2 : World} {p : Prop} (h2 : Only r w1 w2) (h : Beside r w w1 ∧ p) : Beside r w w2 := h.1.only h2
theorem held_alloc {r : Nat} {w w1 : World} {o : Obj} {p : Prop} (h : Beside r w w1 ∧ p) : Beside r w (w1.alloc o) := h.1.alloc o

theorem held_drewn {r : Nat} {w w1 : World} {o : Obj} {p : Prop} (h : Beside r w w1.drew ∧ p) : Beside r w (w1.alloc o).drew := by
  have h1 : Beside r w w1 := ⟨h.1.os, h.1.tape, h.1.output, h.1.size, h.1.block⟩
  exact (h1.alloc o).drew
theorem held_realloc {r : Nat} {w w1 : World} {o o' : Obj} {p : Prop} (hs : w.heap.size ≤ w1.heap.size) (h : Beside r w (w1.alloc o) ∧ p) : Beside r w (w1.alloc o') := by
  obtain ⟨h, _⟩ := h
  refine ⟨h.os, h.tape, h.output, by simpa using h.size, fun k hk hr => (?_ : (w1.alloc o').heap[k]? = _).trans (h.block k hk hr)⟩
  show (w1.heap.push _)[k]? = (w1.heap.push _)[k]?
  rw [Array.getElem?_push_lt (by omega), Array.getElem?_push_lt (by omega)]
theorem Beside.stepB {r : Nat} {w w1 w2 : World} (h : Beside r w w1) (h2 : Below w.heap.size w1 w2) : Beside r w w2 :=
  ⟨h2.os.trans h.os, h2.tape.trans h.tape, h2.output.trans h.output, Nat.le_trans h.size h2.size, fun k hk hr => (h2.block k hk).trans (h.block k hk hr)⟩
theorem held_set5 {r : Nat} {w w1 : World} {p : Prop} {a b c d e : Value} (h : Beside r w w1 ∧ p) : Beside r w (((((w1.setCell ⟨w.heap.size, 0, none⟩ a).setCell ⟨w.heap.size, 1, none⟩ b).setCell ⟨w.heap.size, 2, none⟩ c).setCell ⟨w.heap.size, 3, none⟩ d).setCell ⟨w.heap.size, 4, none⟩ e) :=
  h.1.stepB (by repeat (first | exact Below.refl _ _ | refine Below.setCell ?_ (Nat.le_refl w.heap.size) _))

/-- Five cells set anew, under a name. -/
def set5 (w : World) (n : Nat) (a b c d e : Value) : World := (((((w.setCell ⟨n, 0, none⟩ a).setCell ⟨n, 1, none⟩ b).setCell ⟨n, 2, none⟩ c).setCell ⟨n, 3, none⟩ d).setCell ⟨n, 4, none⟩ e)
theorem set5_eq (w : World) (n : Nat) (a b c d e : Value) : (((((w.setCell ⟨n, 0, none⟩ a).setCell ⟨n, 1, none⟩ b).setCell ⟨n, 2, none⟩ c).setCell ⟨n, 3, none⟩ d).setCell ⟨n, 4, none⟩ e) = set5 w n a b c d e := rfl
theorem held_named {r : Nat} {w w1 : World} {p : Prop} {a b c d e : Value} (h : Beside r w w1 ∧ p) : Beside r w (set5 w1 w.heap.size a b c d e) := held_set5 h

theorem spot_set5 {w : World} {n : Nat} {y1 y2 y3 y4 y5 : Int} (h : SpotBox w n y1 y2 y3 y4 y5) (x1 x2 x3 x4 x5 : Int) : SpotBox (set5 w n (.int .i64 x1) (.int .i64 x2) (.int .i64 x3) (.int .i64 x4) (.int .i64 x5)) n x1 x2 x3 x4 x5 :=
  block_set (block_set (block_set (block_set (block_set h 0 (.int .i64 x1)) 1 (.int .i64 x2)) 2 (.int .i64 x3)) 3 (.int .i64 x4)) 4 (.int .i64 x5)
theorem map_set5 {α : Type} [DecidableEq α] {enc : α → Value} {w : World} {r n : Nat} {f : α → Option Value} (h : MapFn w r enc f) (hn : r ≠ n) (a b c d e : Value) : MapFn (set5 w n a b c d e) r enc f :=
  h.same ((block_far _ 4 hn e).trans ((block_far _ 3 hn d).trans ((block_far _ 2 hn c).trans ((block_far _ 1 hn b).trans (block_far _ 0 hn a)))))

theorem Beside.drewN {r : Nat} {w w1 : World} (h : Beside r w w1) (n : Nat) : Beside r w (w1.drewN n) := ⟨h.os, h.tape, h.output, h.size, h.block⟩
theorem MapFn.drewN {α : Type} [DecidableEq α] {enc : α → Value} {w : World} {r : Nat} {f : α → Option Value} (h : MapFn w r enc f) (n : Nat) : MapFn (w.drewN n) r enc f := h.same rfl
/-- How two places may differ. -/
theorem cases6 (q1 q2 q3 q4 q5 a1 a2 a3 a4 a5 : Int) :
    (q1 = a1 ∧ q2 = a2 ∧ q3 = a3 ∧ q4 = a4 ∧ q5 = a5) ∨ (q1 ≠ a1) ∨ (q1 = a1 ∧ q2 ≠ a2) ∨ (q1 = a1 ∧ q2 = a2 ∧ q3 ≠ a3) ∨ (q1 = a1 ∧ q2 = a2 ∧ q3 = a3 ∧ q4 ≠ a4) ∨ (q1 = a1 ∧ q2 = a2 ∧ q3 = a3 ∧ q4 = a4 ∧ q5 ≠ a5) := by omega

/-- A map of places. -/
def spotF (P : Key → Option Spot) : Key → Option Value := fun k => (P k).map encSpot
theorem spotF_set (P : Key → Option Spot) (a : Key) (s : Spot) (k : Key) : spotF (fun k => if false = false ∧ k = a then some s else P k) k = if k = a then some (encSpot s) else spotF P k := by
  unfold spotF
  by_cases e : k = a <;> simp [e]
theorem spotF_put (P : Key → Option Spot) (a : Key) (s : Spot) (k : Key) : spotF (fun k => if k = a then some s else P k) k = if k = a then some (encSpot s) else spotF P k := by
  unfold spotF
  by_cases e : k = a <;> simp [e]
theorem spotF_kept (P : Key → Option Spot) (a : Key) (s : Spot) (k : Key) : spotF (fun k => if true = false ∧ k = a then some s else P k) k = spotF P k := by
  unfold spotF
  simp
theorem SpotBox.beside {w w1 : World} {b q : Nat} {x1 x2 x3 x4 x5 : Int} (h : SpotBox w b x1 x2 x3 x4 x5) (hb : Beside q w w1) (hn : b ≠ q) : SpotBox w1 b x1 x2 x3 x4 x5 := h.same (hb.block b h.lt hn)

set_option maxHeartbeats 4000000 in
theorem pins35_no (b : Nat) (R : Rw) (hk : R.kind ≠ 2 ∨ ¬ (1 ≤ R.what ∧ R.what ≤ 2)) (w : World) : Calls Try.prog 35 #[.agg #[.int .i64 R.kind, .int .i64 R.step, .int .i64 R.client, .int .i64 R.call, .int .i64 R.backend, .int .i64 R.incarnation, .int .i64 R.session, .int .i64 R.seq, .int .i64 R.what, .int .i64 R.key, .int .i64 R.other, .int .i64 R.amount, .int .i64 R.code, .int .i64 R.place, .int .i64 R.value, .int .i64 R.n], .pointer (some ⟨b, 0, none⟩)] w (Gives (.bool false) w) := by
  by_cases ho : 1 ≤ R.what ∧ R.what ≤ 2
  · have hn : R.kind ≠ 2 := hk.resolve_right fun h => h ho
    have hc := once_yes R.what ho
    have HN := Lib.hid hn
    have HC := Lib.hid hc
    clear hk hn hc ho
    go_enter Try.func35, Try.ntmps35
    go_wp2_with (fail)
    refine (HC.out _).mono ?_
    rintro e w1 ⟨rfl, rfl⟩
    have hd : decide (R.kind = 2) = false := by simpa using HN.out
    have he : (R.kind == 2) = false := by simpa using HN.out
    go_wp2
    go_ret
    exact ⟨rfl, below_alloc (Below.refl _ _) _⟩
  · have hc := once_no R.what ho
    have HC := Lib.hid hc
    clear hk hc ho
    by_cases hn : R.kind = 2
    all_goals
      have HN := Lib.hid hn
      clear hn
      go_enter Try.func35, Try.ntmps35
      go_wp2_with (fail)
      obtain ⟨x, hx⟩ := HC.out (w.alloc (.cells #[.int .i64 R.kind, .int .i64 R.step, .int .i64 R.client, .int .i64 R.call, .int .i64 R.backend, .int .i64 R.incarnation, .int .i64 R.session, .int .i64 R.seq, .int .i64 R.what, .int .i64 R.key, .int .i64 R.other, .int .i64 R.amount, .int .i64 R.code, .int .i64 R.place, .int .i64 R.value, .int .i64 R.n] 30))
      refine hx.mono ?_
      rintro e w1 ⟨rfl, rfl⟩
    · have hd : decide (R.kind = 2) = true := by simpa using HN.out
      have he : (R.kind == 2) = true := by simpa using HN.out
      clear hx HC
      go_wp2
      go_ret
      exact ⟨rfl, below_alloc (Below.refl _ _) _⟩
    · have hd : decide (R.kind = 2) = false := by simpa using HN.out
      have he : (R.kind == 2) = false := by simpa using HN.out
      clear hx HC
      go_wp2
      go_ret
      exact ⟨rfl, below_alloc (Below.refl _ _) _⟩

end Go.Proofs.Ytoingfnpffaopaa
