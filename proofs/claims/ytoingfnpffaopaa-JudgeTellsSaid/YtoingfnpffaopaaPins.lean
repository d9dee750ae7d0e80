/- What judge's Pins hands back over its rows. Conditions: none. -/
import Derived.Test.YtoingfnpffaopaaFour
namespace Go.Proofs.Ytoingfnpffaopaa
open Go.RowKit

/-- The row pins its call. -/
def isPin (r : Rw) : Bool := decide (r.kind = 2 ∧ 1 ≤ r.what ∧ r.what ≤ 2)

/-- The first pins behind i rows. -/
def pinO (l : List Rw) : Nat → Key → Option Spot
  | 0, _ => none
  | i + 1, k => if isPin (l.getD i Rw.zero) = true ∧ (pinO l i (l.getD i Rw.zero).ckey).isSome = false ∧ k = (l.getD i Rw.zero).ckey then some (l.getD i Rw.zero).spot else pinO l i k

/-- What Pins answers yes of. -/
def pinP (l : List Rw) (i : Nat) : Bool := isPin (l.getD i Rw.zero) && ((pinO l i (l.getD i Rw.zero).ckey).isSome && decide ((pinO l i (l.getD i Rw.zero).ckey).getD (0, 0, 0, 0, 0) ≠ (l.getD i Rw.zero).spot))

/-- What holds behind i rows. -/
structure Inv35 (l : List Rw) (w : World) (i : Nat) (W : World) : Prop where
  below : Below w.heap.size w W
  box : ValBox W (w.heap.size + 1) 70 (.map (some w.heap.size))
  marks : MapFn W w.heap.size encKey (spotF (pinO l i))

theorem inv35_new (l : List Rw) (w : World) : Inv35 l w 0 ((w.alloc (.map #[] 0)).alloc (.cells #[.map (some w.heap.size)] 70)) where
  below := below_alloc (below_alloc (Below.refl _ _) _) _
  box := ValBox.new _ _ (by simp) _ _
  marks := ((MapFn.new _ _ rfl encKey).alloc _).ext fun _ => rfl

theorem inv35_step (l : List Rw) (w : World) (i : Nat) (W : World) (h : Inv35 l w i W) :
    Calls Try.prog 35 #[.agg #[.int .i64 (l.getD i Rw.zero).kind, .int .i64 (l.getD i Rw.zero).step, .int .i64 (l.getD i Rw.zero).client, .int .i64 (l.getD i Rw.zero).call, .int .i64 (l.getD i Rw.zero).backend, .int .i64 (l.getD i Rw.zero).incarnation, .int .i64 (l.getD i Rw.zero).session, .int .i64 (l.getD i Rw.zero).seq, .int .i64 (l.getD i Rw.zero).what, .int .i64 (l.getD i Rw.zero).key, .int .i64 (l.getD i Rw.zero).other, .int .i64 (l.getD i Rw.zero).amount, .int .i64 (l.getD i Rw.zero).code, .int .i64 (l.getD i Rw.zero).place, .int .i64 (l.getD i Rw.zero).value, .int .i64 (l.getD i Rw.zero).n], .pointer (some ⟨w.heap.size + 1, 0, none⟩)] W (fun e w' => e = .returned (.bool (pinP l i)) ∧ Inv35 l w (i + 1) w') := by
  have hs : ∀ k, pinO l (i + 1) k = if isPin (l.getD i Rw.zero) = true ∧ (pinO l i (l.getD i Rw.zero).ckey).isSome = false ∧ k = (l.getD i Rw.zero).ckey then some (l.getD i Rw.zero).spot else pinO l i k := fun _ => rfl
  unfold pinP
  generalize l.getD i Rw.zero = R at hs ⊢
  by_cases hp : R.kind = 2 ∧ 1 ≤ R.what ∧ R.what ≤ 2
  · have hi : isPin R = true := by simpa [isPin] using hp
    have hz : ((spotF (pinO l i) (R.client, R.call)).getD (.agg #[.int .i64 0, .int .i64 0, .int .i64 0, .int .i64 0, .int .i64 0])) = encSpot ((pinO l i R.ckey).getD (0, 0, 0, 0, 0)) := by
      show ((pinO l i R.ckey).map encSpot).getD _ = _
      cases pinO l i R.ckey <;> rfl
    have hf : (spotF (pinO l i) (R.client, R.call)).isSome = (pinO l i R.ckey).isSome := by
      show ((pinO l i R.ckey).map encSpot).isSome = _
      cases pinO l i R.ckey <;> rfl
    refine (pins35_go _ _ (pinO l i) R hp.1 hp.2 _ _ _ _ _ _ hz hf W h.box h.marks).mono ?_
    rintro e w' ⟨rfl, hm, hb⟩
    refine ⟨by rw [hi]; rfl, hb.below h.below h.below.size (Nat.le_refl _), h.box.beside hb (by omega), hm.ext fun k => ?_⟩
    unfold spotF
    rw [hs]
    simp only [hi, true_and]
  · have hi : isPin R = false := by simpa [isPin] using hp
    refine (pins35_no _ R (by by_cases h2 : R.kind = 2 <;> simp_all) W).mono ?_
    rintro e w' ⟨rfl, hb⟩
    refine ⟨by rw [hi]; rfl, below_step h.below hb, h.box.kept hb, (h.marks.kept hb).ext fun k => ?_⟩
    unfold spotF
    rw [hs]
    simp only [hi, Bool.false_eq_true, false_and, if_false]

theorem pins_any (a : Option Addr) (l : List Rw) (cap : Nat) (w : World) (hm : l.length ≤ maxLen) (hr : RowsAt w a l) :
    Calls Try.prog 19 #[.slice a l.length cap] w (Gives (.int .i64 (idx (pinP l) l.length)) w) := by
  have hf := Lib.hid (find35 a l cap (w.heap.size + 1) _ hm (Inv35 l w) (pinP l) (inv35_new l w) (fun i W h => hr.below h.below (Nat.le_refl _)) (fun i W _ h => inv35_step l w i W h))
  have hmm := @run_makeMap Try.prog
  clear hr hm
  go_enter Try.func19, Try.ntmps19
  go_wp2_with (fail)
  refine hf.out.mono ?_
  rintro e w1 ⟨rfl, i, hi⟩
  have hb := hi.below
  clear hi hf
  go_wp2
  go_ret
  exact ⟨rfl, hb⟩
end Go.Proofs.Ytoingfnpffaopaa
