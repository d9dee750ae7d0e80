/- What judge's True asks of one place, and of all places of a call: whether any of them has the answer. Conditions: none. -/
import Derived.Test.YtoingfnpffaopaaThree
import Derived.Test.YtoingfnpffaopaaKeyA
namespace Go.Proofs.Ytoingfnpffaopaa
open Go.RowKit

def Rw.op (r : Rw) : Int × Int × Int × Int := (r.what, r.key, r.other, r.amount)
def Rw.res (r : Rw) : Int × Int × Int := (r.code, r.place, r.value)
def Rw.ans (r : Rw) : Ans := (r.spot, r.op, r.res)

set_option maxHeartbeats 2000000 in
theorem asks_any (b r g : Nat) (S : Ans → Bool) (R : Rw) (x1 x2 x3 x4 x5 : Int) (w : World) (h1 : ValBox w b 76 (.map (some r))) (hM : MapFn w r encAns (markF S)) (hR : RowBox w g R) :
    Calls Try.prog 39 #[.agg #[.int .i64 x1, .int .i64 x2, .int .i64 x3, .int .i64 x4, .int .i64 x5], .pointer (some ⟨b, 0, none⟩), .pointer (some ⟨g, 0, none⟩)] w (Gives (.bool (S ((x1, x2, x3, x4, x5), R.op, R.res))) w) := by
  have hlk := run_lookup ansLaws (hM.alloc (.cells #[.int .i64 x1, .int .i64 x2, .int .i64 x3, .int .i64 x4, .int .i64 x5] 55)) Try.underlying76 (zero4 _) ((x1, x2, x3, x4, x5), R.op, R.res) false
  rw [markF_get] at hlk
  simp only [encAns, Rw.op, Rw.res, Bool.false_eq_true, if_false] at hlk
  have l1 := h1.lt
  have l2 := hR.lt
  obtain ⟨d1, _⟩ := h1.cell
  obtain ⟨⟨q0, q1, q2, q3, q4, q5, q6, q7, q8, q9, q10, q11, q12, q13, q14, q15⟩, _⟩ := hR.cell
  simp only [Rw.op, Rw.res]
  generalize S _ = v at *
  clear hM h1 hR
  go_enter Try.func39, Try.ntmps39
  go_wp2
  go_ret
  exact ⟨rfl, below_alloc (Below.refl _ _) _⟩

/-- A place lies at block b from p on. -/
structure SpotAt (w : World) (b p : Nat) (x : Spot) : Prop where
  c0 : w.cell? ⟨b, p, none⟩ = some (.int .i64 x.1)
  c1 : w.cell? ⟨b, p + 1, none⟩ = some (.int .i64 x.2.1)
  c2 : w.cell? ⟨b, p + 2, none⟩ = some (.int .i64 x.2.2.1)
  c3 : w.cell? ⟨b, p + 3, none⟩ = some (.int .i64 x.2.2.2.1)
  c4 : w.cell? ⟨b, p + 4, none⟩ = some (.int .i64 x.2.2.2.2)

/-- A slice's start leads to these places. -/
def SpotsAt (w : World) (a : Option Addr) (l : List Spot) : Prop :=
  l = [] ∨ ∃ b off, a = some ⟨b, off, none⟩ ∧ b < w.heap.size ∧ ∀ i, i < l.length → SpotAt w b (off + i * 5) (l.getD i (0, 0, 0, 0, 0))

theorem SpotAt.below {w w1 : World} {B b p : Nat} {x : Spot} (h : SpotAt w b p x) (hb : Below B w w1) (hB : b < B) : SpotAt w1 b p x :=
  ⟨(hb.cell (p := ⟨b, p, none⟩) hB).trans h.c0, (hb.cell (p := ⟨b, p + 1, none⟩) hB).trans h.c1, (hb.cell (p := ⟨b, p + 2, none⟩) hB).trans h.c2, (hb.cell (p := ⟨b, p + 3, none⟩) hB).trans h.c3, (hb.cell (p := ⟨b, p + 4, none⟩) hB).trans h.c4⟩
theorem SpotsAt.below {w w1 : World} {B : Nat} {a : Option Addr} {l : List Spot} (h : SpotsAt w a l) (hb : Below B w w1) (hB : w.heap.size ≤ B) : SpotsAt w1 a l := by
  rcases h with h | ⟨b, off, h1, h2, h3⟩
  · exact .inl h
  · exact .inr ⟨b, off, h1, Nat.lt_of_lt_of_le h2 hb.size, fun i hi => (h3 i hi).below hb (Nat.lt_of_lt_of_le h2 hB)⟩
theorem SpotsAt.at {w : World} {a : Option Addr} {l : List Spot} (h : SpotsAt w a l) {i : Nat} (hi : i < l.length) :
    ∃ b off, a = some ⟨b, off, none⟩ ∧ b < w.heap.size ∧ SpotAt w b (off + i * 5) (l.getD i (0, 0, 0, 0, 0)) := by
  rcases h with h | ⟨b, off, h1, h2, h3⟩
  · subst h; exact absurd hi (Nat.not_lt_zero _)
  · exact ⟨b, off, h1, h2, h3 i hi⟩

set_option maxHeartbeats 2000000 in
theorem find43 (a : Option Addr) (l : List Spot) (cap b1 b2 : Nat) (w : World) (hm : l.length ≤ maxLen) (Inv : Nat → World → Prop) (p : Nat → Bool) (h0 : Inv 0 w) (hrow : ∀ i W, Inv i W → SpotsAt W a l)
    (hstep : ∀ i W, i < l.length → Inv i W → Calls Try.prog 39 #[encSpot (l.getD i (0, 0, 0, 0, 0)), .pointer (some ⟨b1, 0, none⟩), .pointer (some ⟨b2, 0, none⟩)] W (fun e w' => e = .returned (.bool (p i)) ∧ Inv (i + 1) w')) :
    Calls Try.prog 43 #[.slice a l.length cap, .func (.func 39) #[] #[.pointer (some ⟨b1, 0, none⟩), .pointer (some ⟨b2, 0, none⟩)]] w (Finds Inv p l.length) := by
  unfold maxLen at hm
  have HR := Lib.hid hrow
  have HS := Lib.hid hstep
  have H0 := Lib.hid h0
  clear hrow hstep h0
  go_enter Try.func43, Try.ntmps43
  go_wp2
  go_loopw [8] (fun vi wr => FindRel Inv p l.length wr vi) (fun i _ => l.length - (intOf i).toNat)
  case atStart => exact ⟨0, Nat.zero_le _, rfl, H0.out, fun j hj => absurd hj (Nat.not_lt_zero _)⟩
  case round =>
    obtain ⟨i, hi, rfl, hI, hn⟩ := hrel
    have HI := Lib.hid hI
    have HN := Lib.hid hn
    clear hI hn
    by_cases hlt : i < l.length
    · obtain ⟨ba, off, rfl, hbw, hA⟩ := (HR.out _ _ HI.out).at hlt
      have hc := HS.out i wr hlt HI.out
      unfold encSpot at hc
      generalize l.getD i (0, 0, 0, 0, 0) = x at *
      obtain ⟨x1, x2, x3, x4, x5⟩ := x
      have HC := Lib.hid hc
      obtain ⟨q0, q1, q2, q3, q4⟩ := hA
      clear hc hbw
      go_wp2_with (fail)
      refine HC.out.mono ?_
      rintro e w1 ⟨rfl, hI1⟩
      have HI1 := Lib.hid hI1
      clear hI1 q0 q1 q2 q3 q4 HC
      cases hp : p i with
      | true =>
        have HP := Lib.hid hp
        clear hp
        go_wp2
        go_ret
        exact ⟨ret_int (idx_some hlt HP.out HN.out).symm, i + 1, HI1.out⟩
      | false =>
        have HP := Lib.hid hp
        clear hp
        go_wp2
        go_roundw
        case rel => exact ⟨i + 1, by omega, by go_num, HI1.out, fun j hj => by
          rcases Nat.lt_or_ge j i with h | h
          · exact HN.out j h
          · obtain rfl : j = i := by omega
            exact HP.out⟩
        case measure => simp [intOf]; omega
    · obtain rfl : i = l.length := by omega
      go_wp2
      go_ret
      exact ⟨ret_int (idx_none HN.out).symm, _, HI.out⟩

/-- Has any of these places the answer? -/
def anyS (S : Ans → Bool) (l : List Spot) (R : Rw) : Bool := decide (0 ≤ idx (fun j => S (l.getD j (0, 0, 0, 0, 0), R.op, R.res)) l.length)

/-- What holds behind some places. -/
structure Inv39 (S : Ans → Bool) (b r g : Nat) (R : Rw) (w : World) (_ : Nat) (W : World) : Prop where
  below : Below w.heap.size w W
  box : ValBox W b 76 (.map (some r))
  map : MapFn W r encAns (markF S)
  row : RowBox W g R

theorem contains_any (b r g : Nat) (S : Ans → Bool) (R : Rw) (a : Option Addr) (l : List Spot) (cap : Nat) (w : World) (hm : l.length ≤ maxLen) (hl : SpotsAt w a l) (h1 : ValBox w b 76 (.map (some r))) (hM : MapFn w r encAns (markF S)) (hR : RowBox w g R) :
    Calls Try.prog 38 #[.slice a l.length cap, .func (.func 39) #[] #[.pointer (some ⟨b, 0, none⟩), .pointer (some ⟨g, 0, none⟩)]] w (Gives (.bool (anyS S l R)) w) := by
  have hf := Lib.hid (find43 a l cap b g w hm (Inv39 S b r g R w) (fun j => S (l.getD j (0, 0, 0, 0, 0), R.op, R.res)) ⟨Below.refl _ _, h1, hM, hR⟩ (fun i W h => hl.below h.below (Nat.le_refl _))
    (fun i W _ h => (asks_any b r g S R _ _ _ _ _ W h.box h.map h.row).mono fun e w' ⟨he, hb⟩ => ⟨he, below_step h.below hb, h.box.kept hb, h.map.kept hb, h.row.kept hb⟩))
  unfold anyS
  clear hm hl h1 hM hR
  go_enter Try.func38, Try.ntmps38
  go_wp2_with (fail)
  refine hf.out.mono ?_
  rintro e w1 ⟨rfl, i, hi⟩
  have hb := hi.below
  clear hi hf
  go_wp2
  go_ret
  exact ⟨ret_bool (by simp), hb⟩
end Go.Proofs.Ytoingfnpffaopaa
