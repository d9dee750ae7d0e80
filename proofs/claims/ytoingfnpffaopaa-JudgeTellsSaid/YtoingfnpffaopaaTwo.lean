/- What judge's Outcomes hands back: the first outcome of a call that is not open. Conditions: none. -/
import Derived.Test.YtoingfnpffaopaaOne
namespace Go.Proofs.Ytoingfnpffaopaa
open Go.RowKit

/-- A map of truth values, a value kept under each key. -/
def boolF {K : Type} (O : K → Option Bool) : K → Option Value := fun k => (O k).map Value.bool
theorem boolF_get {K : Type} (O : K → Option Bool) (k : K) : (boolF O k).getD (.bool false) = .bool ((O k).getD false) := by
  unfold boolF
  cases O k <;> rfl

theorem KeyBox.beside {w w1 : World} {b q : Nat} {x y : Int} (h : KeyBox w b x y) (hb : Beside q w w1) (hn : b ≠ q) : KeyBox w1 b x y := h.same (hb.block b h.lt hn)

theorem boolF_set {K : Type} [DecidableEq K] (O : K → Option Bool) (a : K) (v : Bool) (k : K) : boolF (fun k => if k = a then some v else O k) k = if k = a then some (Value.bool v) else boolF O k := by
  unfold boolF
  by_cases e : k = a <;> simp [e]

set_option maxHeartbeats 4000000 in
theorem open30_new (b r : Nat) (O : Key → Option Bool) (R : Rw) (hk : R.kind = 1) (w : World) (h1 : ValBox w b 65 (.map (some r))) (hM : MapFn w r encKey (boolF O)) :
    Calls Try.prog 30 #[.agg #[.int .i64 R.kind, .int .i64 R.step, .int .i64 R.client, .int .i64 R.call, .int .i64 R.backend, .int .i64 R.incarnation, .int .i64 R.session, .int .i64 R.seq, .int .i64 R.what, .int .i64 R.key, .int .i64 R.other, .int .i64 R.amount, .int .i64 R.code, .int .i64 R.place, .int .i64 R.value, .int .i64 R.n], .pointer (some ⟨b, 0, none⟩)] w fun e w' =>
      e = .returned (.bool false) ∧ MapFn w' r encKey (boolF fun k => if k = R.ckey then some true else O k) ∧ Beside r w w' := by
  have hX := RowBox.new w w.heap.size rfl R
  have hB := (Beside.refl r w).alloc (.cells #[.int .i64 R.kind, .int .i64 R.step, .int .i64 R.client, .int .i64 R.call, .int .i64 R.backend, .int .i64 R.incarnation, .int .i64 R.session, .int .i64 R.seq, .int .i64 R.what, .int .i64 R.key, .int .i64 R.other, .int .i64 R.amount, .int .i64 R.code, .int .i64 R.place, .int .i64 R.value, .int .i64 R.n] 30)
  have hM := hM.alloc (.cells #[.int .i64 R.kind, .int .i64 R.step, .int .i64 R.client, .int .i64 R.call, .int .i64 R.backend, .int .i64 R.incarnation, .int .i64 R.session, .int .i64 R.seq, .int .i64 R.what, .int .i64 R.key, .int .i64 R.other, .int .i64 R.amount, .int .i64 R.code, .int .i64 R.place, .int .i64 R.value, .int .i64 R.n] 30)
  have h1 := h1.alloc (.cells #[.int .i64 R.kind, .int .i64 R.step, .int .i64 R.client, .int .i64 R.call, .int .i64 R.backend, .int .i64 R.incarnation, .int .i64 R.session, .int .i64 R.seq, .int .i64 R.what, .int .i64 R.key, .int .i64 R.other, .int .i64 R.amount, .int .i64 R.code, .int .i64 R.place, .int .i64 R.value, .int .i64 R.n] 30)
  obtain ⟨⟨q0, q1, q2, q3, q4, q5, q6, q7, q8, q9, q10, q11, q12, q13, q14, q15⟩, _⟩ := hX.cell
  have HK := Lib.hid hk
  have HB := Lib.hid hB
  have HM := Lib.hid hM
  have HX := Lib.hid hX
  have H1 := Lib.hid h1
  clear hB hM hX h1 hk
  go_enter Try.func30, Try.ntmps30
  go_wp2_with (fail)
  generalize w.alloc (.cells #[.int .i64 R.kind, .int .i64 R.step, .int .i64 R.client, .int .i64 R.call, .int .i64 R.backend, .int .i64 R.incarnation, .int .i64 R.session, .int .i64 R.seq, .int .i64 R.what, .int .i64 R.key, .int .i64 R.other, .int .i64 R.amount, .int .i64 R.code, .int .i64 R.place, .int .i64 R.value, .int .i64 R.n] 30) = W at *
  generalize w.heap.size = g at *
  refine (callOf_any R _).mono ?_
  rintro e w1 ⟨rfl, hb⟩
  clear q0 q1 q2 q3 q4 q5 q6 q7 q8 q9 q10 q11 q12 q13 q14 q15
  have hX := (HX.out.kept hb).alloc (.cells #[.int .i64 R.client, .int .i64 R.call] 67)
  have hY := KeyBox.new w1 w1.heap.size rfl R.client R.call
  have h1 := (H1.out.kept hb).alloc (.cells #[.int .i64 R.client, .int .i64 R.call] 67)
  have hM := (HM.out.kept hb).alloc (.cells #[.int .i64 R.client, .int .i64 R.call] 67)
  have hB := (HB.out.step hb).alloc (.cells #[.int .i64 R.client, .int .i64 R.call] 67)
  obtain ⟨w2, hup, hM2, ho⟩ := run_update keyLaws hM Try.underlying65 (R.client, R.call) (.bool true)
  simp only [encKey] at hup
  have HO := Lib.hid (hB.only ho)
  have HN := Lib.hid (hM2.ext (g := boolF fun k => if k = R.ckey then some true else O k) (boolF_set O (R.client, R.call) true))
  clear hM hM2 ho hB HB HM HX H1 hb
  obtain ⟨⟨q0, q1, q2, q3, q4, q5, q6, q7, q8, q9, q10, q11, q12, q13, q14, q15⟩, _⟩ := hX.cell
  obtain ⟨⟨y0, y1⟩, _⟩ := hY.cell
  obtain ⟨d1, _⟩ := h1.cell
  clear hX hY h1
  have hk := HK.out
  go_wp2_with (fail)
  go_ret
  exact ⟨rfl, HN.out, HO.out⟩
set_option maxHeartbeats 4000000 in
theorem open30_end (b r : Nat) (O : Key → Option Bool) (R : Rw) (hk : R.kind = 5) (w : World) (h1 : ValBox w b 65 (.map (some r))) (hM : MapFn w r encKey (boolF O)) :
    Calls Try.prog 30 #[.agg #[.int .i64 R.kind, .int .i64 R.step, .int .i64 R.client, .int .i64 R.call, .int .i64 R.backend, .int .i64 R.incarnation, .int .i64 R.session, .int .i64 R.seq, .int .i64 R.what, .int .i64 R.key, .int .i64 R.other, .int .i64 R.amount, .int .i64 R.code, .int .i64 R.place, .int .i64 R.value, .int .i64 R.n], .pointer (some ⟨b, 0, none⟩)] w fun e w' =>
      e = .returned (.bool (!((O R.ckey).getD false))) ∧ MapFn w' r encKey (boolF fun k => if k = R.ckey then some false else O k) ∧ Beside r w w' := by
  have hX := RowBox.new w w.heap.size rfl R
  have hB := (Beside.refl r w).alloc (.cells #[.int .i64 R.kind, .int .i64 R.step, .int .i64 R.client, .int .i64 R.call, .int .i64 R.backend, .int .i64 R.incarnation, .int .i64 R.session, .int .i64 R.seq, .int .i64 R.what, .int .i64 R.key, .int .i64 R.other, .int .i64 R.amount, .int .i64 R.code, .int .i64 R.place, .int .i64 R.value, .int .i64 R.n] 30)
  have hM := hM.alloc (.cells #[.int .i64 R.kind, .int .i64 R.step, .int .i64 R.client, .int .i64 R.call, .int .i64 R.backend, .int .i64 R.incarnation, .int .i64 R.session, .int .i64 R.seq, .int .i64 R.what, .int .i64 R.key, .int .i64 R.other, .int .i64 R.amount, .int .i64 R.code, .int .i64 R.place, .int .i64 R.value, .int .i64 R.n] 30)
  have h1 := h1.alloc (.cells #[.int .i64 R.kind, .int .i64 R.step, .int .i64 R.client, .int .i64 R.call, .int .i64 R.backend, .int .i64 R.incarnation, .int .i64 R.session, .int .i64 R.seq, .int .i64 R.what, .int .i64 R.key, .int .i64 R.other, .int .i64 R.amount, .int .i64 R.code, .int .i64 R.place, .int .i64 R.value, .int .i64 R.n] 30)
  obtain ⟨⟨q0, q1, q2, q3, q4, q5, q6, q7, q8, q9, q10, q11, q12, q13, q14, q15⟩, _⟩ := hX.cell
  have HK := Lib.hid hk
  have HB := Lib.hid hB
  have HM := Lib.hid hM
  have HX := Lib.hid hX
  have H1 := Lib.hid h1
  clear hB hM hX h1 hk
  go_enter Try.func30, Try.ntmps30
  go_wp2_with (fail)
  generalize w.alloc (.cells #[.int .i64 R.kind, .int .i64 R.step, .int .i64 R.client, .int .i64 R.call, .int .i64 R.backend, .int .i64 R.incarnation, .int .i64 R.session, .int .i64 R.seq, .int .i64 R.what, .int .i64 R.key, .int .i64 R.other, .int .i64 R.amount, .int .i64 R.code, .int .i64 R.place, .int .i64 R.value, .int .i64 R.n] 30) = W at *
  generalize w.heap.size = g at *
  refine (callOf_any R _).mono ?_
  rintro e w1 ⟨rfl, hb⟩
  clear q0 q1 q2 q3 q4 q5 q6 q7 q8 q9 q10 q11 q12 q13 q14 q15
  have hX := (HX.out.kept hb).alloc (.cells #[.int .i64 R.client, .int .i64 R.call] 67)
  have hY := KeyBox.new w1 w1.heap.size rfl R.client R.call
  have h1 := (H1.out.kept hb).alloc (.cells #[.int .i64 R.client, .int .i64 R.call] 67)
  have hM := (HM.out.kept hb).alloc (.cells #[.int .i64 R.client, .int .i64 R.call] 67)
  have hB := (HB.out.step hb).alloc (.cells #[.int .i64 R.client, .int .i64 R.call] 67)
  have hlk := run_lookup keyLaws hM Try.underlying65 (zero4 _) (R.client, R.call) false
  rw [boolF_get] at hlk
  simp only [encKey, Bool.false_eq_true, if_false] at hlk
  generalize hv : (O (R.client, R.call)).getD false = v at hlk
  have HV := Lib.hid hv
  clear hv
  obtain ⟨w2, hup, hM2, ho⟩ := run_update keyLaws hM Try.underlying65 (R.client, R.call) (.bool false)
  simp only [encKey] at hup
  have HO := Lib.hid (hB.only ho)
  have HN := Lib.hid (hM2.ext (g := boolF fun k => if k = R.ckey then some false else O k) (boolF_set O (R.client, R.call) false))
  clear hM hM2 ho hB HB HM HX H1 hb
  obtain ⟨⟨q0, q1, q2, q3, q4, q5, q6, q7, q8, q9, q10, q11, q12, q13, q14, q15⟩, _⟩ := hX.cell
  obtain ⟨⟨y0, y1⟩, _⟩ := hY.cell
  obtain ⟨d1, _⟩ := h1.cell
  clear hX hY h1
  have hk := HK.out
  go_wp2_with (fail)
  go_ret
  exact ⟨by rw [← HV.out]; rfl, HN.out, HO.out⟩
set_option maxHeartbeats 4000000 in
theorem open30_no (b r : Nat) (R : Rw) (hk1 : R.kind ≠ 1) (hk5 : R.kind ≠ 5) (w : World) (h1 : ValBox w b 65 (.map (some r))) :
    Calls Try.prog 30 #[.agg #[.int .i64 R.kind, .int .i64 R.step, .int .i64 R.client, .int .i64 R.call, .int .i64 R.backend, .int .i64 R.incarnation, .int .i64 R.session, .int .i64 R.seq, .int .i64 R.what, .int .i64 R.key, .int .i64 R.other, .int .i64 R.amount, .int .i64 R.code, .int .i64 R.place, .int .i64 R.value, .int .i64 R.n], .pointer (some ⟨b, 0, none⟩)] w (Gives (.bool false) w) := by
  have hX := RowBox.new w w.heap.size rfl R
  have hB := below_alloc (Below.refl _ w) (.cells #[.int .i64 R.kind, .int .i64 R.step, .int .i64 R.client, .int .i64 R.call, .int .i64 R.backend, .int .i64 R.incarnation, .int .i64 R.session, .int .i64 R.seq, .int .i64 R.what, .int .i64 R.key, .int .i64 R.other, .int .i64 R.amount, .int .i64 R.code, .int .i64 R.place, .int .i64 R.value, .int .i64 R.n] 30)
  have h1 := h1.alloc (.cells #[.int .i64 R.kind, .int .i64 R.step, .int .i64 R.client, .int .i64 R.call, .int .i64 R.backend, .int .i64 R.incarnation, .int .i64 R.session, .int .i64 R.seq, .int .i64 R.what, .int .i64 R.key, .int .i64 R.other, .int .i64 R.amount, .int .i64 R.code, .int .i64 R.place, .int .i64 R.value, .int .i64 R.n] 30)
  obtain ⟨⟨q0, q1, q2, q3, q4, q5, q6, q7, q8, q9, q10, q11, q12, q13, q14, q15⟩, _⟩ := hX.cell
  have HK := Lib.hid hk1
  have HK5 := Lib.hid hk5
  have HB := Lib.hid hB
  have HX := Lib.hid hX
  have H1 := Lib.hid h1
  clear hB hX h1 hk1 hk5
  go_enter Try.func30, Try.ntmps30
  go_wp2_with (fail)
  generalize w.alloc (.cells #[.int .i64 R.kind, .int .i64 R.step, .int .i64 R.client, .int .i64 R.call, .int .i64 R.backend, .int .i64 R.incarnation, .int .i64 R.session, .int .i64 R.seq, .int .i64 R.what, .int .i64 R.key, .int .i64 R.other, .int .i64 R.amount, .int .i64 R.code, .int .i64 R.place, .int .i64 R.value, .int .i64 R.n] 30) = W at *
  refine (callOf_any R _).mono ?_
  rintro e w1 ⟨rfl, hb⟩
  clear q0 q1 q2 q3 q4 q5 q6 q7 q8 q9 q10 q11 q12 q13 q14 q15
  have hX := (HX.out.kept hb).alloc (.cells #[.int .i64 R.client, .int .i64 R.call] 67)
  have hY := KeyBox.new w1 w1.heap.size rfl R.client R.call
  have h1 := (H1.out.kept hb).alloc (.cells #[.int .i64 R.client, .int .i64 R.call] 67)
  have hB := Lib.hid (below_alloc (below_step HB.out hb) (.cells #[.int .i64 R.client, .int .i64 R.call] 67))
  clear HB HX H1 hb
  obtain ⟨⟨q0, q1, q2, q3, q4, q5, q6, q7, q8, q9, q10, q11, q12, q13, q14, q15⟩, _⟩ := hX.cell
  obtain ⟨⟨y0, y1⟩, _⟩ := hY.cell
  obtain ⟨d1, _⟩ := h1.cell
  clear hX hY h1
  have hk1 := HK.out
  have hk5 := HK5.out
  go_wp2_with (fail)
  go_ret
  exact ⟨rfl, hB.out⟩
/-- The calls that are open behind i rows. -/
def openO (l : List Rw) : Nat → Key → Option Bool
  | 0, _ => none
  | i + 1, k => if (l.getD i Rw.zero).kind = 1 ∧ k = (l.getD i Rw.zero).ckey then some true else if (l.getD i Rw.zero).kind = 5 ∧ k = (l.getD i Rw.zero).ckey then some false else openO l i k

/-- What Outcomes answers yes of. -/
def outP (l : List Rw) (i : Nat) : Bool := decide ((l.getD i Rw.zero).kind = 5) && !((openO l i (l.getD i Rw.zero).ckey).getD false)

/-- What holds behind i rows. -/
structure Inv30 (l : List Rw) (w : World) (i : Nat) (W : World) : Prop where
  below : Below w.heap.size w W
  box : ValBox W (w.heap.size + 1) 65 (.map (some w.heap.size))
  marks : MapFn W w.heap.size encKey (boolF (openO l i))

theorem inv30_new (l : List Rw) (w : World) : Inv30 l w 0 ((w.alloc (.map #[] 0)).alloc (.cells #[.map (some w.heap.size)] 65)) where
  below := below_alloc (below_alloc (Below.refl _ _) _) _
  box := ValBox.new _ _ (by simp) _ _
  marks := ((MapFn.new _ _ rfl encKey).alloc _).ext fun _ => rfl

theorem inv30_step (l : List Rw) (w : World) (i : Nat) (W : World) (h : Inv30 l w i W) :
    Calls Try.prog 30 #[.agg #[.int .i64 (l.getD i Rw.zero).kind, .int .i64 (l.getD i Rw.zero).step, .int .i64 (l.getD i Rw.zero).client, .int .i64 (l.getD i Rw.zero).call, .int .i64 (l.getD i Rw.zero).backend, .int .i64 (l.getD i Rw.zero).incarnation, .int .i64 (l.getD i Rw.zero).session, .int .i64 (l.getD i Rw.zero).seq, .int .i64 (l.getD i Rw.zero).what, .int .i64 (l.getD i Rw.zero).key, .int .i64 (l.getD i Rw.zero).other, .int .i64 (l.getD i Rw.zero).amount, .int .i64 (l.getD i Rw.zero).code, .int .i64 (l.getD i Rw.zero).place, .int .i64 (l.getD i Rw.zero).value, .int .i64 (l.getD i Rw.zero).n], .pointer (some ⟨w.heap.size + 1, 0, none⟩)] W (fun e w' => e = .returned (.bool (outP l i)) ∧ Inv30 l w (i + 1) w') := by
  have hs : ∀ k, openO l (i + 1) k = if (l.getD i Rw.zero).kind = 1 ∧ k = (l.getD i Rw.zero).ckey then some true else if (l.getD i Rw.zero).kind = 5 ∧ k = (l.getD i Rw.zero).ckey then some false else openO l i k := fun _ => rfl
  unfold outP
  generalize hR : l.getD i Rw.zero = R at hs ⊢
  by_cases h1 : R.kind = 1
  · refine (open30_new _ _ _ _ h1 W h.box h.marks).mono ?_
    rintro e w' ⟨rfl, hm, hb⟩
    exact ⟨by simp [h1], hb.below h.below h.below.size (Nat.le_refl _), h.box.beside hb (by omega), hm.ext fun k => by unfold boolF; rw [hs]; simp only [h1, true_and]; split <;> first | rfl | (simp; done)⟩
  · by_cases h5 : R.kind = 5
    · refine (open30_end _ _ _ _ h5 W h.box h.marks).mono ?_
      rintro e w' ⟨rfl, hm, hb⟩
      exact ⟨by simp [h5], hb.below h.below h.below.size (Nat.le_refl _), h.box.beside hb (by omega), hm.ext fun k => by unfold boolF; rw [hs]; simp [h5]⟩
    · refine (open30_no _ w.heap.size _ h1 h5 W h.box).mono ?_
      rintro e w' ⟨rfl, hb⟩
      exact ⟨by simp [h5], below_step h.below hb, h.box.kept hb, (h.marks.kept hb).ext fun k => by unfold boolF; rw [hs]; simp [h1, h5]⟩

theorem outcomes_any (a : Option Addr) (l : List Rw) (cap : Nat) (w : World) (hm : l.length ≤ maxLen) (hr : RowsAt w a l) :
    Calls Try.prog 15 #[.slice a l.length cap] w (Gives (.int .i64 (idx (outP l) l.length)) w) := by
  have hf := Lib.hid (find30 a l cap (w.heap.size + 1) _ hm (Inv30 l w) (outP l) (inv30_new l w) (fun i W h => hr.below h.below (Nat.le_refl _)) (fun i W _ h => inv30_step l w i W h))
  have hmm := @run_makeMap Try.prog
  clear hr hm
  go_enter Try.func15, Try.ntmps15
  go_wp2_with (fail)
  refine hf.out.mono ?_
  rintro e w1 ⟨rfl, i, hi⟩
  have hb := hi.below
  clear hi hf
  go_wp2
  go_ret
  exact ⟨rfl, hb⟩
end Go.Proofs.Ytoingfnpffaopaa
