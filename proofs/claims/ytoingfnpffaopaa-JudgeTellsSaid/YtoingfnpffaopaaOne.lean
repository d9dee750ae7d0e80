/- What judge's twice over its rows hands back: the first row of the kind whose mark was met before. Conditions: none. -/
import Derived.Test.YtoingfnpffaopaaAgain
import Derived.Deep.RegionHeld3
import Derived.Carry
namespace Go.Proofs.Ytoingfnpffaopaa
open Go.RowKit

theorem MapFn.drew {α : Type} [DecidableEq α] {enc : α → Value} {w : World} {r : Nat} {f : α → Option Value} (h : MapFn w r enc f) : MapFn w.drew r enc f := h.same rfl
theorem held_step {r : Nat} {w w1 w2 : World} {p : Prop} (h2 : Below w1.heap.size w1 w2) (h : Beside r w w1 ∧ p) : Beside r w w2 := h.1.step h2
theorem held_trans {r : Nat} {w w1 w2 : World} {p : Prop} (h2 : Beside r w1 w2) (h : Beside r w w1 ∧ p) : Beside r w w2 := h.1.trans h2
theorem Beside.drew {r : Nat} {w w1 : World} (h : Beside r w w1) : Beside r w w1.drew := ⟨h.os, h.tape, h.output, h.size, h.block⟩
theorem RowBox.beside {w w1 : World} {b q : Nat} {r : Rw} (h : RowBox w b r) (hb : Beside q w w1) (hn : b ≠ q) : RowBox w1 b r := h.same (hb.block b h.lt hn)
theorem ValBox.beside {w w1 : World} {b q : Nat} {T : TypeId} {v : Value} (h : ValBox w b T v) (hb : Beside q w w1) (hn : b ≠ q) : ValBox w1 b T v := h.same (hb.block b h.lt hn)

def Rw.spot (r : Rw) : Spot := (r.client, r.backend, r.incarnation, r.session, r.seq)
def Rw.ckey (r : Rw) : Key := (r.client, r.call)

/-- What a walk over the rows has met. -/
def seen {K : Type} [DecidableEq K] (c : Rw → Bool) (f : Rw → K) (l : List Rw) : Nat → K → Bool
  | 0, _ => false
  | i + 1, k => (c (l.getD i Rw.zero) && decide (k = f (l.getD i Rw.zero))) || seen c f l i k

set_option maxHeartbeats 2000000 in
theorem mark41_yes (b1 b2 b3 r : Nat) (S : Spot → Bool) (k : Int) (R : Rw) (hk : R.kind = k) (w : World) (h1 : ValBox w b1 3 (.int .i64 k)) (h2 : ValBox w b2 83 (.map (some r))) (h3 : ValBox w b3 56 (.func (.func 25) #[] #[])) (hM : MapFn w r encSpot (setF S)) (n1 : b1 ≠ r) (n2 : b2 ≠ r) (n3 : b3 ≠ r) :
    Calls Try.prog 41 #[.agg #[.int .i64 R.kind, .int .i64 R.step, .int .i64 R.client, .int .i64 R.call, .int .i64 R.backend, .int .i64 R.incarnation, .int .i64 R.session, .int .i64 R.seq, .int .i64 R.what, .int .i64 R.key, .int .i64 R.other, .int .i64 R.amount, .int .i64 R.code, .int .i64 R.place, .int .i64 R.value, .int .i64 R.n], .pointer (some ⟨b1, 0, none⟩), .pointer (some ⟨b2, 0, none⟩), .pointer (some ⟨b3, 0, none⟩)] w fun e w' =>
      e = .returned (.bool (S R.spot)) ∧ MapFn w' r encSpot (setF fun s => decide (s = R.spot) || S s) ∧ Beside r w w' := by
  have hd : decide (R.kind = k) = true := by simpa using hk
  have he : (R.kind == k) = true := by simpa using hk
  have l1 := h1.lt
  have l2 := h2.lt
  have l3 := h3.lt
  have lr := hM.lt
  obtain ⟨d1, _⟩ := h1.cell
  obtain ⟨d2, _⟩ := h2.cell
  obtain ⟨d3, _⟩ := h3.cell
  have hX := RowBox.new w w.heap.size rfl R
  have hB0 := (Beside.refl r w).alloc (.cells #[.int .i64 R.kind, .int .i64 R.step, .int .i64 R.client, .int .i64 R.call, .int .i64 R.backend, .int .i64 R.incarnation, .int .i64 R.session, .int .i64 R.seq, .int .i64 R.what, .int .i64 R.key, .int .i64 R.other, .int .i64 R.amount, .int .i64 R.code, .int .i64 R.place, .int .i64 R.value, .int .i64 R.n] 30)
  have hM0 := hM.alloc (.cells #[.int .i64 R.kind, .int .i64 R.step, .int .i64 R.client, .int .i64 R.call, .int .i64 R.backend, .int .i64 R.incarnation, .int .i64 R.session, .int .i64 R.seq, .int .i64 R.what, .int .i64 R.key, .int .i64 R.other, .int .i64 R.amount, .int .i64 R.code, .int .i64 R.place, .int .i64 R.value, .int .i64 R.n] 30)
  have h10 := h1.alloc (.cells #[.int .i64 R.kind, .int .i64 R.step, .int .i64 R.client, .int .i64 R.call, .int .i64 R.backend, .int .i64 R.incarnation, .int .i64 R.session, .int .i64 R.seq, .int .i64 R.what, .int .i64 R.key, .int .i64 R.other, .int .i64 R.amount, .int .i64 R.code, .int .i64 R.place, .int .i64 R.value, .int .i64 R.n] 30)
  have h20 := h2.alloc (.cells #[.int .i64 R.kind, .int .i64 R.step, .int .i64 R.client, .int .i64 R.call, .int .i64 R.backend, .int .i64 R.incarnation, .int .i64 R.session, .int .i64 R.seq, .int .i64 R.what, .int .i64 R.key, .int .i64 R.other, .int .i64 R.amount, .int .i64 R.code, .int .i64 R.place, .int .i64 R.value, .int .i64 R.n] 30)
  have h30 := h3.alloc (.cells #[.int .i64 R.kind, .int .i64 R.step, .int .i64 R.client, .int .i64 R.call, .int .i64 R.backend, .int .i64 R.incarnation, .int .i64 R.session, .int .i64 R.seq, .int .i64 R.what, .int .i64 R.key, .int .i64 R.other, .int .i64 R.amount, .int .i64 R.code, .int .i64 R.place, .int .i64 R.value, .int .i64 R.n] 30)
  have hk0 : w.heap.size ≠ r := by omega
  clear hk h1 h2 h3 hM d1 d2 d3 l1 l2 l3
  go_enter Try.func41, Try.ntmps41
  go_wp2_with (fail)
  generalize w.alloc (.cells #[.int .i64 R.kind, .int .i64 R.step, .int .i64 R.client, .int .i64 R.call, .int .i64 R.backend, .int .i64 R.incarnation, .int .i64 R.session, .int .i64 R.seq, .int .i64 R.what, .int .i64 R.key, .int .i64 R.other, .int .i64 R.amount, .int .i64 R.code, .int .i64 R.place, .int .i64 R.value, .int .i64 R.n] 30) = W at *
  generalize w.heap.size = g at *
  have hK : ∀ w', Beside r W w' → Beside r W w' ∧ w'.cell? ⟨g, 0, none⟩ = some (.int .i64 R.kind) ∧ w'.cell? ⟨g, 1, none⟩ = some (.int .i64 R.step) ∧ w'.cell? ⟨g, 2, none⟩ = some (.int .i64 R.client) ∧ w'.cell? ⟨g, 3, none⟩ = some (.int .i64 R.call) ∧ w'.cell? ⟨g, 4, none⟩ = some (.int .i64 R.backend) ∧ w'.cell? ⟨g, 5, none⟩ = some (.int .i64 R.incarnation) ∧ w'.cell? ⟨g, 6, none⟩ = some (.int .i64 R.session) ∧ w'.cell? ⟨g, 7, none⟩ = some (.int .i64 R.seq) ∧ w'.cell? ⟨g, 8, none⟩ = some (.int .i64 R.what) ∧ w'.cell? ⟨g, 9, none⟩ = some (.int .i64 R.key) ∧ w'.cell? ⟨g, 10, none⟩ = some (.int .i64 R.other) ∧ w'.cell? ⟨g, 11, none⟩ = some (.int .i64 R.amount) ∧ w'.cell? ⟨g, 12, none⟩ = some (.int .i64 R.code) ∧ w'.cell? ⟨g, 13, none⟩ = some (.int .i64 R.place) ∧ w'.cell? ⟨g, 14, none⟩ = some (.int .i64 R.value) ∧ w'.cell? ⟨g, 15, none⟩ = some (.int .i64 R.n) ∧ w'.cell? ⟨b1, 0, none⟩ = some (.int .i64 k) ∧ w'.cell? ⟨b2, 0, none⟩ = some (.map (some r)) ∧ w'.cell? ⟨b3, 0, none⟩ = some (.func (.func 25) #[] #[]) := by
    intro w' hb
    obtain ⟨⟨q0, q1, q2, q3, q4, q5, q6, q7, q8, q9, q10, q11, q12, q13, q14, q15⟩, _⟩ := (hX.beside hb hk0).cell
    exact ⟨hb, q0, q1, q2, q3, q4, q5, q6, q7, q8, q9, q10, q11, q12, q13, q14, q15, (h10.beside hb n1).cell.1, (h20.beside hb n2).cell.1, (h30.beside hb n3).cell.1⟩
  have HK := Lib.hid hK
  have HM := Lib.hid hM0.drew
  have HB := Lib.hid hB0
  have HW : Below W.drew.heap.size W.drew W.drew := Below.refl _ _
  clear hK hM0 hB0 hX h10 h20 h30 n1 n2 n3 hk0 lr
  go_region_held3 (fun w' => Beside r W w' ∧ w'.cell? ⟨g, 0, none⟩ = some (.int .i64 R.kind) ∧ w'.cell? ⟨g, 1, none⟩ = some (.int .i64 R.step) ∧ w'.cell? ⟨g, 2, none⟩ = some (.int .i64 R.client) ∧ w'.cell? ⟨g, 3, none⟩ = some (.int .i64 R.call) ∧ w'.cell? ⟨g, 4, none⟩ = some (.int .i64 R.backend) ∧ w'.cell? ⟨g, 5, none⟩ = some (.int .i64 R.incarnation) ∧ w'.cell? ⟨g, 6, none⟩ = some (.int .i64 R.session) ∧ w'.cell? ⟨g, 7, none⟩ = some (.int .i64 R.seq) ∧ w'.cell? ⟨g, 8, none⟩ = some (.int .i64 R.what) ∧ w'.cell? ⟨g, 9, none⟩ = some (.int .i64 R.key) ∧ w'.cell? ⟨g, 10, none⟩ = some (.int .i64 R.other) ∧ w'.cell? ⟨g, 11, none⟩ = some (.int .i64 R.amount) ∧ w'.cell? ⟨g, 12, none⟩ = some (.int .i64 R.code) ∧ w'.cell? ⟨g, 13, none⟩ = some (.int .i64 R.place) ∧ w'.cell? ⟨g, 14, none⟩ = some (.int .i64 R.value) ∧ w'.cell? ⟨g, 15, none⟩ = some (.int .i64 R.n) ∧ w'.cell? ⟨b1, 0, none⟩ = some (.int .i64 k) ∧ w'.cell? ⟨b2, 0, none⟩ = some (.map (some r)) ∧ w'.cell? ⟨b3, 0, none⟩ = some (.func (.func 25) #[] #[]))
    (first | exact HK.out _ (Beside.refl _ _).drew | exact HK.out _ (held_step (by assumption) (by assumption)) | exact HK.out _ (held_trans (by assumption) (by assumption)) | go_keep)
    (first | (go_at_call 25; refine (spotOf_any _ _).mono ?_; rintro e1 wx ⟨rfl, hbx⟩) | (go_at_call 42; refine (again_any r S _ _ _ _ _ _ ?_).mono ?_; (first | exact HM.out | exact HM.out.kept (by assumption)); rintro e1 wx ⟨rfl, hmx, hby⟩))
  go_wp2
  go_ret
  exact ⟨rfl, hmx, HB.out.trans (And.left (by assumption))⟩

set_option maxHeartbeats 2000000 in
theorem mark41_no (b1 b2 b3 : Nat) (k : Int) (R : Rw) (hk : R.kind ≠ k) (w : World) (h1 : ValBox w b1 3 (.int .i64 k)) :
    Calls Try.prog 41 #[.agg #[.int .i64 R.kind, .int .i64 R.step, .int .i64 R.client, .int .i64 R.call, .int .i64 R.backend, .int .i64 R.incarnation, .int .i64 R.session, .int .i64 R.seq, .int .i64 R.what, .int .i64 R.key, .int .i64 R.other, .int .i64 R.amount, .int .i64 R.code, .int .i64 R.place, .int .i64 R.value, .int .i64 R.n], .pointer (some ⟨b1, 0, none⟩), .pointer (some ⟨b2, 0, none⟩), .pointer (some ⟨b3, 0, none⟩)] w (Gives (.bool false) w) := by
  have hd : decide (R.kind = k) = false := by simpa using hk
  have he : (R.kind == k) = false := by simpa using hk
  have l1 := h1.lt
  obtain ⟨d1, _⟩ := h1.cell
  clear hk h1
  go_enter Try.func41, Try.ntmps41
  go_wp2_with (fail)
  go_quiet (fail)
  all_goals
    go_wp2
    go_ret
    exact ⟨rfl, below_drewN (below_alloc (Below.refl _ _) _) _⟩
/-- What twice answers yes of. -/
def twiceP (k : Int) (l : List Rw) (i : Nat) : Bool := decide ((l.getD i Rw.zero).kind = k) && seen (fun r => decide (r.kind = k)) Rw.spot l i (l.getD i Rw.zero).spot

/-- What holds behind i rows. -/
structure Inv41 (k : Int) (l : List Rw) (w : World) (i : Nat) (W : World) : Prop where
  below : Below w.heap.size w W
  b1 : ValBox W w.heap.size 3 (.int .i64 k)
  b2 : ValBox W (w.heap.size + 3) 83 (.map (some (w.heap.size + 2)))
  b3 : ValBox W (w.heap.size + 1) 56 (.func (.func 25) #[] #[])
  marks : MapFn W (w.heap.size + 2) encSpot (setF (seen (fun r => decide (r.kind = k)) Rw.spot l i))

theorem inv41_new (k : Int) (l : List Rw) (w : World) : Inv41 k l w 0 ((((w.alloc (.cells #[.int .i64 k] 3)).alloc (.cells #[.func (.func 25) #[] #[]] 56)).alloc (.map #[] 0)).alloc (.cells #[.map (some (w.heap.size + 2))] 83)) where
  below := below_alloc (below_alloc (below_alloc (below_alloc (Below.refl _ _) _) _) _) _
  b1 := (((ValBox.new _ _ rfl _ _).alloc _).alloc _).alloc _
  b2 := ValBox.new _ _ (by simp) _ _
  b3 := ((ValBox.new _ _ (by simp) _ _).alloc _).alloc _
  marks := ((MapFn.new _ _ (by simp) encSpot).alloc _).ext fun _ => rfl

theorem inv41_step (k : Int) (l : List Rw) (w : World) (i : Nat) (W : World) (h : Inv41 k l w i W) :
    Calls Try.prog 41 #[.agg #[.int .i64 (l.getD i Rw.zero).kind, .int .i64 (l.getD i Rw.zero).step, .int .i64 (l.getD i Rw.zero).client, .int .i64 (l.getD i Rw.zero).call, .int .i64 (l.getD i Rw.zero).backend, .int .i64 (l.getD i Rw.zero).incarnation, .int .i64 (l.getD i Rw.zero).session, .int .i64 (l.getD i Rw.zero).seq, .int .i64 (l.getD i Rw.zero).what, .int .i64 (l.getD i Rw.zero).key, .int .i64 (l.getD i Rw.zero).other, .int .i64 (l.getD i Rw.zero).amount, .int .i64 (l.getD i Rw.zero).code, .int .i64 (l.getD i Rw.zero).place, .int .i64 (l.getD i Rw.zero).value, .int .i64 (l.getD i Rw.zero).n], .pointer (some ⟨w.heap.size, 0, none⟩), .pointer (some ⟨w.heap.size + 3, 0, none⟩), .pointer (some ⟨w.heap.size + 1, 0, none⟩)] W (fun e w' => e = .returned (.bool (twiceP k l i)) ∧ Inv41 k l w (i + 1) w') := by
  unfold twiceP
  by_cases hk : (l.getD i Rw.zero).kind = k
  · refine (mark41_yes _ _ _ _ _ k _ hk W h.b1 h.b2 h.b3 h.marks (by omega) (by omega) (by omega)).mono ?_
    rintro e w' ⟨rfl, hm, hb⟩
    refine ⟨by simp only [hk, decide_true, Bool.true_and], hb.below h.below h.below.size (by omega), h.b1.beside hb (by omega), h.b2.beside hb (by omega), h.b3.beside hb (by omega), hm.ext fun s => ?_⟩
    simp only [seen, setF, hk, decide_true, Bool.true_and]
  · refine (mark41_no _ _ _ k _ hk W h.b1).mono ?_
    rintro e w' ⟨rfl, hb⟩
    refine ⟨by simp only [hk, decide_false, Bool.false_and], below_step h.below hb, h.b1.kept hb, h.b2.kept hb, h.b3.kept hb, (h.marks.kept hb).ext fun s => ?_⟩
    simp only [seen, setF, hk, decide_false, Bool.false_and, Bool.false_or]

theorem twice_any (k : Int) (a : Option Addr) (l : List Rw) (cap : Nat) (w : World) (hm : l.length ≤ maxLen) (hr : RowsAt w a l) :
    Calls Try.prog 24 #[.slice a l.length cap, .int .i64 k, .func (.func 25) #[] #[]] w (Gives (.int .i64 (idx (twiceP k l) l.length)) w) := by
  have hf := Lib.hid (find41 a l cap w.heap.size (w.heap.size + 3) (w.heap.size + 1) _ hm (Inv41 k l w) (twiceP k l) (inv41_new k l w) (fun i W h => hr.below h.below (Nat.le_refl _)) (fun i W _ h => inv41_step k l w i W h))
  have hmm := @run_makeMap Try.prog
  clear hr hm
  go_enter Try.func24, Try.ntmps24
  go_wp2_with (fail)
  refine hf.out.mono ?_
  rintro e w1 ⟨rfl, i, hi⟩
  have hb := hi.below
  clear hi hf
  go_wp2
  go_ret
  exact ⟨rfl, hb⟩

theorem once_any (a : Option Addr) (l : List Rw) (cap : Nat) (w : World) (hm : l.length ≤ maxLen) (hr : RowsAt w a l) :
    Calls Try.prog 9 #[.slice a l.length cap] w (Gives (.int .i64 (idx (twiceP 3 l) l.length)) w) := by
  have hf := Lib.hid (twice_any 3 a l cap w hm hr)
  clear hm hr
  go_enter Try.func9, Try.ntmps9
  go_wp2_with (fail)
  refine hf.out.mono ?_
  rintro e w1 ⟨rfl, hb⟩
  clear hf
  go_wp2
  go_ret
  exact ⟨rfl, hb⟩
end Go.Proofs.Ytoingfnpffaopaa
