/- What judge's Rejected hands back: the first failed outcome of a call that was sent. Conditions: none. -/
import Derived.Test.YtoingfnpffaopaaTwo
namespace Go.Proofs.Ytoingfnpffaopaa
open Go.RowKit

/-- A set, as a map of marks. -/
def markF {K : Type} (S : K → Bool) : K → Option Value := fun k => if S k = true then some (.bool true) else none
theorem markF_get {K : Type} (S : K → Bool) (k : K) : (markF S k).getD (.bool false) = .bool (S k) := by
  unfold markF
  cases S k <;> rfl
theorem markF_set {K : Type} [DecidableEq K] (S : K → Bool) (a : K) (k : K) : markF (fun k => decide (k = a) || S k) k = if k = a then some (Value.bool true) else markF S k := by
  unfold markF
  by_cases e : k = a <;> simp [e]

/-- The rows of kind k. -/
def isK (k : Int) (r : Rw) : Bool := decide (r.kind = k)

/-- What holds at the head of a round of marks. -/
def MarkRel (k : Int) (l : List Rw) (w wr : World) (vi : Value) : Prop :=
  ∃ i : Nat, i ≤ l.length ∧ vi = .int .i64 i ∧ Below w.heap.size w wr ∧ MapFn wr w.heap.size encKey (markF (seen (isK k) Rw.ckey l i))

set_option maxHeartbeats 4000000 in
theorem marks_any (k : Int) (a : Option Addr) (l : List Rw) (cap : Nat) (w : World) (hm : l.length ≤ maxLen) (hr : RowsAt w a l) :
    Calls Try.prog 33 #[.slice a l.length cap, .int .i64 k, .func (.func 31) #[] #[]] w fun e w' =>
      e = .returned (.map (some w.heap.size)) ∧ Below w.heap.size w w' ∧ MapFn w' w.heap.size encKey (markF (seen (isK k) Rw.ckey l l.length)) := by
  unfold maxLen at hm
  have hmm := @run_makeMap Try.prog
  have HR := Lib.hid hr
  have H0 := Lib.hid (below_alloc (Below.refl w.heap.size w) (.map #[] 0))
  have HM0 := Lib.hid (MapFn.new w w.heap.size rfl encKey)
  clear hr
  go_enter Try.func33, Try.ntmps33
  go_wp2
  go_loopw [13] (fun vi wr => MarkRel k l w wr vi) (fun i _ => l.length - (intOf i).toNat)
  case atStart => exact ⟨0, Nat.zero_le _, rfl, H0.out, HM0.out.ext fun _ => rfl⟩
  case round =>
    obtain ⟨i, hi, rfl, hb, hM⟩ := hrel
    have HB := Lib.hid hb
    have HM := Lib.hid hM
    clear hM
    by_cases hlt : i < l.length
    · have hs : ∀ x, seen (isK k) Rw.ckey l (i + 1) x = (decide ((l.getD i Rw.zero).kind = k) && decide (x = (l.getD i Rw.zero).ckey) || seen (isK k) Rw.ckey l i x) := fun _ => rfl
      obtain ⟨ba, off, rfl, hbw, hA⟩ := (HR.out.below hb (Nat.le_refl _)).at hlt
      generalize l.getD i Rw.zero = R at *
      have HS := Lib.hid hs
      clear hs hb
      have hl : w.heap.size < wr.heap.size := HM.out.lt
      obtain ⟨q0, q1, q2, q3, q4, q5, q6, q7, q8, q9, q10, q11, q12, q13, q14, q15⟩ := hA
      by_cases hk : R.kind = k
      · have hd : decide (R.kind = k) = true := by simpa using hk
        have he : (R.kind == k) = true := by simpa using hk
        have hB := HB.out.trans ((below_alloc (Below.refl _ wr) (.cells #[.int .i64 R.kind, .int .i64 R.step, .int .i64 R.client, .int .i64 R.call, .int .i64 R.backend, .int .i64 R.incarnation, .int .i64 R.session, .int .i64 R.seq, .int .i64 R.what, .int .i64 R.key, .int .i64 R.other, .int .i64 R.amount, .int .i64 R.code, .int .i64 R.place, .int .i64 R.value, .int .i64 R.n] 30)).mono (Nat.le_of_lt hl))
        have hM := HM.out.alloc (.cells #[.int .i64 R.kind, .int .i64 R.step, .int .i64 R.client, .int .i64 R.call, .int .i64 R.backend, .int .i64 R.incarnation, .int .i64 R.session, .int .i64 R.seq, .int .i64 R.what, .int .i64 R.key, .int .i64 R.other, .int .i64 R.amount, .int .i64 R.code, .int .i64 R.place, .int .i64 R.value, .int .i64 R.n] 30)
        have HK := Lib.hid hk
        have HB1 := Lib.hid hB
        have HM1 := Lib.hid hM
        clear hB hM hk
        go_wp2_with (fail)
        refine (callOf_any R _).mono ?_
        rintro e w1 ⟨rfl, hb⟩
        obtain ⟨w2, hup, hM2, ho⟩ := run_update keyLaws (HM1.out.kept hb) Try.underlying65 (R.client, R.call) (.bool true)
        simp only [encKey] at hup
        have hb2 := HB1.out.trans (hb.mono HB1.out.size)
        have HB2 := Lib.hid (((Beside.refl _ w1).only ho).below hb2 hb2.size (Nat.le_refl _))
        have HM2 := Lib.hid hM2
        clear q0 q1 q2 q3 q4 q5 q6 q7 q8 q9 q10 q11 q12 q13 q14 q15 HM1 HB1 HM HB hb hb2 ho hM2
        go_wp2
        go_roundw
        case rel => exact ⟨i + 1, by omega, by go_num, HB2.out, HM2.out.ext fun x => by
          have h := HS.out x
          unfold markF
          rw [h]
          simp only [HK.out, decide_true, Bool.true_and]
          exact markF_set _ (R.client, R.call) x⟩
        case measure => simp [intOf]; omega
      · have hd : decide (R.kind = k) = false := by simpa using hk
        have he : (R.kind == k) = false := by simpa using hk
        have HB1 := Lib.hid (HB.out.trans ((below_alloc (Below.refl _ wr) (.cells #[.int .i64 R.kind, .int .i64 R.step, .int .i64 R.client, .int .i64 R.call, .int .i64 R.backend, .int .i64 R.incarnation, .int .i64 R.session, .int .i64 R.seq, .int .i64 R.what, .int .i64 R.key, .int .i64 R.other, .int .i64 R.amount, .int .i64 R.code, .int .i64 R.place, .int .i64 R.value, .int .i64 R.n] 30)).mono (Nat.le_of_lt hl)))
        have HM1 := Lib.hid (HM.out.alloc (.cells #[.int .i64 R.kind, .int .i64 R.step, .int .i64 R.client, .int .i64 R.call, .int .i64 R.backend, .int .i64 R.incarnation, .int .i64 R.session, .int .i64 R.seq, .int .i64 R.what, .int .i64 R.key, .int .i64 R.other, .int .i64 R.amount, .int .i64 R.code, .int .i64 R.place, .int .i64 R.value, .int .i64 R.n] 30))
        have HK := Lib.hid hk
        clear hk HM HB
        go_wp2
        go_roundw
        case rel => exact ⟨i + 1, by omega, by go_num, HB1.out, HM1.out.ext fun x => by
          have h := HS.out x
          unfold markF
          rw [h]
          simp only [HK.out, decide_false, Bool.false_and, Bool.false_or]⟩
        case measure => simp [intOf]; omega
    · obtain rfl : i = l.length := by omega
      go_wp2
      go_ret
      exact ⟨rfl, HB.out, HM.out⟩

theorem below_held {w w1 w2 : World} {p : Prop} (h2 : Below w1.heap.size w1 w2) (h : Below w.heap.size w w1 ∧ p) : Below w.heap.size w w2 := below_step h.1 h2

set_option maxHeartbeats 4000000 in
theorem rej34_yes (b r : Nat) (S : Key → Bool) (R : Rw) (hk : R.kind = 5) (hn : R.n = 2) (w : World) (h1 : ValBox w b 65 (.map (some r))) (hM : MapFn w r encKey (markF S)) :
    Calls Try.prog 34 #[.agg #[.int .i64 R.kind, .int .i64 R.step, .int .i64 R.client, .int .i64 R.call, .int .i64 R.backend, .int .i64 R.incarnation, .int .i64 R.session, .int .i64 R.seq, .int .i64 R.what, .int .i64 R.key, .int .i64 R.other, .int .i64 R.amount, .int .i64 R.code, .int .i64 R.place, .int .i64 R.value, .int .i64 R.n], .pointer (some ⟨b, 0, none⟩)] w (Gives (.bool (S R.ckey)) w) := by
  have hd : decide (R.kind = 5) = true := by simpa using hk
  have he : (R.kind == 5) = true := by simpa using hk
  have hd2 : decide (R.n = 2) = true := by simpa using hn
  have he2 : (R.n == 2) = true := by simpa using hn
  have hX := RowBox.new w w.heap.size rfl R
  have hB0 := below_alloc (Below.refl _ w) (.cells #[.int .i64 R.kind, .int .i64 R.step, .int .i64 R.client, .int .i64 R.call, .int .i64 R.backend, .int .i64 R.incarnation, .int .i64 R.session, .int .i64 R.seq, .int .i64 R.what, .int .i64 R.key, .int .i64 R.other, .int .i64 R.amount, .int .i64 R.code, .int .i64 R.place, .int .i64 R.value, .int .i64 R.n] 30)
  have hM0 := hM.alloc (.cells #[.int .i64 R.kind, .int .i64 R.step, .int .i64 R.client, .int .i64 R.call, .int .i64 R.backend, .int .i64 R.incarnation, .int .i64 R.session, .int .i64 R.seq, .int .i64 R.what, .int .i64 R.key, .int .i64 R.other, .int .i64 R.amount, .int .i64 R.code, .int .i64 R.place, .int .i64 R.value, .int .i64 R.n] 30)
  have h10 := h1.alloc (.cells #[.int .i64 R.kind, .int .i64 R.step, .int .i64 R.client, .int .i64 R.call, .int .i64 R.backend, .int .i64 R.incarnation, .int .i64 R.session, .int .i64 R.seq, .int .i64 R.what, .int .i64 R.key, .int .i64 R.other, .int .i64 R.amount, .int .i64 R.code, .int .i64 R.place, .int .i64 R.value, .int .i64 R.n] 30)
  clear hk hn h1 hM
  go_enter Try.func34, Try.ntmps34
  go_wp2_with (fail)
  generalize w.alloc (.cells #[.int .i64 R.kind, .int .i64 R.step, .int .i64 R.client, .int .i64 R.call, .int .i64 R.backend, .int .i64 R.incarnation, .int .i64 R.session, .int .i64 R.seq, .int .i64 R.what, .int .i64 R.key, .int .i64 R.other, .int .i64 R.amount, .int .i64 R.code, .int .i64 R.place, .int .i64 R.value, .int .i64 R.n] 30) = W at *
  have hK : ∀ w', Below W.heap.size W w' → Below W.heap.size W w' ∧ w'.cell? ⟨w.heap.size, 0, none⟩ = some (.int .i64 R.kind) ∧ w'.cell? ⟨w.heap.size, 1, none⟩ = some (.int .i64 R.step) ∧ w'.cell? ⟨w.heap.size, 2, none⟩ = some (.int .i64 R.client) ∧ w'.cell? ⟨w.heap.size, 3, none⟩ = some (.int .i64 R.call) ∧ w'.cell? ⟨w.heap.size, 4, none⟩ = some (.int .i64 R.backend) ∧ w'.cell? ⟨w.heap.size, 5, none⟩ = some (.int .i64 R.incarnation) ∧ w'.cell? ⟨w.heap.size, 6, none⟩ = some (.int .i64 R.session) ∧ w'.cell? ⟨w.heap.size, 7, none⟩ = some (.int .i64 R.seq) ∧ w'.cell? ⟨w.heap.size, 8, none⟩ = some (.int .i64 R.what) ∧ w'.cell? ⟨w.heap.size, 9, none⟩ = some (.int .i64 R.key) ∧ w'.cell? ⟨w.heap.size, 10, none⟩ = some (.int .i64 R.other) ∧ w'.cell? ⟨w.heap.size, 11, none⟩ = some (.int .i64 R.amount) ∧ w'.cell? ⟨w.heap.size, 12, none⟩ = some (.int .i64 R.code) ∧ w'.cell? ⟨w.heap.size, 13, none⟩ = some (.int .i64 R.place) ∧ w'.cell? ⟨w.heap.size, 14, none⟩ = some (.int .i64 R.value) ∧ w'.cell? ⟨w.heap.size, 15, none⟩ = some (.int .i64 R.n) ∧ w'.cell? ⟨b, 0, none⟩ = some (.map (some r)) := by
    intro w' hb
    obtain ⟨⟨q0, q1, q2, q3, q4, q5, q6, q7, q8, q9, q10, q11, q12, q13, q14, q15⟩, _⟩ := (hX.kept hb).cell
    exact ⟨hb, q0, q1, q2, q3, q4, q5, q6, q7, q8, q9, q10, q11, q12, q13, q14, q15, (h10.kept hb).cell.1⟩
  have HK := Lib.hid hK
  have HM := Lib.hid hM0.drew
  have HB := Lib.hid hB0
  clear hK hM0 hB0 hX h10
  go_region_held3 (fun w' => Below W.heap.size W w' ∧ w'.cell? ⟨w.heap.size, 0, none⟩ = some (.int .i64 R.kind) ∧ w'.cell? ⟨w.heap.size, 1, none⟩ = some (.int .i64 R.step) ∧ w'.cell? ⟨w.heap.size, 2, none⟩ = some (.int .i64 R.client) ∧ w'.cell? ⟨w.heap.size, 3, none⟩ = some (.int .i64 R.call) ∧ w'.cell? ⟨w.heap.size, 4, none⟩ = some (.int .i64 R.backend) ∧ w'.cell? ⟨w.heap.size, 5, none⟩ = some (.int .i64 R.incarnation) ∧ w'.cell? ⟨w.heap.size, 6, none⟩ = some (.int .i64 R.session) ∧ w'.cell? ⟨w.heap.size, 7, none⟩ = some (.int .i64 R.seq) ∧ w'.cell? ⟨w.heap.size, 8, none⟩ = some (.int .i64 R.what) ∧ w'.cell? ⟨w.heap.size, 9, none⟩ = some (.int .i64 R.key) ∧ w'.cell? ⟨w.heap.size, 10, none⟩ = some (.int .i64 R.other) ∧ w'.cell? ⟨w.heap.size, 11, none⟩ = some (.int .i64 R.amount) ∧ w'.cell? ⟨w.heap.size, 12, none⟩ = some (.int .i64 R.code) ∧ w'.cell? ⟨w.heap.size, 13, none⟩ = some (.int .i64 R.place) ∧ w'.cell? ⟨w.heap.size, 14, none⟩ = some (.int .i64 R.value) ∧ w'.cell? ⟨w.heap.size, 15, none⟩ = some (.int .i64 R.n) ∧ w'.cell? ⟨b, 0, none⟩ = some (.map (some r)))
    (first | exact HK.out _ (Below.refl _ _).drew | exact HK.out _ (below_held (by assumption) (by assumption)) | go_keep)
    (first | (go_at_call 31; refine (callOf_any _ _).mono ?_; rintro e1 wx ⟨rfl, hbx⟩; have hlk := run_lookup keyLaws (HM.out.kept hbx) Try.underlying65 (zero4 _) (R.client, R.call) false; rw [markF_get] at hlk; simp only [encKey, Bool.false_eq_true, if_false] at hlk))
  all_goals
    go_wp2
    go_ret
    exact ⟨rfl, below_step HB.out (And.left (by assumption))⟩

set_option maxHeartbeats 4000000 in
theorem rej34_no (b : Nat) (R : Rw) (hk : R.kind ≠ 5 ∨ R.n ≠ 2) (w : World) : Calls Try.prog 34 #[.agg #[.int .i64 R.kind, .int .i64 R.step, .int .i64 R.client, .int .i64 R.call, .int .i64 R.backend, .int .i64 R.incarnation, .int .i64 R.session, .int .i64 R.seq, .int .i64 R.what, .int .i64 R.key, .int .i64 R.other, .int .i64 R.amount, .int .i64 R.code, .int .i64 R.place, .int .i64 R.value, .int .i64 R.n], .pointer (some ⟨b, 0, none⟩)] w (Gives (.bool false) w) := by
  by_cases h5 : R.kind = 5
  · have hn : R.n ≠ 2 := hk.resolve_left fun h => h h5
    have hd : decide (R.kind = 5) = true := by simpa using h5
    have he : (R.kind == 5) = true := by simpa using h5
    have hd2 : decide (R.n = 2) = false := by simpa using hn
    have he2 : (R.n == 2) = false := by simpa using hn
    clear h5 hn hk
    go_enter Try.func34, Try.ntmps34
    go_wp2_with (fail)
    go_quiet (fail)
    all_goals
      go_wp2
      go_ret
      exact ⟨rfl, below_drewN (below_alloc (Below.refl _ _) _) _⟩
  · have hd : decide (R.kind = 5) = false := by simpa using h5
    have he : (R.kind == 5) = false := by simpa using h5
    clear h5 hk
    go_enter Try.func34, Try.ntmps34
    go_wp2_with (fail)
    go_quiet (fail)
    all_goals
      go_wp2
      go_ret
      exact ⟨rfl, below_drewN (below_alloc (Below.refl _ _) _) _⟩

/-- What Rejected answers yes of. -/
def rejP (l : List Rw) (i : Nat) : Bool := decide ((l.getD i Rw.zero).kind = 5 ∧ (l.getD i Rw.zero).n = 2) && seen (isK 2) Rw.ckey l l.length (l.getD i Rw.zero).ckey

/-- What holds behind i rows. -/
structure Inv34 (l : List Rw) (w : World) (b : Nat) (_ : Nat) (W : World) : Prop where
  below : Below w.heap.size w W
  box : ValBox W b 65 (.map (some w.heap.size))
  marks : MapFn W w.heap.size encKey (markF (seen (isK 2) Rw.ckey l l.length))

theorem inv34_step (l : List Rw) (w : World) (b i : Nat) (W : World) (h : Inv34 l w b i W) :
    Calls Try.prog 34 #[.agg #[.int .i64 (l.getD i Rw.zero).kind, .int .i64 (l.getD i Rw.zero).step, .int .i64 (l.getD i Rw.zero).client, .int .i64 (l.getD i Rw.zero).call, .int .i64 (l.getD i Rw.zero).backend, .int .i64 (l.getD i Rw.zero).incarnation, .int .i64 (l.getD i Rw.zero).session, .int .i64 (l.getD i Rw.zero).seq, .int .i64 (l.getD i Rw.zero).what, .int .i64 (l.getD i Rw.zero).key, .int .i64 (l.getD i Rw.zero).other, .int .i64 (l.getD i Rw.zero).amount, .int .i64 (l.getD i Rw.zero).code, .int .i64 (l.getD i Rw.zero).place, .int .i64 (l.getD i Rw.zero).value, .int .i64 (l.getD i Rw.zero).n], .pointer (some ⟨b, 0, none⟩)] W (fun e w' => e = .returned (.bool (rejP l i)) ∧ Inv34 l w b (i + 1) w') := by
  unfold rejP
  generalize l.getD i Rw.zero = R
  by_cases hk : R.kind = 5 ∧ R.n = 2
  · refine (rej34_yes _ _ _ _ hk.1 hk.2 W h.box h.marks).mono ?_
    rintro e w' ⟨rfl, hb⟩
    exact ⟨by simp [hk], below_step h.below hb, h.box.kept hb, h.marks.kept hb⟩
  · refine (rej34_no _ _ (by by_cases h5 : R.kind = 5 <;> simp_all) W).mono ?_
    rintro e w' ⟨rfl, hb⟩
    exact ⟨by simp [hk], below_step h.below hb, h.box.kept hb, h.marks.kept hb⟩

theorem rejected_any (a : Option Addr) (l : List Rw) (cap : Nat) (w : World) (hm : l.length ≤ maxLen) (hr : RowsAt w a l) :
    Calls Try.prog 17 #[.slice a l.length cap] w (Gives (.int .i64 (idx (rejP l) l.length)) w) := by
  have hf := Lib.hid (marks_any 2 a l cap w hm hr)
  have HR := Lib.hid hr
  have HL := Lib.hid hm
  clear hr hm
  go_enter Try.func17, Try.ntmps17
  go_wp2_with (fail)
  refine hf.out.mono ?_
  rintro e w1 ⟨rfl, hb, hM⟩
  have hg := Lib.hid (find34 a l cap w1.heap.size (w1.alloc (.cells #[.map (some w.heap.size)] 65)) HL.out (Inv34 l w w1.heap.size) (rejP l) ⟨below_alloc hb _, ValBox.new _ _ rfl _ _, hM.alloc _⟩ (fun i W h => HR.out.below h.below (Nat.le_refl _)) (fun i W _ h => inv34_step l w _ i W h))
  clear hf HR HL hb hM
  go_wp2_with (fail)
  refine hg.out.mono ?_
  rintro e w2 ⟨rfl, i, hi⟩
  have hb := hi.below
  clear hi hg
  go_wp2
  go_ret
  exact ⟨rfl, hb⟩
end Go.Proofs.Ytoingfnpffaopaa
