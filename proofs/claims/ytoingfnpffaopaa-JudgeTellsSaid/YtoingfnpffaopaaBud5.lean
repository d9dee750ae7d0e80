/- What judge's Budget hands back. Conditions: none. -/
import Derived.Test.YtoingfnpffaopaaBud3
import Derived.Test.YtoingfnpffaopaaBud4
namespace Go.Proofs.Ytoingfnpffaopaa
open Go.RowKit

/-- How many rows of kind K the client c has among i. -/
def cnt (l : List Rw) (K c : Int) : Nat → Int
  | 0 => 0
  | i + 1 => if (l.getD i Rw.zero).client = c ∧ (l.getD i Rw.zero).kind = K then wrap64 (cnt l K c i + 1) else cnt l K c i

/-- What Budget answers yes of. -/
def budP (s : CS) (l : List Rw) (i : Nat) : Bool :=
  decide ((l.getD i Rw.zero).kind = 2) && decide (allow s (cnt l 1 (l.getD i Rw.zero).client (i + 1)) (cnt l 11 (l.getD i Rw.zero).client (i + 1)) < cnt l 2 (l.getD i Rw.zero).client (i + 1))

/-- The map of the counts behind i rows. -/
structure Counts (l : List Rw) (B r : Nat) (i : Nat) (W : World) (A : Int → Option Nat) : Prop where
  map : MapFn W r encInt (ptrF A)
  box : ∀ c b, A c = some b → B ≤ b ∧ BudBox W b (cnt l 1 c i) (cnt l 11 c i) (cnt l 2 c i)
  inj : ∀ c d b, A c = some b → A d = some b → c = d
  none : ∀ c, A c = none → cnt l 1 c i = 0 ∧ cnt l 11 c i = 0 ∧ cnt l 2 c i = 0

/-- What holds behind i rows. -/
structure Inv28 (s : CS) (l : List Rw) (w : World) (b1 b2 r : Nat) (i : Nat) (W : World) : Prop where
  below : Below w.heap.size w W
  b1 : ValBox W b1 57 (.map (some r))
  b2 : CsBox W b2 s
  counts : ∃ A, Counts l w.heap.size r i W A

theorem val_bud {w : World} {b q : Nat} {T : TypeId} {v : Value} {x y z : Int} (h : ValBox w b T v) (h2 : BudBox w q x y z) : b ≠ q := by
  rintro rfl
  have e := (show w.heap[b]? = _ from h).symm.trans (show w.heap[b]? = _ from h2)
  simp at e
theorem val_map {w : World} {b r : Nat} {T : TypeId} {v : Value} {f : Int → Option Value} (h : ValBox w b T v) (h2 : MapFn w r encInt f) : b ≠ r := by
  rintro rfl
  obtain ⟨l, c, h2, _⟩ := h2
  have e := (show w.heap[b]? = _ from h).symm.trans (show w.heap[b]? = _ from h2)
  simp at e
theorem Beside2.below {r q B : Nat} {a w w1 : World} (h : Beside2 r q w w1) (hb : Below B a w) (hB : B ≤ w.heap.size) (hr : B ≤ r) (hq : B ≤ q) : Below B a w1 :=
  hb.trans ⟨h.os, h.tape, h.output, h.size, fun k hk => h.block k (Nat.lt_of_lt_of_le hk hB) (by omega) (by omega)⟩

/-- One row more: the client's block is q. -/
theorem counts_more {s : CS} {l : List Rw} {w W W' : World} {b1 b2 r q i : Nat} {A : Int → Option Nat} {R : Rw} (hr : w.heap.size ≤ r) (h : Inv28 s l w b1 b2 r i W) (hA : Counts l w.heap.size r i W A)
    (hR : l.getD i Rw.zero = R) (hq : w.heap.size ≤ q) (h1 : b1 ≠ q) (h2 : b2 ≠ q) (hfar : ∀ d b, d ≠ R.client → A d = some b → b ≠ q)
    (hm : MapFn W' r encInt (ptrF fun d => if d = R.client then some q else A d)) (hQ : BudBox W' q (cnt l 1 R.client (i + 1)) (cnt l 11 R.client (i + 1)) (cnt l 2 R.client (i + 1))) (hb : Beside2 r q W W') : Inv28 s l w b1 b2 r (i + 1) W' := by
  have hs : ∀ K c, cnt l K c (i + 1) = if R.client = c ∧ R.kind = K then wrap64 (cnt l K c i + 1) else cnt l K c i := fun K c => by rw [← hR]; rfl
  have hne : ∀ K c, c ≠ R.client → cnt l K c (i + 1) = cnt l K c i := fun K c hc => by rw [hs, if_neg (fun e => hc e.1.symm)]
  refine ⟨hb.below h.below h.below.size hr hq, h.b1.same (hb.block _ h.b1.lt (val_map h.b1 hA.map) h1), h.b2.same (hb.block _ h.b2.lt (cs_map h.b2 hA.map) h2), fun d => if d = R.client then some q else A d, hm, fun c b hc => ?_, fun c d b hc hd => ?_, fun c hc => ?_⟩
  · by_cases e : c = R.client
    · subst e
      simp only [if_true] at hc
      obtain rfl := Option.some.inj hc
      exact ⟨hq, hQ⟩
    · rw [if_neg e] at hc
      have hx := hA.box c b hc
      rw [hne _ _ e, hne _ _ e, hne _ _ e]
      exact ⟨hx.1, hx.2.same (hb.block b hx.2.lt (bud_far hA.map hx.2).symm (hfar c b e hc))⟩
  · by_cases e : c = R.client <;> by_cases e' : d = R.client
    · rw [e, e']
    · rw [if_pos e] at hc; rw [if_neg e'] at hd
      exact absurd (Option.some.inj hc).symm (hfar d b e' hd)
    · rw [if_neg e] at hc; rw [if_pos e'] at hd
      exact absurd (Option.some.inj hd).symm (hfar c b e hc)
    · rw [if_neg e] at hc; rw [if_neg e'] at hd
      exact hA.inj c d b hc hd
  · by_cases e : c = R.client
    · rw [if_pos e] at hc
      exact absurd hc (by simp)
    · rw [if_neg e] at hc
      rw [hne _ _ e, hne _ _ e, hne _ _ e]
      exact hA.none c hc

theorem cnt_yes {l : List Rw} {i : Nat} {R : Rw} {K : Int} (hR : l.getD i Rw.zero = R) (hk : R.kind = K) : cnt l K R.client (i + 1) = wrap64 (cnt l K R.client i + 1) := by
  show (if (l.getD i Rw.zero).client = R.client ∧ (l.getD i Rw.zero).kind = K then _ else _) = _
  rw [hR, if_pos ⟨rfl, hk⟩]
theorem cnt_no {l : List Rw} {i : Nat} {R : Rw} {K c : Int} (hR : l.getD i Rw.zero = R) (hk : R.kind ≠ K) : cnt l K c (i + 1) = cnt l K c i := by
  show (if (l.getD i Rw.zero).client = c ∧ (l.getD i Rw.zero).kind = K then _ else _) = _
  rw [hR, if_neg fun e => hk e.2]
theorem old_ext (A : Int → Option Nat) {c : Int} {q : Nat} (hq : A c = some q) (d : Int) : ptrF (fun d => if d = c then some q else A d) d = ptrF A d := by
  unfold ptrF
  by_cases e : d = c
  · subst e; simp [hq]
  · simp [e]

theorem wrap_one : wrap64 (0 + 1) = 1 := by kernel_rfl
theorem kinds4 (k : Int) : k = 1 ∨ k = 11 ∨ k = 2 ∨ (k ≠ 1 ∧ k ≠ 11 ∧ k ≠ 2) := by omega

theorem inv28_step (s : CS) (l : List Rw) (w : World) (b1 b2 r : Nat) (hr : w.heap.size ≤ r) (i : Nat) (W : World) (h : Inv28 s l w b1 b2 r i W) :
    Calls Try.prog 28 #[.agg #[.int .i64 (l.getD i Rw.zero).kind, .int .i64 (l.getD i Rw.zero).step, .int .i64 (l.getD i Rw.zero).client, .int .i64 (l.getD i Rw.zero).call, .int .i64 (l.getD i Rw.zero).backend, .int .i64 (l.getD i Rw.zero).incarnation, .int .i64 (l.getD i Rw.zero).session, .int .i64 (l.getD i Rw.zero).seq, .int .i64 (l.getD i Rw.zero).what, .int .i64 (l.getD i Rw.zero).key, .int .i64 (l.getD i Rw.zero).other, .int .i64 (l.getD i Rw.zero).amount, .int .i64 (l.getD i Rw.zero).code, .int .i64 (l.getD i Rw.zero).place, .int .i64 (l.getD i Rw.zero).value, .int .i64 (l.getD i Rw.zero).n], .pointer (some ⟨b1, 0, none⟩), .pointer (some ⟨b2, 0, none⟩)] W (fun e w' => e = .returned (.bool (budP s l i)) ∧ Inv28 s l w b1 b2 r (i + 1) w') := by
  obtain ⟨A, hA⟩ := h.counts
  unfold budP
  generalize hR : l.getD i Rw.zero = R
  have hsz := h.below.size
  have hl1 := h.b1.lt
  have hl2 := h.b2.lt
  rcases hq : A R.client with _ | q
  · obtain ⟨z1, z11, z2⟩ := hA.none _ hq
    rcases kinds4 R.kind with h1 | h11 | h2 | h0
    · refine (bud28_new1 _ _ _ A s R h1 hq W h.b1 h.b2 hA.map).mono ?_
      rintro e w' ⟨rfl, hm, hQ, hb⟩
      refine ⟨?_, counts_more hr h hA hR (by omega) (by omega) (by omega) (fun d b _ hd e => absurd (hA.box d b hd).2.lt (by omega)) hm ?_ hb⟩
      · simp only [show decide (R.kind = 2) = false from decide_eq_false (by omega), Bool.false_and]
      · rw [cnt_yes hR h1, cnt_no hR (by omega), cnt_no hR (by omega), z1, z11, z2, wrap_one]
        exact hQ
    · refine (bud28_new11 _ _ _ A s R h11 hq W h.b1 h.b2 hA.map).mono ?_
      rintro e w' ⟨rfl, hm, hQ, hb⟩
      refine ⟨?_, counts_more hr h hA hR (by omega) (by omega) (by omega) (fun d b _ hd e => absurd (hA.box d b hd).2.lt (by omega)) hm ?_ hb⟩
      · simp only [show decide (R.kind = 2) = false from decide_eq_false (by omega), Bool.false_and]
      · rw [cnt_no hR (by omega), cnt_yes hR h11, cnt_no hR (by omega), z1, z11, z2, wrap_one]
        exact hQ
    · refine (bud28_new2 _ _ _ A s R h2 hq W h.b1 h.b2 hA.map).mono ?_
      rintro e w' ⟨rfl, hm, hQ, hb⟩
      refine ⟨?_, counts_more hr h hA hR (by omega) (by omega) (by omega) (fun d b _ hd e => absurd (hA.box d b hd).2.lt (by omega)) hm ?_ hb⟩
      · rw [cnt_no hR (by omega), cnt_no hR (by omega), cnt_yes hR h2, z1, z11, z2, wrap_one]
        simp only [h2, decide_true, Bool.true_and]
      · rw [cnt_no hR (by omega), cnt_no hR (by omega), cnt_yes hR h2, z1, z11, z2, wrap_one]
        exact hQ
    · refine (bud28_new0 _ _ _ A s R h0 hq W h.b1 h.b2 hA.map).mono ?_
      rintro e w' ⟨rfl, hm, hQ, hb⟩
      refine ⟨?_, counts_more hr h hA hR (by omega) (by omega) (by omega) (fun d b _ hd e => absurd (hA.box d b hd).2.lt (by omega)) hm ?_ hb⟩
      · simp only [show decide (R.kind = 2) = false from decide_eq_false (by omega), Bool.false_and]
      · rw [cnt_no hR (by omega), cnt_no hR (by omega), cnt_no hR (by omega), z1, z11, z2]
        exact hQ
  · have hx := hA.box _ _ hq
    rcases kinds4 R.kind with h1 | h11 | h2 | h0
    · refine (bud28_old1 _ _ _ _ A s R _ _ _ h1 hq W h.b1 h.b2 hA.map hx.2).mono ?_
      rintro e w' ⟨rfl, hm, hQ, hb⟩
      refine ⟨?_, counts_more hr h hA hR hx.1 (val_bud h.b1 hx.2) (cs_far h.b2 hx.2) (fun d b hd hdb e => hd (hA.inj _ _ _ hdb (e ▸ hq))) (hm.ext fun d => old_ext A hq d) ?_ hb⟩
      · simp only [show decide (R.kind = 2) = false from decide_eq_false (by omega), Bool.false_and]
      · rw [cnt_yes hR h1, cnt_no hR (by omega), cnt_no hR (by omega)]
        exact hQ
    · refine (bud28_old11 _ _ _ _ A s R _ _ _ h11 hq W h.b1 h.b2 hA.map hx.2).mono ?_
      rintro e w' ⟨rfl, hm, hQ, hb⟩
      refine ⟨?_, counts_more hr h hA hR hx.1 (val_bud h.b1 hx.2) (cs_far h.b2 hx.2) (fun d b hd hdb e => hd (hA.inj _ _ _ hdb (e ▸ hq))) (hm.ext fun d => old_ext A hq d) ?_ hb⟩
      · simp only [show decide (R.kind = 2) = false from decide_eq_false (by omega), Bool.false_and]
      · rw [cnt_no hR (by omega), cnt_yes hR h11, cnt_no hR (by omega)]
        exact hQ
    · refine (bud28_old2 _ _ _ _ A s R _ _ _ h2 hq W h.b1 h.b2 hA.map hx.2).mono ?_
      rintro e w' ⟨rfl, hm, hQ, hb⟩
      refine ⟨?_, counts_more hr h hA hR hx.1 (val_bud h.b1 hx.2) (cs_far h.b2 hx.2) (fun d b hd hdb e => hd (hA.inj _ _ _ hdb (e ▸ hq))) (hm.ext fun d => old_ext A hq d) ?_ hb⟩
      · rw [cnt_no hR (by omega), cnt_no hR (by omega), cnt_yes hR h2]
        simp only [h2, decide_true, Bool.true_and]
      · rw [cnt_no hR (by omega), cnt_no hR (by omega), cnt_yes hR h2]
        exact hQ
    · refine (bud28_old0 _ _ _ _ A s R _ _ _ h0 hq W h.b1 h.b2 hA.map hx.2).mono ?_
      rintro e w' ⟨rfl, hm, hQ, hb⟩
      refine ⟨?_, counts_more hr h hA hR hx.1 (val_bud h.b1 hx.2) (cs_far h.b2 hx.2) (fun d b hd hdb e => hd (hA.inj _ _ _ hdb (e ▸ hq))) (hm.ext fun d => old_ext A hq d) ?_ hb⟩
      · simp only [show decide (R.kind = 2) = false from decide_eq_false (by omega), Bool.false_and]
      · rw [cnt_no hR (by omega), cnt_no hR (by omega), cnt_no hR (by omega)]
        exact hQ

/-- What Budget hands back. -/
def budI (s : CS) (l : List Rw) : Int := if bsets s.s13 s.s14 s.s15 s.s16 = true then idx (budP s l) l.length else -1

set_option maxHeartbeats 2000000 in
set_option maxRecDepth 100000 in
theorem budget_no (s : CS) (a : Option Addr) (l : List Rw) (cap : Nat) (w : World) (hs : bsets s.s13 s.s14 s.s15 s.s16 = false) :
    Calls Try.prog 10 #[.agg #[.int .i64 s.s0, .bool s.s1, .int .i64 s.s2, .int .i64 s.s3, .int .i64 s.s4, .int .i64 s.s5, .int .i64 s.s6, .int .i64 s.s7, .int .i64 s.s8, .int .i64 s.s9, .int .i64 s.s10, .int .i64 s.s11, .int .i64 s.s12, .int .i64 s.s13, .int .i64 s.s14, .int .i64 s.s15, .int .i64 s.s16, .int .i64 s.s17, .int .i64 s.s18, .int .i64 s.s19, .int .i64 s.s20, .int .i64 s.s21, .int .i64 s.s22, .int .i64 s.s23, .int .i64 s.s24, .int .i64 s.s25], .slice a l.length cap] w (Gives (.int .i64 (-1)) w) := by
  have HS := Lib.hid hs
  have hB := Lib.hid (below_alloc (Below.refl w.heap.size w) (.cells #[.int .i64 s.s0, .bool s.s1, .int .i64 s.s2, .int .i64 s.s3, .int .i64 s.s4, .int .i64 s.s5, .int .i64 s.s6, .int .i64 s.s7, .int .i64 s.s8, .int .i64 s.s9, .int .i64 s.s10, .int .i64 s.s11, .int .i64 s.s12, .int .i64 s.s13, .int .i64 s.s14, .int .i64 s.s15, .int .i64 s.s16, .int .i64 s.s17, .int .i64 s.s18, .int .i64 s.s19, .int .i64 s.s20, .int .i64 s.s21, .int .i64 s.s22, .int .i64 s.s23, .int .i64 s.s24, .int .i64 s.s25] 43))
  clear hs
  go_enter Try.func10, Try.ntmps10
  go_wp2_with (fail)
  refine (bsets_any _ _ _ _ _).mono ?_
  rw [HS.out]
  rintro e w1 ⟨rfl, hb⟩
  have HB := Lib.hid (below_step hB.out hb)
  clear hb hB
  go_wp2
  go_ret
  exact ⟨rfl, HB.out⟩

set_option maxHeartbeats 2000000 in
set_option maxRecDepth 100000 in
theorem budget_yes (s : CS) (a : Option Addr) (l : List Rw) (cap : Nat) (w : World) (hm : l.length ≤ maxLen) (hr : RowsAt w a l) (hs : bsets s.s13 s.s14 s.s15 s.s16 = true) :
    Calls Try.prog 10 #[.agg #[.int .i64 s.s0, .bool s.s1, .int .i64 s.s2, .int .i64 s.s3, .int .i64 s.s4, .int .i64 s.s5, .int .i64 s.s6, .int .i64 s.s7, .int .i64 s.s8, .int .i64 s.s9, .int .i64 s.s10, .int .i64 s.s11, .int .i64 s.s12, .int .i64 s.s13, .int .i64 s.s14, .int .i64 s.s15, .int .i64 s.s16, .int .i64 s.s17, .int .i64 s.s18, .int .i64 s.s19, .int .i64 s.s20, .int .i64 s.s21, .int .i64 s.s22, .int .i64 s.s23, .int .i64 s.s24, .int .i64 s.s25], .slice a l.length cap] w (Gives (.int .i64 (idx (budP s l) l.length)) w) := by
  have HS := Lib.hid hs
  have HR := Lib.hid hr
  have HL := Lib.hid hm
  have hB := Lib.hid (below_alloc (Below.refl w.heap.size w) (.cells #[.int .i64 s.s0, .bool s.s1, .int .i64 s.s2, .int .i64 s.s3, .int .i64 s.s4, .int .i64 s.s5, .int .i64 s.s6, .int .i64 s.s7, .int .i64 s.s8, .int .i64 s.s9, .int .i64 s.s10, .int .i64 s.s11, .int .i64 s.s12, .int .i64 s.s13, .int .i64 s.s14, .int .i64 s.s15, .int .i64 s.s16, .int .i64 s.s17, .int .i64 s.s18, .int .i64 s.s19, .int .i64 s.s20, .int .i64 s.s21, .int .i64 s.s22, .int .i64 s.s23, .int .i64 s.s24, .int .i64 s.s25] 43))
  have hX := Lib.hid (CsBox.new w w.heap.size rfl s)
  have hmm := @run_makeMap Try.prog
  clear hs hr hm
  go_enter Try.func10, Try.ntmps10
  go_wp2_with (fail)
  refine (bsets_any _ _ _ _ _).mono ?_
  rw [HS.out]
  rintro e w1 ⟨rfl, hb⟩
  have hB1 := below_step hB.out hb
  have hX1 := hX.out.kept hb
  have hf := Lib.hid (find28 a l cap (w1.heap.size + 1) w.heap.size ((w1.alloc (.map #[] 0)).alloc (.cells #[.map (some w1.heap.size)] 57)) HL.out (Inv28 s l w (w1.heap.size + 1) w.heap.size w1.heap.size) (budP s l)
    ⟨below_alloc (below_alloc hB1 _) _, ValBox.new _ _ (by simp) _ _, (hX1.alloc _).alloc _, fun _ => none, ((MapFn.new _ _ rfl encInt).alloc _).ext fun _ => rfl, fun _ _ h => absurd h (by simp), fun _ _ _ h => absurd h (by simp), fun _ _ => ⟨rfl, rfl, rfl⟩⟩
    (fun i W h => HR.out.below h.below (Nat.le_refl _)) (fun i W _ h => inv28_step s l w _ _ _ hB1.size i W h))
  clear hB hX hb hB1 hX1 HS HR HL
  go_wp2_with (fail)
  refine hf.out.mono ?_
  rintro e w2 ⟨rfl, i, hi⟩
  have hb := hi.below
  clear hi hf
  go_wp2
  go_ret
  exact ⟨rfl, hb⟩

theorem budget_any (s : CS) (a : Option Addr) (l : List Rw) (cap : Nat) (w : World) (hm : l.length ≤ maxLen) (hr : RowsAt w a l) :
    Calls Try.prog 10 #[.agg #[.int .i64 s.s0, .bool s.s1, .int .i64 s.s2, .int .i64 s.s3, .int .i64 s.s4, .int .i64 s.s5, .int .i64 s.s6, .int .i64 s.s7, .int .i64 s.s8, .int .i64 s.s9, .int .i64 s.s10, .int .i64 s.s11, .int .i64 s.s12, .int .i64 s.s13, .int .i64 s.s14, .int .i64 s.s15, .int .i64 s.s16, .int .i64 s.s17, .int .i64 s.s18, .int .i64 s.s19, .int .i64 s.s20, .int .i64 s.s21, .int .i64 s.s22, .int .i64 s.s23, .int .i64 s.s24, .int .i64 s.s25], .slice a l.length cap] w (Gives (.int .i64 (budI s l)) w) := by
  unfold budI
  cases h : bsets s.s13 s.s14 s.s15 s.s16 with
  | true => exact budget_yes s a l cap w hm hr h
  | false => exact budget_no s a l cap w h
end Go.Proofs.Ytoingfnpffaopaa
