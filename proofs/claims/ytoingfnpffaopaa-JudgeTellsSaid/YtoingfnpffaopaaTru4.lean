/- What judge's True makes of a row that was done, told, or has no say. Conditions: none. -/
import Derived.Test.YtoingfnpffaopaaTru3
namespace Go.Proofs.Ytoingfnpffaopaa
open Go.RowKit

set_option maxHeartbeats 8000000 in
set_option maxRecDepth 100000 in
theorem did37 (b1 b2 r : Nat) (S : Ans → Bool) (R : Rw) (hk : R.kind = 3 ∨ R.kind = 4) (w : World) (h2 : ValBox w b2 76 (.map (some r))) (hM : MapFn w r encAns (markF S)) :
    Calls Try.prog 37 #[.agg #[.int .i64 R.kind, .int .i64 R.step, .int .i64 R.client, .int .i64 R.call, .int .i64 R.backend, .int .i64 R.incarnation, .int .i64 R.session, .int .i64 R.seq, .int .i64 R.what, .int .i64 R.key, .int .i64 R.other, .int .i64 R.amount, .int .i64 R.code, .int .i64 R.place, .int .i64 R.value, .int .i64 R.n], .pointer (some ⟨b1, 0, none⟩), .pointer (some ⟨b2, 0, none⟩)] w fun e w' =>
      e = .returned (.bool false) ∧ MapFn w' r encAns (markF fun x => decide (x = R.ans) || S x) ∧ Beside r w w' := by
  have hd2 : decide (R.kind = 2) = false := by simp; omega
  have he2 : (R.kind == 2) = false := by simp; omega
  have hX := RowBox.new w w.heap.size rfl R
  have hB0 := (Beside.refl r w).alloc (.cells #[.int .i64 R.kind, .int .i64 R.step, .int .i64 R.client, .int .i64 R.call, .int .i64 R.backend, .int .i64 R.incarnation, .int .i64 R.session, .int .i64 R.seq, .int .i64 R.what, .int .i64 R.key, .int .i64 R.other, .int .i64 R.amount, .int .i64 R.code, .int .i64 R.place, .int .i64 R.value, .int .i64 R.n] 30)
  have hM0 := hM.alloc (.cells #[.int .i64 R.kind, .int .i64 R.step, .int .i64 R.client, .int .i64 R.call, .int .i64 R.backend, .int .i64 R.incarnation, .int .i64 R.session, .int .i64 R.seq, .int .i64 R.what, .int .i64 R.key, .int .i64 R.other, .int .i64 R.amount, .int .i64 R.code, .int .i64 R.place, .int .i64 R.value, .int .i64 R.n] 30)
  have h20 := h2.alloc (.cells #[.int .i64 R.kind, .int .i64 R.step, .int .i64 R.client, .int .i64 R.call, .int .i64 R.backend, .int .i64 R.incarnation, .int .i64 R.session, .int .i64 R.seq, .int .i64 R.what, .int .i64 R.key, .int .i64 R.other, .int .i64 R.amount, .int .i64 R.code, .int .i64 R.place, .int .i64 R.value, .int .i64 R.n] 30)
  have hne : b2 ≠ r := by
    rintro rfl
    obtain ⟨l, c, hl, _⟩ := hM
    rw [show w.heap[b2]? = _ from h2] at hl
    exact absurd hl (by simp)
  have hlr : w.heap.size ≠ r := by have := hM.lt; omega
  have HKK : Hid ((decide (R.kind = 3) = true ∧ (R.kind == 3) = true) ∨ (decide (R.kind = 3) = false ∧ (R.kind == 3) = false ∧ decide (R.kind = 4) = true ∧ (R.kind == 4) = true)) := by
    rcases hk with hk | hk
    · exact .inl (by simp [hk])
    · exact .inr (by simp [hk])
  clear hk h2 hM
  rcases HKK.out with ⟨d3, e3⟩ | ⟨d3, e3, d4, e4⟩
  all_goals
    clear HKK
    go_enter Try.func37, Try.ntmps37
    go_wp2_with (fail)
    generalize w.alloc (.cells #[.int .i64 R.kind, .int .i64 R.step, .int .i64 R.client, .int .i64 R.call, .int .i64 R.backend, .int .i64 R.incarnation, .int .i64 R.session, .int .i64 R.seq, .int .i64 R.what, .int .i64 R.key, .int .i64 R.other, .int .i64 R.amount, .int .i64 R.code, .int .i64 R.place, .int .i64 R.value, .int .i64 R.n] 30) = W at *
    generalize w.heap.size = g at *
    have hK : ∀ w', Beside r W w' → Beside r W w' ∧ w'.cell? ⟨g, 0, none⟩ = some (.int .i64 R.kind) ∧ w'.cell? ⟨g, 1, none⟩ = some (.int .i64 R.step) ∧ w'.cell? ⟨g, 2, none⟩ = some (.int .i64 R.client) ∧ w'.cell? ⟨g, 3, none⟩ = some (.int .i64 R.call) ∧ w'.cell? ⟨g, 4, none⟩ = some (.int .i64 R.backend) ∧ w'.cell? ⟨g, 5, none⟩ = some (.int .i64 R.incarnation) ∧ w'.cell? ⟨g, 6, none⟩ = some (.int .i64 R.session) ∧ w'.cell? ⟨g, 7, none⟩ = some (.int .i64 R.seq) ∧ w'.cell? ⟨g, 8, none⟩ = some (.int .i64 R.what) ∧ w'.cell? ⟨g, 9, none⟩ = some (.int .i64 R.key) ∧ w'.cell? ⟨g, 10, none⟩ = some (.int .i64 R.other) ∧ w'.cell? ⟨g, 11, none⟩ = some (.int .i64 R.amount) ∧ w'.cell? ⟨g, 12, none⟩ = some (.int .i64 R.code) ∧ w'.cell? ⟨g, 13, none⟩ = some (.int .i64 R.place) ∧ w'.cell? ⟨g, 14, none⟩ = some (.int .i64 R.value) ∧ w'.cell? ⟨g, 15, none⟩ = some (.int .i64 R.n) ∧ w'.cell? ⟨b2, 0, none⟩ = some (.map (some r)) := by
      intro w' hb
      obtain ⟨⟨k0, k1, k2, k3, k4, k5, k6, k7, k8, k9, k10, k11, k12, k13, k14, k15⟩, _⟩ := (hX.beside hb hlr).cell
      exact ⟨hb, k0, k1, k2, k3, k4, k5, k6, k7, k8, k9, k10, k11, k12, k13, k14, k15, (h20.beside hb hne).cell.1⟩
    have HK := Lib.hid hK
    have HM := Lib.hid hM0.drew
    have HB := Lib.hid hB0
    clear hK hM0 hB0 hX h20 hne hlr
    go_region_held3 (fun w' => Beside r W w' ∧ w'.cell? ⟨g, 0, none⟩ = some (.int .i64 R.kind) ∧ w'.cell? ⟨g, 1, none⟩ = some (.int .i64 R.step) ∧ w'.cell? ⟨g, 2, none⟩ = some (.int .i64 R.client) ∧ w'.cell? ⟨g, 3, none⟩ = some (.int .i64 R.call) ∧ w'.cell? ⟨g, 4, none⟩ = some (.int .i64 R.backend) ∧ w'.cell? ⟨g, 5, none⟩ = some (.int .i64 R.incarnation) ∧ w'.cell? ⟨g, 6, none⟩ = some (.int .i64 R.session) ∧ w'.cell? ⟨g, 7, none⟩ = some (.int .i64 R.seq) ∧ w'.cell? ⟨g, 8, none⟩ = some (.int .i64 R.what) ∧ w'.cell? ⟨g, 9, none⟩ = some (.int .i64 R.key) ∧ w'.cell? ⟨g, 10, none⟩ = some (.int .i64 R.other) ∧ w'.cell? ⟨g, 11, none⟩ = some (.int .i64 R.amount) ∧ w'.cell? ⟨g, 12, none⟩ = some (.int .i64 R.code) ∧ w'.cell? ⟨g, 13, none⟩ = some (.int .i64 R.place) ∧ w'.cell? ⟨g, 14, none⟩ = some (.int .i64 R.value) ∧ w'.cell? ⟨g, 15, none⟩ = some (.int .i64 R.n) ∧ w'.cell? ⟨b2, 0, none⟩ = some (.map (some r)))
      (first | with_reducible assumption | (refine HK.out _ ?_; (first | with_reducible exact (Beside.refl _ _).drew | with_reducible exact held_step (by with_reducible assumption) (by with_reducible assumption) | with_reducible exact held_only (by with_reducible assumption) (by with_reducible assumption))))
      (first | (go_at_call 25; refine (spotOf_any _ _).mono ?_; rintro e1 wx ⟨rfl, hbx⟩
                have hMx : MapFn wx r encAns (markF S) := map_kept hbx (by first | exact HM.out | assumption)
                obtain ⟨wu, hup, hMu, hou⟩ := run_update ansLaws hMx Try.underlying76 R.ans (.bool true)
                simp only [encAns, Rw.ans, Rw.spot, Rw.op, Rw.res] at hup
                have HMU := Lib.hid hMu
                clear hMu))
    all_goals
      go_wp2
      go_ret
      exact ⟨rfl, HMU.out.ext (markF_set S R.ans), HB.out.trans (And.left (by assumption))⟩

set_option maxHeartbeats 8000000 in
set_option maxRecDepth 100000 in
theorem told37 (b1 b2 r1 r2 B : Nat) (A : Key → Option Value) (L : Key → List Spot) (S : Ans → Bool) (R : Rw) (hk : R.kind = 5) (hn : R.n = 1) (w : World) (h1 : ValBox w b1 75 (.map (some r1))) (h2 : ValBox w b2 76 (.map (some r2)))
    (hS : Spots w B r1 A L) (hM : MapFn w r2 encAns (markF S)) (hm : (L (R.client, R.call)).length ≤ maxLen) :
    Calls Try.prog 37 #[.agg #[.int .i64 R.kind, .int .i64 R.step, .int .i64 R.client, .int .i64 R.call, .int .i64 R.backend, .int .i64 R.incarnation, .int .i64 R.session, .int .i64 R.seq, .int .i64 R.what, .int .i64 R.key, .int .i64 R.other, .int .i64 R.amount, .int .i64 R.code, .int .i64 R.place, .int .i64 R.value, .int .i64 R.n], .pointer (some ⟨b1, 0, none⟩), .pointer (some ⟨b2, 0, none⟩)] w (Gives (.bool (!anyS S (L (R.client, R.call)) R)) w) := by
  have d2 : decide (R.kind = 2) = false := by simp [hk]
  have e2 : (R.kind == 2) = false := by simp [hk]
  have d3 : decide (R.kind = 3) = false := by simp [hk]
  have e3 : (R.kind == 3) = false := by simp [hk]
  have d4 : decide (R.kind = 4) = false := by simp [hk]
  have e4 : (R.kind == 4) = false := by simp [hk]
  have d5 : decide (R.kind = 5) = true := by simp [hk]
  have e5 : (R.kind == 5) = true := by simp [hk]
  have dn : decide (R.n = 1) = true := by simp [hn]
  have en : (R.n == 1) = true := by simp [hn]
  obtain ⟨a, cap, hv, hr⟩ := hS.reads (R.client, R.call)
  have hX := RowBox.new w w.heap.size rfl R
  have hB0 := below_alloc (Below.refl _ w) (.cells #[.int .i64 R.kind, .int .i64 R.step, .int .i64 R.client, .int .i64 R.call, .int .i64 R.backend, .int .i64 R.incarnation, .int .i64 R.session, .int .i64 R.seq, .int .i64 R.what, .int .i64 R.key, .int .i64 R.other, .int .i64 R.amount, .int .i64 R.code, .int .i64 R.place, .int .i64 R.value, .int .i64 R.n] 30)
  have h10 := h1.alloc (.cells #[.int .i64 R.kind, .int .i64 R.step, .int .i64 R.client, .int .i64 R.call, .int .i64 R.backend, .int .i64 R.incarnation, .int .i64 R.session, .int .i64 R.seq, .int .i64 R.what, .int .i64 R.key, .int .i64 R.other, .int .i64 R.amount, .int .i64 R.code, .int .i64 R.place, .int .i64 R.value, .int .i64 R.n] 30)
  have h20 := h2.alloc (.cells #[.int .i64 R.kind, .int .i64 R.step, .int .i64 R.client, .int .i64 R.call, .int .i64 R.backend, .int .i64 R.incarnation, .int .i64 R.session, .int .i64 R.seq, .int .i64 R.what, .int .i64 R.key, .int .i64 R.other, .int .i64 R.amount, .int .i64 R.code, .int .i64 R.place, .int .i64 R.value, .int .i64 R.n] 30)
  have hS0 := hS.map.alloc (.cells #[.int .i64 R.kind, .int .i64 R.step, .int .i64 R.client, .int .i64 R.call, .int .i64 R.backend, .int .i64 R.incarnation, .int .i64 R.session, .int .i64 R.seq, .int .i64 R.what, .int .i64 R.key, .int .i64 R.other, .int .i64 R.amount, .int .i64 R.code, .int .i64 R.place, .int .i64 R.value, .int .i64 R.n] 30)
  have hM0 := hM.alloc (.cells #[.int .i64 R.kind, .int .i64 R.step, .int .i64 R.client, .int .i64 R.call, .int .i64 R.backend, .int .i64 R.incarnation, .int .i64 R.session, .int .i64 R.seq, .int .i64 R.what, .int .i64 R.key, .int .i64 R.other, .int .i64 R.amount, .int .i64 R.code, .int .i64 R.place, .int .i64 R.value, .int .i64 R.n] 30)
  have hr0 := hr.below hB0 (Nat.le_refl _)
  generalize L (R.client, R.call) = l at *
  have HV := Lib.hid hv
  have HL := Lib.hid hm
  clear hk hn h1 h2 hS hM hv hr hm
  go_enter Try.func37, Try.ntmps37
  go_wp2_with (fail)
  generalize w.alloc (.cells #[.int .i64 R.kind, .int .i64 R.step, .int .i64 R.client, .int .i64 R.call, .int .i64 R.backend, .int .i64 R.incarnation, .int .i64 R.session, .int .i64 R.seq, .int .i64 R.what, .int .i64 R.key, .int .i64 R.other, .int .i64 R.amount, .int .i64 R.code, .int .i64 R.place, .int .i64 R.value, .int .i64 R.n] 30) = W at *
  have hK : ∀ w', Below W.heap.size W w' → Below W.heap.size W w' ∧ w'.cell? ⟨w.heap.size, 0, none⟩ = some (.int .i64 R.kind) ∧ w'.cell? ⟨w.heap.size, 1, none⟩ = some (.int .i64 R.step) ∧ w'.cell? ⟨w.heap.size, 2, none⟩ = some (.int .i64 R.client) ∧ w'.cell? ⟨w.heap.size, 3, none⟩ = some (.int .i64 R.call) ∧ w'.cell? ⟨w.heap.size, 4, none⟩ = some (.int .i64 R.backend) ∧ w'.cell? ⟨w.heap.size, 5, none⟩ = some (.int .i64 R.incarnation) ∧ w'.cell? ⟨w.heap.size, 6, none⟩ = some (.int .i64 R.session) ∧ w'.cell? ⟨w.heap.size, 7, none⟩ = some (.int .i64 R.seq) ∧ w'.cell? ⟨w.heap.size, 8, none⟩ = some (.int .i64 R.what) ∧ w'.cell? ⟨w.heap.size, 9, none⟩ = some (.int .i64 R.key) ∧ w'.cell? ⟨w.heap.size, 10, none⟩ = some (.int .i64 R.other) ∧ w'.cell? ⟨w.heap.size, 11, none⟩ = some (.int .i64 R.amount) ∧ w'.cell? ⟨w.heap.size, 12, none⟩ = some (.int .i64 R.code) ∧ w'.cell? ⟨w.heap.size, 13, none⟩ = some (.int .i64 R.place) ∧ w'.cell? ⟨w.heap.size, 14, none⟩ = some (.int .i64 R.value) ∧ w'.cell? ⟨w.heap.size, 15, none⟩ = some (.int .i64 R.n) ∧ w'.cell? ⟨b1, 0, none⟩ = some (.map (some r1)) ∧ w'.cell? ⟨b2, 0, none⟩ = some (.map (some r2)) := by
    intro w' hb
    obtain ⟨⟨q0, q1, q2, q3, q4, q5, q6, q7, q8, q9, q10, q11, q12, q13, q14, q15⟩, _⟩ := (hX.kept hb).cell
    exact ⟨hb, q0, q1, q2, q3, q4, q5, q6, q7, q8, q9, q10, q11, q12, q13, q14, q15, (h10.kept hb).cell.1, (h20.kept hb).cell.1⟩
  have HK := Lib.hid hK
  have HS := Lib.hid hS0.drew
  have HQ : Hid (∀ wx, Below W.drew.heap.size W.drew wx → ValBox wx b2 76 (.map (some r2)) ∧ MapFn wx r2 encAns (markF S) ∧ RowBox wx w.heap.size R ∧ SpotsAt wx a l) := fun wx hb =>
    ⟨(h20.same (w1 := W.drew) rfl).kept hb, hM0.drew.kept hb, (hX.same (w1 := W.drew) rfl).kept hb, (hr0.below (Below.refl W.heap.size W).drew (Nat.le_refl _)).below hb (Nat.le_refl _)⟩
  have HB := Lib.hid hB0
  clear hK hM0 hB0 hX h10 h20 hS0 hr0
  go_region_held3 (fun w' => Below W.heap.size W w' ∧ w'.cell? ⟨w.heap.size, 0, none⟩ = some (.int .i64 R.kind) ∧ w'.cell? ⟨w.heap.size, 1, none⟩ = some (.int .i64 R.step) ∧ w'.cell? ⟨w.heap.size, 2, none⟩ = some (.int .i64 R.client) ∧ w'.cell? ⟨w.heap.size, 3, none⟩ = some (.int .i64 R.call) ∧ w'.cell? ⟨w.heap.size, 4, none⟩ = some (.int .i64 R.backend) ∧ w'.cell? ⟨w.heap.size, 5, none⟩ = some (.int .i64 R.incarnation) ∧ w'.cell? ⟨w.heap.size, 6, none⟩ = some (.int .i64 R.session) ∧ w'.cell? ⟨w.heap.size, 7, none⟩ = some (.int .i64 R.seq) ∧ w'.cell? ⟨w.heap.size, 8, none⟩ = some (.int .i64 R.what) ∧ w'.cell? ⟨w.heap.size, 9, none⟩ = some (.int .i64 R.key) ∧ w'.cell? ⟨w.heap.size, 10, none⟩ = some (.int .i64 R.other) ∧ w'.cell? ⟨w.heap.size, 11, none⟩ = some (.int .i64 R.amount) ∧ w'.cell? ⟨w.heap.size, 12, none⟩ = some (.int .i64 R.code) ∧ w'.cell? ⟨w.heap.size, 13, none⟩ = some (.int .i64 R.place) ∧ w'.cell? ⟨w.heap.size, 14, none⟩ = some (.int .i64 R.value) ∧ w'.cell? ⟨w.heap.size, 15, none⟩ = some (.int .i64 R.n) ∧ w'.cell? ⟨b1, 0, none⟩ = some (.map (some r1)) ∧ w'.cell? ⟨b2, 0, none⟩ = some (.map (some r2)))
    (first | with_reducible assumption | (refine HK.out _ ?_; (first | with_reducible exact (Below.refl _ _).drew | with_reducible exact below_held (by with_reducible assumption) (by with_reducible assumption))))
    (first | (go_at_call 31; refine (callOf_any _ _).mono ?_; rintro e1 wx ⟨rfl, hbx⟩
              have hlk := run_lookup keyLaws (HS.out.kept hbx) Try.underlying75 (zero77 _) (R.client, R.call) false
              rw [HV.out] at hlk
              simp only [encKey, Bool.false_eq_true, if_false] at hlk
              have HQX := Lib.hid (HQ.out wx hbx))
           | (go_at_call 38; refine (contains_any b2 r2 w.heap.size S R a l cap _ HL.out HQX.out.2.2.2 HQX.out.1 HQX.out.2.1 HQX.out.2.2.1).mono ?_; rintro e1 wy ⟨rfl, hby⟩))
  all_goals
    go_wp2
    go_ret
    exact ⟨ret_bool (by simp), below_step HB.out (And.left (by assumption))⟩

set_option maxHeartbeats 4000000 in
set_option maxRecDepth 100000 in
theorem none37 (b1 b2 : Nat) (R : Rw) (hk : R.kind ≠ 2 ∧ R.kind ≠ 3 ∧ R.kind ≠ 4 ∧ ¬ (R.kind = 5 ∧ R.n = 1)) (w : World) :
    Calls Try.prog 37 #[.agg #[.int .i64 R.kind, .int .i64 R.step, .int .i64 R.client, .int .i64 R.call, .int .i64 R.backend, .int .i64 R.incarnation, .int .i64 R.session, .int .i64 R.seq, .int .i64 R.what, .int .i64 R.key, .int .i64 R.other, .int .i64 R.amount, .int .i64 R.code, .int .i64 R.place, .int .i64 R.value, .int .i64 R.n], .pointer (some ⟨b1, 0, none⟩), .pointer (some ⟨b2, 0, none⟩)] w (Gives (.bool false) w) := by
  obtain ⟨h2, h3, h4, h5⟩ := hk
  have d2 : decide (R.kind = 2) = false := by simp [h2]
  have e2 : (R.kind == 2) = false := by simp [h2]
  have d3 : decide (R.kind = 3) = false := by simp [h3]
  have e3 : (R.kind == 3) = false := by simp [h3]
  have d4 : decide (R.kind = 4) = false := by simp [h4]
  have e4 : (R.kind == 4) = false := by simp [h4]
  have hx : (decide (R.kind = 5) = false ∧ (R.kind == 5) = false) ∨ (decide (R.kind = 5) = true ∧ (R.kind == 5) = true ∧ decide (R.n = 1) = false ∧ (R.n == 1) = false) := by
    by_cases h : R.kind = 5
    · exact .inr (by simp_all)
    · exact .inl (by simp [h])
  clear h2 h3 h4 h5
  rcases hx with ⟨d5, e5⟩ | ⟨d5, e5, dn, en⟩
  all_goals
    go_enter Try.func37, Try.ntmps37
    go_wp2
    go_ret
    exact ⟨rfl, below_alloc (Below.refl _ _) _⟩

/-- Where a call was sent, by the first i rows, in order. -/
def sents (l : List Rw) : Nat → Key → List Spot
  | 0, _ => []
  | i + 1, k => if (l.getD i Rw.zero).kind = 2 ∧ k = (l.getD i Rw.zero).ckey then sents l i k ++ [(l.getD i Rw.zero).spot] else sents l i k

theorem sents_len (l : List Rw) (i : Nat) (k : Key) : (sents l i k).length ≤ i := by
  induction i with
  | zero => exact Nat.le_refl _
  | succ i ih =>
    unfold sents
    split
    · simp; exact ih
    · exact Nat.le_succ_of_le ih

/-- The row did something. -/
def isDid (r : Rw) : Bool := decide (r.kind = 3 ∨ r.kind = 4)

/-- What True answers yes of. -/
def truP (l : List Rw) (i : Nat) : Bool := decide ((l.getD i Rw.zero).kind = 5 ∧ (l.getD i Rw.zero).n = 1) && !anyS (seen isDid Rw.ans l i) (sents l i (l.getD i Rw.zero).ckey) (l.getD i Rw.zero)

/-- What holds behind i rows. -/
structure Inv37 (l : List Rw) (w : World) (b1 b2 r1 r2 : Nat) (i : Nat) (W : World) : Prop where
  below : Below w.heap.size w W
  b1 : ValBox W b1 75 (.map (some r1))
  b2 : ValBox W b2 76 (.map (some r2))
  spots : ∃ A, Spots W w.heap.size r1 A (sents l i)
  did : MapFn W r2 encAns (markF (seen isDid Rw.ans l i))

theorem val_any {α : Type} [DecidableEq α] {enc : α → Value} {w : World} {b r : Nat} {T : TypeId} {v : Value} {f : α → Option Value} (h : ValBox w b T v) (h2 : MapFn w r enc f) : b ≠ r := by
  rintro rfl
  obtain ⟨l, c, h2, _⟩ := h2
  have e := (show w.heap[b]? = _ from h).symm.trans (show w.heap[b]? = _ from h2)
  simp at e

theorem Spots.ext {w : World} {B r : Nat} {A : Key → Option Value} {L M : Key → List Spot} (h : Spots w B r A L) (e : ∀ k, M k = L k) : Spots w B r A M :=
  ⟨h.map, fun k => by rw [e k]; exact h.own k, h.inj⟩

theorem inv37_step (l : List Rw) (w : World) (b1 b2 r1 r2 : Nat) (hr1 : w.heap.size ≤ r1) (hr2 : w.heap.size ≤ r2) (hne : r1 ≠ r2) (hm : l.length ≤ maxLen) (hbig : l.length * 128 ≤ 140737488355328) (i : Nat) (hi : i < l.length) (W : World) (h : Inv37 l w b1 b2 r1 r2 i W) :
    Calls Try.prog 37 #[.agg #[.int .i64 (l.getD i Rw.zero).kind, .int .i64 (l.getD i Rw.zero).step, .int .i64 (l.getD i Rw.zero).client, .int .i64 (l.getD i Rw.zero).call, .int .i64 (l.getD i Rw.zero).backend, .int .i64 (l.getD i Rw.zero).incarnation, .int .i64 (l.getD i Rw.zero).session, .int .i64 (l.getD i Rw.zero).seq, .int .i64 (l.getD i Rw.zero).what, .int .i64 (l.getD i Rw.zero).key, .int .i64 (l.getD i Rw.zero).other, .int .i64 (l.getD i Rw.zero).amount, .int .i64 (l.getD i Rw.zero).code, .int .i64 (l.getD i Rw.zero).place, .int .i64 (l.getD i Rw.zero).value, .int .i64 (l.getD i Rw.zero).n], .pointer (some ⟨b1, 0, none⟩), .pointer (some ⟨b2, 0, none⟩)] W (fun e w' => e = .returned (.bool (truP l i)) ∧ Inv37 l w b1 b2 r1 r2 (i + 1) w') := by
  obtain ⟨A, hA⟩ := h.spots
  have hlen := fun k => sents_len l i k
  have hs : ∀ k, sents l (i + 1) k = if (l.getD i Rw.zero).kind = 2 ∧ k = (l.getD i Rw.zero).ckey then sents l i k ++ [(l.getD i Rw.zero).spot] else sents l i k := fun _ => rfl
  have hd : ∀ x, seen isDid Rw.ans l (i + 1) x = (isDid (l.getD i Rw.zero) && decide (x = (l.getD i Rw.zero).ans) || seen isDid Rw.ans l i x) := fun _ => rfl
  unfold truP
  generalize hR : l.getD i Rw.zero = R at hs hd ⊢
  have hsz := h.below.size
  by_cases h2 : R.kind = 2
  · refine (sent37 b1 b2 r1 w.heap.size A (sents l i) R h2 W hsz h.b1 hA (by have := hlen (R.client, R.call); omega) (by have := hlen (R.client, R.call); omega)).mono ?_
    rintro e w' ⟨rfl, A', row, hS, ha, hrow⟩
    have hf : ∀ b T v, T ≠ 55 → ValBox W b T v → some b ≠ row := fun b T v hT hv e => by
      obtain ⟨_, cur, hc⟩ := hrow b e.symm
      have e := (show W.heap[b]? = _ from hv).symm.trans hc
      simp at e
      exact hT e.2
    refine ⟨by simp [h2], ⟨h.below.trans ⟨ha.os, ha.tape, ha.output, ha.size, fun k hk => ha.block k (by omega) (by omega) fun e => by have := (hrow k e.symm).1; omega⟩, h.b1.apart ha (val_any h.b1 hA.map) (hf _ _ _ (by decide) h.b1), h.b2.apart ha (val_any h.b2 hA.map) (hf _ _ _ (by decide) h.b2), ⟨A', hS.ext fun k => by rw [hs]; simp only [h2, true_and]⟩, (h.did.same (ha.block r2 h.did.lt hne.symm fun e => ?_)).ext fun x => ?_⟩⟩
    · obtain ⟨_, cur, hc⟩ := hrow r2 e.symm
      obtain ⟨l', c, hm', _⟩ := h.did
      rw [hc] at hm'
      exact absurd hm' (by simp)
    · unfold markF
      rw [hd, show isDid R = false from decide_eq_false (by omega), Bool.false_and, Bool.false_or]
  · by_cases h3 : R.kind = 3 ∨ R.kind = 4
    · refine (did37 b1 b2 r2 _ R h3 W h.b2 h.did).mono ?_
      rintro e w' ⟨rfl, hm', hb⟩
      refine ⟨?_, ⟨hb.below h.below hsz hr2, h.b1.beside hb (val_any h.b1 h.did), h.b2.beside hb (val_any h.b2 h.did), ⟨A, (hA.beside hb h.did hne).ext fun k => by rw [hs, if_neg fun e => h2 e.1]⟩, hm'.ext fun x => ?_⟩⟩
      · rw [show decide (R.kind = 5 ∧ R.n = 1) = false from decide_eq_false (by omega), Bool.false_and]
      · unfold markF
        rw [hd, show isDid R = true from decide_eq_true h3, Bool.true_and]
    · by_cases h5 : R.kind = 5 ∧ R.n = 1
      · refine (told37 b1 b2 r1 r2 w.heap.size A (sents l i) _ R h5.1 h5.2 W h.b1 h.b2 hA h.did (by have := hlen (R.client, R.call); omega)).mono ?_
        rintro e w' ⟨rfl, hb⟩
        refine ⟨?_, ⟨below_step h.below hb, h.b1.kept hb, h.b2.kept hb, ⟨A, (hA.kept hb).ext fun k => by rw [hs, if_neg fun e => h2 e.1]⟩, (h.did.kept hb).ext fun x => ?_⟩⟩
        · rw [show decide (R.kind = 5 ∧ R.n = 1) = true from decide_eq_true h5, Bool.true_and]
          rfl
        · unfold markF
          rw [hd, show isDid R = false from decide_eq_false h3, Bool.false_and, Bool.false_or]
      · refine (none37 b1 b2 R ⟨h2, fun e => h3 (.inl e), fun e => h3 (.inr e), h5⟩ W).mono ?_
        rintro e w' ⟨rfl, hb⟩
        refine ⟨?_, ⟨below_step h.below hb, h.b1.kept hb, h.b2.kept hb, ⟨A, (hA.kept hb).ext fun k => by rw [hs, if_neg fun e => h2 e.1]⟩, (h.did.kept hb).ext fun x => ?_⟩⟩
        · rw [show decide (R.kind = 5 ∧ R.n = 1) = false from decide_eq_false h5, Bool.false_and]
        · unfold markF
          rw [hd, show isDid R = false from decide_eq_false h3, Bool.false_and, Bool.false_or]

set_option maxHeartbeats 2000000 in
theorem true_any (a : Option Addr) (l : List Rw) (cap : Nat) (w : World) (hm : l.length ≤ maxLen) (hbig : l.length * 128 ≤ 140737488355328) (hr : RowsAt w a l) :
    Calls Try.prog 21 #[.slice a l.length cap] w (Gives (.int .i64 (idx (truP l) l.length)) w) := by
  have hf := Lib.hid (find37 a l cap (w.heap.size + 2) (w.heap.size + 3) ((((w.alloc (.map #[] 0)).alloc (.map #[] 0)).alloc (.cells #[.map (some w.heap.size)] 75)).alloc (.cells #[.map (some (w.heap.size + 1))] 76)) hm (Inv37 l w (w.heap.size + 2) (w.heap.size + 3) w.heap.size (w.heap.size + 1)) (truP l)
    ⟨below_alloc (below_alloc (below_alloc (below_alloc (Below.refl _ _) _) _) _) _, (ValBox.new _ _ (by simp) _ _).alloc _, ValBox.new _ _ (by simp) _ _,
      ⟨fun _ => none, ((((MapFn.new _ _ rfl encKey).alloc _).alloc _).alloc _).ext fun _ => rfl, fun _ => World.ownsRow_nil _ _ _ _, fun _ _ _ h => absurd h (by simp [Value.ownBlock])⟩,
      (((MapFn.new _ _ (by simp) encAns).alloc _).alloc _).ext fun _ => rfl⟩
    (fun i W h => hr.below h.below (Nat.le_refl _)) (fun i W hi h => inv37_step l w _ _ _ _ (Nat.le_refl _) (Nat.le_succ _) (by omega) hm hbig i hi W h))
  have hmm := @run_makeMap Try.prog
  clear hr hm hbig
  go_enter Try.func21, Try.ntmps21
  go_wp2_with (fail)
  refine hf.out.mono ?_
  rintro e w1 ⟨rfl, i, hi⟩
  have hb := hi.below
  clear hi hf
  go_wp2
  go_ret
  exact ⟨rfl, hb⟩
end Go.Proofs.Ytoingfnpffaopaa
