/- What judge's Pins hands back: the first pin that differs from its call's first. Conditions: none. -/
import Derived.Test.YtoingfnpffaopaaFourA
import Derived.Deep.DeepCutAuto
namespace Go.Proofs.Ytoingfnpffaopaa
open Go.RowKit

set_option maxHeartbeats 4000000 in
theorem pins35_go (b r : Nat) (P : Key → Option Spot) (R : Rw) (hk : R.kind = 2) (ho : 1 ≤ R.what ∧ R.what ≤ 2) (q1 q2 q3 q4 q5 : Int) (f : Bool) (hq : (spotF P (R.client, R.call)).getD (.agg #[.int .i64 0, .int .i64 0, .int .i64 0, .int .i64 0, .int .i64 0]) = .agg #[.int .i64 q1, .int .i64 q2, .int .i64 q3, .int .i64 q4, .int .i64 q5]) (hf : (spotF P (R.client, R.call)).isSome = f) (w : World) (h1 : ValBox w b 70 (.map (some r))) (hM : MapFn w r encKey (spotF P)) :
    Calls Try.prog 35 #[.agg #[.int .i64 R.kind, .int .i64 R.step, .int .i64 R.client, .int .i64 R.call, .int .i64 R.backend, .int .i64 R.incarnation, .int .i64 R.session, .int .i64 R.seq, .int .i64 R.what, .int .i64 R.key, .int .i64 R.other, .int .i64 R.amount, .int .i64 R.code, .int .i64 R.place, .int .i64 R.value, .int .i64 R.n], .pointer (some ⟨b, 0, none⟩)] w fun e w' =>
      e = .returned (.bool (f && decide ((q1, q2, q3, q4, q5) ≠ R.spot))) ∧ MapFn w' r encKey (spotF fun k => if f = false ∧ k = R.ckey then some R.spot else P k) ∧ Beside r w w' := by
  have HKK := Lib.hid hk
  have HC := Lib.hid (once_yes R.what ho)
  have HQ := Lib.hid hq
  have HF := Lib.hid hf
  have hX := RowBox.new w w.heap.size rfl R
  have hB0 := (Beside.refl r w).alloc (.cells #[.int .i64 R.kind, .int .i64 R.step, .int .i64 R.client, .int .i64 R.call, .int .i64 R.backend, .int .i64 R.incarnation, .int .i64 R.session, .int .i64 R.seq, .int .i64 R.what, .int .i64 R.key, .int .i64 R.other, .int .i64 R.amount, .int .i64 R.code, .int .i64 R.place, .int .i64 R.value, .int .i64 R.n] 30)
  have hM0 := hM.alloc (.cells #[.int .i64 R.kind, .int .i64 R.step, .int .i64 R.client, .int .i64 R.call, .int .i64 R.backend, .int .i64 R.incarnation, .int .i64 R.session, .int .i64 R.seq, .int .i64 R.what, .int .i64 R.key, .int .i64 R.other, .int .i64 R.amount, .int .i64 R.code, .int .i64 R.place, .int .i64 R.value, .int .i64 R.n] 30)
  have h10 := h1.alloc (.cells #[.int .i64 R.kind, .int .i64 R.step, .int .i64 R.client, .int .i64 R.call, .int .i64 R.backend, .int .i64 R.incarnation, .int .i64 R.session, .int .i64 R.seq, .int .i64 R.what, .int .i64 R.key, .int .i64 R.other, .int .i64 R.amount, .int .i64 R.code, .int .i64 R.place, .int .i64 R.value, .int .i64 R.n] 30)
  have hne : b ≠ r := by
    rintro rfl
    obtain ⟨l, c, hl, _⟩ := hM
    rw [show w.heap[b]? = _ from h1] at hl
    exact absurd hl (by simp)
  have hlr : w.heap.size ≠ r := by have := hM.lt; omega
  clear hk h1 hM ho hq hf
  go_enter Try.func35, Try.ntmps35
  go_wp2_with (fail)
  refine (HC.out _).mono ?_
  rintro e w0 ⟨rfl, rfl⟩
  generalize w.alloc (.cells #[.int .i64 R.kind, .int .i64 R.step, .int .i64 R.client, .int .i64 R.call, .int .i64 R.backend, .int .i64 R.incarnation, .int .i64 R.session, .int .i64 R.seq, .int .i64 R.what, .int .i64 R.key, .int .i64 R.other, .int .i64 R.amount, .int .i64 R.code, .int .i64 R.place, .int .i64 R.value, .int .i64 R.n] 30) = W at *
  generalize w.heap.size = g at *
  obtain ⟨⟨k0, k1, k2, k3, k4, k5, k6, k7, k8, k9, k10, k11, k12, k13, k14, k15⟩, _⟩ := hX.cell
  have hk := HKK.out
  clear HC
  go_upto_region 4 with fail
  clear hk k0 k1 k2 k3 k4 k5 k6 k7 k8 k9 k10 k11 k12 k13 k14 k15
  have hK : ∀ w', Beside r W w' → Beside r W w' ∧ w'.cell? ⟨g, 0, none⟩ = some (.int .i64 R.kind) ∧ w'.cell? ⟨g, 1, none⟩ = some (.int .i64 R.step) ∧ w'.cell? ⟨g, 2, none⟩ = some (.int .i64 R.client) ∧ w'.cell? ⟨g, 3, none⟩ = some (.int .i64 R.call) ∧ w'.cell? ⟨g, 4, none⟩ = some (.int .i64 R.backend) ∧ w'.cell? ⟨g, 5, none⟩ = some (.int .i64 R.incarnation) ∧ w'.cell? ⟨g, 6, none⟩ = some (.int .i64 R.session) ∧ w'.cell? ⟨g, 7, none⟩ = some (.int .i64 R.seq) ∧ w'.cell? ⟨g, 8, none⟩ = some (.int .i64 R.what) ∧ w'.cell? ⟨g, 9, none⟩ = some (.int .i64 R.key) ∧ w'.cell? ⟨g, 10, none⟩ = some (.int .i64 R.other) ∧ w'.cell? ⟨g, 11, none⟩ = some (.int .i64 R.amount) ∧ w'.cell? ⟨g, 12, none⟩ = some (.int .i64 R.code) ∧ w'.cell? ⟨g, 13, none⟩ = some (.int .i64 R.place) ∧ w'.cell? ⟨g, 14, none⟩ = some (.int .i64 R.value) ∧ w'.cell? ⟨g, 15, none⟩ = some (.int .i64 R.n) ∧ w'.cell? ⟨b, 0, none⟩ = some (.map (some r)) := by
    intro w' hb
    obtain ⟨⟨k0, k1, k2, k3, k4, k5, k6, k7, k8, k9, k10, k11, k12, k13, k14, k15⟩, _⟩ := (hX.beside hb hlr).cell
    exact ⟨hb, k0, k1, k2, k3, k4, k5, k6, k7, k8, k9, k10, k11, k12, k13, k14, k15, (h10.beside hb hne).cell.1⟩
  have HK := Lib.hid hK
  have HM := Lib.hid hM0.drew
  have HM1 := Lib.hid hM0
  have HB := Lib.hid hB0
  have HLR := Lib.hid hlr
  have HNE := Lib.hid hne
  clear hK hM0 hB0 hX h10 hne hlr
  go_cut [6, 7] (fun s6 s7 wx => s7 = .bool f ∧ ∃ gp : Nat, s6 = .pointer (some ⟨gp, 0, none⟩) ∧ SpotBox wx gp q1 q2 q3 q4 q5 ∧ Beside r W wx ∧ MapFn wx r encKey (spotF P) ∧ gp ≠ r)
  case first =>
    go_region_held3 (fun w' => Beside r W w' ∧ w'.cell? ⟨g, 0, none⟩ = some (.int .i64 R.kind) ∧ w'.cell? ⟨g, 1, none⟩ = some (.int .i64 R.step) ∧ w'.cell? ⟨g, 2, none⟩ = some (.int .i64 R.client) ∧ w'.cell? ⟨g, 3, none⟩ = some (.int .i64 R.call) ∧ w'.cell? ⟨g, 4, none⟩ = some (.int .i64 R.backend) ∧ w'.cell? ⟨g, 5, none⟩ = some (.int .i64 R.incarnation) ∧ w'.cell? ⟨g, 6, none⟩ = some (.int .i64 R.session) ∧ w'.cell? ⟨g, 7, none⟩ = some (.int .i64 R.seq) ∧ w'.cell? ⟨g, 8, none⟩ = some (.int .i64 R.what) ∧ w'.cell? ⟨g, 9, none⟩ = some (.int .i64 R.key) ∧ w'.cell? ⟨g, 10, none⟩ = some (.int .i64 R.other) ∧ w'.cell? ⟨g, 11, none⟩ = some (.int .i64 R.amount) ∧ w'.cell? ⟨g, 12, none⟩ = some (.int .i64 R.code) ∧ w'.cell? ⟨g, 13, none⟩ = some (.int .i64 R.place) ∧ w'.cell? ⟨g, 14, none⟩ = some (.int .i64 R.value) ∧ w'.cell? ⟨g, 15, none⟩ = some (.int .i64 R.n) ∧ w'.cell? ⟨b, 0, none⟩ = some (.map (some r)))
      (first | with_reducible assumption | (refine HK.out _ ?_; (first | (rw [set5_eq]; exact held_named (by assumption)) | with_reducible exact (Beside.refl _ _).drew | with_reducible exact held_step (by with_reducible assumption) (by with_reducible assumption) | with_reducible exact held_drewn (by with_reducible assumption) | with_reducible exact held_alloc (by with_reducible assumption) | with_reducible exact held_realloc (by with_reducible assumption) (by with_reducible assumption))))
      (first | (go_at_call 31; refine (callOf_any _ _).mono ?_; rintro e1 wx ⟨rfl, hbx⟩
                have hMx : MapFn wx r encKey (spotF P) := map_kept hbx (by first | exact HM.out | exact (HM1.out.alloc _).drew)
                have hlk := run_lookup keyLaws hMx Try.underlying70 (zero55 _) (R.client, R.call) true
                have hlk2 := run_lookup keyLaws (hMx.alloc (.cells #[.int .i64 0, .int .i64 0, .int .i64 0, .int .i64 0, .int .i64 0] 55)) Try.underlying70 (zero55 _) (R.client, R.call) true
                rw [HQ.out, HF.out] at hlk hlk2
                simp only [encKey, if_true] at hlk hlk2
                have hsz : W.heap.size ≤ wx.heap.size := Nat.le_trans (by simp) hbx.size
                have HMX := Lib.hid hMx
                clear hMx
                (try have hsp : SpotBox wx W.heap.size 0 0 0 0 0 := ((SpotBox.new W W.heap.size rfl 0 0 0 0 0).same (w1 := (W.alloc (.cells #[.int .i64 0, .int .i64 0, .int .i64 0, .int .i64 0, .int .i64 0] 55)).drew) rfl).kept hbx)
                (try obtain ⟨⟨p0, p1, p2, p3, p4⟩, pf⟩ := hsp.cell)))
    all_goals (go_wp2_with fail; go_meet)
    · exact ⟨rfl, wx.heap.size, rfl, SpotBox.new _ _ rfl _ _ _ _ _, And.left (by assumption), HMX.out.alloc _, Nat.ne_of_gt HMX.out.lt⟩
    · exact ⟨rfl, wx.heap.size, rfl, SpotBox.new _ _ rfl _ _ _ _ _, And.left (by assumption), HMX.out.alloc _, Nat.ne_of_gt HMX.out.lt⟩
    · rw [set5_eq]
      rename_i hh
      rw [set5_eq] at hh
      exact ⟨rfl, W.heap.size, rfl, spot_set5 hsp _ _ _ _ _, hh.1, map_set5 HMX.out (Nat.ne_of_lt HM1.out.lt) _ _ _ _ _, Nat.ne_of_gt HM1.out.lt⟩
  case rest =>
    obtain ⟨rfl, gp, rfl, hS, hb, hMx, hgp⟩ := hcut
    have HMX := Lib.hid hMx
    have HBX := Lib.hid hb
    have HKX := Lib.hid (HK.out _ hb)
    have HSX := Lib.hid hS
    clear HM HM1 hS hb hMx
    have hK2 : ∀ w', Beside r wc w' → Beside r wc w' ∧ w'.cell? ⟨g, 0, none⟩ = some (.int .i64 R.kind) ∧ w'.cell? ⟨g, 1, none⟩ = some (.int .i64 R.step) ∧ w'.cell? ⟨g, 2, none⟩ = some (.int .i64 R.client) ∧ w'.cell? ⟨g, 3, none⟩ = some (.int .i64 R.call) ∧ w'.cell? ⟨g, 4, none⟩ = some (.int .i64 R.backend) ∧ w'.cell? ⟨g, 5, none⟩ = some (.int .i64 R.incarnation) ∧ w'.cell? ⟨g, 6, none⟩ = some (.int .i64 R.session) ∧ w'.cell? ⟨g, 7, none⟩ = some (.int .i64 R.seq) ∧ w'.cell? ⟨g, 8, none⟩ = some (.int .i64 R.what) ∧ w'.cell? ⟨g, 9, none⟩ = some (.int .i64 R.key) ∧ w'.cell? ⟨g, 10, none⟩ = some (.int .i64 R.other) ∧ w'.cell? ⟨g, 11, none⟩ = some (.int .i64 R.amount) ∧ w'.cell? ⟨g, 12, none⟩ = some (.int .i64 R.code) ∧ w'.cell? ⟨g, 13, none⟩ = some (.int .i64 R.place) ∧ w'.cell? ⟨g, 14, none⟩ = some (.int .i64 R.value) ∧ w'.cell? ⟨g, 15, none⟩ = some (.int .i64 R.n) ∧ w'.cell? ⟨b, 0, none⟩ = some (.map (some r)) := fun w' h => ⟨h, (HK.out _ (HBX.out.trans h)).2⟩
    have HK2 := Lib.hid hK2
    clear hK2
    cases f with
    | false =>
      go_wp2_with (fail)
      go_region_held3 (fun w' => Beside r wc w' ∧ w'.cell? ⟨g, 0, none⟩ = some (.int .i64 R.kind) ∧ w'.cell? ⟨g, 1, none⟩ = some (.int .i64 R.step) ∧ w'.cell? ⟨g, 2, none⟩ = some (.int .i64 R.client) ∧ w'.cell? ⟨g, 3, none⟩ = some (.int .i64 R.call) ∧ w'.cell? ⟨g, 4, none⟩ = some (.int .i64 R.backend) ∧ w'.cell? ⟨g, 5, none⟩ = some (.int .i64 R.incarnation) ∧ w'.cell? ⟨g, 6, none⟩ = some (.int .i64 R.session) ∧ w'.cell? ⟨g, 7, none⟩ = some (.int .i64 R.seq) ∧ w'.cell? ⟨g, 8, none⟩ = some (.int .i64 R.what) ∧ w'.cell? ⟨g, 9, none⟩ = some (.int .i64 R.key) ∧ w'.cell? ⟨g, 10, none⟩ = some (.int .i64 R.other) ∧ w'.cell? ⟨g, 11, none⟩ = some (.int .i64 R.amount) ∧ w'.cell? ⟨g, 12, none⟩ = some (.int .i64 R.code) ∧ w'.cell? ⟨g, 13, none⟩ = some (.int .i64 R.place) ∧ w'.cell? ⟨g, 14, none⟩ = some (.int .i64 R.value) ∧ w'.cell? ⟨g, 15, none⟩ = some (.int .i64 R.n) ∧ w'.cell? ⟨b, 0, none⟩ = some (.map (some r)))
        (first | with_reducible assumption | (refine HK2.out _ ?_; (first | with_reducible exact (Beside.refl _ _).drew | with_reducible exact held_step (by with_reducible assumption) (by with_reducible assumption) | with_reducible exact held_only (by with_reducible assumption) (by with_reducible assumption))))
        (first | (go_at_call 31; refine (callOf_any _ _).mono ?_; rintro e1 wx ⟨rfl, hbx⟩
                  have hMx : MapFn wx r encKey (spotF P) := map_kept hbx (by first | exact HMX.out.drew | assumption)
                  obtain ⟨wu, hup, hMu, hou⟩ := run_update keyLaws hMx Try.underlying70 (R.client, R.call) (encSpot R.spot)
                  simp only [encKey, encSpot, Rw.spot] at hup
                  have HMU := Lib.hid hMu
                  clear hMu)
               | (go_at_call 25; refine (spotOf_any _ _).mono ?_; rintro e1 wx ⟨rfl, hbx⟩
                  have hMx : MapFn wx r encKey (spotF P) := map_kept hbx (by first | exact HMX.out.drew | assumption)
                  obtain ⟨wu, hup, hMu, hou⟩ := run_update keyLaws hMx Try.underlying70 (R.client, R.call) (encSpot R.spot)
                  simp only [encKey, encSpot, Rw.spot] at hup
                  have HMU := Lib.hid hMu
                  clear hMu))
      all_goals
        rename_i hh
        have HH := Lib.hid (And.left hh)
        clear hh
        go_wp2_with (fail)
        go_quiet (fail)
        all_goals
          go_wp2
          go_ret
          exact ⟨by simp, (HMU.out.ext (spotF_put P (R.client, R.call) R.spot)).drewN _, (HB.out.trans (HBX.out.trans HH.out)).drewN _⟩
    | true =>
      have hK3 : ∀ w', Beside r wc w' → Beside r wc w' ∧ w'.cell? ⟨g, 0, none⟩ = some (.int .i64 R.kind) ∧ w'.cell? ⟨g, 1, none⟩ = some (.int .i64 R.step) ∧ w'.cell? ⟨g, 2, none⟩ = some (.int .i64 R.client) ∧ w'.cell? ⟨g, 3, none⟩ = some (.int .i64 R.call) ∧ w'.cell? ⟨g, 4, none⟩ = some (.int .i64 R.backend) ∧ w'.cell? ⟨g, 5, none⟩ = some (.int .i64 R.incarnation) ∧ w'.cell? ⟨g, 6, none⟩ = some (.int .i64 R.session) ∧ w'.cell? ⟨g, 7, none⟩ = some (.int .i64 R.seq) ∧ w'.cell? ⟨g, 8, none⟩ = some (.int .i64 R.what) ∧ w'.cell? ⟨g, 9, none⟩ = some (.int .i64 R.key) ∧ w'.cell? ⟨g, 10, none⟩ = some (.int .i64 R.other) ∧ w'.cell? ⟨g, 11, none⟩ = some (.int .i64 R.amount) ∧ w'.cell? ⟨g, 12, none⟩ = some (.int .i64 R.code) ∧ w'.cell? ⟨g, 13, none⟩ = some (.int .i64 R.place) ∧ w'.cell? ⟨g, 14, none⟩ = some (.int .i64 R.value) ∧ w'.cell? ⟨g, 15, none⟩ = some (.int .i64 R.n) ∧ w'.cell? ⟨b, 0, none⟩ = some (.map (some r)) ∧ w'.cell? ⟨gp, 0, none⟩ = some (.int .i64 q1) ∧ w'.cell? ⟨gp, 1, none⟩ = some (.int .i64 q2) ∧ w'.cell? ⟨gp, 2, none⟩ = some (.int .i64 q3) ∧ w'.cell? ⟨gp, 3, none⟩ = some (.int .i64 q4) ∧ w'.cell? ⟨gp, 4, none⟩ = some (.int .i64 q5) := fun w' h => by
        obtain ⟨⟨p0, p1, p2, p3, p4⟩, _⟩ := (HSX.out.beside h hgp).cell
        obtain ⟨h0, k0, k1, k2, k3, k4, k5, k6, k7, k8, k9, k10, k11, k12, k13, k14, k15, hd⟩ := HK2.out _ h
        exact ⟨h0, k0, k1, k2, k3, k4, k5, k6, k7, k8, k9, k10, k11, k12, k13, k14, k15, hd, p0, p1, p2, p3, p4⟩
      have HK3 := Lib.hid hK3
      clear hK3
      rcases cases6 q1 q2 q3 q4 q5 R.client R.backend R.incarnation R.session R.seq with ⟨e1, e2, e3, e4, e5⟩ | e1 | ⟨e1, e2⟩ | ⟨e1, e2, e3⟩ | ⟨e1, e2, e3, e4⟩ | ⟨e1, e2, e3, e4, e5⟩
      all_goals
        have HD : Hid (∀ x : Bool, x = decide ((q1, q2, q3, q4, q5) ≠ (R.client, R.backend, R.incarnation, R.session, R.seq)) → x = (true && decide ((q1, q2, q3, q4, q5) ≠ R.spot))) := fun x h => h
        (try have d1 : decide (q1 = R.client) = true := by simpa using e1)
        (try have b1 : (q1 == R.client) = true := by simpa using e1)
        (try have d1 : decide (q1 = R.client) = false := by simpa using e1)
        (try have b1 : (q1 == R.client) = false := by simpa using e1)
        (try have d2 : decide (q2 = R.backend) = true := by simpa using e2)
        (try have b2 : (q2 == R.backend) = true := by simpa using e2)
        (try have d2 : decide (q2 = R.backend) = false := by simpa using e2)
        (try have b2 : (q2 == R.backend) = false := by simpa using e2)
        (try have d3 : decide (q3 = R.incarnation) = true := by simpa using e3)
        (try have b3 : (q3 == R.incarnation) = true := by simpa using e3)
        (try have d3 : decide (q3 = R.incarnation) = false := by simpa using e3)
        (try have b3 : (q3 == R.incarnation) = false := by simpa using e3)
        (try have d4 : decide (q4 = R.session) = true := by simpa using e4)
        (try have b4 : (q4 == R.session) = true := by simpa using e4)
        (try have d4 : decide (q4 = R.session) = false := by simpa using e4)
        (try have b4 : (q4 == R.session) = false := by simpa using e4)
        (try have d5 : decide (q5 = R.seq) = true := by simpa using e5)
        (try have b5 : (q5 == R.seq) = true := by simpa using e5)
        (try have d5 : decide (q5 = R.seq) = false := by simpa using e5)
        (try have b5 : (q5 == R.seq) = false := by simpa using e5)
        have HEE := Lib.hid e1
        (try have HE2 := Lib.hid e2)
        (try have HE3 := Lib.hid e3)
        (try have HE4 := Lib.hid e4)
        (try have HE5 := Lib.hid e5)
        clear e1
        (try clear e2)
        (try clear e3)
        (try clear e4)
        (try clear e5)
        go_wp2_with (fail)
        go_region_held3 (fun w' => Beside r wc w' ∧ w'.cell? ⟨g, 0, none⟩ = some (.int .i64 R.kind) ∧ w'.cell? ⟨g, 1, none⟩ = some (.int .i64 R.step) ∧ w'.cell? ⟨g, 2, none⟩ = some (.int .i64 R.client) ∧ w'.cell? ⟨g, 3, none⟩ = some (.int .i64 R.call) ∧ w'.cell? ⟨g, 4, none⟩ = some (.int .i64 R.backend) ∧ w'.cell? ⟨g, 5, none⟩ = some (.int .i64 R.incarnation) ∧ w'.cell? ⟨g, 6, none⟩ = some (.int .i64 R.session) ∧ w'.cell? ⟨g, 7, none⟩ = some (.int .i64 R.seq) ∧ w'.cell? ⟨g, 8, none⟩ = some (.int .i64 R.what) ∧ w'.cell? ⟨g, 9, none⟩ = some (.int .i64 R.key) ∧ w'.cell? ⟨g, 10, none⟩ = some (.int .i64 R.other) ∧ w'.cell? ⟨g, 11, none⟩ = some (.int .i64 R.amount) ∧ w'.cell? ⟨g, 12, none⟩ = some (.int .i64 R.code) ∧ w'.cell? ⟨g, 13, none⟩ = some (.int .i64 R.place) ∧ w'.cell? ⟨g, 14, none⟩ = some (.int .i64 R.value) ∧ w'.cell? ⟨g, 15, none⟩ = some (.int .i64 R.n) ∧ w'.cell? ⟨b, 0, none⟩ = some (.map (some r)) ∧ w'.cell? ⟨gp, 0, none⟩ = some (.int .i64 q1) ∧ w'.cell? ⟨gp, 1, none⟩ = some (.int .i64 q2) ∧ w'.cell? ⟨gp, 2, none⟩ = some (.int .i64 q3) ∧ w'.cell? ⟨gp, 3, none⟩ = some (.int .i64 q4) ∧ w'.cell? ⟨gp, 4, none⟩ = some (.int .i64 q5))
          (first | with_reducible assumption | (refine HK3.out _ ?_; (first | with_reducible exact (Beside.refl _ _).drew | with_reducible exact held_step (by with_reducible assumption) (by with_reducible assumption))))
          (first | (go_at_call 25; refine (spotOf_any _ _).mono ?_; rintro e1 wx ⟨rfl, hbx⟩
                    have hMx : MapFn wx r encKey (spotF P) := map_kept hbx (by first | exact HMX.out.drew | assumption)
                    have HMX3 := Lib.hid hMx
                    clear hMx))

        all_goals
          go_wp2
          go_ret
          refine ⟨ret_bool (HD.out _ ?_), HMX3.out.ext (spotF_kept P (R.client, R.call) R.spot), HB.out.trans (HBX.out.trans (And.left (by assumption)))⟩
          have e1 := HEE.out
          (try have e2 := HE2.out)
          (try have e3 := HE3.out)
          (try have e4 := HE4.out)
          (try have e5 := HE5.out)
          simp [*]
end Go.Proofs.Ytoingfnpffaopaa
