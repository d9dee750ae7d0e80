/- What judge's Budget says of one row, by its kind, its client known or new. Conditions: none. -/
import Derived.Test.YtoingfnpffaopaaBud2
namespace Go.Proofs.Ytoingfnpffaopaa
open Go.RowKit

set_option maxHeartbeats 4000000 in
set_option maxRecDepth 100000 in
theorem bud28_new1 (b1 b2 r : Nat) (A : Int → Option Nat) (s : CS) (R : Rw) (hk : R.kind = 1) (hA : A R.client = none) (w : World) (h1 : ValBox w b1 57 (.map (some r))) (h2 : CsBox w b2 s) (hM : MapFn w r encInt (ptrF A)) :
    Calls Try.prog 28 #[.agg #[.int .i64 R.kind, .int .i64 R.step, .int .i64 R.client, .int .i64 R.call, .int .i64 R.backend, .int .i64 R.incarnation, .int .i64 R.session, .int .i64 R.seq, .int .i64 R.what, .int .i64 R.key, .int .i64 R.other, .int .i64 R.amount, .int .i64 R.code, .int .i64 R.place, .int .i64 R.value, .int .i64 R.n], .pointer (some ⟨b1, 0, none⟩), .pointer (some ⟨b2, 0, none⟩)] w fun e w' =>
      e = .returned (.bool (false)) ∧ MapFn w' r encInt (ptrF (fun d => if d = R.client then some (w.heap.size + 1) else A d)) ∧ BudBox w' (w.heap.size + 1) 1 0 0 ∧ Beside2 r (w.heap.size + 1) w w' := by
  have HKK := Lib.hid hk
  have hlr := hM.lt
  have hbr : b2 ≠ r := cs_map h2 hM
  have hX := RowBox.new w w.heap.size rfl R
  have hB := (Beside.refl r w).alloc (.cells #[.int .i64 R.kind, .int .i64 R.step, .int .i64 R.client, .int .i64 R.call, .int .i64 R.backend, .int .i64 R.incarnation, .int .i64 R.session, .int .i64 R.seq, .int .i64 R.what, .int .i64 R.key, .int .i64 R.other, .int .i64 R.amount, .int .i64 R.code, .int .i64 R.place, .int .i64 R.value, .int .i64 R.n] 30)
  have hM := hM.alloc (.cells #[.int .i64 R.kind, .int .i64 R.step, .int .i64 R.client, .int .i64 R.call, .int .i64 R.backend, .int .i64 R.incarnation, .int .i64 R.session, .int .i64 R.seq, .int .i64 R.what, .int .i64 R.key, .int .i64 R.other, .int .i64 R.amount, .int .i64 R.code, .int .i64 R.place, .int .i64 R.value, .int .i64 R.n] 30)
  have h1 := h1.alloc (.cells #[.int .i64 R.kind, .int .i64 R.step, .int .i64 R.client, .int .i64 R.call, .int .i64 R.backend, .int .i64 R.incarnation, .int .i64 R.session, .int .i64 R.seq, .int .i64 R.what, .int .i64 R.key, .int .i64 R.other, .int .i64 R.amount, .int .i64 R.code, .int .i64 R.place, .int .i64 R.value, .int .i64 R.n] 30)
  have h2 := h2.alloc (.cells #[.int .i64 R.kind, .int .i64 R.step, .int .i64 R.client, .int .i64 R.call, .int .i64 R.backend, .int .i64 R.incarnation, .int .i64 R.session, .int .i64 R.seq, .int .i64 R.what, .int .i64 R.key, .int .i64 R.other, .int .i64 R.amount, .int .i64 R.code, .int .i64 R.place, .int .i64 R.value, .int .i64 R.n] 30)
  clear hk
  go_enter Try.func28, Try.ntmps28
  go_upto_region 1 with fail
  have hsz : (w.alloc (.cells #[.int .i64 R.kind, .int .i64 R.step, .int .i64 R.client, .int .i64 R.call, .int .i64 R.backend, .int .i64 R.incarnation, .int .i64 R.session, .int .i64 R.seq, .int .i64 R.what, .int .i64 R.key, .int .i64 R.other, .int .i64 R.amount, .int .i64 R.code, .int .i64 R.place, .int .i64 R.value, .int .i64 R.n] 30)).heap.size = w.heap.size + 1 := by simp
  generalize w.alloc (.cells #[.int .i64 R.kind, .int .i64 R.step, .int .i64 R.client, .int .i64 R.call, .int .i64 R.backend, .int .i64 R.incarnation, .int .i64 R.session, .int .i64 R.seq, .int .i64 R.what, .int .i64 R.key, .int .i64 R.other, .int .i64 R.amount, .int .i64 R.code, .int .i64 R.place, .int .i64 R.value, .int .i64 R.n] 30) = W at *
  have hlk := run_lookup intLaws hM Try.underlying57 (zero59 _) R.client true
  rw [show ptrF A R.client = none by unfold ptrF; rw [hA]; rfl] at hlk
  simp only [encInt, if_true, Option.getD_none, Option.isSome_none] at hlk
  obtain ⟨W2, hup, hM2, ho⟩ := run_update intLaws (hM.alloc (.cells #[.int .i64 0, .int .i64 0, .int .i64 0] 62)) Try.underlying57 R.client (.pointer (some ⟨W.heap.size, 0, none⟩))
  simp only [encInt] at hup
  have hQ : BudBox W2 W.heap.size 0 0 0 := (BudBox.new W W.heap.size rfl 0 0 0).beside (Beside.of_only ho) (by omega)
  have h22 : CsBox W2 b2 s := (h2.alloc _).beside (Beside.of_only ho) hbr
  have hX2 : RowBox W2 w.heap.size R := (hX.alloc _).beside (Beside.of_only ho) (by omega)
  have hB2 : Beside r w W2 := (hB.alloc _).only ho
  obtain ⟨⟨k0, k1, k2, k3, k4, k5, k6, k7, k8, k9, k10, k11, k12, k13, k14, k15⟩, _⟩ := hX.cell
  obtain ⟨d1, _⟩ := h1.cell
  obtain ⟨d2, _⟩ := (h1.alloc (.cells #[.int .i64 0, .int .i64 0, .int .i64 0] 62)).cell
  obtain ⟨⟨j0, j1, j2, j3, j4, j5, j6, j7, j8, j9, j10, j11, j12, j13, j14, j15⟩, _⟩ := (hX.alloc (.cells #[.int .i64 0, .int .i64 0, .int .i64 0] 62)).cell
  have HM := Lib.hid (hM2.ext (g := ptrF fun d => if d = R.client then some W.heap.size else A d) (ptrF_set A R.client W.heap.size))
  have HB := Lib.hid hB2
  have HQ := Lib.hid hQ
  have H2 := Lib.hid h22
  have HX := Lib.hid hX2
  have HSZ := Lib.hid hsz
  clear hM hA hB hQ h2 h1 hX hB2 h22 hX2 hM2 ho hlr hbr hsz
  go_upto_region 5 with fail
  clear k0 k1 k2 k3 k4 k5 k6 k7 k8 k9 k10 k11 k12 k13 k14 k15 j0 j1 j2 j3 j4 j5 j6 j7 j8 j9 j10 j11 j12 j13 j14 j15 d1 d2 hlk hup
  rw [HSZ.out] at HM HQ ⊢
  generalize W2 = W at *
  obtain ⟨⟨k0, k1, k2, k3, k4, k5, k6, k7, k8, k9, k10, k11, k12, k13, k14, k15⟩, _⟩ := HX.out.cell
  obtain ⟨⟨m0, m1, m2⟩, mf⟩ := HQ.out.cell
  have hk := HKK.out
  have HQ3 := Lib.hid (show BudBox (W.setCell ⟨(w.heap.size + 1), 0, none⟩ (.int .i64 1)) (w.heap.size + 1) 1 0 0 from block_set HQ.out 0 _)
  have HB3 := Lib.hid ((HB.out.two (w.heap.size + 1)).set 0 (.int .i64 1))
  have HM3 := Lib.hid (HM.out.same (w1 := (W.setCell ⟨(w.heap.size + 1), 0, none⟩ (.int .i64 1))) (block_far _ 0 (bud_far HM.out HQ.out) _))
  go_wp2
  go_ret
  exact ⟨rfl, HM3.out, HQ3.out, HB3.out⟩

set_option maxHeartbeats 4000000 in
set_option maxRecDepth 100000 in
theorem bud28_new11 (b1 b2 r : Nat) (A : Int → Option Nat) (s : CS) (R : Rw) (hk : R.kind = 11) (hA : A R.client = none) (w : World) (h1 : ValBox w b1 57 (.map (some r))) (h2 : CsBox w b2 s) (hM : MapFn w r encInt (ptrF A)) :
    Calls Try.prog 28 #[.agg #[.int .i64 R.kind, .int .i64 R.step, .int .i64 R.client, .int .i64 R.call, .int .i64 R.backend, .int .i64 R.incarnation, .int .i64 R.session, .int .i64 R.seq, .int .i64 R.what, .int .i64 R.key, .int .i64 R.other, .int .i64 R.amount, .int .i64 R.code, .int .i64 R.place, .int .i64 R.value, .int .i64 R.n], .pointer (some ⟨b1, 0, none⟩), .pointer (some ⟨b2, 0, none⟩)] w fun e w' =>
      e = .returned (.bool (false)) ∧ MapFn w' r encInt (ptrF (fun d => if d = R.client then some (w.heap.size + 1) else A d)) ∧ BudBox w' (w.heap.size + 1) 0 1 0 ∧ Beside2 r (w.heap.size + 1) w w' := by
  have HKK := Lib.hid hk
  have hlr := hM.lt
  have hbr : b2 ≠ r := cs_map h2 hM
  have hX := RowBox.new w w.heap.size rfl R
  have hB := (Beside.refl r w).alloc (.cells #[.int .i64 R.kind, .int .i64 R.step, .int .i64 R.client, .int .i64 R.call, .int .i64 R.backend, .int .i64 R.incarnation, .int .i64 R.session, .int .i64 R.seq, .int .i64 R.what, .int .i64 R.key, .int .i64 R.other, .int .i64 R.amount, .int .i64 R.code, .int .i64 R.place, .int .i64 R.value, .int .i64 R.n] 30)
  have hM := hM.alloc (.cells #[.int .i64 R.kind, .int .i64 R.step, .int .i64 R.client, .int .i64 R.call, .int .i64 R.backend, .int .i64 R.incarnation, .int .i64 R.session, .int .i64 R.seq, .int .i64 R.what, .int .i64 R.key, .int .i64 R.other, .int .i64 R.amount, .int .i64 R.code, .int .i64 R.place, .int .i64 R.value, .int .i64 R.n] 30)
  have h1 := h1.alloc (.cells #[.int .i64 R.kind, .int .i64 R.step, .int .i64 R.client, .int .i64 R.call, .int .i64 R.backend, .int .i64 R.incarnation, .int .i64 R.session, .int .i64 R.seq, .int .i64 R.what, .int .i64 R.key, .int .i64 R.other, .int .i64 R.amount, .int .i64 R.code, .int .i64 R.place, .int .i64 R.value, .int .i64 R.n] 30)
  have h2 := h2.alloc (.cells #[.int .i64 R.kind, .int .i64 R.step, .int .i64 R.client, .int .i64 R.call, .int .i64 R.backend, .int .i64 R.incarnation, .int .i64 R.session, .int .i64 R.seq, .int .i64 R.what, .int .i64 R.key, .int .i64 R.other, .int .i64 R.amount, .int .i64 R.code, .int .i64 R.place, .int .i64 R.value, .int .i64 R.n] 30)
  clear hk
  go_enter Try.func28, Try.ntmps28
  go_upto_region 1 with fail
  have hsz : (w.alloc (.cells #[.int .i64 R.kind, .int .i64 R.step, .int .i64 R.client, .int .i64 R.call, .int .i64 R.backend, .int .i64 R.incarnation, .int .i64 R.session, .int .i64 R.seq, .int .i64 R.what, .int .i64 R.key, .int .i64 R.other, .int .i64 R.amount, .int .i64 R.code, .int .i64 R.place, .int .i64 R.value, .int .i64 R.n] 30)).heap.size = w.heap.size + 1 := by simp
  generalize w.alloc (.cells #[.int .i64 R.kind, .int .i64 R.step, .int .i64 R.client, .int .i64 R.call, .int .i64 R.backend, .int .i64 R.incarnation, .int .i64 R.session, .int .i64 R.seq, .int .i64 R.what, .int .i64 R.key, .int .i64 R.other, .int .i64 R.amount, .int .i64 R.code, .int .i64 R.place, .int .i64 R.value, .int .i64 R.n] 30) = W at *
  have hlk := run_lookup intLaws hM Try.underlying57 (zero59 _) R.client true
  rw [show ptrF A R.client = none by unfold ptrF; rw [hA]; rfl] at hlk
  simp only [encInt, if_true, Option.getD_none, Option.isSome_none] at hlk
  obtain ⟨W2, hup, hM2, ho⟩ := run_update intLaws (hM.alloc (.cells #[.int .i64 0, .int .i64 0, .int .i64 0] 62)) Try.underlying57 R.client (.pointer (some ⟨W.heap.size, 0, none⟩))
  simp only [encInt] at hup
  have hQ : BudBox W2 W.heap.size 0 0 0 := (BudBox.new W W.heap.size rfl 0 0 0).beside (Beside.of_only ho) (by omega)
  have h22 : CsBox W2 b2 s := (h2.alloc _).beside (Beside.of_only ho) hbr
  have hX2 : RowBox W2 w.heap.size R := (hX.alloc _).beside (Beside.of_only ho) (by omega)
  have hB2 : Beside r w W2 := (hB.alloc _).only ho
  obtain ⟨⟨k0, k1, k2, k3, k4, k5, k6, k7, k8, k9, k10, k11, k12, k13, k14, k15⟩, _⟩ := hX.cell
  obtain ⟨d1, _⟩ := h1.cell
  obtain ⟨d2, _⟩ := (h1.alloc (.cells #[.int .i64 0, .int .i64 0, .int .i64 0] 62)).cell
  obtain ⟨⟨j0, j1, j2, j3, j4, j5, j6, j7, j8, j9, j10, j11, j12, j13, j14, j15⟩, _⟩ := (hX.alloc (.cells #[.int .i64 0, .int .i64 0, .int .i64 0] 62)).cell
  have HM := Lib.hid (hM2.ext (g := ptrF fun d => if d = R.client then some W.heap.size else A d) (ptrF_set A R.client W.heap.size))
  have HB := Lib.hid hB2
  have HQ := Lib.hid hQ
  have H2 := Lib.hid h22
  have HX := Lib.hid hX2
  have HSZ := Lib.hid hsz
  clear hM hA hB hQ h2 h1 hX hB2 h22 hX2 hM2 ho hlr hbr hsz
  go_upto_region 5 with fail
  clear k0 k1 k2 k3 k4 k5 k6 k7 k8 k9 k10 k11 k12 k13 k14 k15 j0 j1 j2 j3 j4 j5 j6 j7 j8 j9 j10 j11 j12 j13 j14 j15 d1 d2 hlk hup
  rw [HSZ.out] at HM HQ ⊢
  generalize W2 = W at *
  obtain ⟨⟨k0, k1, k2, k3, k4, k5, k6, k7, k8, k9, k10, k11, k12, k13, k14, k15⟩, _⟩ := HX.out.cell
  obtain ⟨⟨m0, m1, m2⟩, mf⟩ := HQ.out.cell
  have hk := HKK.out
  have HQ3 := Lib.hid (show BudBox (W.setCell ⟨(w.heap.size + 1), 1, none⟩ (.int .i64 1)) (w.heap.size + 1) 0 1 0 from block_set HQ.out 1 _)
  have HB3 := Lib.hid ((HB.out.two (w.heap.size + 1)).set 1 (.int .i64 1))
  have HM3 := Lib.hid (HM.out.same (w1 := (W.setCell ⟨(w.heap.size + 1), 1, none⟩ (.int .i64 1))) (block_far _ 1 (bud_far HM.out HQ.out) _))
  go_wp2
  go_ret
  exact ⟨rfl, HM3.out, HQ3.out, HB3.out⟩

set_option maxHeartbeats 4000000 in
set_option maxRecDepth 100000 in
theorem bud28_new2 (b1 b2 r : Nat) (A : Int → Option Nat) (s : CS) (R : Rw) (hk : R.kind = 2) (hA : A R.client = none) (w : World) (h1 : ValBox w b1 57 (.map (some r))) (h2 : CsBox w b2 s) (hM : MapFn w r encInt (ptrF A)) :
    Calls Try.prog 28 #[.agg #[.int .i64 R.kind, .int .i64 R.step, .int .i64 R.client, .int .i64 R.call, .int .i64 R.backend, .int .i64 R.incarnation, .int .i64 R.session, .int .i64 R.seq, .int .i64 R.what, .int .i64 R.key, .int .i64 R.other, .int .i64 R.amount, .int .i64 R.code, .int .i64 R.place, .int .i64 R.value, .int .i64 R.n], .pointer (some ⟨b1, 0, none⟩), .pointer (some ⟨b2, 0, none⟩)] w fun e w' =>
      e = .returned (.bool (decide (allow s 0 0 < 1))) ∧ MapFn w' r encInt (ptrF (fun d => if d = R.client then some (w.heap.size + 1) else A d)) ∧ BudBox w' (w.heap.size + 1) 0 0 1 ∧ Beside2 r (w.heap.size + 1) w w' := by
  have HKK := Lib.hid hk
  have hlr := hM.lt
  have hbr : b2 ≠ r := cs_map h2 hM
  have hX := RowBox.new w w.heap.size rfl R
  have hB := (Beside.refl r w).alloc (.cells #[.int .i64 R.kind, .int .i64 R.step, .int .i64 R.client, .int .i64 R.call, .int .i64 R.backend, .int .i64 R.incarnation, .int .i64 R.session, .int .i64 R.seq, .int .i64 R.what, .int .i64 R.key, .int .i64 R.other, .int .i64 R.amount, .int .i64 R.code, .int .i64 R.place, .int .i64 R.value, .int .i64 R.n] 30)
  have hM := hM.alloc (.cells #[.int .i64 R.kind, .int .i64 R.step, .int .i64 R.client, .int .i64 R.call, .int .i64 R.backend, .int .i64 R.incarnation, .int .i64 R.session, .int .i64 R.seq, .int .i64 R.what, .int .i64 R.key, .int .i64 R.other, .int .i64 R.amount, .int .i64 R.code, .int .i64 R.place, .int .i64 R.value, .int .i64 R.n] 30)
  have h1 := h1.alloc (.cells #[.int .i64 R.kind, .int .i64 R.step, .int .i64 R.client, .int .i64 R.call, .int .i64 R.backend, .int .i64 R.incarnation, .int .i64 R.session, .int .i64 R.seq, .int .i64 R.what, .int .i64 R.key, .int .i64 R.other, .int .i64 R.amount, .int .i64 R.code, .int .i64 R.place, .int .i64 R.value, .int .i64 R.n] 30)
  have h2 := h2.alloc (.cells #[.int .i64 R.kind, .int .i64 R.step, .int .i64 R.client, .int .i64 R.call, .int .i64 R.backend, .int .i64 R.incarnation, .int .i64 R.session, .int .i64 R.seq, .int .i64 R.what, .int .i64 R.key, .int .i64 R.other, .int .i64 R.amount, .int .i64 R.code, .int .i64 R.place, .int .i64 R.value, .int .i64 R.n] 30)
  clear hk
  go_enter Try.func28, Try.ntmps28
  go_upto_region 1 with fail
  have hsz : (w.alloc (.cells #[.int .i64 R.kind, .int .i64 R.step, .int .i64 R.client, .int .i64 R.call, .int .i64 R.backend, .int .i64 R.incarnation, .int .i64 R.session, .int .i64 R.seq, .int .i64 R.what, .int .i64 R.key, .int .i64 R.other, .int .i64 R.amount, .int .i64 R.code, .int .i64 R.place, .int .i64 R.value, .int .i64 R.n] 30)).heap.size = w.heap.size + 1 := by simp
  generalize w.alloc (.cells #[.int .i64 R.kind, .int .i64 R.step, .int .i64 R.client, .int .i64 R.call, .int .i64 R.backend, .int .i64 R.incarnation, .int .i64 R.session, .int .i64 R.seq, .int .i64 R.what, .int .i64 R.key, .int .i64 R.other, .int .i64 R.amount, .int .i64 R.code, .int .i64 R.place, .int .i64 R.value, .int .i64 R.n] 30) = W at *
  have hlk := run_lookup intLaws hM Try.underlying57 (zero59 _) R.client true
  rw [show ptrF A R.client = none by unfold ptrF; rw [hA]; rfl] at hlk
  simp only [encInt, if_true, Option.getD_none, Option.isSome_none] at hlk
  obtain ⟨W2, hup, hM2, ho⟩ := run_update intLaws (hM.alloc (.cells #[.int .i64 0, .int .i64 0, .int .i64 0] 62)) Try.underlying57 R.client (.pointer (some ⟨W.heap.size, 0, none⟩))
  simp only [encInt] at hup
  have hQ : BudBox W2 W.heap.size 0 0 0 := (BudBox.new W W.heap.size rfl 0 0 0).beside (Beside.of_only ho) (by omega)
  have h22 : CsBox W2 b2 s := (h2.alloc _).beside (Beside.of_only ho) hbr
  have hX2 : RowBox W2 w.heap.size R := (hX.alloc _).beside (Beside.of_only ho) (by omega)
  have hB2 : Beside r w W2 := (hB.alloc _).only ho
  obtain ⟨⟨k0, k1, k2, k3, k4, k5, k6, k7, k8, k9, k10, k11, k12, k13, k14, k15⟩, _⟩ := hX.cell
  obtain ⟨d1, _⟩ := h1.cell
  obtain ⟨d2, _⟩ := (h1.alloc (.cells #[.int .i64 0, .int .i64 0, .int .i64 0] 62)).cell
  obtain ⟨⟨j0, j1, j2, j3, j4, j5, j6, j7, j8, j9, j10, j11, j12, j13, j14, j15⟩, _⟩ := (hX.alloc (.cells #[.int .i64 0, .int .i64 0, .int .i64 0] 62)).cell
  have HM := Lib.hid (hM2.ext (g := ptrF fun d => if d = R.client then some W.heap.size else A d) (ptrF_set A R.client W.heap.size))
  have HB := Lib.hid hB2
  have HQ := Lib.hid hQ
  have H2 := Lib.hid h22
  have HX := Lib.hid hX2
  have HSZ := Lib.hid hsz
  clear hM hA hB hQ h2 h1 hX hB2 h22 hX2 hM2 ho hlr hbr hsz
  go_upto_region 5 with fail
  clear k0 k1 k2 k3 k4 k5 k6 k7 k8 k9 k10 k11 k12 k13 k14 k15 j0 j1 j2 j3 j4 j5 j6 j7 j8 j9 j10 j11 j12 j13 j14 j15 d1 d2 hlk hup
  rw [HSZ.out] at HM HQ ⊢
  generalize W2 = W at *
  obtain ⟨⟨k0, k1, k2, k3, k4, k5, k6, k7, k8, k9, k10, k11, k12, k13, k14, k15⟩, _⟩ := HX.out.cell
  obtain ⟨⟨m0, m1, m2⟩, mf⟩ := HQ.out.cell
  have hk := HKK.out
  go_upto_region 12 with fail
  have HQ3 := Lib.hid (show BudBox (W.setCell ⟨(w.heap.size + 1), 2, none⟩ (.int .i64 1)) (w.heap.size + 1) 0 0 1 from block_set HQ.out 2 _)
  have HB3 := Lib.hid ((HB.out.two (w.heap.size + 1)).set 2 (.int .i64 1))
  have HM3 := Lib.hid (HM.out.same (w1 := (W.setCell ⟨(w.heap.size + 1), 2, none⟩ (.int .i64 1))) (block_far _ 2 (bud_far HM.out HQ.out) _))
  have H23 := Lib.hid (H2.out.same (w1 := (W.setCell ⟨(w.heap.size + 1), 2, none⟩ (.int .i64 1))) (block_far _ 2 (cs_far H2.out HQ.out) _))
  clear k0 k1 k2 k3 k4 k5 k6 k7 k8 k9 k10 k11 k12 k13 k14 k15 m0 m1 m2 mf hk
  generalize (W.setCell ⟨(w.heap.size + 1), 2, none⟩ (.int .i64 1)) = W3 at *
  obtain ⟨⟨m0, m1, m2⟩, _⟩ := HQ3.out.cell
  obtain ⟨c0, c1, c2, _⟩ := H23.out.bucket
  go_quiet (fail)
  go_wp2
  go_ret
  exact ⟨by rw [allow_zero]; rfl, HM3.out.drewN _, HQ3.out.same rfl, HB3.out.drewN _⟩

set_option maxHeartbeats 4000000 in
set_option maxRecDepth 100000 in
theorem bud28_new0 (b1 b2 r : Nat) (A : Int → Option Nat) (s : CS) (R : Rw) (hk : R.kind ≠ 1 ∧ R.kind ≠ 11 ∧ R.kind ≠ 2) (hA : A R.client = none) (w : World) (h1 : ValBox w b1 57 (.map (some r))) (h2 : CsBox w b2 s) (hM : MapFn w r encInt (ptrF A)) :
    Calls Try.prog 28 #[.agg #[.int .i64 R.kind, .int .i64 R.step, .int .i64 R.client, .int .i64 R.call, .int .i64 R.backend, .int .i64 R.incarnation, .int .i64 R.session, .int .i64 R.seq, .int .i64 R.what, .int .i64 R.key, .int .i64 R.other, .int .i64 R.amount, .int .i64 R.code, .int .i64 R.place, .int .i64 R.value, .int .i64 R.n], .pointer (some ⟨b1, 0, none⟩), .pointer (some ⟨b2, 0, none⟩)] w fun e w' =>
      e = .returned (.bool (false)) ∧ MapFn w' r encInt (ptrF (fun d => if d = R.client then some (w.heap.size + 1) else A d)) ∧ BudBox w' (w.heap.size + 1) 0 0 0 ∧ Beside2 r (w.heap.size + 1) w w' := by
  have HKK := Lib.hid hk
  have hlr := hM.lt
  have hbr : b2 ≠ r := cs_map h2 hM
  have hX := RowBox.new w w.heap.size rfl R
  have hB := (Beside.refl r w).alloc (.cells #[.int .i64 R.kind, .int .i64 R.step, .int .i64 R.client, .int .i64 R.call, .int .i64 R.backend, .int .i64 R.incarnation, .int .i64 R.session, .int .i64 R.seq, .int .i64 R.what, .int .i64 R.key, .int .i64 R.other, .int .i64 R.amount, .int .i64 R.code, .int .i64 R.place, .int .i64 R.value, .int .i64 R.n] 30)
  have hM := hM.alloc (.cells #[.int .i64 R.kind, .int .i64 R.step, .int .i64 R.client, .int .i64 R.call, .int .i64 R.backend, .int .i64 R.incarnation, .int .i64 R.session, .int .i64 R.seq, .int .i64 R.what, .int .i64 R.key, .int .i64 R.other, .int .i64 R.amount, .int .i64 R.code, .int .i64 R.place, .int .i64 R.value, .int .i64 R.n] 30)
  have h1 := h1.alloc (.cells #[.int .i64 R.kind, .int .i64 R.step, .int .i64 R.client, .int .i64 R.call, .int .i64 R.backend, .int .i64 R.incarnation, .int .i64 R.session, .int .i64 R.seq, .int .i64 R.what, .int .i64 R.key, .int .i64 R.other, .int .i64 R.amount, .int .i64 R.code, .int .i64 R.place, .int .i64 R.value, .int .i64 R.n] 30)
  have h2 := h2.alloc (.cells #[.int .i64 R.kind, .int .i64 R.step, .int .i64 R.client, .int .i64 R.call, .int .i64 R.backend, .int .i64 R.incarnation, .int .i64 R.session, .int .i64 R.seq, .int .i64 R.what, .int .i64 R.key, .int .i64 R.other, .int .i64 R.amount, .int .i64 R.code, .int .i64 R.place, .int .i64 R.value, .int .i64 R.n] 30)
  clear hk
  go_enter Try.func28, Try.ntmps28
  go_upto_region 1 with fail
  have hsz : (w.alloc (.cells #[.int .i64 R.kind, .int .i64 R.step, .int .i64 R.client, .int .i64 R.call, .int .i64 R.backend, .int .i64 R.incarnation, .int .i64 R.session, .int .i64 R.seq, .int .i64 R.what, .int .i64 R.key, .int .i64 R.other, .int .i64 R.amount, .int .i64 R.code, .int .i64 R.place, .int .i64 R.value, .int .i64 R.n] 30)).heap.size = w.heap.size + 1 := by simp
  generalize w.alloc (.cells #[.int .i64 R.kind, .int .i64 R.step, .int .i64 R.client, .int .i64 R.call, .int .i64 R.backend, .int .i64 R.incarnation, .int .i64 R.session, .int .i64 R.seq, .int .i64 R.what, .int .i64 R.key, .int .i64 R.other, .int .i64 R.amount, .int .i64 R.code, .int .i64 R.place, .int .i64 R.value, .int .i64 R.n] 30) = W at *
  have hlk := run_lookup intLaws hM Try.underlying57 (zero59 _) R.client true
  rw [show ptrF A R.client = none by unfold ptrF; rw [hA]; rfl] at hlk
  simp only [encInt, if_true, Option.getD_none, Option.isSome_none] at hlk
  obtain ⟨W2, hup, hM2, ho⟩ := run_update intLaws (hM.alloc (.cells #[.int .i64 0, .int .i64 0, .int .i64 0] 62)) Try.underlying57 R.client (.pointer (some ⟨W.heap.size, 0, none⟩))
  simp only [encInt] at hup
  have hQ : BudBox W2 W.heap.size 0 0 0 := (BudBox.new W W.heap.size rfl 0 0 0).beside (Beside.of_only ho) (by omega)
  have h22 : CsBox W2 b2 s := (h2.alloc _).beside (Beside.of_only ho) hbr
  have hX2 : RowBox W2 w.heap.size R := (hX.alloc _).beside (Beside.of_only ho) (by omega)
  have hB2 : Beside r w W2 := (hB.alloc _).only ho
  obtain ⟨⟨k0, k1, k2, k3, k4, k5, k6, k7, k8, k9, k10, k11, k12, k13, k14, k15⟩, _⟩ := hX.cell
  obtain ⟨d1, _⟩ := h1.cell
  obtain ⟨d2, _⟩ := (h1.alloc (.cells #[.int .i64 0, .int .i64 0, .int .i64 0] 62)).cell
  obtain ⟨⟨j0, j1, j2, j3, j4, j5, j6, j7, j8, j9, j10, j11, j12, j13, j14, j15⟩, _⟩ := (hX.alloc (.cells #[.int .i64 0, .int .i64 0, .int .i64 0] 62)).cell
  have HM := Lib.hid (hM2.ext (g := ptrF fun d => if d = R.client then some W.heap.size else A d) (ptrF_set A R.client W.heap.size))
  have HB := Lib.hid hB2
  have HQ := Lib.hid hQ
  have H2 := Lib.hid h22
  have HX := Lib.hid hX2
  have HSZ := Lib.hid hsz
  clear hM hA hB hQ h2 h1 hX hB2 h22 hX2 hM2 ho hlr hbr hsz
  go_upto_region 5 with fail
  clear k0 k1 k2 k3 k4 k5 k6 k7 k8 k9 k10 k11 k12 k13 k14 k15 j0 j1 j2 j3 j4 j5 j6 j7 j8 j9 j10 j11 j12 j13 j14 j15 d1 d2 hlk hup
  rw [HSZ.out] at HM HQ ⊢
  generalize W2 = W at *
  obtain ⟨⟨k0, k1, k2, k3, k4, k5, k6, k7, k8, k9, k10, k11, k12, k13, k14, k15⟩, _⟩ := HX.out.cell
  obtain ⟨⟨m0, m1, m2⟩, mf⟩ := HQ.out.cell
  have hk := HKK.out
  obtain ⟨hk1, hk11, hk2⟩ := hk
  go_wp2
  go_ret
  exact ⟨rfl, HM.out, HQ.out, HB.out.two _⟩
end Go.Proofs.Ytoingfnpffaopaa
