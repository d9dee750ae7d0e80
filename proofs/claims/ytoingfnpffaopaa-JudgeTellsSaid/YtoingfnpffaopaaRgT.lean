/- The inner guard of the document's told. Conditions: the rows lie there. -/
import Derived.Test.YtoingfnpffaopaaRf1
import Derived.Test.YtoingfnpffaopaaHrow
import Derived.Deep.DeepCutAuto
namespace Go.Proofs.Ytoingfnpffaopaa
open Go.RowKit

attribute [local go_sem ↓] run_load30

noncomputable def r8t : Code := ((Try.f40.body.bind (regionAt 8)).getD .skip)

set_option maxHeartbeats 40000000 in
set_option maxRecDepth 1000000 in
theorem toldreg (c i k : Nat) (b off n cap : Nat) (R S A : Rw) (wr : World) (t2 t3 t4 t7 t8 t9 t10 t11 t12 t13 t14 t15 t16 t17 t18 t19 t20 t21 t22 t23 t24 t25 t26 t27 t28 t29 t30 t31 t32 t33 t34 t35 t36 t37 t38 t39 t40 t41 t42 t43 t44 t45 t46 t47 t48 t49 t50 t51 t52 t53 t54 t55 t56 t57 t58 t59 t60 t61 t62 t63 t64 t65 t66 t67 t68 t69 t70 t71 t72 t73 t74 t75 t76 t77 t78 t79 t80 t81 t82 t83 t84 t85 t86 t87 t88 t89 t90 t91 t92 t93 t94 t95 t96 t97 : Value) (K : Act → World → Prop) (Q : Exit → Act → World → Prop) (hbw : b < wr.heap.size) (i1 : (k : Int) < (n : Int)) (i2 : (i : Int) < (n : Int)) (i3 : (c : Int) < (n : Int)) (hR : RowAt wr b (off + i * 16) R) (hS : RowAt wr b (off + k * 16) S) (hA : RowAt wr b (off + c * 16) A)
    (hK : ∀ (u70 u71 u72 u73 u74 u75 u76 u77 u78 u79 u80 u81 u82 u83 u84 u85 u86 u87 u88 u89 u90 u91 u92 u93 u94 u95 u96 : Value) (w' : World), Below wr.heap.size wr w' → K ⟨List.toArray ((.slice (some ⟨b, off, none⟩) n cap) :: (.int .i64 ↑c) :: t2 :: t3 :: t4 :: (.int .i64 ↑i) :: (.int .i64 ↑k) :: t7 :: t8 :: t9 :: t10 :: t11 :: t12 :: t13 :: t14 :: t15 :: t16 :: t17 :: t18 :: t19 :: t20 :: t21 :: t22 :: t23 :: t24 :: t25 :: t26 :: t27 :: t28 :: t29 :: t30 :: t31 :: t32 :: t33 :: t34 :: t35 :: t36 :: t37 :: t38 :: t39 :: t40 :: t41 :: t42 :: t43 :: t44 :: t45 :: t46 :: t47 :: t48 :: t49 :: t50 :: t51 :: t52 :: t53 :: t54 :: t55 :: t56 :: t57 :: t58 :: t59 :: t60 :: t61 :: t62 :: t63 :: t64 :: t65 :: t66 :: t67 :: t68 :: t69 :: u70 :: u71 :: u72 :: u73 :: u74 :: u75 :: u76 :: u77 :: u78 :: u79 :: u80 :: u81 :: u82 :: u83 :: u84 :: u85 :: u86 :: u87 :: u88 :: u89 :: u90 :: u91 :: u92 :: u93 :: u94 :: u95 :: u96 :: (.bool (decide (S.kind = 2) && (decide (S.ckey = A.ckey) && decide (S.spot = R.spot)))) :: []), []⟩ w') :
    Code.wp Try.prog r8t (Exit.then K Q) ⟨List.toArray ((.slice (some ⟨b, off, none⟩) n cap) :: (.int .i64 ↑c) :: t2 :: t3 :: t4 :: (.int .i64 ↑i) :: (.int .i64 ↑k) :: t7 :: t8 :: t9 :: t10 :: t11 :: t12 :: t13 :: t14 :: t15 :: t16 :: t17 :: t18 :: t19 :: t20 :: t21 :: t22 :: t23 :: t24 :: t25 :: t26 :: t27 :: t28 :: t29 :: t30 :: t31 :: t32 :: t33 :: t34 :: t35 :: t36 :: t37 :: t38 :: t39 :: t40 :: t41 :: t42 :: t43 :: t44 :: t45 :: t46 :: t47 :: t48 :: t49 :: t50 :: t51 :: t52 :: t53 :: t54 :: t55 :: t56 :: t57 :: t58 :: t59 :: t60 :: t61 :: t62 :: t63 :: t64 :: t65 :: t66 :: t67 :: t68 :: t69 :: t70 :: t71 :: t72 :: t73 :: t74 :: t75 :: t76 :: t77 :: t78 :: t79 :: t80 :: t81 :: t82 :: t83 :: t84 :: t85 :: t86 :: t87 :: t88 :: t89 :: t90 :: t91 :: t92 :: t93 :: t94 :: t95 :: t96 :: t97 :: []), []⟩ wr := by
  have HKK := Lib.hid hK
  clear hK
  have HK : Hid (∀ w', Below wr.heap.size wr w' → Below wr.heap.size wr w' ∧ HeldRw w' (.pointer (some ⟨b, off + i * 16, none⟩)) ∧ rwOf w' (.pointer (some ⟨b, off + i * 16, none⟩)) = .agg #[.int .i64 R.kind, .int .i64 R.step, .int .i64 R.client, .int .i64 R.call, .int .i64 R.backend, .int .i64 R.incarnation, .int .i64 R.session, .int .i64 R.seq, .int .i64 R.what, .int .i64 R.key, .int .i64 R.other, .int .i64 R.amount, .int .i64 R.code, .int .i64 R.place, .int .i64 R.value, .int .i64 R.n] ∧ HeldRw w' (.pointer (some ⟨b, off + k * 16, none⟩)) ∧ rwOf w' (.pointer (some ⟨b, off + k * 16, none⟩)) = .agg #[.int .i64 S.kind, .int .i64 S.step, .int .i64 S.client, .int .i64 S.call, .int .i64 S.backend, .int .i64 S.incarnation, .int .i64 S.session, .int .i64 S.seq, .int .i64 S.what, .int .i64 S.key, .int .i64 S.other, .int .i64 S.amount, .int .i64 S.code, .int .i64 S.place, .int .i64 S.value, .int .i64 S.n] ∧ w'.cell? ⟨b, off + k * 16, none⟩ = some (.int .i64 S.kind) ∧ HeldRw w' (.pointer (some ⟨b, off + c * 16, none⟩)) ∧ rwOf w' (.pointer (some ⟨b, off + c * 16, none⟩)) = .agg #[.int .i64 A.kind, .int .i64 A.step, .int .i64 A.client, .int .i64 A.call, .int .i64 A.backend, .int .i64 A.incarnation, .int .i64 A.session, .int .i64 A.seq, .int .i64 A.what, .int .i64 A.key, .int .i64 A.other, .int .i64 A.amount, .int .i64 A.code, .int .i64 A.place, .int .i64 A.value, .int .i64 A.n]) := fun w' h => ⟨h, (hR.below h hbw).held, (hR.below h hbw).of, (hS.below h hbw).held, (hS.below h hbw).of, (hS.below h hbw).c0, (hA.below h hbw).held, (hA.below h hbw).of⟩
  obtain ⟨rq0, rq1, rq2, rq3, rq4, rq5, rq6, rq7, rq8, rq9, rq10, rq11, rq12, rq13, rq14, rq15⟩ := hR
  obtain ⟨sq0, sq1, sq2, sq3, sq4, sq5, sq6, sq7, sq8, sq9, sq10, sq11, sq12, sq13, sq14, sq15⟩ := hS
  obtain ⟨aq0, aq1, aq2, aq3, aq4, aq5, aq6, aq7, aq8, aq9, aq10, aq11, aq12, aq13, aq14, aq15⟩ := hA
  clear hbw
  obtain ⟨v, hv⟩ : ∃ v, (decide (S.kind = 2) && (decide (S.ckey = A.ckey) && decide (S.spot = R.spot))) = v := ⟨_, rfl⟩
  rw [hv] at HKK
  by_cases h0 : S.kind = 2
  · have d0 : decide (S.kind = 2) = true := decide_eq_true h0
    have e0 : (S.kind == 2) = true := d0
    clear h0
    by_cases hck : S.ckey = A.ckey
    · have dk := decide_eq_true hck
      have HCK := Lib.hid dk
      clear hck
      obtain ⟨x, hx⟩ : ∃ x, decide (S.spot = R.spot) = x := ⟨_, rfl⟩
      have HX := Lib.hid hx
      have HV : v = x := by rw [← hv]; simp only [d0, dk, hx, Bool.true_and]
      subst HV
      clear hv
      clear hx dk
      conv => arg 2; whnf
      clear rq0 rq1 rq2 rq3 rq4 rq5 rq6 rq7 rq8 rq9 rq10 rq11 rq12 rq13 rq14 rq15 sq0 sq1 sq2 sq3 sq4 sq5 sq6 sq7 sq8 sq9 sq10 sq11 sq12 sq13 sq14 sq15 aq0 aq1 aq2 aq3 aq4 aq5 aq6 aq7 aq8 aq9 aq10 aq11 aq12 aq13 aq14 aq15
      go_region_held3 (fun w' => Below wr.heap.size wr w' ∧ HeldRw w' (.pointer (some ⟨b, off + i * 16, none⟩)) ∧ rwOf w' (.pointer (some ⟨b, off + i * 16, none⟩)) = .agg #[.int .i64 R.kind, .int .i64 R.step, .int .i64 R.client, .int .i64 R.call, .int .i64 R.backend, .int .i64 R.incarnation, .int .i64 R.session, .int .i64 R.seq, .int .i64 R.what, .int .i64 R.key, .int .i64 R.other, .int .i64 R.amount, .int .i64 R.code, .int .i64 R.place, .int .i64 R.value, .int .i64 R.n] ∧ HeldRw w' (.pointer (some ⟨b, off + k * 16, none⟩)) ∧ rwOf w' (.pointer (some ⟨b, off + k * 16, none⟩)) = .agg #[.int .i64 S.kind, .int .i64 S.step, .int .i64 S.client, .int .i64 S.call, .int .i64 S.backend, .int .i64 S.incarnation, .int .i64 S.session, .int .i64 S.seq, .int .i64 S.what, .int .i64 S.key, .int .i64 S.other, .int .i64 S.amount, .int .i64 S.code, .int .i64 S.place, .int .i64 S.value, .int .i64 S.n] ∧ w'.cell? ⟨b, off + k * 16, none⟩ = some (.int .i64 S.kind) ∧ HeldRw w' (.pointer (some ⟨b, off + c * 16, none⟩)) ∧ rwOf w' (.pointer (some ⟨b, off + c * 16, none⟩)) = .agg #[.int .i64 A.kind, .int .i64 A.step, .int .i64 A.client, .int .i64 A.call, .int .i64 A.backend, .int .i64 A.incarnation, .int .i64 A.session, .int .i64 A.seq, .int .i64 A.what, .int .i64 A.key, .int .i64 A.other, .int .i64 A.amount, .int .i64 A.code, .int .i64 A.place, .int .i64 A.value, .int .i64 A.n])
        (first | with_reducible assumption | (refine HK.out _ ?_; (first | with_reducible exact (Below.refl _ _).drew | with_reducible exact below_held (by with_reducible assumption) (by with_reducible assumption))))
        (first | (go_at_call 32; refine (rcall_any S A _).mono ?_; rw [HCK.out]; rintro e1 wx ⟨rfl, hbx⟩) | (go_at_call 29; refine (rspot_any S R _).mono ?_; rw [HX.out]; rintro e1 wx ⟨rfl, hbx⟩))
      refine HKK.out _ _ _ _ _ _ _ _ _ _ _ _ _ _ _ _ _ _ _ _ _ _ _ _ _ _ _ _ ?_
      exact (And.left (by with_reducible assumption))
    · have dk := decide_eq_false hck
      have HCK := Lib.hid dk
      clear hck
      have HV : v = false := by rw [← hv]; simp only [d0, dk, Bool.true_and, Bool.false_and]
      subst HV
      clear hv
      clear dk
      conv => arg 2; whnf
      clear rq0 rq1 rq2 rq3 rq4 rq5 rq6 rq7 rq8 rq9 rq10 rq11 rq12 rq13 rq14 rq15 sq0 sq1 sq2 sq3 sq4 sq5 sq6 sq7 sq8 sq9 sq10 sq11 sq12 sq13 sq14 sq15 aq0 aq1 aq2 aq3 aq4 aq5 aq6 aq7 aq8 aq9 aq10 aq11 aq12 aq13 aq14 aq15
      refine wp_region_noPanic ?_
      refine wp_region_held_drew (S := (fun w' => Below wr.heap.size wr w' ∧ HeldRw w' (.pointer (some ⟨b, off + i * 16, none⟩)) ∧ rwOf w' (.pointer (some ⟨b, off + i * 16, none⟩)) = .agg #[.int .i64 R.kind, .int .i64 R.step, .int .i64 R.client, .int .i64 R.call, .int .i64 R.backend, .int .i64 R.incarnation, .int .i64 R.session, .int .i64 R.seq, .int .i64 R.what, .int .i64 R.key, .int .i64 R.other, .int .i64 R.amount, .int .i64 R.code, .int .i64 R.place, .int .i64 R.value, .int .i64 R.n] ∧ HeldRw w' (.pointer (some ⟨b, off + k * 16, none⟩)) ∧ rwOf w' (.pointer (some ⟨b, off + k * 16, none⟩)) = .agg #[.int .i64 S.kind, .int .i64 S.step, .int .i64 S.client, .int .i64 S.call, .int .i64 S.backend, .int .i64 S.incarnation, .int .i64 S.session, .int .i64 S.seq, .int .i64 S.what, .int .i64 S.key, .int .i64 S.other, .int .i64 S.amount, .int .i64 S.code, .int .i64 S.place, .int .i64 S.value, .int .i64 S.n] ∧ w'.cell? ⟨b, off + k * 16, none⟩ = some (.int .i64 S.kind) ∧ HeldRw w' (.pointer (some ⟨b, off + c * 16, none⟩)) ∧ rwOf w' (.pointer (some ⟨b, off + c * 16, none⟩)) = .agg #[.int .i64 A.kind, .int .i64 A.step, .int .i64 A.client, .int .i64 A.call, .int .i64 A.backend, .int .i64 A.incarnation, .int .i64 A.session, .int .i64 A.seq, .int .i64 A.what, .int .i64 A.key, .int .i64 A.other, .int .i64 A.amount, .int .i64 A.code, .int .i64 A.place, .int .i64 A.value, .int .i64 A.n])) (by kernel_rfl) ?_ (fun hHeld => ?_)
      · exact HK.out _ (Below.refl _ _).drew
      refine' wpAnyH_take (i := 0) (oi := _) (v := _) rfl (by kernel_rfl) (by kernel_rfl) (by kernel_rfl) (fun _ _ _ h => h) (Or.inl ⟨by rfl, ?hy0⟩) (by assumption) ?rest0
      case hy0 => (intro w hSw; (try dsimp only at hSw); (try simp only [List.getElem_toArray, List.getElem_cons_zero]); go_simp; try with_reducible rfl)
      (try simp only [Act.put, List.getElem_toArray, List.getElem_cons_zero, List.setIfInBounds_toArray, List.set_cons_zero, List.set_cons_succ])
      refine' wpAnyH_take (i := 1) (oi := _) (v := _) rfl (by kernel_rfl) (by kernel_rfl) (by kernel_rfl) (fun _ _ _ h => h) (Or.inl ⟨by rfl, ?hy1⟩) (by assumption) ?rest1
      case hy1 => (intro w hSw; (try dsimp only at hSw); (try simp only [List.getElem_toArray, List.getElem_cons_succ, List.getElem_cons_zero]); go_simp; try with_reducible rfl)
      (try simp only [Act.put, List.getElem_toArray, List.getElem_cons_succ, List.getElem_cons_zero, List.setIfInBounds_toArray, List.set_cons_zero, List.set_cons_succ])
      refine' wpAnyH_take (i := 2) (oi := _) (v := _) rfl (by kernel_rfl) (by kernel_rfl) (by kernel_rfl) (fun _ _ _ h => h) (Or.inl ⟨by rfl, ?hy2⟩) (by assumption) ?rest2
      case hy2 => (intro w hSw; (try dsimp only at hSw); (try simp only [List.getElem_toArray, List.getElem_cons_succ, List.getElem_cons_zero]); go_simp; try with_reducible rfl)
      (try simp only [Act.put, List.getElem_toArray, List.getElem_cons_succ, List.getElem_cons_zero, List.setIfInBounds_toArray, List.set_cons_zero, List.set_cons_succ])
      refine' wpAnyH_take (i := 3) (oi := _) (v := _) rfl (by kernel_rfl) (by kernel_rfl) (by kernel_rfl) (fun _ _ _ h => h) (Or.inl ⟨by rfl, ?hy3⟩) (by assumption) ?rest3
      case hy3 => (intro w hSw; (try dsimp only at hSw); (try simp only [List.getElem_toArray, List.getElem_cons_succ, List.getElem_cons_zero]); go_simp; try with_reducible rfl)
      (try simp only [Act.put, List.getElem_toArray, List.getElem_cons_succ, List.getElem_cons_zero, List.setIfInBounds_toArray, List.set_cons_zero, List.set_cons_succ])
      refine' wpAnyH_take (i := 4) (oi := _) (v := _) rfl (by kernel_rfl) (by kernel_rfl) (by kernel_rfl) (fun _ _ _ h => h) (Or.inl ⟨by rfl, ?hy4⟩) (by assumption) ?rest4
      case hy4 => (intro w hSw; (try dsimp only at hSw); (try simp only [List.getElem_toArray, List.getElem_cons_succ, List.getElem_cons_zero]); go_simp; try with_reducible rfl)
      (try simp only [Act.put, List.getElem_toArray, List.getElem_cons_succ, List.getElem_cons_zero, List.setIfInBounds_toArray, List.set_cons_zero, List.set_cons_succ])
      refine' wpAnyH_take (i := 5) (oi := _) (v := _) rfl (by kernel_rfl) (by kernel_rfl) (by kernel_rfl) (fun _ _ _ h => h) (Or.inl ⟨by rfl, ?hy5⟩) (by assumption) ?rest5
      case hy5 => (intro w hSw; (try dsimp only at hSw); (try simp only [List.getElem_toArray, List.getElem_cons_succ, List.getElem_cons_zero]); go_simp; try with_reducible rfl)
      (try simp only [Act.put, List.getElem_toArray, List.getElem_cons_succ, List.getElem_cons_zero, List.setIfInBounds_toArray, List.set_cons_zero, List.set_cons_succ])
      refine' wpAnyH_take (i := 6) (oi := _) (v := _) rfl (by kernel_rfl) (by kernel_rfl) (by kernel_rfl) (fun _ _ _ h => h) (Or.inl ⟨by rfl, ?hy6⟩) (by assumption) ?rest6
      case hy6 => (intro w hSw; (try dsimp only at hSw); (try simp only [List.getElem_toArray, List.getElem_cons_succ, List.getElem_cons_zero]); go_simp; try with_reducible rfl)
      (try simp only [Act.put, List.getElem_toArray, List.getElem_cons_succ, List.getElem_cons_zero, List.setIfInBounds_toArray, List.set_cons_zero, List.set_cons_succ])
      refine' wpAnyH_take (i := 7) (oi := _) (v := _) rfl (by kernel_rfl) (by kernel_rfl) (by kernel_rfl) (fun _ _ _ h => h) (Or.inl ⟨by rfl, ?hy7⟩) (by assumption) ?rest7
      case hy7 => (intro w hSw; (try dsimp only at hSw); (try simp only [List.getElem_toArray, List.getElem_cons_succ, List.getElem_cons_zero]); go_simp; try with_reducible rfl)
      (try simp only [Act.put, List.getElem_toArray, List.getElem_cons_succ, List.getElem_cons_zero, List.setIfInBounds_toArray, List.set_cons_zero, List.set_cons_succ])
      refine' wpAnyH_take (i := 8) (oi := _) (v := _) rfl (by kernel_rfl) (by kernel_rfl) (by kernel_rfl) (fun _ _ _ h => h) (Or.inl ⟨by rfl, ?hy8⟩) (by assumption) ?rest8
      case hy8 => (intro w hSw; (try dsimp only at hSw); (try simp only [List.getElem_toArray, List.getElem_cons_succ, List.getElem_cons_zero]); go_simp; try with_reducible rfl)
      (try simp only [Act.put, List.getElem_toArray, List.getElem_cons_succ, List.getElem_cons_zero, List.setIfInBounds_toArray, List.set_cons_zero, List.set_cons_succ])
      refine' wpAnyH_take (i := 9) (oi := _) (v := _) rfl (by kernel_rfl) (by kernel_rfl) (by kernel_rfl) (fun _ _ _ h => h) (Or.inl ⟨by rfl, ?hy9⟩) (by assumption) ?rest9
      case hy9 => (intro w hSw; (try dsimp only at hSw); (try simp only [List.getElem_toArray, List.getElem_cons_succ, List.getElem_cons_zero]); go_simp; try with_reducible rfl)
      (try simp only [Act.put, List.getElem_toArray, List.getElem_cons_succ, List.getElem_cons_zero, List.setIfInBounds_toArray, List.set_cons_zero, List.set_cons_succ])
      refine' wpAnyH_take (i := 10) (oi := _) (v := _) rfl (by kernel_rfl) (by kernel_rfl) (by kernel_rfl) (fun _ _ _ h => h) (Or.inl ⟨by rfl, ?hy10⟩) (by assumption) ?rest10
      case hy10 => (intro w hSw; (try dsimp only at hSw); (try simp only [List.getElem_toArray, List.getElem_cons_succ, List.getElem_cons_zero]); go_simp; try with_reducible rfl)
      (try simp only [Act.put, List.getElem_toArray, List.getElem_cons_succ, List.getElem_cons_zero, List.setIfInBounds_toArray, List.set_cons_zero, List.set_cons_succ])
      refine' wpAnyH_take (i := 11) (oi := _) (v := _) rfl (by kernel_rfl) (by kernel_rfl) (by kernel_rfl) (fun _ _ _ h => h) (Or.inl ⟨by rfl, ?hy11⟩) (by assumption) ?rest11
      case hy11 => (intro w hSw; (try dsimp only at hSw); (try simp only [List.getElem_toArray, List.getElem_cons_succ, List.getElem_cons_zero]); go_simp; try with_reducible rfl)
      (try simp only [Act.put, List.getElem_toArray, List.getElem_cons_succ, List.getElem_cons_zero, List.setIfInBounds_toArray, List.set_cons_zero, List.set_cons_succ])
      refine' wpAnyH_take (i := 12) (oi := _) (v := _) rfl (by kernel_rfl) (by kernel_rfl) (by kernel_rfl) (fun _ _ _ h => h) (Or.inl ⟨by rfl, ?hy12⟩) (by assumption) ?rest12
      case hy12 => (intro w hSw; (try dsimp only at hSw); (try simp only [List.getElem_toArray, List.getElem_cons_succ, List.getElem_cons_zero]); go_simp; try with_reducible rfl)
      (try simp only [Act.put, List.getElem_toArray, List.getElem_cons_succ, List.getElem_cons_zero, List.setIfInBounds_toArray, List.set_cons_zero, List.set_cons_succ])
      refine' wpAnyH_take (i := 13) (oi := _) (v := _) rfl (by kernel_rfl) (by kernel_rfl) (by kernel_rfl) (fun _ _ _ h => h) (Or.inl ⟨by rfl, ?hy13⟩) (by assumption) ?rest13
      case hy13 => (intro w hSw; (try dsimp only at hSw); (try simp only [List.getElem_toArray, List.getElem_cons_succ, List.getElem_cons_zero]); go_simp; try with_reducible rfl)
      (try simp only [Act.put, List.getElem_toArray, List.getElem_cons_succ, List.getElem_cons_zero, List.setIfInBounds_toArray, List.set_cons_zero, List.set_cons_succ])
      refine' wpAnyH_take (i := 14) (oi := _) (v := _) rfl (by kernel_rfl) (by kernel_rfl) (by kernel_rfl) (fun _ _ _ h => h) (Or.inl ⟨by rfl, ?hy14⟩) (by assumption) ?rest14
      case hy14 => (intro w hSw; (try dsimp only at hSw); (try simp only [List.getElem_toArray, List.getElem_cons_succ, List.getElem_cons_zero]); go_simp; try with_reducible rfl)
      (try simp only [Act.put, List.getElem_toArray, List.getElem_cons_succ, List.getElem_cons_zero, List.setIfInBounds_toArray, List.set_cons_zero, List.set_cons_succ])
      refine wpAnyH_ready (rs := [15]) (by kernel_rfl) (by simp) ?_
      refine AllReadyH.cons (o := _) rfl (fun K hK => ?_) AllReadyH.nil
      go_simp
      refine (rcall_any S A _).mono ?_; rw [HCK.out]; rintro e1 wx ⟨rfl, hbx⟩
      refine hK.out _ _ ?_ (fun hHeld => ?_)
      · exact HK.out _ (below_held hbx (by with_reducible assumption))
      clear hK K
      (try simp only [Act.put, List.getElem_toArray, List.getElem_cons_succ, List.getElem_cons_zero, List.setIfInBounds_toArray, List.set_cons_zero, List.set_cons_succ])
      refine' wpAnyH_take (i := 16) (oi := _) (v := _) rfl (by kernel_rfl) (by kernel_rfl) (by kernel_rfl) (fun _ _ _ h => h) (Or.inl ⟨by rfl, ?hy16⟩) (by assumption) ?rest16
      case hy16 => (intro w hSw; (try dsimp only at hSw); (try simp only [List.getElem_toArray, List.getElem_cons_succ, List.getElem_cons_zero]); go_simp; try with_reducible rfl)
      (try simp only [Act.put, List.getElem_toArray, List.getElem_cons_succ, List.getElem_cons_zero, List.setIfInBounds_toArray, List.set_cons_zero, List.set_cons_succ])
      refine' wpAnyH_take (i := 17) (oi := _) (v := _) rfl (by kernel_rfl) (by kernel_rfl) (by kernel_rfl) (fun _ _ _ h => h) (Or.inl ⟨by rfl, ?hy17⟩) (by assumption) ?rest17
      case hy17 => (intro w hSw; (try dsimp only at hSw); (try simp only [List.getElem_toArray, List.getElem_cons_succ, List.getElem_cons_zero]); go_simp; try with_reducible rfl)
      (try simp only [Act.put, List.getElem_toArray, List.getElem_cons_succ, List.getElem_cons_zero, List.setIfInBounds_toArray, List.set_cons_zero, List.set_cons_succ])
      refine' wpAnyH_take (i := 18) (oi := _) (v := undef) rfl (by kernel_rfl) (by kernel_rfl) (by kernel_rfl) (fun _ _ _ h => h) (Or.inr ⟨by rfl, rfl⟩) (by assumption) ?rest18
      (try simp only [Act.put, List.getElem_toArray, List.getElem_cons_succ, List.getElem_cons_zero, List.setIfInBounds_toArray, List.set_cons_zero, List.set_cons_succ])
      refine' wpAnyH_take (i := 19) (oi := _) (v := undef) rfl (by kernel_rfl) (by kernel_rfl) (by kernel_rfl) (fun _ _ _ h => h) (Or.inr ⟨by rfl, rfl⟩) (by assumption) ?rest19
      (try simp only [Act.put, List.getElem_toArray, List.getElem_cons_succ, List.getElem_cons_zero, List.setIfInBounds_toArray, List.set_cons_zero, List.set_cons_succ])
      refine' wpAnyH_take (i := 20) (oi := _) (v := undef) rfl (by kernel_rfl) (by kernel_rfl) (by kernel_rfl) (fun _ _ _ h => h) (Or.inr ⟨by rfl, rfl⟩) (by assumption) ?rest20
      (try simp only [Act.put, List.getElem_toArray, List.getElem_cons_succ, List.getElem_cons_zero, List.setIfInBounds_toArray, List.set_cons_zero, List.set_cons_succ])
      refine' wpAnyH_take (i := 21) (oi := _) (v := undef) rfl (by kernel_rfl) (by kernel_rfl) (by kernel_rfl) (fun _ _ _ h => h) (Or.inr ⟨by rfl, rfl⟩) (by assumption) ?rest21
      (try simp only [Act.put, List.getElem_toArray, List.getElem_cons_succ, List.getElem_cons_zero, List.setIfInBounds_toArray, List.set_cons_zero, List.set_cons_succ])
      refine' wpAnyH_take (i := 22) (oi := _) (v := undef) rfl (by kernel_rfl) (by kernel_rfl) (by kernel_rfl) (fun _ _ _ h => h) (Or.inr ⟨by rfl, rfl⟩) (by assumption) ?rest22
      (try simp only [Act.put, List.getElem_toArray, List.getElem_cons_succ, List.getElem_cons_zero, List.setIfInBounds_toArray, List.set_cons_zero, List.set_cons_succ])
      refine' wpAnyH_take (i := 23) (oi := _) (v := undef) rfl (by kernel_rfl) (by kernel_rfl) (by kernel_rfl) (fun _ _ _ h => h) (Or.inr ⟨by rfl, rfl⟩) (by assumption) ?rest23
      (try simp only [Act.put, List.getElem_toArray, List.getElem_cons_succ, List.getElem_cons_zero, List.setIfInBounds_toArray, List.set_cons_zero, List.set_cons_succ])
      refine' wpAnyH_take (i := 24) (oi := _) (v := undef) rfl (by kernel_rfl) (by kernel_rfl) (by kernel_rfl) (fun _ _ _ h => h) (Or.inr ⟨by rfl, rfl⟩) (by assumption) ?rest24
      (try simp only [Act.put, List.getElem_toArray, List.getElem_cons_succ, List.getElem_cons_zero, List.setIfInBounds_toArray, List.set_cons_zero, List.set_cons_succ])
      refine' wpAnyH_take (i := 25) (oi := _) (v := undef) rfl (by kernel_rfl) (by kernel_rfl) (by kernel_rfl) (fun _ _ _ h => h) (Or.inr ⟨by rfl, rfl⟩) (by assumption) ?rest25
      (try simp only [Act.put, List.getElem_toArray, List.getElem_cons_succ, List.getElem_cons_zero, List.setIfInBounds_toArray, List.set_cons_zero, List.set_cons_succ])
      refine' wpAnyH_take (i := 26) (oi := _) (v := undef) rfl (by kernel_rfl) (by kernel_rfl) (by kernel_rfl) (fun _ _ _ h => h) (Or.inr ⟨by rfl, rfl⟩) (by assumption) ?rest26
      (try simp only [Act.put, List.getElem_toArray, List.getElem_cons_succ, List.getElem_cons_zero, List.setIfInBounds_toArray, List.set_cons_zero, List.set_cons_succ])
      refine' wpAnyH_take (i := 27) (oi := _) (v := _) rfl (by kernel_rfl) (by kernel_rfl) (by kernel_rfl) (fun _ _ _ h => h) (Or.inl ⟨by rfl, ?hy27⟩) (by assumption) ?rest27
      case hy27 => (intro w hSw; (try dsimp only at hSw); (try simp only [List.getElem_toArray, List.getElem_cons_succ, List.getElem_cons_zero]); go_simp; try with_reducible rfl)
      (try simp only [Act.put, List.getElem_toArray, List.getElem_cons_succ, List.getElem_cons_zero, List.setIfInBounds_toArray, List.set_cons_zero, List.set_cons_succ])
      refine wpAnyH_done (by kernel_rfl) ?_ _
      refine NoPanic.normal ?_
      refine HKK.out _ _ _ _ _ _ _ _ _ _ _ _ _ _ _ _ _ _ _ _ _ _ _ _ _ _ _ _ ?_
      exact (And.left (by with_reducible assumption))
  · have d0 : decide (S.kind = 2) = false := decide_eq_false h0
    have e0 : (S.kind == 2) = false := d0
    clear h0
    have HV : v = false := by rw [← hv]; simp only [d0, Bool.false_and]
    subst HV
    clear hv
    conv => arg 2; whnf
    go_quiet (fail)
    refine HKK.out _ _ _ _ _ _ _ _ _ _ _ _ _ _ _ _ _ _ _ _ _ _ _ _ _ _ _ _ ?_
    exact below_drewN (Below.refl _ _) _
end Go.Proofs.Ytoingfnpffaopaa
