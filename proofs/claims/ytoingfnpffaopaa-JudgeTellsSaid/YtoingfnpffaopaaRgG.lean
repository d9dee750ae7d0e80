/- The outer guard of the document's told. Conditions: the rows lie there. -/
import Derived.Test.YtoingfnpffaopaaRf1
import Derived.Test.YtoingfnpffaopaaHrow
import Derived.Deep.DeepCutAuto
namespace Go.Proofs.Ytoingfnpffaopaa
open Go.RowKit

attribute [local go_sem ↓] run_load30

noncomputable def r4t : Code := ((Try.f40.body.bind (regionAt 4)).getD .skip)

set_option maxHeartbeats 40000000 in
set_option maxRecDepth 1000000 in
theorem goodreg (c i : Nat) (b off n cap : Nat) (R A : Rw) (wr : World) (t2 t3 t4 t6 t7 t8 t9 t10 t11 t12 t13 t14 t15 t16 t17 t18 t19 t20 t21 t22 t23 t24 t25 t26 t27 t28 t29 t30 t31 t32 t33 t34 t35 t36 t37 t38 t39 t40 t41 t42 t43 t44 t45 t46 t47 t48 t49 t50 t51 t52 t53 t54 t55 t56 t57 t58 t59 t60 t61 t62 t63 t64 t65 t66 t67 t68 t69 t70 t71 t72 t73 t74 t75 t76 t77 t78 t79 t80 t81 t82 t83 t84 t85 t86 t87 t88 t89 t90 t91 t92 t93 t94 t95 t96 t97 : Value) (K : Act → World → Prop) (Q : Exit → Act → World → Prop) (hbw : b < wr.heap.size) (i2 : (i : Int) < (n : Int)) (i3 : (c : Int) < (n : Int)) (hR : RowAt wr b (off + i * 16) R) (hA : RowAt wr b (off + c * 16) A)
    (hK : ∀ (u12 u13 u14 u15 u16 u17 u18 u19 u20 u21 u22 u23 u24 u25 u26 u27 u28 u29 u30 u31 u32 u33 u34 u35 u36 u37 u38 u39 u40 u41 u42 u43 u44 u45 u46 u47 u48 u49 u50 u51 u52 u53 u54 u55 u56 u57 u58 u59 u60 u61 u62 u63 : Value) (w' : World), Below wr.heap.size wr w' → K ⟨List.toArray ((.slice (some ⟨b, off, none⟩) n cap) :: (.int .i64 ↑c) :: t2 :: t3 :: t4 :: (.int .i64 ↑i) :: t6 :: t7 :: t8 :: t9 :: t10 :: t11 :: u12 :: u13 :: u14 :: u15 :: u16 :: u17 :: u18 :: u19 :: u20 :: u21 :: u22 :: u23 :: u24 :: u25 :: u26 :: u27 :: u28 :: u29 :: u30 :: u31 :: u32 :: u33 :: u34 :: u35 :: u36 :: u37 :: u38 :: u39 :: u40 :: u41 :: u42 :: u43 :: u44 :: u45 :: u46 :: u47 :: u48 :: u49 :: u50 :: u51 :: u52 :: u53 :: u54 :: u55 :: u56 :: u57 :: u58 :: u59 :: u60 :: u61 :: u62 :: u63 :: (.bool (!((decide (R.kind = 3) || decide (R.kind = 4)) && (decide (R.client = A.client) && (decide (R.what = A.what) && (decide (R.key = A.key) && (decide (R.other = A.other) && (decide (R.amount = A.amount) && (decide (R.code = A.code) && (decide (R.place = A.place) && decide (R.value = A.value))))))))))) :: t65 :: t66 :: t67 :: t68 :: t69 :: t70 :: t71 :: t72 :: t73 :: t74 :: t75 :: t76 :: t77 :: t78 :: t79 :: t80 :: t81 :: t82 :: t83 :: t84 :: t85 :: t86 :: t87 :: t88 :: t89 :: t90 :: t91 :: t92 :: t93 :: t94 :: t95 :: t96 :: t97 :: []), []⟩ w') :
    Code.wp Try.prog r4t (Exit.then K Q) ⟨List.toArray ((.slice (some ⟨b, off, none⟩) n cap) :: (.int .i64 ↑c) :: t2 :: t3 :: t4 :: (.int .i64 ↑i) :: t6 :: t7 :: t8 :: t9 :: t10 :: t11 :: t12 :: t13 :: t14 :: t15 :: t16 :: t17 :: t18 :: t19 :: t20 :: t21 :: t22 :: t23 :: t24 :: t25 :: t26 :: t27 :: t28 :: t29 :: t30 :: t31 :: t32 :: t33 :: t34 :: t35 :: t36 :: t37 :: t38 :: t39 :: t40 :: t41 :: t42 :: t43 :: t44 :: t45 :: t46 :: t47 :: t48 :: t49 :: t50 :: t51 :: t52 :: t53 :: t54 :: t55 :: t56 :: t57 :: t58 :: t59 :: t60 :: t61 :: t62 :: t63 :: t64 :: t65 :: t66 :: t67 :: t68 :: t69 :: t70 :: t71 :: t72 :: t73 :: t74 :: t75 :: t76 :: t77 :: t78 :: t79 :: t80 :: t81 :: t82 :: t83 :: t84 :: t85 :: t86 :: t87 :: t88 :: t89 :: t90 :: t91 :: t92 :: t93 :: t94 :: t95 :: t96 :: t97 :: []), []⟩ wr := by
  have HKK := Lib.hid hK
  clear hK
  have HK : Hid (∀ w', Below wr.heap.size wr w' → Below wr.heap.size wr w' ∧ HeldRw w' (.pointer (some ⟨b, off + i * 16, none⟩)) ∧ rwOf w' (.pointer (some ⟨b, off + i * 16, none⟩)) = .agg #[.int .i64 R.kind, .int .i64 R.step, .int .i64 R.client, .int .i64 R.call, .int .i64 R.backend, .int .i64 R.incarnation, .int .i64 R.session, .int .i64 R.seq, .int .i64 R.what, .int .i64 R.key, .int .i64 R.other, .int .i64 R.amount, .int .i64 R.code, .int .i64 R.place, .int .i64 R.value, .int .i64 R.n] ∧ HeldRw w' (.pointer (some ⟨b, off + c * 16, none⟩)) ∧ rwOf w' (.pointer (some ⟨b, off + c * 16, none⟩)) = .agg #[.int .i64 A.kind, .int .i64 A.step, .int .i64 A.client, .int .i64 A.call, .int .i64 A.backend, .int .i64 A.incarnation, .int .i64 A.session, .int .i64 A.seq, .int .i64 A.what, .int .i64 A.key, .int .i64 A.other, .int .i64 A.amount, .int .i64 A.code, .int .i64 A.place, .int .i64 A.value, .int .i64 A.n]) := fun w' h => ⟨h, (hR.below h hbw).held, (hR.below h hbw).of, (hA.below h hbw).held, (hA.below h hbw).of⟩
  obtain ⟨rq0, rq1, rq2, rq3, rq4, rq5, rq6, rq7, rq8, rq9, rq10, rq11, rq12, rq13, rq14, rq15⟩ := hR
  obtain ⟨aq0, aq1, aq2, aq3, aq4, aq5, aq6, aq7, aq8, aq9, aq10, aq11, aq12, aq13, aq14, aq15⟩ := hA
  clear hbw
  obtain ⟨v, hv⟩ : ∃ v, (!((decide (R.kind = 3) || decide (R.kind = 4)) && (decide (R.client = A.client) && (decide (R.what = A.what) && (decide (R.key = A.key) && (decide (R.other = A.other) && (decide (R.amount = A.amount) && (decide (R.code = A.code) && (decide (R.place = A.place) && decide (R.value = A.value)))))))))) = v := ⟨_, rfl⟩
  rw [hv] at HKK
  by_cases h0 : R.kind = 3
  · have d0 : decide (R.kind = 3) = true := decide_eq_true h0
    have e0 : (R.kind == 3) = true := d0
    have m0 : (R.kind != 3) = false := by rw [bne, e0]; rfl
    clear h0
    by_cases hc : R.client = A.client
    · have dc0 : decide (R.client = A.client) = true := decide_eq_true hc
      have ec0 : (R.client == A.client) = true := dc0
      have mc0 : (R.client != A.client) = false := by rw [bne, ec0]; rfl
      clear hc
      by_cases hc : R.what = A.what
      · have dc1 : decide (R.what = A.what) = true := decide_eq_true hc
        have ec1 : (R.what == A.what) = true := dc1
        have mc1 : (R.what != A.what) = false := by rw [bne, ec1]; rfl
        clear hc
        by_cases hc : R.key = A.key
        · have dc2 : decide (R.key = A.key) = true := decide_eq_true hc
          have ec2 : (R.key == A.key) = true := dc2
          have mc2 : (R.key != A.key) = false := by rw [bne, ec2]; rfl
          clear hc
          by_cases hc : R.other = A.other
          · have dc3 : decide (R.other = A.other) = true := decide_eq_true hc
            have ec3 : (R.other == A.other) = true := dc3
            have mc3 : (R.other != A.other) = false := by rw [bne, ec3]; rfl
            clear hc
            by_cases hc : R.amount = A.amount
            · have dc4 : decide (R.amount = A.amount) = true := decide_eq_true hc
              have ec4 : (R.amount == A.amount) = true := dc4
              have mc4 : (R.amount != A.amount) = false := by rw [bne, ec4]; rfl
              clear hc
              by_cases hc : R.code = A.code
              · have dc5 : decide (R.code = A.code) = true := decide_eq_true hc
                have ec5 : (R.code == A.code) = true := dc5
                have mc5 : (R.code != A.code) = false := by rw [bne, ec5]; rfl
                clear hc
                by_cases hc : R.place = A.place
                · have dc6 : decide (R.place = A.place) = true := decide_eq_true hc
                  have ec6 : (R.place == A.place) = true := dc6
                  have mc6 : (R.place != A.place) = false := by rw [bne, ec6]; rfl
                  clear hc
                  by_cases hc : R.value = A.value
                  · have dc7 : decide (R.value = A.value) = true := decide_eq_true hc
                    have ec7 : (R.value == A.value) = true := dc7
                    have mc7 : (R.value != A.value) = false := by rw [bne, ec7]; rfl
                    clear hc
                    have HV : v = false := by rw [← hv]; simp only [d0, Bool.true_or, dc0, dc1, dc2, dc3, dc4, dc5, dc6, dc7, Bool.and_true, Bool.not_true]
                    subst HV
                    clear hv
                    conv => arg 2; whnf
                    go_quiet (fail)
                    refine HKK.out _ _ _ _ _ _ _ _ _ _ _ _ _ _ _ _ _ _ _ _ _ _ _ _ _ _ _ _ _ _ _ _ _ _ _ _ _ _ _ _ _ _ _ _ _ _ _ _ _ _ _ _ _ ?_
                    exact below_drewN (Below.refl _ _) _
                  · have dc7 : decide (R.value = A.value) = false := decide_eq_false hc
                    have ec7 : (R.value == A.value) = false := dc7
                    have mc7 : (R.value != A.value) = true := by rw [bne, ec7]; rfl
                    clear hc
                    have HV : v = true := by rw [← hv]; simp only [dc7, Bool.and_false, Bool.not_false]
                    subst HV
                    clear hv
                    conv => arg 2; whnf
                    go_quiet (fail)
                    refine HKK.out _ _ _ _ _ _ _ _ _ _ _ _ _ _ _ _ _ _ _ _ _ _ _ _ _ _ _ _ _ _ _ _ _ _ _ _ _ _ _ _ _ _ _ _ _ _ _ _ _ _ _ _ _ ?_
                    exact below_drewN (Below.refl _ _) _
                · have dc6 : decide (R.place = A.place) = false := decide_eq_false hc
                  have ec6 : (R.place == A.place) = false := dc6
                  have mc6 : (R.place != A.place) = true := by rw [bne, ec6]; rfl
                  clear hc
                  have HV : v = true := by rw [← hv]; simp only [dc6, Bool.false_and, Bool.and_false, Bool.not_false]
                  subst HV
                  clear hv
                  conv => arg 2; whnf
                  go_quiet (fail)
                  refine HKK.out _ _ _ _ _ _ _ _ _ _ _ _ _ _ _ _ _ _ _ _ _ _ _ _ _ _ _ _ _ _ _ _ _ _ _ _ _ _ _ _ _ _ _ _ _ _ _ _ _ _ _ _ _ ?_
                  exact below_drewN (Below.refl _ _) _
              · have dc5 : decide (R.code = A.code) = false := decide_eq_false hc
                have ec5 : (R.code == A.code) = false := dc5
                have mc5 : (R.code != A.code) = true := by rw [bne, ec5]; rfl
                clear hc
                have HV : v = true := by rw [← hv]; simp only [dc5, Bool.false_and, Bool.and_false, Bool.not_false]
                subst HV
                clear hv
                conv => arg 2; whnf
                go_quiet (fail)
                refine HKK.out _ _ _ _ _ _ _ _ _ _ _ _ _ _ _ _ _ _ _ _ _ _ _ _ _ _ _ _ _ _ _ _ _ _ _ _ _ _ _ _ _ _ _ _ _ _ _ _ _ _ _ _ _ ?_
                exact below_drewN (Below.refl _ _) _
            · have dc4 : decide (R.amount = A.amount) = false := decide_eq_false hc
              have ec4 : (R.amount == A.amount) = false := dc4
              have mc4 : (R.amount != A.amount) = true := by rw [bne, ec4]; rfl
              clear hc
              have HV : v = true := by rw [← hv]; simp only [dc4, Bool.false_and, Bool.and_false, Bool.not_false]
              subst HV
              clear hv
              conv => arg 2; whnf
              go_quiet (fail)
              refine HKK.out _ _ _ _ _ _ _ _ _ _ _ _ _ _ _ _ _ _ _ _ _ _ _ _ _ _ _ _ _ _ _ _ _ _ _ _ _ _ _ _ _ _ _ _ _ _ _ _ _ _ _ _ _ ?_
              exact below_drewN (Below.refl _ _) _
          · have dc3 : decide (R.other = A.other) = false := decide_eq_false hc
            have ec3 : (R.other == A.other) = false := dc3
            have mc3 : (R.other != A.other) = true := by rw [bne, ec3]; rfl
            clear hc
            have HV : v = true := by rw [← hv]; simp only [dc3, Bool.false_and, Bool.and_false, Bool.not_false]
            subst HV
            clear hv
            conv => arg 2; whnf
            go_quiet (fail)
            refine HKK.out _ _ _ _ _ _ _ _ _ _ _ _ _ _ _ _ _ _ _ _ _ _ _ _ _ _ _ _ _ _ _ _ _ _ _ _ _ _ _ _ _ _ _ _ _ _ _ _ _ _ _ _ _ ?_
            exact below_drewN (Below.refl _ _) _
        · have dc2 : decide (R.key = A.key) = false := decide_eq_false hc
          have ec2 : (R.key == A.key) = false := dc2
          have mc2 : (R.key != A.key) = true := by rw [bne, ec2]; rfl
          clear hc
          have HV : v = true := by rw [← hv]; simp only [dc2, Bool.false_and, Bool.and_false, Bool.not_false]
          subst HV
          clear hv
          conv => arg 2; whnf
          go_quiet (fail)
          refine HKK.out _ _ _ _ _ _ _ _ _ _ _ _ _ _ _ _ _ _ _ _ _ _ _ _ _ _ _ _ _ _ _ _ _ _ _ _ _ _ _ _ _ _ _ _ _ _ _ _ _ _ _ _ _ ?_
          exact below_drewN (Below.refl _ _) _
      · have dc1 : decide (R.what = A.what) = false := decide_eq_false hc
        have ec1 : (R.what == A.what) = false := dc1
        have mc1 : (R.what != A.what) = true := by rw [bne, ec1]; rfl
        clear hc
        have HV : v = true := by rw [← hv]; simp only [dc1, Bool.false_and, Bool.and_false, Bool.not_false]
        subst HV
        clear hv
        conv => arg 2; whnf
        go_quiet (fail)
        refine HKK.out _ _ _ _ _ _ _ _ _ _ _ _ _ _ _ _ _ _ _ _ _ _ _ _ _ _ _ _ _ _ _ _ _ _ _ _ _ _ _ _ _ _ _ _ _ _ _ _ _ _ _ _ _ ?_
        exact below_drewN (Below.refl _ _) _
    · have dc0 : decide (R.client = A.client) = false := decide_eq_false hc
      have ec0 : (R.client == A.client) = false := dc0
      have mc0 : (R.client != A.client) = true := by rw [bne, ec0]; rfl
      clear hc
      have HV : v = true := by rw [← hv]; simp only [dc0, Bool.false_and, Bool.and_false, Bool.not_false]
      subst HV
      clear hv
      conv => arg 2; whnf
      go_quiet (fail)
      refine HKK.out _ _ _ _ _ _ _ _ _ _ _ _ _ _ _ _ _ _ _ _ _ _ _ _ _ _ _ _ _ _ _ _ _ _ _ _ _ _ _ _ _ _ _ _ _ _ _ _ _ _ _ _ _ ?_
      exact below_drewN (Below.refl _ _) _
  · have d0 : decide (R.kind = 3) = false := decide_eq_false h0
    have e0 : (R.kind == 3) = false := d0
    have m0 : (R.kind != 3) = true := by rw [bne, e0]; rfl
    clear h0
    by_cases h1 : R.kind = 4
    · have d1 : decide (R.kind = 4) = true := decide_eq_true h1
      have e1 : (R.kind == 4) = true := d1
      have m1 : (R.kind != 4) = false := by rw [bne, e1]; rfl
      clear h1
      by_cases hc : R.client = A.client
      · have dc0 : decide (R.client = A.client) = true := decide_eq_true hc
        have ec0 : (R.client == A.client) = true := dc0
        have mc0 : (R.client != A.client) = false := by rw [bne, ec0]; rfl
        clear hc
        by_cases hc : R.what = A.what
        · have dc1 : decide (R.what = A.what) = true := decide_eq_true hc
          have ec1 : (R.what == A.what) = true := dc1
          have mc1 : (R.what != A.what) = false := by rw [bne, ec1]; rfl
          clear hc
          by_cases hc : R.key = A.key
          · have dc2 : decide (R.key = A.key) = true := decide_eq_true hc
            have ec2 : (R.key == A.key) = true := dc2
            have mc2 : (R.key != A.key) = false := by rw [bne, ec2]; rfl
            clear hc
            by_cases hc : R.other = A.other
            · have dc3 : decide (R.other = A.other) = true := decide_eq_true hc
              have ec3 : (R.other == A.other) = true := dc3
              have mc3 : (R.other != A.other) = false := by rw [bne, ec3]; rfl
              clear hc
              by_cases hc : R.amount = A.amount
              · have dc4 : decide (R.amount = A.amount) = true := decide_eq_true hc
                have ec4 : (R.amount == A.amount) = true := dc4
                have mc4 : (R.amount != A.amount) = false := by rw [bne, ec4]; rfl
                clear hc
                by_cases hc : R.code = A.code
                · have dc5 : decide (R.code = A.code) = true := decide_eq_true hc
                  have ec5 : (R.code == A.code) = true := dc5
                  have mc5 : (R.code != A.code) = false := by rw [bne, ec5]; rfl
                  clear hc
                  by_cases hc : R.place = A.place
                  · have dc6 : decide (R.place = A.place) = true := decide_eq_true hc
                    have ec6 : (R.place == A.place) = true := dc6
                    have mc6 : (R.place != A.place) = false := by rw [bne, ec6]; rfl
                    clear hc
                    by_cases hc : R.value = A.value
                    · have dc7 : decide (R.value = A.value) = true := decide_eq_true hc
                      have ec7 : (R.value == A.value) = true := dc7
                      have mc7 : (R.value != A.value) = false := by rw [bne, ec7]; rfl
                      clear hc
                      have HV : v = false := by rw [← hv]; simp only [d0, d1, Bool.or_true, dc0, dc1, dc2, dc3, dc4, dc5, dc6, dc7, Bool.and_true, Bool.not_true]
                      subst HV
                      clear hv
                      conv => arg 2; whnf
                      go_quiet (fail)
                      refine HKK.out _ _ _ _ _ _ _ _ _ _ _ _ _ _ _ _ _ _ _ _ _ _ _ _ _ _ _ _ _ _ _ _ _ _ _ _ _ _ _ _ _ _ _ _ _ _ _ _ _ _ _ _ _ ?_
                      exact below_drewN (Below.refl _ _) _
                    · have dc7 : decide (R.value = A.value) = false := decide_eq_false hc
                      have ec7 : (R.value == A.value) = false := dc7
                      have mc7 : (R.value != A.value) = true := by rw [bne, ec7]; rfl
                      clear hc
                      have HV : v = true := by rw [← hv]; simp only [dc7, Bool.and_false, Bool.not_false]
                      subst HV
                      clear hv
                      conv => arg 2; whnf
                      go_quiet (fail)
                      refine HKK.out _ _ _ _ _ _ _ _ _ _ _ _ _ _ _ _ _ _ _ _ _ _ _ _ _ _ _ _ _ _ _ _ _ _ _ _ _ _ _ _ _ _ _ _ _ _ _ _ _ _ _ _ _ ?_
                      exact below_drewN (Below.refl _ _) _
                  · have dc6 : decide (R.place = A.place) = false := decide_eq_false hc
                    have ec6 : (R.place == A.place) = false := dc6
                    have mc6 : (R.place != A.place) = true := by rw [bne, ec6]; rfl
                    clear hc
                    have HV : v = true := by rw [← hv]; simp only [dc6, Bool.false_and, Bool.and_false, Bool.not_false]
                    subst HV
                    clear hv
                    conv => arg 2; whnf
                    go_quiet (fail)
                    refine HKK.out _ _ _ _ _ _ _ _ _ _ _ _ _ _ _ _ _ _ _ _ _ _ _ _ _ _ _ _ _ _ _ _ _ _ _ _ _ _ _ _ _ _ _ _ _ _ _ _ _ _ _ _ _ ?_
                    exact below_drewN (Below.refl _ _) _
                · have dc5 : decide (R.code = A.code) = false := decide_eq_false hc
                  have ec5 : (R.code == A.code) = false := dc5
                  have mc5 : (R.code != A.code) = true := by rw [bne, ec5]; rfl
                  clear hc
                  have HV : v = true := by rw [← hv]; simp only [dc5, Bool.false_and, Bool.and_false, Bool.not_false]
                  subst HV
                  clear hv
                  conv => arg 2; whnf
                  go_quiet (fail)
                  refine HKK.out _ _ _ _ _ _ _ _ _ _ _ _ _ _ _ _ _ _ _ _ _ _ _ _ _ _ _ _ _ _ _ _ _ _ _ _ _ _ _ _ _ _ _ _ _ _ _ _ _ _ _ _ _ ?_
                  exact below_drewN (Below.refl _ _) _
              · have dc4 : decide (R.amount = A.amount) = false := decide_eq_false hc
                have ec4 : (R.amount == A.amount) = false := dc4
                have mc4 : (R.amount != A.amount) = true := by rw [bne, ec4]; rfl
                clear hc
                have HV : v = true := by rw [← hv]; simp only [dc4, Bool.false_and, Bool.and_false, Bool.not_false]
                subst HV
                clear hv
                conv => arg 2; whnf
                go_quiet (fail)
                refine HKK.out _ _ _ _ _ _ _ _ _ _ _ _ _ _ _ _ _ _ _ _ _ _ _ _ _ _ _ _ _ _ _ _ _ _ _ _ _ _ _ _ _ _ _ _ _ _ _ _ _ _ _ _ _ ?_
                exact below_drewN (Below.refl _ _) _
            · have dc3 : decide (R.other = A.other) = false := decide_eq_false hc
              have ec3 : (R.other == A.other) = false := dc3
              have mc3 : (R.other != A.other) = true := by rw [bne, ec3]; rfl
              clear hc
              have HV : v = true := by rw [← hv]; simp only [dc3, Bool.false_and, Bool.and_false, Bool.not_false]
              subst HV
              clear hv
              conv => arg 2; whnf
              go_quiet (fail)
              refine HKK.out _ _ _ _ _ _ _ _ _ _ _ _ _ _ _ _ _ _ _ _ _ _ _ _ _ _ _ _ _ _ _ _ _ _ _ _ _ _ _ _ _ _ _ _ _ _ _ _ _ _ _ _ _ ?_
              exact below_drewN (Below.refl _ _) _
          · have dc2 : decide (R.key = A.key) = false := decide_eq_false hc
            have ec2 : (R.key == A.key) = false := dc2
            have mc2 : (R.key != A.key) = true := by rw [bne, ec2]; rfl
            clear hc
            have HV : v = true := by rw [← hv]; simp only [dc2, Bool.false_and, Bool.and_false, Bool.not_false]
            subst HV
            clear hv
            conv => arg 2; whnf
            go_quiet (fail)
            refine HKK.out _ _ _ _ _ _ _ _ _ _ _ _ _ _ _ _ _ _ _ _ _ _ _ _ _ _ _ _ _ _ _ _ _ _ _ _ _ _ _ _ _ _ _ _ _ _ _ _ _ _ _ _ _ ?_
            exact below_drewN (Below.refl _ _) _
        · have dc1 : decide (R.what = A.what) = false := decide_eq_false hc
          have ec1 : (R.what == A.what) = false := dc1
          have mc1 : (R.what != A.what) = true := by rw [bne, ec1]; rfl
          clear hc
          have HV : v = true := by rw [← hv]; simp only [dc1, Bool.false_and, Bool.and_false, Bool.not_false]
          subst HV
          clear hv
          conv => arg 2; whnf
          go_quiet (fail)
          refine HKK.out _ _ _ _ _ _ _ _ _ _ _ _ _ _ _ _ _ _ _ _ _ _ _ _ _ _ _ _ _ _ _ _ _ _ _ _ _ _ _ _ _ _ _ _ _ _ _ _ _ _ _ _ _ ?_
          exact below_drewN (Below.refl _ _) _
      · have dc0 : decide (R.client = A.client) = false := decide_eq_false hc
        have ec0 : (R.client == A.client) = false := dc0
        have mc0 : (R.client != A.client) = true := by rw [bne, ec0]; rfl
        clear hc
        have HV : v = true := by rw [← hv]; simp only [dc0, Bool.false_and, Bool.and_false, Bool.not_false]
        subst HV
        clear hv
        conv => arg 2; whnf
        go_quiet (fail)
        refine HKK.out _ _ _ _ _ _ _ _ _ _ _ _ _ _ _ _ _ _ _ _ _ _ _ _ _ _ _ _ _ _ _ _ _ _ _ _ _ _ _ _ _ _ _ _ _ _ _ _ _ _ _ _ _ ?_
        exact below_drewN (Below.refl _ _) _
    · have d1 : decide (R.kind = 4) = false := decide_eq_false h1
      have e1 : (R.kind == 4) = false := d1
      have m1 : (R.kind != 4) = true := by rw [bne, e1]; rfl
      clear h1
      have HV : v = true := by rw [← hv]; simp only [d0, d1, Bool.or_self, Bool.false_and, Bool.not_false]
      subst HV
      clear hv
      conv => arg 2; whnf
      go_quiet (fail)
      refine HKK.out _ _ _ _ _ _ _ _ _ _ _ _ _ _ _ _ _ _ _ _ _ _ _ _ _ _ _ _ _ _ _ _ _ _ _ _ _ _ _ _ _ _ _ _ _ _ _ _ _ _ _ _ _ ?_
      exact below_drewN (Below.refl _ _) _
end Go.Proofs.Ytoingfnpffaopaa
