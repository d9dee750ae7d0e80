/- A row put into none. Conditions: none. -/
import Derived.Test.YtoingfnpffaopaaPut
import Derived.Deep.DeepCutAuto
namespace Go.Proofs.Ytoingfnpffaopaa
open Go.RowKit

set_option maxHeartbeats 40000000 in
set_option maxRecDepth 1000000 in
theorem put_none_full (a : Option Addr) (l : List Rw) (cap : Nat) (hnl : l.length = 0) (hcn : cap = 0) (W : World) (t0 t3 t4 t5 t6 t8 t9 t10 t11 t12 t13 t14 t15 t16 t17 t18 t19 t20 t21 t22 t23 t24 t25 t26 t27 t28 t29 t30 t31 t32 t33 t34 t35 t36 t37 t38 t39 t40 t41 t42 t43 t44 t45 t46 t47 t48 t49 t50 t51 t52 t53 t54 t55 t56 t57 t58 t59 t60 t61 t62 t63 t64 t65 t66 t67 t68 t69 t70 t71 t72 t73 t74 t75 t76 t77 t78 t79 t80 t81 t82 t83 t84 t85 t86 t87 : Value) (K : Act → World → Prop) (Q : Exit → Act → World → Prop)
    (hbig : l.length * 128 ≤ 140737488355200) (hcap : l.length ≤ cap) (hr : RowsAt W a l)
    (hK : ∀ (u27 u28 u29 u30 u31 u32 u33 u34 u35 u36 u37 u38 v7 : Value) (w' : World), Below W.heap.size W w' → w'.ownsRow W.heap.size 30 16 v7 (ins l 0 rOut).length (cellsR (ins l 0 rOut)) → K ⟨#[t0, .slice a 0 cap, .int .i64 0, t3, t4, t5, t6, v7, t8, t9, t10, t11, t12, t13, t14, t15, t16, t17, t18, t19, t20, t21, t22, t23, t24, t25, t26, u27, u28, u29, u30, u31, u32, u33, u34, u35, u36, u37, u38, t39, t40, t41, t42, t43, t44, t45, t46, t47, t48, t49, t50, t51, t52, t53, t54, t55, t56, t57, t58, t59, t60, t61, t62, t63, t64, t65, t66, t67, t68, t69, t70, t71, t72, t73, t74, t75, t76, t77, t78, t79, t80, t81, t82, t83, t84, t85, t86, t87], []⟩ w') :
    Code.wp Try.prog r5 (Exit.then K Q) ⟨#[t0, .slice a 0 cap, .int .i64 0, t3, t4, t5, t6, .slice none 0 0, t8, t9, t10, t11, t12, t13, t14, t15, t16, t17, t18, t19, t20, t21, t22, t23, t24, t25, t26, t27, t28, t29, t30, t31, t32, t33, t34, t35, t36, t37, t38, t39, t40, t41, t42, t43, t44, t45, t46, t47, t48, t49, t50, t51, t52, t53, t54, t55, t56, t57, t58, t59, t60, t61, t62, t63, t64, t65, t66, t67, t68, t69, t70, t71, t72, t73, t74, t75, t76, t77, t78, t79, t80, t81, t82, t83, t84, t85, t86, t87], []⟩ W := by
  obtain ⟨i0, hi0, hi1, hi2, hi3⟩ := info_parts info30
  have HR := Lib.hid hr
  have HKK := Lib.hid hK
  have HM1 := Lib.hid (show 0 + 1 ≤ maxLen by unfold maxLen; omega)
  have HB1 := Lib.hid (show (0 + 1) * 128 ≤ 140737488355328 by omega)
  subst hcn
  have i3 : (0 : Int) ≤ (0 : Int) := by omega
  obtain rfl := List.eq_nil_of_length_eq_zero hnl
  clear hbig hcap hr hK hnl
  have HK : Hid (∀ w', Below W.heap.size W w' → Below W.heap.size W w' ∧ True) := fun w' h => ⟨h, trivial⟩
  conv => arg 2; whnf
  go_region_held3 (fun w' => Below W.heap.size W w' ∧ True)
    (first | with_reducible assumption | (refine HK.out _ ?_; (first | with_reducible exact (Below.refl _ _).drew | with_reducible exact below_heldd (by with_reducible assumption) | with_reducible exact below_helda (by with_reducible assumption) | with_reducible exact HBG.out)))
    (first | (refine step_append_zero _ (by rfl) _ _ _ (by rfl) 30 i0 Try.underlying22 hi0 none 0 0 (by rfl) (Nat.le_refl _) _ _ (by rfl) ?_)
           | (refine step_append_lies _ (by rfl) _ _ _ (by rfl) W.heap.size 30 i0 _ 16 128 Try.underlying22 hi0 hi1 hi2 hi3 rfl (by omega) (.slice none 0 0) 0 [] (by rfl) (World.ownsRow_nil _ _ _ _) _ 1 _ (cellsR [rOut]) (by rfl) (by rfl) (World.news_of_block (cs := (cellsR [rOut]).toArray) (t := 30) (fr := (0, 0)) (by first | exact heap_alloc_new _ _ | exact hblk)) (one_cells _) (by omega) HM1.out HB1.out (size_held (by with_reducible assumption)) _ rfl ?_
              intro g2 cap2 wB hown2 hgrow2 _ _
              have HBG := Lib.hid (bg_row (by with_reducible assumption) (World.ownsRow_nil _ _ _ _) hgrow2)
              rw [Nat.zero_add, List.nil_append] at hown2
              rw [Nat.zero_add])
           | (refine step_append_zero _ (by rfl) _ _ _ (by rfl) 30 i0 Try.underlying22 hi0 (some ⟨g2, 0, none⟩) _ cap2 (by rfl) (own_cap hown2) _ _ (by rfl) ?_))
  all_goals
    refine HKK.out _ _ _ _ _ _ _ _ _ _ _ _ _ _ HBG.out ?_
    exact hown2
end Go.Proofs.Ytoingfnpffaopaa
