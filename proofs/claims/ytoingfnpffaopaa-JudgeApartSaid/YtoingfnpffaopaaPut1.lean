/- A row put in between: behind some, ahead of some. Conditions: the slice reads as the list. -/
import Derived.Test.YtoingfnpffaopaaPut
import Derived.Deep.DeepCutAuto
namespace Go.Proofs.Ytoingfnpffaopaa
open Go.RowKit

set_option maxHeartbeats 40000000 in
set_option maxRecDepth 1000000 in
theorem put_mid (a : Option Addr) (l : List Rw) (n cap j : Nat) (hnl : l.length = n) (hj0 : 0 < j) (hjn : j < n) (W : World) (t0 t3 t4 t5 t6 t8 t9 t10 t11 t12 t13 t14 t15 t16 t17 t18 t19 t20 t21 t22 t23 t24 t25 t26 t27 t28 t29 t30 t31 t32 t33 t34 t35 t36 t37 t38 t39 t40 t41 t42 t43 t44 t45 t46 t47 t48 t49 t50 t51 t52 t53 t54 t55 t56 t57 t58 t59 t60 t61 t62 t63 t64 t65 t66 t67 t68 t69 t70 t71 t72 t73 t74 t75 t76 t77 t78 t79 t80 t81 t82 t83 t84 t85 t86 t87 : Value) (K : Act → World → Prop) (Q : Exit → Act → World → Prop)
    (hbig : l.length * 128 ≤ 140737488355200) (hcap : l.length ≤ cap) (hr : RowsAt W a l)
    (hK : ∀ (u27 u28 u29 u30 u31 u32 u33 u34 u35 u36 u37 u38 v7 : Value) (w' : World), Below W.heap.size W w' → w'.ownsRow W.heap.size 30 16 v7 (ins l j rOut).length (cellsR (ins l j rOut)) → K ⟨#[t0, .slice a n cap, .int .i64 ↑j, t3, t4, t5, t6, v7, t8, t9, t10, t11, t12, t13, t14, t15, t16, t17, t18, t19, t20, t21, t22, t23, t24, t25, t26, u27, u28, u29, u30, u31, u32, u33, u34, u35, u36, u37, u38, t39, t40, t41, t42, t43, t44, t45, t46, t47, t48, t49, t50, t51, t52, t53, t54, t55, t56, t57, t58, t59, t60, t61, t62, t63, t64, t65, t66, t67, t68, t69, t70, t71, t72, t73, t74, t75, t76, t77, t78, t79, t80, t81, t82, t83, t84, t85, t86, t87], []⟩ w') :
    Code.wp Try.prog r5 (Exit.then K Q) ⟨#[t0, .slice a n cap, .int .i64 ↑j, t3, t4, t5, t6, .slice none 0 0, t8, t9, t10, t11, t12, t13, t14, t15, t16, t17, t18, t19, t20, t21, t22, t23, t24, t25, t26, t27, t28, t29, t30, t31, t32, t33, t34, t35, t36, t37, t38, t39, t40, t41, t42, t43, t44, t45, t46, t47, t48, t49, t50, t51, t52, t53, t54, t55, t56, t57, t58, t59, t60, t61, t62, t63, t64, t65, t66, t67, t68, t69, t70, t71, t72, t73, t74, t75, t76, t77, t78, t79, t80, t81, t82, t83, t84, t85, t86, t87], []⟩ W := by
  obtain ⟨i0, hi0, hi1, hi2, hi3⟩ := info_parts info30
  have HR := Lib.hid hr
  have HKK := Lib.hid hK
  obtain ⟨b, off, rfl⟩ : ∃ b off, a = some ⟨b, off, none⟩ := by
    obtain ⟨b, off, e, _⟩ := hr.at (i := 0) (by omega)
    exact ⟨b, off, e⟩
  have HNL := Lib.hid hnl
  have hn2 : n ≤ 1099511627775 := by omega
  have hnc : n ≤ cap := by omega
  have HJL := Lib.hid (show j ≤ l.length by omega)
  have HJ0 := Lib.hid hj0
  have HJ3 := Lib.hid (show 0 < n - j by omega)
  have HM0 := Lib.hid (show 0 + j ≤ maxLen by unfold maxLen; omega)
  have HB0 := Lib.hid (show (0 + j) * 128 ≤ 140737488355328 by omega)
  have HM1 := Lib.hid (show j + 1 ≤ maxLen by unfold maxLen; omega)
  have HB1 := Lib.hid (show (j + 1) * 128 ≤ 140737488355328 by omega)
  have HM3 := Lib.hid (show j + 1 + (n - j) ≤ maxLen by unfold maxLen; omega)
  have HB3 := Lib.hid (show (j + 1 + (n - j)) * 128 ≤ 140737488355328 by omega)
  have HL1 := Lib.hid (show (cellsR (l.take j)).length = j * 16 by rw [cellsR_len, take_len l j (by omega)])
  have HL3 := Lib.hid (show (cellsR (l.drop j)).length = (n - j) * 16 by rw [cellsR_len, List.length_drop, hnl])
  have hjc : j < cap := by omega
  have hcj : cap ≠ j := by omega
  have i1 : (0 : Int) ≤ (j : Int) := by omega
  have i2 : (j : Int) ≤ (n : Int) := by omega
  have i3 : (j : Int) ≤ (cap : Int) := by omega
  have HLEN := Lib.hid (show (ins l j rOut).length = j + 1 + (n - j) by rw [ins_len l j (by omega), hnl]; omega)
  clear hbig hcap hr hK hnl
  have HK : Hid (∀ w', Below W.heap.size W w' → Below W.heap.size W w' ∧ True) := fun w' h => ⟨h, trivial⟩
  conv => arg 2; whnf
  go_region_held3 (fun w' => Below W.heap.size W w' ∧ True)
    (first | with_reducible assumption | (refine HK.out _ ?_; (first | with_reducible exact (Below.refl _ _).drew | with_reducible exact below_heldd (by with_reducible assumption) | with_reducible exact below_helda (by with_reducible assumption) | with_reducible exact HBG.out)))
    (first | (refine step_append_lies _ (by rfl) _ _ _ (by rfl) W.heap.size 30 i0 _ 16 128 Try.underlying22 hi0 hi1 hi2 hi3 rfl (by omega) (.slice none 0 0) 0 [] (by rfl) (World.ownsRow_nil _ _ _ _) ⟨b, off, none⟩ j _ (cellsR (l.take j)) (by rfl) HL1.out (news_rows ((rows_held HR.out (by with_reducible assumption)).take j HJL.out)) (one_cells _) HJ0.out HM0.out HB0.out (size_held (by with_reducible assumption)) _ rfl ?_
              intro g1 cap1 wA hown hgrow _ _
              have HBG := Lib.hid (bg_row (by with_reducible assumption) (World.ownsRow_nil _ _ _ _) hgrow)
              (try have hblk := grown_newd hgrow (by simp [Value.ownBlock]))
              (try have hblk := grown_new hgrow (by simp [Value.ownBlock]))
              rw [Nat.zero_add, List.nil_append] at hown
              rw [Nat.zero_add])
           | (refine step_append_lies _ (by rfl) _ _ _ (by rfl) W.heap.size 30 i0 _ 16 128 Try.underlying22 hi0 hi1 hi2 hi3 rfl (by omega) (.slice (some ⟨g1, 0, none⟩) j cap1) j (cellsR (l.take j)) (by rfl) (by first | exact hown | exact hown.alloc _) _ 1 _ (cellsR [rOut]) (by rfl) (by rfl) (World.news_of_block (cs := (cellsR [rOut]).toArray) (t := 30) (fr := (0, 0)) (by first | exact heap_alloc_new _ _ | exact hblk)) (one_cells _) (by omega) HM1.out HB1.out (size_held (by with_reducible assumption)) _ rfl ?_
              intro g2 cap2 wB hown2 hgrow2 _ _
              have HBG := Lib.hid (bg_row (by with_reducible assumption) (by first | exact hown | exact hown.alloc _) hgrow2))
           | (refine step_append_lies _ (by rfl) _ _ _ (by rfl) W.heap.size 30 i0 _ 16 128 Try.underlying22 hi0 hi1 hi2 hi3 rfl (by omega) (.slice (some ⟨g2, 0, none⟩) (j + 1) cap2) (j + 1) (cellsR (l.take j) ++ cellsR [rOut]) (by rfl) hown2 ⟨b, off + j * 16, none⟩ (n - j) _ (cellsR (l.drop j)) (by rfl) HL3.out (news_rows ((rows_held HR.out (by with_reducible assumption)).drop j)) (one_cells _) HJ3.out HM3.out HB3.out (size_held (by with_reducible assumption)) _ rfl ?_
              intro g3 cap3 wC hown3 hgrow3 _ _
              have HBG := Lib.hid (bg_row (by with_reducible assumption) hown2 hgrow3)))
  all_goals
    refine HKK.out _ _ _ _ _ _ _ _ _ _ _ _ _ _ HBG.out ?_
    unfold ins at HLEN ⊢
    rw [HLEN.out, cellsR_append, cellsR_append]
    exact hown3
end Go.Proofs.Ytoingfnpffaopaa
