/- The long guard of JudgeBegins, at 1: it is not met. Conditions: what the five calls hand back. -/
import Derived.Test.YtoingfnpffaopaaReg
import Derived.Deep.DeepCutAuto
namespace Go.Proofs.Ytoingfnpffaopaa
open Go.RowKit

attribute [local go_sem ↓] run_load43

set_option maxHeartbeats 40000000 in
set_option maxRecDepth 1000000 in
theorem reg11_1 (cs : List Value) (a : Option Addr) (k cap b : Nat) (x : Nat → Int) (W wr : World) (t0 t1 t3 t4 t5 t7 t9 t10 t11 t12 t13 t14 t15 t16 t17 t18 t19 t20 t21 t22 t23 t24 t25 t26 t27 t28 t29 t30 t31 t32 t33 t34 t35 t36 t37 t38 t39 t40 t41 t42 t43 t44 t45 t46 t47 t48 t49 t50 t51 t52 t53 t54 t55 t56 t57 t58 t59 t60 t61 t62 t63 t64 t65 t66 t67 t68 t69 t70 t71 t72 t73 t74 t75 t76 t77 t78 t79 t80 t81 t82 t83 t84 t85 t86 t87 t88 t89 t90 t91 t92 t93 t94 t95 t96 t97 t98 t99 t100 t101 t102 t103 t104 t105 t106 t107 t108 t109 t110 t111 t112 t113 t114 t115 t116 t117 t118 t119 t120 t121 t122 t123 t124 t125 t126 t127 t128 t129 t130 t131 t132 t133 t134 t135 t136 t137 t138 t139 t140 t141 t142 : Value) (K : Act → World → Prop) (Q : Exit → Act → World → Prop)
    (hbr : Below W.heap.size W wr) (hx : x 1 = -1) (hPX : ∀ w', Below W.heap.size W w' → Five cs a k cap x w') (hCS : ∀ w', Below W.heap.size W w' → HeldCs w' (.pointer (some ⟨b, 0, none⟩)) ∧ csOf w' (.pointer (some ⟨b, 0, none⟩)) = cs)
    (hK : ∀ (u41 u42 u43 u44 u45 u46 u47 u48 u49 u50 u51 u52 u53 u54 u55 u56 u57 u58 u59 u60 u61 u62 u63 u64 u65 u66 u67 u68 u69 u70 u71 u72 u73 u74 u75 u76 u77 u78 u79 u80 u81 u82 u83 : Value) (w' : World), Below W.heap.size W w' → K ⟨#[t0, t1, .pointer (some ⟨b, 0, none⟩), t3, t4, t5, .int .i64 1, t7, .slice a k cap, t9, t10, t11, t12, t13, t14, t15, t16, t17, t18, t19, t20, t21, t22, t23, t24, t25, t26, t27, t28, t29, t30, t31, t32, t33, t34, t35, t36, t37, t38, t39, t40, u41, u42, u43, u44, u45, u46, u47, u48, u49, u50, u51, u52, u53, u54, u55, u56, u57, u58, u59, u60, u61, u62, u63, u64, u65, u66, u67, u68, u69, u70, u71, u72, u73, u74, u75, u76, u77, u78, u79, u80, u81, u82, u83, .bool false, t85, t86, t87, t88, t89, t90, t91, t92, t93, t94, t95, t96, t97, t98, t99, t100, t101, t102, t103, t104, t105, t106, t107, t108, t109, t110, t111, t112, t113, t114, t115, t116, t117, t118, t119, t120, t121, t122, t123, t124, t125, t126, t127, t128, t129, t130, t131, t132, t133, t134, t135, t136, t137, t138, t139, t140, t141, t142], []⟩ w') :
    Code.wp Try.prog r11 (Exit.then K Q) ⟨#[t0, t1, .pointer (some ⟨b, 0, none⟩), t3, t4, t5, .int .i64 1, t7, .slice a k cap, t9, t10, t11, t12, t13, t14, t15, t16, t17, t18, t19, t20, t21, t22, t23, t24, t25, t26, t27, t28, t29, t30, t31, t32, t33, t34, t35, t36, t37, t38, t39, t40, t41, t42, t43, t44, t45, t46, t47, t48, t49, t50, t51, t52, t53, t54, t55, t56, t57, t58, t59, t60, t61, t62, t63, t64, t65, t66, t67, t68, t69, t70, t71, t72, t73, t74, t75, t76, t77, t78, t79, t80, t81, t82, t83, t84, t85, t86, t87, t88, t89, t90, t91, t92, t93, t94, t95, t96, t97, t98, t99, t100, t101, t102, t103, t104, t105, t106, t107, t108, t109, t110, t111, t112, t113, t114, t115, t116, t117, t118, t119, t120, t121, t122, t123, t124, t125, t126, t127, t128, t129, t130, t131, t132, t133, t134, t135, t136, t137, t138, t139, t140, t141, t142], []⟩ wr := by
  have HBR := Lib.hid hbr
  have HXI := Lib.hid hx
  have HPX := Lib.hid hPX
  have HCS := Lib.hid hCS
  have HK := Lib.hid hK
  clear hbr hx hPX hCS hK
  conv => arg 2; whnf
  go_wp2_with (first
    | (go_at_call 9; refine ((HPX.out _ HBR.out).c0).mono ?_; rintro e w0 ⟨rfl, hb0⟩; have HB0 := Lib.hid (below_step HBR.out hb0); clear hb0)
    | (go_at_call 15; refine ((HPX.out _ HB0.out).c1).mono ?_; rw [HXI.out]; rintro e w1 ⟨rfl, hb1⟩; have HB1 := Lib.hid (below_step HB0.out hb1); clear hb1)
    | (go_at_call 19; refine ((HPX.out _ HB1.out).c2).mono ?_; rintro e w2 ⟨rfl, hb2⟩; have HB2 := Lib.hid (below_step HB1.out hb2); clear hb2)
    | (go_at_call 21; refine ((HPX.out _ HB2.out).c3).mono ?_; rintro e w3 ⟨rfl, hb3⟩; have HB3 := Lib.hid (below_step HB2.out hb3); clear hb3; obtain ⟨hcs, hcs2⟩ := HCS.out _ HB3.out)
    | (go_at_call 10; refine ((HPX.out _ HB3.out).c4).mono ?_; rintro e w4 ⟨rfl, hb4⟩; have HB4 := Lib.hid (below_step HB3.out hb4); clear hb4))
  all_goals (refine HK.out _ _ _ _ _ _ _ _ _ _ _ _ _ _ _ _ _ _ _ _ _ _ _ _ _ _ _ _ _ _ _ _ _ _ _ _ _ _ _ _ _ _ _ _ ?_; exact HB4.out)
end Go.Proofs.Ytoingfnpffaopaa
