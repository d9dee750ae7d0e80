/- The walk of JudgeTells: it hands back true. Condition: the slice reads as the list. -/
import Derived.Test.YtoingfnpffaopaaLTells
import Derived.Test.YtoingfnpffaopaaRf2
import Derived.Test.YtoingfnpffaopaaRf3
import Derived.Test.YtoingfnpffaopaaRf4
import Derived.Test.YtoingfnpffaopaaRf5
import Derived.Test.YtoingfnpffaopaaRf7
import Derived.Test.YtoingfnpffaopaaRf9
namespace Go.Proofs.Ytoingfnpffaopaa
open Go.RowKit

/-- The six answers, by number. -/
def sixF (s : CS) (l : List Rw) : Nat → Int
  | 0 => idx (twiceP 3 l) l.length
  | 1 => idx (outP l) l.length
  | 2 => idx (rejP l) l.length
  | 3 => idx (pinP l) l.length
  | 4 => idx (truP l) l.length
  | _ => budI s l

theorem rtrue_any (a : Option Addr) (l : List Rw) (cap : Nat) (w : World) (hm : l.length ≤ maxLen) (hr : RowsAt w a l) :
    Calls Try.prog 22 #[.slice a l.length cap] w (Gives (.int .i64 (idx (truP l) l.length)) w) :=
  rtrue_gen a l cap w hm hr fun i w1 hi hr1 => rtold_any a l cap i w1 hm hi hr1

theorem tells_walk (s : CS) (a : Option Addr) (l : List Rw) (cap : Nat) (w : World) (hm : l.length ≤ maxLen) (hbig : l.length * 128 ≤ 140737488355328) (hr : RowsAt w a l) :
    Calls Try.prog 5 #[.agg [.int .i64 s.s0, .bool s.s1, .int .i64 s.s2, .int .i64 s.s3, .int .i64 s.s4, .int .i64 s.s5, .int .i64 s.s6, .int .i64 s.s7, .int .i64 s.s8, .int .i64 s.s9, .int .i64 s.s10, .int .i64 s.s11, .int .i64 s.s12, .int .i64 s.s13, .int .i64 s.s14, .int .i64 s.s15, .int .i64 s.s16, .int .i64 s.s17, .int .i64 s.s18, .int .i64 s.s19, .int .i64 s.s20, .int .i64 s.s21, .int .i64 s.s22, .int .i64 s.s23, .int .i64 s.s24, .int .i64 s.s25].toArray, .slice a l.length cap] w (Gives (.bool true) w) := by
  have h0 : ∀ w1, Below w.heap.size w w1 → RowsAt w1 a l := fun w1 hb => hr.below hb (Nat.le_refl _)
  refine tells_gen [.int .i64 s.s0, .bool s.s1, .int .i64 s.s2, .int .i64 s.s3, .int .i64 s.s4, .int .i64 s.s5, .int .i64 s.s6, .int .i64 s.s7, .int .i64 s.s8, .int .i64 s.s9, .int .i64 s.s10, .int .i64 s.s11, .int .i64 s.s12, .int .i64 s.s13, .int .i64 s.s14, .int .i64 s.s15, .int .i64 s.s16, .int .i64 s.s17, .int .i64 s.s18, .int .i64 s.s19, .int .i64 s.s20, .int .i64 s.s21, .int .i64 s.s22, .int .i64 s.s23, .int .i64 s.s24, .int .i64 s.s25] rfl a l.length cap (sixF s l) (allR (six s l)).1 (allR (six s l)).2 w (fun w1 hb => ?_) (fun w1 hb => ?_) (fun w1 hb => all_any s a l cap w1 hm hbig (h0 w1 hb)) (fun w1 hb => ?_)
  · have h := h0 w1 hb
    exact ⟨once_any a l cap w1 hm h, outcomes_any a l cap w1 hm h, rejected_any a l cap w1 hm h, pins_any a l cap w1 hm h, true_any a l cap w1 hm hbig h, budget_any s a l cap w1 hm h⟩
  · have h := h0 w1 hb
    exact ⟨ronce_any a l cap w1 hm h, rout_any a l cap w1 hm h, rrej_any a l cap w1 hm h, rpin_any a l cap w1 hm h, rtrue_any a l cap w1 hm h, rbud_any s a l cap w1 hm h⟩
  · have h := fun w2 (hb2 : Below w1.heap.size w1 w2) => (h0 w1 hb).below hb2 (Nat.le_refl _)
    exact rall_gen [.int .i64 s.s0, .bool s.s1, .int .i64 s.s2, .int .i64 s.s3, .int .i64 s.s4, .int .i64 s.s5, .int .i64 s.s6, .int .i64 s.s7, .int .i64 s.s8, .int .i64 s.s9, .int .i64 s.s10, .int .i64 s.s11, .int .i64 s.s12, .int .i64 s.s13, .int .i64 s.s14, .int .i64 s.s15, .int .i64 s.s16, .int .i64 s.s17, .int .i64 s.s18, .int .i64 s.s19, .int .i64 s.s20, .int .i64 s.s21, .int .i64 s.s22, .int .i64 s.s23, .int .i64 s.s24, .int .i64 s.s25] rfl a l.length cap _ _ _ _ _ _ w1 (fun w2 hb2 => ronce_any a l cap w2 hm (h w2 hb2)) (fun w2 hb2 => rout_any a l cap w2 hm (h w2 hb2)) (fun w2 hb2 => rrej_any a l cap w2 hm (h w2 hb2))
      (fun w2 hb2 => rpin_any a l cap w2 hm (h w2 hb2)) (fun w2 hb2 => rtrue_any a l cap w2 hm (h w2 hb2)) (fun w2 hb2 => rbud_any s a l cap w2 hm (h w2 hb2))
end Go.Proofs.Ytoingfnpffaopaa
