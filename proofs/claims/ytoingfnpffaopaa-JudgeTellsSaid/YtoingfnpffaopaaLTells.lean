/- The walk of JudgeTells, by what the twelve functions hand back. Conditions: what they hand back. -/
import Derived.Test.YtoingfnpffaopaaRf1
import Derived.Test.YtoingfnpffaopaaRf8
import Derived.Test.YtoingfnpffaopaaAlive
namespace Go.Proofs.Ytoingfnpffaopaa
open Go.RowKit

/-- The six calls on rows, the program's and the document's. -/
structure Six1 (cs : List Value) (a : Option Addr) (k cap : Nat) (f : Nat → Int) (w : World) : Prop where
  c0 : Calls Try.prog 9 #[.slice a k cap] w (Gives (.int .i64 (f 0)) w)
  c1 : Calls Try.prog 15 #[.slice a k cap] w (Gives (.int .i64 (f 1)) w)
  c2 : Calls Try.prog 17 #[.slice a k cap] w (Gives (.int .i64 (f 2)) w)
  c3 : Calls Try.prog 19 #[.slice a k cap] w (Gives (.int .i64 (f 3)) w)
  c4 : Calls Try.prog 21 #[.slice a k cap] w (Gives (.int .i64 (f 4)) w)
  c5 : Calls Try.prog 10 #[.agg cs.toArray, .slice a k cap] w (Gives (.int .i64 (f 5)) w)

structure Six2 (cs : List Value) (a : Option Addr) (k cap : Nat) (f : Nat → Int) (w : World) : Prop where
  c0 : Calls Try.prog 14 #[.slice a k cap] w (Gives (.int .i64 (f 0)) w)
  c1 : Calls Try.prog 16 #[.slice a k cap] w (Gives (.int .i64 (f 1)) w)
  c2 : Calls Try.prog 18 #[.slice a k cap] w (Gives (.int .i64 (f 2)) w)
  c3 : Calls Try.prog 20 #[.slice a k cap] w (Gives (.int .i64 (f 3)) w)
  c4 : Calls Try.prog 22 #[.slice a k cap] w (Gives (.int .i64 (f 4)) w)
  c5 : Calls Try.prog 23 #[.agg cs.toArray, .slice a k cap] w (Gives (.int .i64 (f 5)) w)

attribute [local go_sem ↓] run_load43

set_option maxHeartbeats 40000000 in
set_option maxRecDepth 1000000 in
theorem tells_gen (cs : List Value) (hcs : cs.length = 26) (a : Option Addr) (n cap : Nat) (f : Nat → Int) (x y : Int) (w : World)
    (hP : ∀ w1, Below w.heap.size w w1 → Six1 cs a n cap f w1) (hR : ∀ w1, Below w.heap.size w w1 → Six2 cs a n cap f w1)
    (hA : ∀ w1, Below w.heap.size w w1 → Calls Try.prog 12 #[.agg cs.toArray, .slice a n cap] w1 (Gives (.tuple #[.int .i64 x, .int .i64 y]) w1))
    (hA2 : ∀ w1, Below w.heap.size w w1 → Calls Try.prog 13 #[.agg cs.toArray, .slice a n cap] w1 (Gives (.tuple #[.int .i64 x, .int .i64 y]) w1)) :
    Calls Try.prog 5 #[.agg cs.toArray, .slice a n cap] w (Gives (.bool true) w) := by
  have HP := Lib.hid hP
  have HR := Lib.hid hR
  have HA := Lib.hid hA
  have HA2 := Lib.hid hA2
  have hX := CsB.new w w.heap.size rfl cs hcs
  have hcs1 := hX.held
  have hcs2 := hX.of
  have HX := Lib.hid hX
  have HB0 := Lib.hid (below_alloc (Below.refl w.heap.size w) (.cells cs.toArray 43))
  clear hP hR hA hA2 hX hcs
  go_enter Try.func5, Try.ntmps5
  go_wp2_with (fail)
  refine (HA.out _ HB0.out).mono ?_
  rintro e w1 ⟨rfl, hb⟩
  have HX1 := Lib.hid (HX.out.kept hb)
  have HB1 := Lib.hid (below_step HB0.out hb)
  clear hb hcs1 hcs2
  have hcs1 := HX1.out.held
  have hcs2 := HX1.out.of
  go_wp2_with (fail)
  refine (HA2.out _ HB1.out).mono ?_
  rintro e w2 ⟨rfl, hb⟩
  have HX2 := Lib.hid (HX1.out.kept hb)
  have HB := Lib.hid (below_step HB1.out hb)
  clear hb hcs1 hcs2
  go_upto_region 3 with fail
  have HK : Hid (∀ w', Below w2.heap.size w2 w' → Below w2.heap.size w2 w' ∧ HeldCs w' (.pointer (some ⟨w.heap.size, 0, none⟩)) ∧ csOf w' (.pointer (some ⟨w.heap.size, 0, none⟩)) = cs) := fun w' hb => ⟨hb, (HX2.out.kept hb).held, (HX2.out.kept hb).of⟩
  go_region_held3 (fun w' => Below w2.heap.size w2 w' ∧ HeldCs w' (.pointer (some ⟨w.heap.size, 0, none⟩)) ∧ csOf w' (.pointer (some ⟨w.heap.size, 0, none⟩)) = cs)
    (first | with_reducible assumption | (refine HK.out _ ?_; (first | with_reducible exact (Below.refl _ _).drew | with_reducible exact below_held (by with_reducible assumption) (by with_reducible assumption))))
    (first | (go_at_call 9; refine (HP.out _ (below_step HB.out (And.left (by with_reducible assumption)))).c0.mono ?_; rintro e1 wx ⟨rfl, hbx⟩)
           | (go_at_call 15; refine (HP.out _ (below_step HB.out (And.left (by with_reducible assumption)))).c1.mono ?_; rintro e1 wx ⟨rfl, hbx⟩)
           | (go_at_call 17; refine (HP.out _ (below_step HB.out (And.left (by with_reducible assumption)))).c2.mono ?_; rintro e1 wx ⟨rfl, hbx⟩)
           | (go_at_call 19; refine (HP.out _ (below_step HB.out (And.left (by with_reducible assumption)))).c3.mono ?_; rintro e1 wx ⟨rfl, hbx⟩)
           | (go_at_call 21; refine (HP.out _ (below_step HB.out (And.left (by with_reducible assumption)))).c4.mono ?_; rintro e1 wx ⟨rfl, hbx⟩)
           | (go_at_call 10; refine (HP.out _ (below_step HB.out (And.left (by with_reducible assumption)))).c5.mono ?_; rintro e1 wx ⟨rfl, hbx⟩)
           | (go_at_call 14; refine (HR.out _ (below_step HB.out (And.left (by with_reducible assumption)))).c0.mono ?_; rintro e1 wx ⟨rfl, hbx⟩)
           | (go_at_call 16; refine (HR.out _ (below_step HB.out (And.left (by with_reducible assumption)))).c1.mono ?_; rintro e1 wx ⟨rfl, hbx⟩)
           | (go_at_call 18; refine (HR.out _ (below_step HB.out (And.left (by with_reducible assumption)))).c2.mono ?_; rintro e1 wx ⟨rfl, hbx⟩)
           | (go_at_call 20; refine (HR.out _ (below_step HB.out (And.left (by with_reducible assumption)))).c3.mono ?_; rintro e1 wx ⟨rfl, hbx⟩)
           | (go_at_call 22; refine (HR.out _ (below_step HB.out (And.left (by with_reducible assumption)))).c4.mono ?_; rintro e1 wx ⟨rfl, hbx⟩)
           | (go_at_call 23; refine (HR.out _ (below_step HB.out (And.left (by with_reducible assumption)))).c5.mono ?_; rintro e1 wx ⟨rfl, hbx⟩)
           | (go_at_call 8; refine (alive_any _).mono ?_; rintro e1 wx ⟨rfl, hbx⟩))
  have HBE := Lib.hid (below_step HB.out (And.left (by with_reducible assumption)))
  go_wp2
  go_ret
  exact ⟨rfl, HBE.out⟩
end Go.Proofs.Ytoingfnpffaopaa
