/- What the document's All hands back: the first of the six with a fault. Conditions: what the six hand back. -/
import Derived.Test.YtoingfnpffaopaaAll
import Derived.Test.YtoingfnpffaopaaRf1
import Derived.Deep.DeepCutAuto
namespace Go.Proofs.Ytoingfnpffaopaa
open Go.RowKit

attribute [local go_sem ↓] run_load43

set_option maxHeartbeats 8000000 in
set_option maxRecDepth 100000 in
theorem rall_gen (cs : List Value) (hcs : cs.length = 26) (a : Option Addr) (n : Nat) (cap : Nat) (v0 v1 v2 v3 v4 v5 : Int) (w : World)
    (h0 : ∀ w1, Below w.heap.size w w1 → Calls Try.prog 14 #[.slice a n cap] w1 (Gives (.int .i64 v0) w1))
    (h1 : ∀ w1, Below w.heap.size w w1 → Calls Try.prog 16 #[.slice a n cap] w1 (Gives (.int .i64 v1) w1))
    (h2 : ∀ w1, Below w.heap.size w w1 → Calls Try.prog 18 #[.slice a n cap] w1 (Gives (.int .i64 v2) w1))
    (h3 : ∀ w1, Below w.heap.size w w1 → Calls Try.prog 20 #[.slice a n cap] w1 (Gives (.int .i64 v3) w1))
    (h4 : ∀ w1, Below w.heap.size w w1 → Calls Try.prog 22 #[.slice a n cap] w1 (Gives (.int .i64 v4) w1))
    (h5 : ∀ w1, Below w.heap.size w w1 → Calls Try.prog 23 #[.agg cs.toArray, .slice a n cap] w1 (Gives (.int .i64 v5) w1)) :
    Calls Try.prog 13 #[.agg cs.toArray, .slice a n cap] w (Gives (.tuple #[.int .i64 (allR [v0, v1, v2, v3, v4, v5]).1, .int .i64 (allR [v0, v1, v2, v3, v4, v5]).2]) w) := by
  have H0 := Lib.hid h0
  have H1 := Lib.hid h1
  have H2 := Lib.hid h2
  have H3 := Lib.hid h3
  have H4 := Lib.hid h4
  have H5 := Lib.hid h5
  have hX := CsB.new w w.heap.size rfl cs hcs
  have hB0 := below_alloc (Below.refl w.heap.size w) (.cells cs.toArray 43)
  clear h0 h1 h2 h3 h4 h5 hcs
  go_enter Try.func13, Try.ntmps13
  go_wp2_with (fail)
  generalize w.alloc (.cells cs.toArray 43) = W at *
  have hK : ∀ w', Below W.heap.size W w' → Below W.heap.size W w' ∧ HeldCs w' (.pointer (some ⟨w.heap.size, 0, none⟩)) ∧ csOf w' (.pointer (some ⟨w.heap.size, 0, none⟩)) = cs := fun w' hb => ⟨hb, (hX.kept hb).held, (hX.kept hb).of⟩
  have HK := Lib.hid hK
  have HB := Lib.hid hB0
  clear hK hB0 hX
  go_region_held3 (fun w' => Below W.heap.size W w' ∧ HeldCs w' (.pointer (some ⟨w.heap.size, 0, none⟩)) ∧ csOf w' (.pointer (some ⟨w.heap.size, 0, none⟩)) = cs)
    (first | with_reducible assumption | (refine HK.out _ ?_; (first | with_reducible exact (Below.refl _ _).drew | with_reducible exact below_held (by with_reducible assumption) (by with_reducible assumption) | with_reducible exact below_helda (by with_reducible assumption))))
    (first | (go_at_call 14; refine (H0.out _ (below_step HB.out (And.left (by with_reducible assumption)))).mono ?_; rintro e1 wx ⟨rfl, hbx⟩)
           | (go_at_call 16; refine (H1.out _ (below_step HB.out (And.left (by with_reducible assumption)))).mono ?_; rintro e1 wx ⟨rfl, hbx⟩)
           | (go_at_call 18; refine (H2.out _ (below_step HB.out (And.left (by with_reducible assumption)))).mono ?_; rintro e1 wx ⟨rfl, hbx⟩)
           | (go_at_call 20; refine (H3.out _ (below_step HB.out (And.left (by with_reducible assumption)))).mono ?_; rintro e1 wx ⟨rfl, hbx⟩)
           | (go_at_call 22; refine (H4.out _ (below_step HB.out (And.left (by with_reducible assumption)))).mono ?_; rintro e1 wx ⟨rfl, hbx⟩)
           | (go_at_call 23; refine (H5.out _ (below_step HB.out (And.left (by with_reducible assumption)))).mono ?_; rintro e1 wx ⟨rfl, hbx⟩))
  have HI := Lib.hid (ints6 wx v0 v1 v2 v3 v4 v5)
  have HB2 : Hid (Below w.heap.size w (wx.alloc (.cells #[.int .i64 v0, .int .i64 v1, .int .i64 v2, .int .i64 v3, .int .i64 v4, .int .i64 v5] 3))) := below_step HB.out (And.left (by with_reducible assumption))
  rename_i hh
  clear hh
  generalize wx.alloc (.cells #[.int .i64 v0, .int .i64 v1, .int .i64 v2, .int .i64 v3, .int .i64 v4, .int .i64 v5] 3) = W2 at *
  generalize wx.heap.size = g at *
  have hvl : [v0, v1, v2, v3, v4, v5].length = 6 := rfl
  generalize [v0, v1, v2, v3, v4, v5] = vs at *
  have HVL := Lib.hid hvl
  clear hvl
  go_wp2
  go_loop [7] (fun vi => AllRel vs vi) (fun i => 6 - (intOf i).toNat)
  case atStart => exact ⟨0, Nat.zero_le _, rfl, fun j hj => absurd hj (Nat.not_lt_zero _)⟩
  case round =>
    obtain ⟨i, hi, rfl, hn⟩ := hrel
    have HN := Lib.hid hn
    clear hn
    by_cases hlt : i < 6
    · obtain ⟨ba, off, hba, hbw, hcell⟩ := HI.out.at (i := i) (by rw [HVL.out]; exact hlt)
      cases hba
      rw [Nat.zero_add] at hcell
      generalize hx : vs.getD i 0 = x at hcell
      have HX := Lib.hid hx
      clear hx hbw
      by_cases h0 : 0 ≤ x
      · go_upto_region 6 with fail
        go_quiet (fail)
        go_wp2
        go_ret2
        have e := allR_some hlt (by rw [HX.out]; exact h0) HN.out
        rw [HX.out] at e
        exact ⟨by rw [e]; rfl, below_drewN HB2.out _⟩
      · go_wp2
        go_round
        case rel => exact ⟨i + 1, by omega, by go_num, fun j hj => by
          rcases Nat.lt_or_ge j i with h | h
          · exact HN.out j h
          · obtain rfl : j = i := by omega
            rw [HX.out]; omega⟩
        case measure => simp [intOf]; omega
    · obtain rfl : i = 6 := by omega
      go_wp2
      go_ret2
      exact ⟨by rw [allR_none HN.out]; rfl, HB2.out⟩

end Go.Proofs.Ytoingfnpffaopaa
