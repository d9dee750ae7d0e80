/- The walk of JudgeApart: it hands back true. Condition: the slice reads as the list. -/
import Derived.Test.YtoingfnpffaopaaPut1
import Derived.Test.YtoingfnpffaopaaPut2
import Derived.Test.YtoingfnpffaopaaPut3
import Derived.Test.YtoingfnpffaopaaPut4
import Derived.Test.YtoingfnpffaopaaPut5
import Derived.Test.YtoingfnpffaopaaPut6
namespace Go.Proofs.Ytoingfnpffaopaa
open Go.RowKit

/-- The six calls on rows. -/
structure Six (cs : List Value) (a : Option Addr) (k cap : Nat) (f : Nat → Int) (w : World) : Prop where
  c0 : Calls Try.prog 9 #[.slice a k cap] w (Gives (.int .i64 (f 0)) w)
  c1 : Calls Try.prog 15 #[.slice a k cap] w (Gives (.int .i64 (f 1)) w)
  c2 : Calls Try.prog 17 #[.slice a k cap] w (Gives (.int .i64 (f 2)) w)
  c3 : Calls Try.prog 19 #[.slice a k cap] w (Gives (.int .i64 (f 3)) w)
  c4 : Calls Try.prog 21 #[.slice a k cap] w (Gives (.int .i64 (f 4)) w)
  c5 : Calls Try.prog 10 #[.agg cs.toArray, .slice a k cap] w (Gives (.int .i64 (f 5)) w)

theorem six_calls (s : CS) (a : Option Addr) (l : List Rw) (k cap : Nat) (w : World) (hk : l.length = k) (hm : k ≤ maxLen) (hbig : k * 128 ≤ 140737488355328) (hr : RowsAt w a l) : Six [.int .i64 s.s0, .bool s.s1, .int .i64 s.s2, .int .i64 s.s3, .int .i64 s.s4, .int .i64 s.s5, .int .i64 s.s6, .int .i64 s.s7, .int .i64 s.s8, .int .i64 s.s9, .int .i64 s.s10, .int .i64 s.s11, .int .i64 s.s12, .int .i64 s.s13, .int .i64 s.s14, .int .i64 s.s15, .int .i64 s.s16, .int .i64 s.s17, .int .i64 s.s18, .int .i64 s.s19, .int .i64 s.s20, .int .i64 s.s21, .int .i64 s.s22, .int .i64 s.s23, .int .i64 s.s24, .int .i64 s.s25] a k cap (sixI s l) w := by
  subst hk
  exact ⟨once_any a l cap w hm hr, outcomes_any a l cap w hm hr, rejected_any a l cap w hm hr, pins_any a l cap w hm hr, true_any a l cap w hm hbig hr, budget_any s a l cap w hm hr⟩

theorem six_range (s : CS) (l : List Rw) (i : Nat) : -1 ≤ sixI s l i ∧ sixI s l i < l.length := by
  unfold sixI
  split
  all_goals first | exact idx_lt _ _ | (rcases bud_range s l with e | ⟨k, hk, e⟩ <;> rw [e] <;> omega)

theorem cells6 {w : World} {g : Nat} {f : Nat → Int} (h : w.heap[g]? = some (.cells #[.int .i64 (f 0), .int .i64 (f 1), .int .i64 (f 2), .int .i64 (f 3), .int .i64 (f 4), .int .i64 (f 5)] 3 (0, 0))) : w.cell? ⟨g, 0, none⟩ = some (.int .i64 (f 0)) ∧ w.cell? ⟨g, 1, none⟩ = some (.int .i64 (f 1)) ∧ w.cell? ⟨g, 2, none⟩ = some (.int .i64 (f 2)) ∧ w.cell? ⟨g, 3, none⟩ = some (.int .i64 (f 3)) ∧ w.cell? ⟨g, 4, none⟩ = some (.int .i64 (f 4)) ∧ w.cell? ⟨g, 5, none⟩ = some (.int .i64 (f 5)) := by
  simp [World.cell?, h]

theorem own_slice {w : World} {B n : Nat} {v : Value} {l : List Rw} (hn : n = l.length) (h : w.ownsRow B 30 16 v n (cellsR l)) : ∃ a cap, v = .slice a l.length cap ∧ RowsAt w a l := by
  subst hn
  rcases h.2 with ⟨e, h0⟩ | ⟨g, cap, cur, e, _, _, _⟩
  · exact ⟨none, 0, by rw [e, h0], .inl (List.eq_nil_of_length_eq_zero h0)⟩
  · subst e
    exact ⟨some ⟨g, 0, none⟩, cap, rfl, (rows_own h).2⟩

theorem tmod_bd1 (z : Int) (n : Nat) : -((n : Int) + 1) < z.tmod ((n : Int) + 1) ∧ z.tmod ((n : Int) + 1) < (n : Int) + 1 := by
  have h := Int.tmod_lt_of_pos z (show (0 : Int) < (n : Int) + 1 by omega)
  have h2 := Int.tmod_lt_of_pos (-z) (show (0 : Int) < (n : Int) + 1 by omega)
  rw [Int.neg_tmod] at h2
  omega

/-- What holds at the head of a round. -/
def ApRel (W : World) (v10 : Value) (wr : World) : Prop := ∃ z : Int, 0 ≤ z ∧ z ≤ 6 ∧ v10 = .int .i64 z ∧ Below W.heap.size W wr

attribute [local go_sem ↓] run_load43

set_option maxHeartbeats 40000000 in
set_option maxRecDepth 1000000 in
theorem apart_walk (s : CS) (a : Option Addr) (l : List Rw) (z : Int) (cap : Nat) (w : World) (hm : l.length ≤ maxLen) (hbig : l.length * 128 ≤ 140737488355200) (hcap : l.length ≤ cap) (hr : RowsAt w a l) :
    Calls Try.prog 7 #[.agg [.int .i64 s.s0, .bool s.s1, .int .i64 s.s2, .int .i64 s.s3, .int .i64 s.s4, .int .i64 s.s5, .int .i64 s.s6, .int .i64 s.s7, .int .i64 s.s8, .int .i64 s.s9, .int .i64 s.s10, .int .i64 s.s11, .int .i64 s.s12, .int .i64 s.s13, .int .i64 s.s14, .int .i64 s.s15, .int .i64 s.s16, .int .i64 s.s17, .int .i64 s.s18, .int .i64 s.s19, .int .i64 s.s20, .int .i64 s.s21, .int .i64 s.s22, .int .i64 s.s23, .int .i64 s.s24, .int .i64 s.s25].toArray, .slice a l.length cap, .int .i64 z] w (Gives (.bool true) w) := by
  have hn2 : l.length ≤ 1099511627775 := by omega
  have HRG := Lib.hid (six_range s l)
  have HS := Lib.hid (fun (w1 : World) (hr1 : RowsAt w1 a l) => six_calls s a l l.length cap w1 rfl hm (by omega) hr1)
  have HSM := Lib.hid (fun (j : Nat) (hj : j ≤ l.length) (a2 : Option Addr) (cap2 : Nat) (w1 : World) (hr1 : RowsAt w1 a2 (ins l j rOut)) => six_calls s a2 (ins l j rOut) (ins l j rOut).length cap2 w1 rfl (by rw [ins_len l j hj]; unfold maxLen; omega) (by rw [ins_len l j hj]; omega) hr1)
  have HIN := Lib.hid (fun (j : Nat) (hj : j ≤ l.length) => six_ins s l j hj)
  have HRW := Lib.hid hr
  have HBIG := Lib.hid hbig
  have HCAP := Lib.hid hcap
  have hlen : ([.int .i64 s.s0, .bool s.s1, .int .i64 s.s2, .int .i64 s.s3, .int .i64 s.s4, .int .i64 s.s5, .int .i64 s.s6, .int .i64 s.s7, .int .i64 s.s8, .int .i64 s.s9, .int .i64 s.s10, .int .i64 s.s11, .int .i64 s.s12, .int .i64 s.s13, .int .i64 s.s14, .int .i64 s.s15, .int .i64 s.s16, .int .i64 s.s17, .int .i64 s.s18, .int .i64 s.s19, .int .i64 s.s20, .int .i64 s.s21, .int .i64 s.s22, .int .i64 s.s23, .int .i64 s.s24, .int .i64 s.s25] : List Value).length = 26 := rfl
  generalize ([.int .i64 s.s0, .bool s.s1, .int .i64 s.s2, .int .i64 s.s3, .int .i64 s.s4, .int .i64 s.s5, .int .i64 s.s6, .int .i64 s.s7, .int .i64 s.s8, .int .i64 s.s9, .int .i64 s.s10, .int .i64 s.s11, .int .i64 s.s12, .int .i64 s.s13, .int .i64 s.s14, .int .i64 s.s15, .int .i64 s.s16, .int .i64 s.s17, .int .i64 s.s18, .int .i64 s.s19, .int .i64 s.s20, .int .i64 s.s21, .int .i64 s.s22, .int .i64 s.s23, .int .i64 s.s24, .int .i64 s.s25] : List Value) = cs at *
  obtain ⟨f, hf⟩ : ∃ f, sixI s l = f := ⟨_, rfl⟩
  rw [hf] at HRG HS HIN
  clear hf
  have hX := CsB.new w w.heap.size rfl cs hlen
  have hB0 := below_alloc (Below.refl w.heap.size w) (.cells cs.toArray 43)
  clear hr hm hbig hlen
  obtain ⟨n, hnl⟩ : ∃ n, l.length = n := ⟨_, rfl⟩
  have HCN := Lib.hid (show n ≤ cap by omega)
  rw [hnl] at hn2 HRG HS ⊢
  have HNL := Lib.hid hnl
  clear hnl hcap
  obtain ⟨hz0, hz1⟩ := tmod_bd1 z n
  go_enter Try.func7, Try.ntmps7
  go_wp2_with (fail)
  refine (alive_any _).mono ?_
  rintro e1 W ⟨rfl, hb⟩
  have HX1 := Lib.hid (hX.kept hb)
  have HB1 := Lib.hid (below_step hB0 hb)
  clear hb hX hB0
  have HRW1 := Lib.hid (HRW.out.below HB1.out (Nat.le_refl _))
  go_upto_region 5 with fail
  have hp0 : 0 ≤ (z.tmod ((n : Int) + 1) + n + 1) % ((n : Int) + 1) := Int.emod_nonneg _ (by omega)
  have hp1 : (z.tmod ((n : Int) + 1) + n + 1) % ((n : Int) + 1) < (n : Int) + 1 := Int.emod_lt_of_pos _ (by omega)
  generalize (z.tmod ((n : Int) + 1) + n + 1) % ((n : Int) + 1) = p at *
  obtain ⟨j, rfl⟩ := Int.eq_ofNat_of_zero_le hp0
  have hj : j ≤ n := by omega
  clear hp0 hp1 hz0 hz1
  go_cut [7] (fun s7 wx => Below W.heap.size W wx ∧ wx.ownsRow W.heap.size 30 16 s7 (ins l j rOut).length (cellsR (ins l j rOut)))
  case first =>
      rename_i J K' hJ hK'
      clear HS HSM HIN HRG
      have hcs5 : (n = 0 ∧ j = 0 ∧ cap = 0) ∨ (n = 0 ∧ j = 0 ∧ cap ≠ 0) ∨ (j = 0 ∧ 0 < n) ∨ (0 < j ∧ j < n) ∨ (0 < n ∧ j = n ∧ n = cap) ∨ (0 < n ∧ j = n ∧ n < cap) := by have := HCN.out; omega
      have hnl := HNL.out
      rcases hcs5 with ⟨rfl, rfl, h3⟩ | ⟨rfl, rfl, h3⟩ | ⟨rfl, h2⟩ | ⟨h1, h2⟩ | ⟨h1, rfl, h3⟩ | ⟨h1, rfl, h3⟩
      · refine put_none_full a l cap hnl h3 W _ _ _ _ _ _ _ _ _ _ _ _ _ _ _ _ _ _ _ _ _ _ _ _ _ _ _ _ _ _ _ _ _ _ _ _ _ _ _ _ _ _ _ _ _ _ _ _ _ _ _ _ _ _ _ _ _ _ _ _ _ _ _ _ _ _ _ _ _ _ _ _ _ _ _ _ _ _ _ _ _ _ _ _ _ _ _ HBIG.out HCAP.out HRW1.out ?_
        intro y27 y28 y29 y30 y31 y32 y33 y34 y35 y36 y37 y38 y7 wz hbz hoz
        refine hK' _ _ (Met.intro (hJ _ _ ?_))
        dsimp only
        (repeat apply Exists.intro)
        exact ⟨⟨hbz, hoz⟩, rfl⟩
      · refine put_none_room a l cap hnl h3 W _ _ _ _ _ _ _ _ _ _ _ _ _ _ _ _ _ _ _ _ _ _ _ _ _ _ _ _ _ _ _ _ _ _ _ _ _ _ _ _ _ _ _ _ _ _ _ _ _ _ _ _ _ _ _ _ _ _ _ _ _ _ _ _ _ _ _ _ _ _ _ _ _ _ _ _ _ _ _ _ _ _ _ _ _ _ _ HBIG.out HCAP.out HRW1.out ?_
        intro y27 y28 y29 y30 y31 y32 y33 y34 y35 y36 y37 y38 y7 wz hbz hoz
        refine hK' _ _ (Met.intro (hJ _ _ ?_))
        dsimp only
        (repeat apply Exists.intro)
        exact ⟨⟨hbz, hoz⟩, rfl⟩
      · refine put_first a l n cap hnl h2 W _ _ _ _ _ _ _ _ _ _ _ _ _ _ _ _ _ _ _ _ _ _ _ _ _ _ _ _ _ _ _ _ _ _ _ _ _ _ _ _ _ _ _ _ _ _ _ _ _ _ _ _ _ _ _ _ _ _ _ _ _ _ _ _ _ _ _ _ _ _ _ _ _ _ _ _ _ _ _ _ _ _ _ _ _ _ _ HBIG.out HCAP.out HRW1.out ?_
        intro y27 y28 y29 y30 y31 y32 y33 y34 y35 y36 y37 y38 y7 wz hbz hoz
        refine hK' _ _ (Met.intro (hJ _ _ ?_))
        dsimp only
        (repeat apply Exists.intro)
        exact ⟨⟨hbz, hoz⟩, rfl⟩
      · refine put_mid a l n cap j hnl h1 h2 W _ _ _ _ _ _ _ _ _ _ _ _ _ _ _ _ _ _ _ _ _ _ _ _ _ _ _ _ _ _ _ _ _ _ _ _ _ _ _ _ _ _ _ _ _ _ _ _ _ _ _ _ _ _ _ _ _ _ _ _ _ _ _ _ _ _ _ _ _ _ _ _ _ _ _ _ _ _ _ _ _ _ _ _ _ _ _ HBIG.out HCAP.out HRW1.out ?_
        intro y27 y28 y29 y30 y31 y32 y33 y34 y35 y36 y37 y38 y7 wz hbz hoz
        refine hK' _ _ (Met.intro (hJ _ _ ?_))
        dsimp only
        (repeat apply Exists.intro)
        exact ⟨⟨hbz, hoz⟩, rfl⟩
      · refine put_last_full a l j cap hnl h1 h3 W _ _ _ _ _ _ _ _ _ _ _ _ _ _ _ _ _ _ _ _ _ _ _ _ _ _ _ _ _ _ _ _ _ _ _ _ _ _ _ _ _ _ _ _ _ _ _ _ _ _ _ _ _ _ _ _ _ _ _ _ _ _ _ _ _ _ _ _ _ _ _ _ _ _ _ _ _ _ _ _ _ _ _ _ _ _ _ HBIG.out HCAP.out HRW1.out ?_
        intro y27 y28 y29 y30 y31 y32 y33 y34 y35 y36 y37 y38 y7 wz hbz hoz
        refine hK' _ _ (Met.intro (hJ _ _ ?_))
        dsimp only
        (repeat apply Exists.intro)
        exact ⟨⟨hbz, hoz⟩, rfl⟩
      · refine put_last_room a l j cap hnl h1 h3 W _ _ _ _ _ _ _ _ _ _ _ _ _ _ _ _ _ _ _ _ _ _ _ _ _ _ _ _ _ _ _ _ _ _ _ _ _ _ _ _ _ _ _ _ _ _ _ _ _ _ _ _ _ _ _ _ _ _ _ _ _ _ _ _ _ _ _ _ _ _ _ _ _ _ _ _ _ _ _ _ _ _ _ _ _ _ _ HBIG.out HCAP.out HRW1.out ?_
        intro y27 y28 y29 y30 y31 y32 y33 y34 y35 y36 y37 y38 y7 wz hbz hoz
        refine hK' _ _ (Met.intro (hJ _ _ ?_))
        dsimp only
        (repeat apply Exists.intro)
        exact ⟨⟨hbz, hoz⟩, rfl⟩
  case rest =>
    obtain ⟨hbc, hoc⟩ := hcut
    obtain ⟨a2, cap2, rfl, hrm⟩ := own_slice rfl hoc
    have HBC := Lib.hid hbc
    have HRM := Lib.hid hrm
    have HJL := Lib.hid (show j ≤ l.length by rw [HNL.out]; exact hj)
    clear hbc hoc hrm
    obtain ⟨F, hF⟩ : ∃ F, sixI s (ins l j rOut) = F := ⟨_, rfl⟩
    have HSH : Hid (∀ i, F i = shiftI j (f i)) := fun i => by rw [← hF]; exact HIN.out j HJL.out i
    have HS6 : Hid (∀ w1, Below wc.heap.size wc w1 → Six cs a n cap f w1) := fun w1 hb => HS.out w1 (HRW1.out.below (below_step HBC.out hb) (Nat.le_refl _))
    have HS7 : Hid (∀ w1, Below wc.heap.size wc w1 → Six cs a2 (ins l j rOut).length cap2 F w1) := fun w1 hb => by
      have := HSM.out j HJL.out a2 cap2 w1 (HRM.out.below hb (Nat.le_refl _))
      rw [hF] at this
      exact this
    have HKX : Hid (∀ w', Below wc.heap.size wc w' → HeldCs w' (.pointer (some ⟨w.heap.size, 0, none⟩)) ∧ csOf w' (.pointer (some ⟨w.heap.size, 0, none⟩)) = cs) := fun w' hb => ⟨(HX1.out.kept (below_step HBC.out hb)).held, (HX1.out.kept (below_step HBC.out hb)).of⟩
    clear hF HS HSM HIN
    generalize (ins l j rOut).length = nm at *
    have HR0 : Hid (Below wc.heap.size wc wc) := Below.refl _ _
    have HK : Hid (∀ w', Below wc.heap.size wc w' → Below wc.heap.size wc w' ∧ HeldCs w' (.pointer (some ⟨w.heap.size, 0, none⟩)) ∧ csOf w' (.pointer (some ⟨w.heap.size, 0, none⟩)) = cs) := fun w' hb => ⟨hb, HKX.out w' hb⟩
    go_upto_region 6 with fail
    go_region_held3 (fun w' => Below wc.heap.size wc w' ∧ HeldCs w' (.pointer (some ⟨w.heap.size, 0, none⟩)) ∧ csOf w' (.pointer (some ⟨w.heap.size, 0, none⟩)) = cs)
      (first | with_reducible assumption | (refine HK.out _ ?_; (first | with_reducible exact (Below.refl _ _).drew | with_reducible exact below_held (by with_reducible assumption) (by with_reducible assumption) | with_reducible exact below_helda (by with_reducible assumption))))
      (first | (go_at_call 9; refine (HS6.out _ (below_step HR0.out (And.left (by with_reducible assumption)))).c0.mono ?_; rintro e1 wx ⟨rfl, hbx⟩)
             | (go_at_call 15; refine (HS6.out _ (below_step HR0.out (And.left (by with_reducible assumption)))).c1.mono ?_; rintro e1 wx ⟨rfl, hbx⟩)
             | (go_at_call 17; refine (HS6.out _ (below_step HR0.out (And.left (by with_reducible assumption)))).c2.mono ?_; rintro e1 wx ⟨rfl, hbx⟩)
             | (go_at_call 19; refine (HS6.out _ (below_step HR0.out (And.left (by with_reducible assumption)))).c3.mono ?_; rintro e1 wx ⟨rfl, hbx⟩)
             | (go_at_call 21; refine (HS6.out _ (below_step HR0.out (And.left (by with_reducible assumption)))).c4.mono ?_; rintro e1 wx ⟨rfl, hbx⟩)
             | (go_at_call 10; refine (HS6.out _ (below_step HR0.out (And.left (by with_reducible assumption)))).c5.mono ?_; rintro e1 wx ⟨rfl, hbx⟩))
    have HB6 := Lib.hid (show Below wc.heap.size wc (wx.alloc (.cells #[.int .i64 (f 0), .int .i64 (f 1), .int .i64 (f 2), .int .i64 (f 3), .int .i64 (f 4), .int .i64 (f 5)] 3)) from And.left (by with_reducible assumption))
    rename_i hh
    clear hh
    have HN6 := Lib.hid (heap_alloc_new wx (.cells #[.int .i64 (f 0), .int .i64 (f 1), .int .i64 (f 2), .int .i64 (f 3), .int .i64 (f 4), .int .i64 (f 5)] 3))
    have HL6 := Lib.hid (show wx.heap.size < (wx.alloc (.cells #[.int .i64 (f 0), .int .i64 (f 1), .int .i64 (f 2), .int .i64 (f 3), .int .i64 (f 4), .int .i64 (f 5)] 3)).heap.size by simp)
    generalize wx.alloc (.cells #[.int .i64 (f 0), .int .i64 (f 1), .int .i64 (f 2), .int .i64 (f 3), .int .i64 (f 4), .int .i64 (f 5)] 3) = W6 at *
    generalize wx.heap.size = g6 at *
    clear HK
    have HK : Hid (∀ w', Below W6.heap.size W6 w' → Below W6.heap.size W6 w' ∧ HeldCs w' (.pointer (some ⟨w.heap.size, 0, none⟩)) ∧ csOf w' (.pointer (some ⟨w.heap.size, 0, none⟩)) = cs) := fun w' hb => ⟨hb, HKX.out w' (below_step HB6.out hb)⟩
    go_upto_region 7 with fail
    go_region_held3 (fun w' => Below W6.heap.size W6 w' ∧ HeldCs w' (.pointer (some ⟨w.heap.size, 0, none⟩)) ∧ csOf w' (.pointer (some ⟨w.heap.size, 0, none⟩)) = cs)
      (first | with_reducible assumption | (refine HK.out _ ?_; (first | with_reducible exact (Below.refl _ _).drew | with_reducible exact below_held (by with_reducible assumption) (by with_reducible assumption) | with_reducible exact below_helda (by with_reducible assumption))))
      (first | (go_at_call 9; refine (HS7.out _ (below_step HB6.out (And.left (by with_reducible assumption)))).c0.mono ?_; rintro e1 wx ⟨rfl, hbx⟩)
             | (go_at_call 15; refine (HS7.out _ (below_step HB6.out (And.left (by with_reducible assumption)))).c1.mono ?_; rintro e1 wx ⟨rfl, hbx⟩)
             | (go_at_call 17; refine (HS7.out _ (below_step HB6.out (And.left (by with_reducible assumption)))).c2.mono ?_; rintro e1 wx ⟨rfl, hbx⟩)
             | (go_at_call 19; refine (HS7.out _ (below_step HB6.out (And.left (by with_reducible assumption)))).c3.mono ?_; rintro e1 wx ⟨rfl, hbx⟩)
             | (go_at_call 21; refine (HS7.out _ (below_step HB6.out (And.left (by with_reducible assumption)))).c4.mono ?_; rintro e1 wx ⟨rfl, hbx⟩)
             | (go_at_call 10; refine (HS7.out _ (below_step HB6.out (And.left (by with_reducible assumption)))).c5.mono ?_; rintro e1 wx ⟨rfl, hbx⟩))
    have HB7 := Lib.hid (show Below W6.heap.size W6 (wx.alloc (.cells #[.int .i64 (F 0), .int .i64 (F 1), .int .i64 (F 2), .int .i64 (F 3), .int .i64 (F 4), .int .i64 (F 5)] 3)) from And.left (by with_reducible assumption))
    rename_i hh
    clear hh
    have HN7 := Lib.hid (heap_alloc_new wx (.cells #[.int .i64 (F 0), .int .i64 (F 1), .int .i64 (F 2), .int .i64 (F 3), .int .i64 (F 4), .int .i64 (F 5)] 3))
    have HL7 := Lib.hid (show wx.heap.size < (wx.alloc (.cells #[.int .i64 (F 0), .int .i64 (F 1), .int .i64 (F 2), .int .i64 (F 3), .int .i64 (F 4), .int .i64 (F 5)] 3)).heap.size by simp)
    generalize wx.alloc (.cells #[.int .i64 (F 0), .int .i64 (F 1), .int .i64 (F 2), .int .i64 (F 3), .int .i64 (F 4), .int .i64 (F 5)] 3) = W7 at *
    generalize wx.heap.size = g7 at *
    clear HK HS6 HS7 HKX
    have HBW := Lib.hid (below_step (below_step (HB1.out.trans (HBC.out.mono HB1.out.size)) HB6.out) HB7.out)
    have HALL : Hid (∀ w', Below W7.heap.size W7 w' → (w'.cell? ⟨g6, 0, none⟩ = some (.int .i64 (f 0)) ∧ w'.cell? ⟨g6, 1, none⟩ = some (.int .i64 (f 1)) ∧ w'.cell? ⟨g6, 2, none⟩ = some (.int .i64 (f 2)) ∧ w'.cell? ⟨g6, 3, none⟩ = some (.int .i64 (f 3)) ∧ w'.cell? ⟨g6, 4, none⟩ = some (.int .i64 (f 4)) ∧ w'.cell? ⟨g6, 5, none⟩ = some (.int .i64 (f 5))) ∧ w'.cell? ⟨g7, 0, none⟩ = some (.int .i64 (F 0)) ∧ w'.cell? ⟨g7, 1, none⟩ = some (.int .i64 (F 1)) ∧ w'.cell? ⟨g7, 2, none⟩ = some (.int .i64 (F 2)) ∧ w'.cell? ⟨g7, 3, none⟩ = some (.int .i64 (F 3)) ∧ w'.cell? ⟨g7, 4, none⟩ = some (.int .i64 (F 4)) ∧ w'.cell? ⟨g7, 5, none⟩ = some (.int .i64 (F 5))) := fun w' hb =>
      ⟨cells6 (((below_step HB7.out hb).block g6 HL6.out).trans HN6.out), cells6 ((hb.block g7 HL7.out).trans HN7.out)⟩
    go_wp2
    go_loopw [10] (fun v10 wr => ApRel W7 v10 wr) (fun i _ => 6 - (intOf i).toNat)
    case atStart => exact ⟨0, by omega, by omega, rfl, Below.refl _ _⟩
    case round =>
      obtain ⟨q, hq0, hq6, rfl, hbr⟩ := hrel
      have HBR := Lib.hid hbr
      clear hbr
      have hq : q = 6 ∨ q = 0 ∨ q = 1 ∨ q = 2 ∨ q = 3 ∨ q = 4 ∨ q = 5 := by omega
      clear hq0 hq6
      rcases hq with rfl | rfl | rfl | rfl | rfl | rfl | rfl
      · go_wp2
        go_ret
        exact ⟨rfl, below_step HBW.out HBR.out⟩
      · obtain ⟨⟨c0, c1, c2, c3, c4, c5⟩, d0, d1, d2, d3, d4, d5⟩ := HALL.out wr HBR.out
        obtain ⟨x, hx⟩ : ∃ x, f 0 = x := ⟨_, rfl⟩
        have hxr := HRG.out 0
        have hxs := HSH.out 0
        rw [hx] at hxr hxs c0
        obtain ⟨hx0, hx1⟩ := hxr
        unfold shiftI at hxs
        have HXX := Lib.hid hx
        clear hx
        by_cases hjx : (j : Int) ≤ x
        · rw [if_pos hjx] at hxs
          rw [hxs] at d0
          have HXS := Lib.hid hxs
          clear hxs
          go_wp2
          go_roundw
          case rel => exact ⟨1, by omega, by omega, rfl, HBR.out⟩
          case measure => simp [intOf]
        · rw [if_neg hjx] at hxs
          rw [hxs] at d0
          have hjx2 : x < (j : Int) := by omega
          have HXS := Lib.hid hxs
          clear hxs hjx
          go_wp2
          go_roundw
          case rel => exact ⟨1, by omega, by omega, rfl, HBR.out⟩
          case measure => simp [intOf]
      · obtain ⟨⟨c0, c1, c2, c3, c4, c5⟩, d0, d1, d2, d3, d4, d5⟩ := HALL.out wr HBR.out
        obtain ⟨x, hx⟩ : ∃ x, f 1 = x := ⟨_, rfl⟩
        have hxr := HRG.out 1
        have hxs := HSH.out 1
        rw [hx] at hxr hxs c1
        obtain ⟨hx0, hx1⟩ := hxr
        unfold shiftI at hxs
        have HXX := Lib.hid hx
        clear hx
        by_cases hjx : (j : Int) ≤ x
        · rw [if_pos hjx] at hxs
          rw [hxs] at d1
          have HXS := Lib.hid hxs
          clear hxs
          go_wp2
          go_roundw
          case rel => exact ⟨2, by omega, by omega, rfl, HBR.out⟩
          case measure => simp [intOf]
        · rw [if_neg hjx] at hxs
          rw [hxs] at d1
          have hjx2 : x < (j : Int) := by omega
          have HXS := Lib.hid hxs
          clear hxs hjx
          go_wp2
          go_roundw
          case rel => exact ⟨2, by omega, by omega, rfl, HBR.out⟩
          case measure => simp [intOf]
      · obtain ⟨⟨c0, c1, c2, c3, c4, c5⟩, d0, d1, d2, d3, d4, d5⟩ := HALL.out wr HBR.out
        obtain ⟨x, hx⟩ : ∃ x, f 2 = x := ⟨_, rfl⟩
        have hxr := HRG.out 2
        have hxs := HSH.out 2
        rw [hx] at hxr hxs c2
        obtain ⟨hx0, hx1⟩ := hxr
        unfold shiftI at hxs
        have HXX := Lib.hid hx
        clear hx
        by_cases hjx : (j : Int) ≤ x
        · rw [if_pos hjx] at hxs
          rw [hxs] at d2
          have HXS := Lib.hid hxs
          clear hxs
          go_wp2
          go_roundw
          case rel => exact ⟨3, by omega, by omega, rfl, HBR.out⟩
          case measure => simp [intOf]
        · rw [if_neg hjx] at hxs
          rw [hxs] at d2
          have hjx2 : x < (j : Int) := by omega
          have HXS := Lib.hid hxs
          clear hxs hjx
          go_wp2
          go_roundw
          case rel => exact ⟨3, by omega, by omega, rfl, HBR.out⟩
          case measure => simp [intOf]
      · obtain ⟨⟨c0, c1, c2, c3, c4, c5⟩, d0, d1, d2, d3, d4, d5⟩ := HALL.out wr HBR.out
        obtain ⟨x, hx⟩ : ∃ x, f 3 = x := ⟨_, rfl⟩
        have hxr := HRG.out 3
        have hxs := HSH.out 3
        rw [hx] at hxr hxs c3
        obtain ⟨hx0, hx1⟩ := hxr
        unfold shiftI at hxs
        have HXX := Lib.hid hx
        clear hx
        by_cases hjx : (j : Int) ≤ x
        · rw [if_pos hjx] at hxs
          rw [hxs] at d3
          have HXS := Lib.hid hxs
          clear hxs
          go_wp2
          go_roundw
          case rel => exact ⟨4, by omega, by omega, rfl, HBR.out⟩
          case measure => simp [intOf]
        · rw [if_neg hjx] at hxs
          rw [hxs] at d3
          have hjx2 : x < (j : Int) := by omega
          have HXS := Lib.hid hxs
          clear hxs hjx
          go_wp2
          go_roundw
          case rel => exact ⟨4, by omega, by omega, rfl, HBR.out⟩
          case measure => simp [intOf]
      · obtain ⟨⟨c0, c1, c2, c3, c4, c5⟩, d0, d1, d2, d3, d4, d5⟩ := HALL.out wr HBR.out
        obtain ⟨x, hx⟩ : ∃ x, f 4 = x := ⟨_, rfl⟩
        have hxr := HRG.out 4
        have hxs := HSH.out 4
        rw [hx] at hxr hxs c4
        obtain ⟨hx0, hx1⟩ := hxr
        unfold shiftI at hxs
        have HXX := Lib.hid hx
        clear hx
        by_cases hjx : (j : Int) ≤ x
        · rw [if_pos hjx] at hxs
          rw [hxs] at d4
          have HXS := Lib.hid hxs
          clear hxs
          go_wp2
          go_roundw
          case rel => exact ⟨5, by omega, by omega, rfl, HBR.out⟩
          case measure => simp [intOf]
        · rw [if_neg hjx] at hxs
          rw [hxs] at d4
          have hjx2 : x < (j : Int) := by omega
          have HXS := Lib.hid hxs
          clear hxs hjx
          go_wp2
          go_roundw
          case rel => exact ⟨5, by omega, by omega, rfl, HBR.out⟩
          case measure => simp [intOf]
      · obtain ⟨⟨c0, c1, c2, c3, c4, c5⟩, d0, d1, d2, d3, d4, d5⟩ := HALL.out wr HBR.out
        obtain ⟨x, hx⟩ : ∃ x, f 5 = x := ⟨_, rfl⟩
        have hxr := HRG.out 5
        have hxs := HSH.out 5
        rw [hx] at hxr hxs c5
        obtain ⟨hx0, hx1⟩ := hxr
        unfold shiftI at hxs
        have HXX := Lib.hid hx
        clear hx
        by_cases hjx : (j : Int) ≤ x
        · rw [if_pos hjx] at hxs
          rw [hxs] at d5
          have HXS := Lib.hid hxs
          clear hxs
          go_wp2
          go_roundw
          case rel => exact ⟨6, by omega, by omega, rfl, HBR.out⟩
          case measure => simp [intOf]
        · rw [if_neg hjx] at hxs
          rw [hxs] at d5
          have hjx2 : x < (j : Int) := by omega
          have HXS := Lib.hid hxs
          clear hxs hjx
          go_wp2
          go_roundw
          case rel => exact ⟨6, by omega, by omega, rfl, HBR.out⟩
          case measure => simp [intOf]
end Go.Proofs.Ytoingfnpffaopaa
