/- The walk of JudgeFree: it hands back true. Condition: the slice reads as the list. -/
import Derived.Test.YtoingfnpffaopaaApnd
import Derived.Test.YtoingfnpffaopaaFree
import Derived.Test.YtoingfnpffaopaaRSets
namespace Go.Proofs.Ytoingfnpffaopaa
open Go.RowKit

theorem csb_of {w : World} {b : Nat} {s : CS} (h : CsBox w b s) : CsB w b [.int .i64 s.s0, .bool s.s1, .int .i64 s.s2, .int .i64 s.s3, .int .i64 s.s4, .int .i64 s.s5, .int .i64 s.s6, .int .i64 s.s7, .int .i64 s.s8, .int .i64 s.s9, .int .i64 s.s10, .int .i64 s.s11, .int .i64 s.s12, .int .i64 s.s13, .int .i64 s.s14, .int .i64 s.s15, .int .i64 s.s16, .int .i64 s.s17, .int .i64 s.s18, .int .i64 s.s19, .int .i64 s.s20, .int .i64 s.s21, .int .i64 s.s22, .int .i64 s.s23, .int .i64 s.s24, .int .i64 s.s25] := ⟨rfl, h⟩

theorem own_reads {w : World} {B n : Nat} {v : Value} {l : List Rw} (hn : n = l.length) (h : w.ownsRow B 30 16 v n (cellsR l)) : ∃ a cap, v = .slice a l.length cap ∧ RowsAt w a l := by
  subst hn
  rcases h.2 with ⟨e, h0⟩ | ⟨g, cap, cur, e, _, _, _⟩
  · exact ⟨none, 0, by rw [e, h0], .inl (List.eq_nil_of_length_eq_zero h0)⟩
  · subst e
    exact ⟨some ⟨g, 0, none⟩, cap, rfl, (rows_own h).2⟩

/-- What holds at the head of a round. -/
def FreeRel (cl : List Int) (W : World) (v5 v6 : Value) (wr : World) : Prop :=
  ∃ i : Nat, i ≤ cl.length ∧ i ≤ 60 ∧ v6 = .int .i64 i ∧ Below W.heap.size W wr ∧ wr.ownsRow W.heap.size 30 16 v5 (2 * i) (cellsR (freeR cl i))

/-- The end of JudgeFree, by what the one request is told. -/
theorem free_next {cl : List Int} {i : Nat} {c : Int} {w : World} {B : Nat} {v : Value} (hc : cl.getD i 0 = c) (h : w.ownsRow B 30 16 v (2 * i + 2) (cellsR (freeR cl i) ++ cellsR [rIss c i, rSnt c i])) : w.ownsRow B 30 16 v (2 * (i + 1)) (cellsR (freeR cl (i + 1))) := by
  subst hc
  unfold freeR
  rw [cellsR_append]
  exact h

theorem one_calls (s : CS) (b : Nat) (w : World) (h : RowsAt w (some ⟨b, 0, none⟩) [rReq]) : Calls Try.prog 10 #[.agg [.int .i64 s.s0, .bool s.s1, .int .i64 s.s2, .int .i64 s.s3, .int .i64 s.s4, .int .i64 s.s5, .int .i64 s.s6, .int .i64 s.s7, .int .i64 s.s8, .int .i64 s.s9, .int .i64 s.s10, .int .i64 s.s11, .int .i64 s.s12, .int .i64 s.s13, .int .i64 s.s14, .int .i64 s.s15, .int .i64 s.s16, .int .i64 s.s17, .int .i64 s.s18, .int .i64 s.s19, .int .i64 s.s20, .int .i64 s.s21, .int .i64 s.s22, .int .i64 s.s23, .int .i64 s.s24, .int .i64 s.s25].toArray, .slice (some ⟨b, 0, none⟩) 1 1] w (Gives (.int .i64 (if bsets s.s13 s.s14 s.s15 s.s16 = true ∧ s.s15 = 0 then 0 else -1)) w) := by
  have h := budget_any s (some ⟨b, 0, none⟩) [rReq] 1 w (by decide) h
  rw [one_req] at h
  exact h
theorem fine_calls (s : CS) (cl : List Int) (i : Nat) (hi : i ≤ 60) (l : List Rw) (hl : freeR cl i = l) (a : Option Addr) (cap : Nat) (w : World) (h : RowsAt w a l) : Calls Try.prog 10 #[.agg [.int .i64 s.s0, .bool s.s1, .int .i64 s.s2, .int .i64 s.s3, .int .i64 s.s4, .int .i64 s.s5, .int .i64 s.s6, .int .i64 s.s7, .int .i64 s.s8, .int .i64 s.s9, .int .i64 s.s10, .int .i64 s.s11, .int .i64 s.s12, .int .i64 s.s13, .int .i64 s.s14, .int .i64 s.s15, .int .i64 s.s16, .int .i64 s.s17, .int .i64 s.s18, .int .i64 s.s19, .int .i64 s.s20, .int .i64 s.s21, .int .i64 s.s22, .int .i64 s.s23, .int .i64 s.s24, .int .i64 s.s25].toArray, .slice a l.length cap] w (Gives (.int .i64 (-1)) w) := by
  subst hl
  have h := budget_any s a (freeR cl i) cap w (by rw [free_len]; unfold maxLen; omega) h
  rw [free_fine s cl i hi] at h
  exact h

attribute [local go_sem ↓] run_load43

set_option maxHeartbeats 8000000 in
set_option maxRecDepth 100000 in
theorem free_walk (s : CS) (a : Option Addr) (cl : List Int) (cap : Nat) (w : World) (hl : IntsAt w a cl) :
    Calls Try.prog 4 #[.agg #[.int .i64 s.s0, .bool s.s1, .int .i64 s.s2, .int .i64 s.s3, .int .i64 s.s4, .int .i64 s.s5, .int .i64 s.s6, .int .i64 s.s7, .int .i64 s.s8, .int .i64 s.s9, .int .i64 s.s10, .int .i64 s.s11, .int .i64 s.s12, .int .i64 s.s13, .int .i64 s.s14, .int .i64 s.s15, .int .i64 s.s16, .int .i64 s.s17, .int .i64 s.s18, .int .i64 s.s19, .int .i64 s.s20, .int .i64 s.s21, .int .i64 s.s22, .int .i64 s.s23, .int .i64 s.s24, .int .i64 s.s25], .slice a cl.length cap] w (Gives (.bool true) w) := by
  obtain ⟨i0, hi0, hi1, hi2, hi3⟩ := info_parts info30
  have HX := Lib.hid (CsBox.new w w.heap.size rfl s)
  have HB := Lib.hid (below_alloc (Below.refl w.heap.size w) (.cells #[.int .i64 s.s0, .bool s.s1, .int .i64 s.s2, .int .i64 s.s3, .int .i64 s.s4, .int .i64 s.s5, .int .i64 s.s6, .int .i64 s.s7, .int .i64 s.s8, .int .i64 s.s9, .int .i64 s.s10, .int .i64 s.s11, .int .i64 s.s12, .int .i64 s.s13, .int .i64 s.s14, .int .i64 s.s15, .int .i64 s.s16, .int .i64 s.s17, .int .i64 s.s18, .int .i64 s.s19, .int .i64 s.s20, .int .i64 s.s21, .int .i64 s.s22, .int .i64 s.s23, .int .i64 s.s24, .int .i64 s.s25] 43))
  have HI := Lib.hid hl
  clear hl
  go_enter Try.func4, Try.ntmps4
  go_wp2_with (fail)
  refine (alive_any _).mono ?_
  rintro e1 w1 ⟨rfl, hb⟩
  have HX1 := Lib.hid (HX.out.kept hb)
  have HB1 := Lib.hid (below_step HB.out hb)
  have HI1 := Lib.hid (HI.out.below HB1.out (Nat.le_refl _))
  clear hb HX HB HI
  go_wp2
  go_loopw [5, 6] (fun v5 v6 wr => FreeRel cl w1 v5 v6 wr) (fun _ i _ => 60 - (intOf i).toNat)
  case atStart => exact ⟨0, Nat.zero_le _, by omega, rfl, Below.refl _ _, World.ownsRow_nil _ _ _ _⟩
  case round =>
    obtain ⟨i, hi, hi6, rfl, hbr, hown⟩ := hrel
    have HBR := Lib.hid hbr
    have HXR := Lib.hid (HX1.out.kept hbr)
    by_cases hlt : i < cl.length ∧ i < 60
    · obtain ⟨hlt, h60⟩ := hlt
      obtain ⟨b, off, rfl, hbw, hcell⟩ := HI1.out.at hlt
      obtain ⟨c, hc⟩ : ∃ c, cl.getD i 0 = c := ⟨_, rfl⟩
      rw [hc] at hcell
      have HC := Lib.hid hc
      have hK : ∀ w', Below w1.heap.size w1 w' → Below w1.heap.size w1 w' ∧ w'.cell? ⟨b, off + i, none⟩ = some (.int .i64 c) := fun w' h => ⟨h, (h.cell (p := ⟨b, off + i, none⟩) hbw).trans hcell⟩
      have HK := Lib.hid hK
      have hiI : (i : Int) < (cl.length : Int) := by omega
      have hiI0 : (0 : Int) ≤ (i : Int) := by omega
      clear hK hc hcell hbr
      go_upto_region 7 with fail
      go_region_held3 (fun w' => Below w1.heap.size w1 w' ∧ w'.cell? ⟨b, off + i, none⟩ = some (.int .i64 c))
        (first | with_reducible assumption | (refine HK.out _ ?_; (first | with_reducible exact HBR.out.drew | with_reducible exact below_heldd (by with_reducible assumption) | with_reducible exact below_helda (by with_reducible assumption) | with_reducible exact HBG.out)))
        (first | (refine step_append_lies _ (by rfl) _ _ _ (by rfl) w1.heap.size 30 i0 _ 16 128 Try.underlying22 hi0 hi1 hi2 hi3 rfl (by omega) _ (2 * i) (cellsR (freeR cl i)) (by rfl) (by first | exact (hown.alloc _) | exact hown) _ 2 2 (cellsR [rIss c i, rSnt c i]) (by rfl) (by rfl) (World.news_of_block (cs := (cellsR [rIss c i, rSnt c i]).toArray) (t := 30) (fr := (0, 0)) (by exact heap_alloc_new _ _)) (one_cells _) (by omega) (by unfold maxLen; omega) (by omega) (size_held (by with_reducible assumption)) _ rfl ?_
                  intro g2 cap2 wB hown2 hgrow2 hat2 hlt2
                  have HBG := Lib.hid (bg_row (by with_reducible assumption) (by first | exact (hown.alloc _) | exact hown) hgrow2)))
      all_goals
        go_wp2
        go_roundw
        case rel => exact ⟨i + 1, by omega, by omega, by go_num, HBG.out, free_next HC.out hown2⟩
        case measure => simp [intOf]; omega
    · obtain ⟨l, hll⟩ : ∃ l, freeR cl i = l := ⟨_, rfl⟩
      have HLL := Lib.hid hll
      have hll2 : 2 * i = l.length := by rw [← hll, free_len]
      rw [hll] at hown
      obtain ⟨a', cap', rfl, hrow⟩ := own_reads hll2 hown
      have HROW := Lib.hid hrow
      have hcs := (csb_of HXR.out).held
      have hcs2 := (csb_of HXR.out).of
      have hx : cl.length ≤ i ∨ (i < cl.length ∧ 60 ≤ i) := by omega
      have hS : ∃ (v : Int) (q : Bool), Hid (∀ b w, RowsAt w (some ⟨b, 0, none⟩) [rReq] → Calls Try.prog 10 #[.agg [.int .i64 s.s0, .bool s.s1, .int .i64 s.s2, .int .i64 s.s3, .int .i64 s.s4, .int .i64 s.s5, .int .i64 s.s6, .int .i64 s.s7, .int .i64 s.s8, .int .i64 s.s9, .int .i64 s.s10, .int .i64 s.s11, .int .i64 s.s12, .int .i64 s.s13, .int .i64 s.s14, .int .i64 s.s15, .int .i64 s.s16, .int .i64 s.s17, .int .i64 s.s18, .int .i64 s.s19, .int .i64 s.s20, .int .i64 s.s21, .int .i64 s.s22, .int .i64 s.s23, .int .i64 s.s24, .int .i64 s.s25].toArray, .slice (some ⟨b, 0, none⟩) 1 1] w (Gives (.int .i64 v) w)) ∧ Hid (∀ w, Calls Try.prog 11 #[.agg #[.int .i64 s.s13, .int .i64 s.s14, .int .i64 s.s15, .int .i64 s.s16]] w (Gives (.bool q) w)) ∧
          ((v = -1 ∧ q = false) ∨ (v = 0 ∧ q = true ∧ decide (s.s15 = 0) = true ∧ (s.s15 == 0) = true) ∨ (v = -1 ∧ q = true ∧ decide (s.s15 = 0) = false ∧ (s.s15 == 0) = false)) := by
        refine ⟨_, _, fun b w h => one_calls s b w h, fun w => rsets_any _ _ _ _ w, ?_⟩
        by_cases hs : bsets s.s13 s.s14 s.s15 s.s16 = true
        · by_cases h0 : s.s15 = 0
          · exact .inr (.inl ⟨if_pos ⟨hs, h0⟩, hs, decide_eq_true h0, by simpa using h0⟩)
          · exact .inr (.inr ⟨if_neg fun h => h0 h.2, hs, decide_eq_false h0, by simpa using h0⟩)
        · exact .inl ⟨if_neg fun h => hs h.1, by simpa using hs⟩
      obtain ⟨v, q, HONE, HSET, hS⟩ := hS
      clear hll hll2 hown hrow hlt hbr
      rcases hx with h1 | ⟨h1, h2⟩
      all_goals
        rcases hS with ⟨rfl, rfl⟩ | ⟨rfl, rfl, d0, e0⟩ | ⟨rfl, rfl, d0, e0⟩
        all_goals
          go_wp2_with (fail)
          refine (HONE.out _ _ (rows_new wr _ rfl [rReq] 30)).mono ?_
          rintro e w3 ⟨rfl, hb3⟩
          have HX3 := Lib.hid ((HXR.out.alloc _).kept hb3)
          have HBR3 := Lib.hid (below_step (below_alloc HBR.out _) hb3)
          have HROW3 := Lib.hid (HROW.out.below (below_step (below_alloc (Below.refl wr.heap.size wr) _) hb3) (Nat.le_refl _))
          clear hb3 hcs hcs2
          have hcs := (csb_of HX3.out).held
          have hcs2 := (csb_of HX3.out).of
          go_wp2_with (fail)
          refine (fine_calls s cl i hi6 l HLL.out a' cap' w3 HROW3.out).mono ?_
          rintro e w4 ⟨rfl, hb4⟩
          have HX4 := Lib.hid (HX3.out.kept hb4)
          have HBR4 := Lib.hid (below_step HBR3.out hb4)
          clear hb4 hcs hcs2
          obtain ⟨c0, c1, c2, c3⟩ := HX4.out.bucket
          go_wp2_with (fail)
          refine (HSET.out _).mono ?_
          rintro e w5 ⟨rfl, hb5⟩
          have HX5 := Lib.hid (HX4.out.kept hb5)
          have HBR5 := Lib.hid (below_step HBR4.out hb5)
          clear hb5 c0 c1 c2 c3
          obtain ⟨c0, c1, c2, c3⟩ := HX5.out.bucket
          go_wp2
          go_ret
          exact ⟨rfl, HB1.out.trans (HBR5.out.mono HB1.out.size)⟩
end Go.Proofs.Ytoingfnpffaopaa
