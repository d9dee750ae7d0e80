/- The walk of JudgeTwice: it hands back true. Condition: the slice reads as the list. -/
import Derived.Test.YtoingfnpffaopaaApnd
namespace Go.Proofs.Ytoingfnpffaopaa
open Go.RowKit

set_option maxHeartbeats 2000000 in
theorem twice_nil (z : Int) (a : Option Addr) (cap : Nat) (w : World) : Calls Try.prog 3 #[.slice a 0 cap, .int .i64 z] w (Gives (.bool true) w) := by
  have HO : Hid (∀ w1, Calls Try.prog 9 #[.slice a 0 cap] w1 (Gives (.int .i64 (-1)) w1)) := fun w1 => once_any a [] cap w1 (Nat.zero_le _) (.inl rfl)
  go_enter Try.func3, Try.ntmps3
  go_wp2_with (fail)
  refine (alive_any _).mono ?_
  rintro e1 w1 ⟨rfl, hb⟩
  go_wp2_with (fail)
  refine (HO.out _).mono ?_
  rintro e1 w2 ⟨rfl, hb2⟩
  have HB := Lib.hid (below_step hb hb2)
  go_wp2
  go_ret
  exact ⟨rfl, HB.out⟩

set_option maxHeartbeats 2000000 in
theorem twice_fault (z : Int) (a : Option Addr) (n : Nat) (hn : 0 < n) (cap : Nat) (w : World) (v : Int) (hv : 0 ≤ v) (h : ∀ w1, Below w.heap.size w w1 → Calls Try.prog 9 #[.slice a n cap] w1 (Gives (.int .i64 v) w1)) :
    Calls Try.prog 3 #[.slice a n cap, .int .i64 z] w (Gives (.bool true) w) := by
  have HO := Lib.hid h
  clear h
  go_enter Try.func3, Try.ntmps3
  go_wp2_with (fail)
  refine (alive_any _).mono ?_
  rintro e1 w1 ⟨rfl, hb⟩
  have HB1 := Lib.hid hb
  clear hb
  go_wp2_with (fail)
  refine (HO.out _ HB1.out).mono ?_
  rintro e1 w2 ⟨rfl, hb2⟩
  have HB := Lib.hid (below_step HB1.out hb2)
  clear hb2
  go_wp2
  go_ret
  exact ⟨rfl, HB.out⟩

theorem tmod_bd (z : Int) (n : Nat) (hn : 0 < n) : -(n : Int) < z.tmod n ∧ z.tmod n < n := by
  have h := Int.tmod_lt_of_pos z (show (0 : Int) < n by omega)
  have h2 := Int.tmod_lt_of_pos (-z) (show (0 : Int) < n by omega)
  rw [Int.neg_tmod] at h2
  omega

theorem once_end {l : List Rw} {R : Rw} {j n g cap : Nat} {w : World} {B : Nat} (hnl : l.length = n) (hR : l.getD j Rw.zero = R) (hj : j < n) (hv : idx (twiceP 3 l) n = -1) (hm : n + 1 ≤ maxLen)
    (ho : w.ownsRow B 30 16 (.slice (some ⟨g, 0, none⟩) (n + 1) cap) (n + 1) (cellsR l ++ cellsR [R])) : Calls Try.prog 9 #[.slice (some ⟨g, 0, none⟩) (n + 1) cap] w (Gives (.int .i64 (if R.kind = 3 then (n : Int) else -1)) w) := by
  have hl : (l ++ [R]).length = n + 1 := by simp [hnl]
  have hx : w.ownsRow B 30 16 (.slice (some ⟨g, 0, none⟩) (n + 1) cap) (l ++ [R]).length (cellsR (l ++ [R])) := by rw [cellsR_append, hl]; exact ho
  have h := once_any (some ⟨g, 0, none⟩) (l ++ [R]) cap w (by rw [hl]; exact hm) (rows_own hx).2
  have e := twice_end l j (by omega) (by rw [hnl]; exact hv)
  rw [hR, hnl] at e
  rw [hl, e] at h
  exact h

set_option maxHeartbeats 8000000 in
set_option maxRecDepth 100000 in
theorem twice_ok (z : Int) (a : Option Addr) (l : List Rw) (hn : 0 < l.length) (hm : l.length ≤ maxLen) (hbig : l.length * 128 ≤ 140737488355200) (cap : Nat) (w : World) (hr : RowsAt w a l) (hv : idx (twiceP 3 l) l.length = -1) :
    Calls Try.prog 3 #[.slice a l.length cap, .int .i64 z] w (Gives (.bool true) w) := by
  have HO : Hid (∀ w1, Below w.heap.size w w1 → Calls Try.prog 9 #[.slice a l.length cap] w1 (Gives (.int .i64 (-1)) w1)) := fun w1 hb => by
    have h := once_any a l cap w1 hm (hr.below hb (Nat.le_refl _))
    rw [hv] at h
    exact h
  have HV := Lib.hid hv
  have HR := Lib.hid hr
  have hz := tmod_bd z l.length hn
  have hn2 : l.length ≤ 1099511627775 := by omega
  have HBIG := Lib.hid hbig
  have HM := Lib.hid hm
  clear hv hr hbig hm
  obtain ⟨hz0, hz1⟩ := hz
  generalize hnl : l.length = n at *
  have HNL := Lib.hid hnl
  clear hnl
  go_enter Try.func3, Try.ntmps3
  go_wp2_with (fail)
  refine (alive_any _).mono ?_
  rintro e1 w1 ⟨rfl, hb⟩
  have HB1 := Lib.hid hb
  clear hb
  go_wp2_with (fail)
  refine (HO.out _ HB1.out).mono ?_
  rintro e1 w2 ⟨rfl, hb2⟩
  have HB2 := Lib.hid (below_step HB1.out hb2)
  clear hb2
  go_upto_region 7 with fail
  have hp0 : 0 ≤ (z.tmod n + n) % n := Int.emod_nonneg _ (by omega)
  have hp1 : (z.tmod n + n) % n < n := Int.emod_lt_of_pos _ (by omega)
  generalize (z.tmod n + n) % n = p at *
  obtain ⟨j, rfl⟩ := Int.eq_ofNat_of_zero_le hp0
  have hj : j < n := by omega
  obtain ⟨b, off, rfl, hbw, hrow⟩ := HR.out.at (i := j) (by rw [HNL.out]; exact hj)
  obtain ⟨R, hR⟩ : ∃ R, l.getD j Rw.zero = R := ⟨_, rfl⟩
  rw [hR] at hrow
  have HRR := Lib.hid hR
  clear hR
  have hK : ∀ w', Below w.heap.size w w' → Below w.heap.size w w' ∧ w'.cell? ⟨b, off + j * 16, none⟩ = some (.int .i64 R.kind) ∧ w'.cell? ⟨b, off + j * 16 + 1, none⟩ = some (.int .i64 R.step) ∧ w'.cell? ⟨b, off + j * 16 + 2, none⟩ = some (.int .i64 R.client) ∧ w'.cell? ⟨b, off + j * 16 + 3, none⟩ = some (.int .i64 R.call) ∧ w'.cell? ⟨b, off + j * 16 + 4, none⟩ = some (.int .i64 R.backend) ∧ w'.cell? ⟨b, off + j * 16 + 5, none⟩ = some (.int .i64 R.incarnation) ∧ w'.cell? ⟨b, off + j * 16 + 6, none⟩ = some (.int .i64 R.session) ∧ w'.cell? ⟨b, off + j * 16 + 7, none⟩ = some (.int .i64 R.seq) ∧ w'.cell? ⟨b, off + j * 16 + 8, none⟩ = some (.int .i64 R.what) ∧ w'.cell? ⟨b, off + j * 16 + 9, none⟩ = some (.int .i64 R.key) ∧ w'.cell? ⟨b, off + j * 16 + 10, none⟩ = some (.int .i64 R.other) ∧ w'.cell? ⟨b, off + j * 16 + 11, none⟩ = some (.int .i64 R.amount) ∧ w'.cell? ⟨b, off + j * 16 + 12, none⟩ = some (.int .i64 R.code) ∧ w'.cell? ⟨b, off + j * 16 + 13, none⟩ = some (.int .i64 R.place) ∧ w'.cell? ⟨b, off + j * 16 + 14, none⟩ = some (.int .i64 R.value) ∧ w'.cell? ⟨b, off + j * 16 + 15, none⟩ = some (.int .i64 R.n) := by
    intro w' hb
    obtain ⟨q0, q1, q2, q3, q4, q5, q6, q7, q8, q9, q10, q11, q12, q13, q14, q15⟩ := hrow.below hb hbw
    exact ⟨hb, q0, q1, q2, q3, q4, q5, q6, q7, q8, q9, q10, q11, q12, q13, q14, q15⟩
  have HK := Lib.hid hK
  obtain ⟨i0, hi0, hi1, hi2, hi3⟩ := info_parts info30
  have HLEN := Lib.hid (show (cellsR l).length = n * 16 by rw [cellsR_len, HNL.out])
  have HM0 := Lib.hid (show 0 + n ≤ maxLen by rw [Nat.zero_add]; exact HM.out)
  have HB0 := Lib.hid (show (0 + n) * 128 ≤ 140737488355328 by rw [Nat.zero_add]; exact Nat.le_trans HBIG.out (by omega))
  have HM1 := Lib.hid (show n + 1 ≤ maxLen by unfold maxLen; omega)
  have HBB1 := Lib.hid (show (n + 1) * 128 ≤ 140737488355328 by omega)
  clear hK hrow
  go_region_held3 (fun w' => Below w.heap.size w w' ∧ w'.cell? ⟨b, off + j * 16, none⟩ = some (.int .i64 R.kind) ∧ w'.cell? ⟨b, off + j * 16 + 1, none⟩ = some (.int .i64 R.step) ∧ w'.cell? ⟨b, off + j * 16 + 2, none⟩ = some (.int .i64 R.client) ∧ w'.cell? ⟨b, off + j * 16 + 3, none⟩ = some (.int .i64 R.call) ∧ w'.cell? ⟨b, off + j * 16 + 4, none⟩ = some (.int .i64 R.backend) ∧ w'.cell? ⟨b, off + j * 16 + 5, none⟩ = some (.int .i64 R.incarnation) ∧ w'.cell? ⟨b, off + j * 16 + 6, none⟩ = some (.int .i64 R.session) ∧ w'.cell? ⟨b, off + j * 16 + 7, none⟩ = some (.int .i64 R.seq) ∧ w'.cell? ⟨b, off + j * 16 + 8, none⟩ = some (.int .i64 R.what) ∧ w'.cell? ⟨b, off + j * 16 + 9, none⟩ = some (.int .i64 R.key) ∧ w'.cell? ⟨b, off + j * 16 + 10, none⟩ = some (.int .i64 R.other) ∧ w'.cell? ⟨b, off + j * 16 + 11, none⟩ = some (.int .i64 R.amount) ∧ w'.cell? ⟨b, off + j * 16 + 12, none⟩ = some (.int .i64 R.code) ∧ w'.cell? ⟨b, off + j * 16 + 13, none⟩ = some (.int .i64 R.place) ∧ w'.cell? ⟨b, off + j * 16 + 14, none⟩ = some (.int .i64 R.value) ∧ w'.cell? ⟨b, off + j * 16 + 15, none⟩ = some (.int .i64 R.n))
    (first | with_reducible assumption | (refine HK.out _ ?_; (first | with_reducible exact HB2.out.drew | with_reducible exact below_heldd (by with_reducible assumption) | with_reducible exact below_helda (by with_reducible assumption) | with_reducible exact HBG.out)))
    (first | (refine step_append_lies _ (by rfl) _ _ _ (by rfl) w.heap.size 30 i0 _ 16 128 Try.underlying22 hi0 hi1 hi2 hi3 rfl (by omega) (.slice none 0 0) 0 [] (by rfl) (World.ownsRow_nil _ _ _ _) ⟨b, off, none⟩ n cap (cellsR l) (by rfl) HLEN.out (news_rows (rows_held HR.out (by with_reducible assumption))) (one_cells l) hn HM0.out HB0.out (size_held (by with_reducible assumption)) _ rfl ?_
              intro g1 cap1 wA hown hgrow hat hlt
              have HBG := Lib.hid (bg_row (by with_reducible assumption) (World.ownsRow_nil _ _ _ _) hgrow)
              (try have hblk := grown_newd hgrow (by simp [Value.ownBlock]))
              (try have hblk := grown_new hgrow (by simp [Value.ownBlock]))
              rw [Nat.zero_add, List.nil_append] at hown
              rw [Nat.zero_add])
           | (refine step_append_lies _ (by rfl) _ _ _ (by rfl) w.heap.size 30 i0 _ 16 128 Try.underlying22 hi0 hi1 hi2 hi3 rfl (by omega) (.slice (some ⟨g1, 0, none⟩) n cap1) n (cellsR l) (by rfl) (by first | exact hown | exact hown.alloc _) _ 1 1 (cellsR [R]) (by rfl) (by rfl) (World.news_of_block (cs := (cellsR [R]).toArray) (t := 30) (fr := (0, 0)) (by first | exact heap_alloc_new _ _ | exact hblk)) (one_cells [R]) (by omega) HM1.out HBB1.out (size_held (by with_reducible assumption)) _ rfl ?_
              intro g2 cap2 wB hown2 hgrow2 hat2 hlt2
              have HBG := Lib.hid (bg_row (by with_reducible assumption) (by first | exact hown | exact hown.alloc _) hgrow2)))
  all_goals
    have HE := Lib.hid (once_end HNL.out HRR.out hj HV.out HM1.out hown2)
    obtain ⟨hbB, q0, q1, q2, q3, q4, q5, q6, q7, q8, q9, q10, q11, q12, q13, q14, q15⟩ := HK.out _ HBG.out
    by_cases h3 : R.kind = 3
    · rw [if_pos h3] at HE
      have d3 : decide (R.kind = 3) = true := decide_eq_true h3
      have e3 : (R.kind == 3) = true := by simpa using h3
      clear h3
      go_wp2_with (fail)
      refine HE.out.mono ?_
      rintro e1 wC ⟨rfl, hb3⟩
      have HBC := Lib.hid (below_step hbB hb3)
      clear hb3
      go_wp2
      go_ret
      exact ⟨rfl, HBC.out⟩
    · rw [if_neg h3] at HE
      have d3 : decide (R.kind = 3) = false := decide_eq_false h3
      have e3 : (R.kind == 3) = false := by simpa using h3
      clear h3
      go_wp2_with (fail)
      refine HE.out.mono ?_
      rintro e1 wC ⟨rfl, hb3⟩
      have HBC := Lib.hid (below_step hbB hb3)
      clear hb3
      go_wp2
      go_ret
      exact ⟨rfl, HBC.out⟩

theorem twice_walk (z : Int) (a : Option Addr) (l : List Rw) (hm : l.length ≤ maxLen) (hbig : l.length * 128 ≤ 140737488355200) (cap : Nat) (w : World) (hr : RowsAt w a l) :
    Calls Try.prog 3 #[.slice a l.length cap, .int .i64 z] w (Gives (.bool true) w) := by
  rcases Nat.eq_zero_or_pos l.length with h | h
  · rw [h]; exact twice_nil z a cap w
  · by_cases hv : idx (twiceP 3 l) l.length = -1
    · exact twice_ok z a l h hm hbig cap w hr hv
    · exact twice_fault z a _ h cap w _ (by have := idx_lt (twiceP 3 l) l.length; omega) fun w1 hb => once_any a l cap w1 hm (hr.below hb (Nat.le_refl _))
end Go.Proofs.Ytoingfnpffaopaa
