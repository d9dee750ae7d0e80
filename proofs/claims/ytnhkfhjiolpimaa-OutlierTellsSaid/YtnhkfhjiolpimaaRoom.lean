/- What outlier's Room and Panics, and the document's, hand back. Conditions: none beyond the cases that are named. -/
import Derived.Test.YtnhkfhjiolpimaaROks
namespace Go.Proofs.Ytnhkfhjiolpimaa
open Go.RowKit

/-- May it be asked for? -/
structure RoomP (s : OSet) (n k : Int) : Prop where
  sets : SetsP s
  n0 : 0 ≤ n
  n1 : n ≤ 32
  k0 : 0 ≤ k
  k1 : k ≤ n

/-- How many more may be out. -/
def roomI (s : OSet) (n k : Int) : Int := if n * s.percent / 100 - k < 0 then 0 else n * s.percent / 100 - k

theorem in1_t (lo hi x : Int) (b : Nat) (W : World) (t : TypeId) (hb : b = W.heap.size) (h : lo ≤ x ∧ x ≤ hi) :
    Calls Try.prog 26 #[.int .i64 lo, .int .i64 hi, .slice (some ⟨b, 0, none⟩) 1 1] (W.alloc (.cells #[.int .i64 x] t)) fun e w' => e = .returned (.bool true) ∧ W.alloc (.cells #[.int .i64 x] t) = w' := by
  have e := in1_b lo hi x b W t hb
  rwa [inB_iff.2 h] at e
theorem in1_f (lo hi x : Int) (b : Nat) (W : World) (t : TypeId) (hb : b = W.heap.size) (h : ¬ (lo ≤ x ∧ x ≤ hi)) :
    Calls Try.prog 26 #[.int .i64 lo, .int .i64 hi, .slice (some ⟨b, 0, none⟩) 1 1] (W.alloc (.cells #[.int .i64 x] t)) fun e w' => e = .returned (.bool false) ∧ W.alloc (.cells #[.int .i64 x] t) = w' := by
  have e := in1_b lo hi x b W t hb
  rwa [inB_no.2 h] at e
theorem rin_t (n lo hi : Int) (w : World) (h : lo ≤ n ∧ n ≤ hi) : Calls Try.prog 30 #[.int .i64 n, .int .i64 lo, .int .i64 hi] w fun e w' => e = .returned (.bool true) ∧ w = w' := by
  have e := rin_any n lo hi w
  rwa [inB_iff.2 h] at e
theorem rin_f (n lo hi : Int) (w : World) (h : ¬ (lo ≤ n ∧ n ≤ hi)) : Calls Try.prog 30 #[.int .i64 n, .int .i64 lo, .int .i64 hi] w fun e w' => e = .returned (.bool false) ∧ w = w' := by
  have e := rin_any n lo hi w
  rwa [inB_no.2 h] at e

set_option maxHeartbeats 1000000 in
theorem room_no (s : OSet) (n k : Int) (w : World) (h : ¬ RoomP s n k) : Calls Try.prog 10 #[.agg #[.int .i64 s.row, .int .i64 s.mille, .int .i64 s.least, .int .i64 s.base, .int .i64 s.most, .int .i64 s.percent, .int .i64 s.panic], .int .i64 n, .int .i64 k] w (Gives (.tuple #[.int .i64 0, .int .i64 4]) w) := by
  by_cases hs : SetsP s
  · by_cases h1 : 0 ≤ n ∧ n ≤ 32
    · by_cases h2 : 0 ≤ k ∧ k ≤ n
      · exact absurd ⟨hs, h1.1, h1.2, h2.1, h2.2⟩ h
      · have HS := Lib.hid hs
        have H1 := Lib.hid h1
        have H2 := Lib.hid h2
        clear hs h1 h2 h
        go_enter Try.func10, Try.ntmps10
        go_wp2_with (fail)
        refine (sets_yes _ _ HS.out).mono ?_
        rintro e w1 ⟨rfl, hb⟩
        obtain ⟨⟨s0, s1, s2, s3, s4, s5, s6⟩, _⟩ := ((SetBox.new w w.heap.size rfl s).kept hb).cell
        have hz := hb.size
        simp at hz
        have z0 : w.heap.size < w1.heap.size := by omega
        have z1 : w.heap.size < w1.heap.size + 1 := by omega
        have z2 : w.heap.size < w1.heap.size + 1 + 1 := by omega
        have HB := Lib.hid (below_step (below_alloc (Below.refl w.heap.size w) _) hb)
        clear hb hz
        go_wp2_with (fail)
        refine (in1_t _ _ _ _ _ _ (by simp) H1.out).mono ?_
        rintro e w2 ⟨rfl, rfl⟩
        go_wp2_with (fail)
        refine (in1_f _ _ _ _ _ _ (by simp) H2.out).mono ?_
        rintro e w2 ⟨rfl, rfl⟩
        go_wp2
        go_ret2
        exact ⟨rfl, by repeat (first | exact HB.out | apply below_alloc)⟩
    · have HS := Lib.hid hs
      have H1 := Lib.hid h1
      clear hs h1 h
      go_enter Try.func10, Try.ntmps10
      go_wp2_with (fail)
      refine (sets_yes _ _ HS.out).mono ?_
      rintro e w1 ⟨rfl, hb⟩
      obtain ⟨⟨s0, s1, s2, s3, s4, s5, s6⟩, _⟩ := ((SetBox.new w w.heap.size rfl s).kept hb).cell
      have hz := hb.size
      simp at hz
      have z0 : w.heap.size < w1.heap.size := by omega
      have z1 : w.heap.size < w1.heap.size + 1 := by omega
      have z2 : w.heap.size < w1.heap.size + 1 + 1 := by omega
      have HB := Lib.hid (below_step (below_alloc (Below.refl w.heap.size w) _) hb)
      clear hb hz
      go_wp2_with (fail)
      refine (in1_f _ _ _ _ _ _ (by simp) H1.out).mono ?_
      rintro e w2 ⟨rfl, rfl⟩
      go_wp2
      go_ret2
      exact ⟨rfl, by repeat (first | exact HB.out | apply below_alloc)⟩
  · have HS := Lib.hid hs
    clear hs h
    go_enter Try.func10, Try.ntmps10
    go_wp2_with (fail)
    refine (sets_no _ _ HS.out).mono ?_
    rintro e w1 ⟨rfl, hb⟩
    have HB := Lib.hid (below_step (below_alloc (Below.refl w.heap.size w) _) hb)
    clear hb
    go_wp2
    go_ret2
    exact ⟨rfl, by repeat (first | exact HB.out | apply below_alloc)⟩

set_option maxHeartbeats 1000000 in
theorem room_ok (s : OSet) (n k : Int) (w : World) (h : RoomP s n k) : Calls Try.prog 10 #[.agg #[.int .i64 s.row, .int .i64 s.mille, .int .i64 s.least, .int .i64 s.base, .int .i64 s.most, .int .i64 s.percent, .int .i64 s.panic], .int .i64 n, .int .i64 k] w (Gives (.tuple #[.int .i64 (roomI s n k), .int .i64 0]) w) := by
  obtain ⟨hs, n0, n1, k0, k1⟩ := h
  have p0 := hs.percent0
  have p1 := hs.percent1
  have q0 : 0 ≤ n * s.percent := Int.mul_nonneg n0 p0
  have q1 : n * s.percent ≤ 32 * 100 := Int.mul_le_mul n1 p1 p0 (by omega)
  have HS := Lib.hid hs
  have H1 : Hid (0 ≤ n ∧ n ≤ 32) := ⟨n0, n1⟩
  have H2 : Hid (0 ≤ k ∧ k ≤ n) := ⟨k0, k1⟩
  clear hs
  by_cases h : n * s.percent / 100 - k < 0
  · have HR := Lib.hid (show roomI s n k = 0 by unfold roomI; rw [if_pos h])
    go_enter Try.func10, Try.ntmps10
    go_wp2_with (fail)
    refine (sets_yes _ _ HS.out).mono ?_
    rintro e w1 ⟨rfl, hb⟩
    obtain ⟨⟨s0, s1, s2, s3, s4, s5, s6⟩, _⟩ := ((SetBox.new w w.heap.size rfl s).kept hb).cell
    have hz := hb.size
    simp at hz
    have z0 : w.heap.size < w1.heap.size := by omega
    have z1 : w.heap.size < w1.heap.size + 1 := by omega
    have z2 : w.heap.size < w1.heap.size + 1 + 1 := by omega
    have HB := Lib.hid (below_step (below_alloc (Below.refl w.heap.size w) _) hb)
    clear hb hz
    go_wp2_with (fail)
    refine (in1_t _ _ _ _ _ _ (by simp) H1.out).mono ?_
    rintro e w2 ⟨rfl, rfl⟩
    go_wp2_with (fail)
    refine (in1_t _ _ _ _ _ _ (by simp) H2.out).mono ?_
    rintro e w2 ⟨rfl, rfl⟩
    go_wp2
    all_goals
      go_ret2
      exact ⟨by rw [HR.out]; first | rfl | (simp; omega), by repeat (first | exact HB.out | apply below_alloc)⟩
  · have HR := Lib.hid (show roomI s n k = n * s.percent / 100 - k by unfold roomI; rw [if_neg h])
    go_enter Try.func10, Try.ntmps10
    go_wp2_with (fail)
    refine (sets_yes _ _ HS.out).mono ?_
    rintro e w1 ⟨rfl, hb⟩
    obtain ⟨⟨s0, s1, s2, s3, s4, s5, s6⟩, _⟩ := ((SetBox.new w w.heap.size rfl s).kept hb).cell
    have hz := hb.size
    simp at hz
    have z0 : w.heap.size < w1.heap.size := by omega
    have z1 : w.heap.size < w1.heap.size + 1 := by omega
    have z2 : w.heap.size < w1.heap.size + 1 + 1 := by omega
    have HB := Lib.hid (below_step (below_alloc (Below.refl w.heap.size w) _) hb)
    clear hb hz
    go_wp2_with (fail)
    refine (in1_t _ _ _ _ _ _ (by simp) H1.out).mono ?_
    rintro e w2 ⟨rfl, rfl⟩
    go_wp2_with (fail)
    refine (in1_t _ _ _ _ _ _ (by simp) H2.out).mono ?_
    rintro e w2 ⟨rfl, rfl⟩
    go_wp2
    all_goals
      go_ret2
      exact ⟨by rw [HR.out]; first | rfl | (simp; omega), by repeat (first | exact HB.out | apply below_alloc)⟩

set_option maxHeartbeats 1000000 in
theorem rroom_no (s : OSet) (n k : Int) (w : World) (h : ¬ RoomP s n k) : Calls Try.prog 22 #[.agg #[.int .i64 s.row, .int .i64 s.mille, .int .i64 s.least, .int .i64 s.base, .int .i64 s.most, .int .i64 s.percent, .int .i64 s.panic], .int .i64 n, .int .i64 k] w (Gives (.tuple #[.int .i64 0, .int .i64 4]) w) := by
  by_cases hs : SetsP s
  · by_cases h1 : 0 ≤ n ∧ n ≤ 32
    · by_cases h2 : 0 ≤ k ∧ k ≤ n
      · exact absurd ⟨hs, h1.1, h1.2, h2.1, h2.2⟩ h
      · have HS := Lib.hid hs
        have H1 := Lib.hid h1
        have H2 := Lib.hid h2
        clear hs h1 h2 h
        go_enter Try.func22, Try.ntmps22
        go_wp2_with (fail)
        refine (rsets_yes _ _ HS.out).mono ?_
        rintro e w1 ⟨rfl, hb⟩
        obtain ⟨⟨s0, s1, s2, s3, s4, s5, s6⟩, _⟩ := ((SetBox.new w w.heap.size rfl s).kept hb).cell
        have hz := hb.size
        simp at hz
        have z0 : w.heap.size < w1.heap.size := by omega
        have z1 : w.heap.size < w1.heap.size + 1 := by omega
        have z2 : w.heap.size < w1.heap.size + 1 + 1 := by omega
        have HB := Lib.hid (below_step (below_alloc (Below.refl w.heap.size w) _) hb)
        clear hb hz
        go_wp2_with (fail)
        refine (rin_t _ _ _ _ H1.out).mono ?_
        rintro e w2 ⟨rfl, rfl⟩
        go_wp2_with (fail)
        refine (rin_f _ _ _ _ H2.out).mono ?_
        rintro e w2 ⟨rfl, rfl⟩
        go_wp2
        go_ret2
        exact ⟨rfl, by repeat (first | exact HB.out | apply below_alloc)⟩
    · have HS := Lib.hid hs
      have H1 := Lib.hid h1
      clear hs h1 h
      go_enter Try.func22, Try.ntmps22
      go_wp2_with (fail)
      refine (rsets_yes _ _ HS.out).mono ?_
      rintro e w1 ⟨rfl, hb⟩
      obtain ⟨⟨s0, s1, s2, s3, s4, s5, s6⟩, _⟩ := ((SetBox.new w w.heap.size rfl s).kept hb).cell
      have hz := hb.size
      simp at hz
      have z0 : w.heap.size < w1.heap.size := by omega
      have z1 : w.heap.size < w1.heap.size + 1 := by omega
      have z2 : w.heap.size < w1.heap.size + 1 + 1 := by omega
      have HB := Lib.hid (below_step (below_alloc (Below.refl w.heap.size w) _) hb)
      clear hb hz
      go_wp2_with (fail)
      refine (rin_f _ _ _ _ H1.out).mono ?_
      rintro e w2 ⟨rfl, rfl⟩
      go_wp2
      go_ret2
      exact ⟨rfl, by repeat (first | exact HB.out | apply below_alloc)⟩
  · have HS := Lib.hid hs
    clear hs h
    go_enter Try.func22, Try.ntmps22
    go_wp2_with (fail)
    refine (rsets_no _ _ HS.out).mono ?_
    rintro e w1 ⟨rfl, hb⟩
    have HB := Lib.hid (below_step (below_alloc (Below.refl w.heap.size w) _) hb)
    clear hb
    go_wp2
    go_ret2
    exact ⟨rfl, by repeat (first | exact HB.out | apply below_alloc)⟩

set_option maxHeartbeats 1000000 in
theorem rroom_ok (s : OSet) (n k : Int) (w : World) (h : RoomP s n k) : Calls Try.prog 22 #[.agg #[.int .i64 s.row, .int .i64 s.mille, .int .i64 s.least, .int .i64 s.base, .int .i64 s.most, .int .i64 s.percent, .int .i64 s.panic], .int .i64 n, .int .i64 k] w (Gives (.tuple #[.int .i64 (roomI s n k), .int .i64 0]) w) := by
  obtain ⟨hs, n0, n1, k0, k1⟩ := h
  have p0 := hs.percent0
  have p1 := hs.percent1
  have q0 : 0 ≤ n * s.percent := Int.mul_nonneg n0 p0
  have q1 : n * s.percent ≤ 32 * 100 := Int.mul_le_mul n1 p1 p0 (by omega)
  have HS := Lib.hid hs
  have H1 : Hid (0 ≤ n ∧ n ≤ 32) := ⟨n0, n1⟩
  have H2 : Hid (0 ≤ k ∧ k ≤ n) := ⟨k0, k1⟩
  clear hs
  by_cases h : n * s.percent / 100 - k < 0
  · have HR := Lib.hid (show roomI s n k = 0 by unfold roomI; rw [if_pos h])
    go_enter Try.func22, Try.ntmps22
    go_wp2_with (fail)
    refine (rsets_yes _ _ HS.out).mono ?_
    rintro e w1 ⟨rfl, hb⟩
    obtain ⟨⟨s0, s1, s2, s3, s4, s5, s6⟩, _⟩ := ((SetBox.new w w.heap.size rfl s).kept hb).cell
    have hz := hb.size
    simp at hz
    have z0 : w.heap.size < w1.heap.size := by omega
    have z1 : w.heap.size < w1.heap.size + 1 := by omega
    have z2 : w.heap.size < w1.heap.size + 1 + 1 := by omega
    have HB := Lib.hid (below_step (below_alloc (Below.refl w.heap.size w) _) hb)
    clear hb hz
    go_wp2_with (fail)
    refine (rin_t _ _ _ _ H1.out).mono ?_
    rintro e w2 ⟨rfl, rfl⟩
    go_wp2_with (fail)
    refine (rin_t _ _ _ _ H2.out).mono ?_
    rintro e w2 ⟨rfl, rfl⟩
    go_wp2
    all_goals
      go_ret2
      exact ⟨by rw [HR.out]; first | rfl | (simp; omega), by repeat (first | exact HB.out | apply below_alloc)⟩
  · have HR := Lib.hid (show roomI s n k = n * s.percent / 100 - k by unfold roomI; rw [if_neg h])
    go_enter Try.func22, Try.ntmps22
    go_wp2_with (fail)
    refine (rsets_yes _ _ HS.out).mono ?_
    rintro e w1 ⟨rfl, hb⟩
    obtain ⟨⟨s0, s1, s2, s3, s4, s5, s6⟩, _⟩ := ((SetBox.new w w.heap.size rfl s).kept hb).cell
    have hz := hb.size
    simp at hz
    have z0 : w.heap.size < w1.heap.size := by omega
    have z1 : w.heap.size < w1.heap.size + 1 := by omega
    have z2 : w.heap.size < w1.heap.size + 1 + 1 := by omega
    have HB := Lib.hid (below_step (below_alloc (Below.refl w.heap.size w) _) hb)
    clear hb hz
    go_wp2_with (fail)
    refine (rin_t _ _ _ _ H1.out).mono ?_
    rintro e w2 ⟨rfl, rfl⟩
    go_wp2_with (fail)
    refine (rin_t _ _ _ _ H2.out).mono ?_
    rintro e w2 ⟨rfl, rfl⟩
    go_wp2
    all_goals
      go_ret2
      exact ⟨by rw [HR.out]; first | rfl | (simp; omega), by repeat (first | exact HB.out | apply below_alloc)⟩

set_option maxHeartbeats 1000000 in
theorem panics_no (s : OSet) (n k : Int) (w : World) (h : ¬ RoomP s n k) : Calls Try.prog 12 #[.agg #[.int .i64 s.row, .int .i64 s.mille, .int .i64 s.least, .int .i64 s.base, .int .i64 s.most, .int .i64 s.percent, .int .i64 s.panic], .int .i64 n, .int .i64 k] w (Gives (.tuple #[.bool false, .int .i64 4]) w) := by
  by_cases hs : SetsP s
  · by_cases h1 : 0 ≤ n ∧ n ≤ 32
    · by_cases h2 : 0 ≤ k ∧ k ≤ n
      · exact absurd ⟨hs, h1.1, h1.2, h2.1, h2.2⟩ h
      · have HS := Lib.hid hs
        have H1 := Lib.hid h1
        have H2 := Lib.hid h2
        clear hs h1 h2 h
        go_enter Try.func12, Try.ntmps12
        go_wp2_with (fail)
        refine (sets_yes _ _ HS.out).mono ?_
        rintro e w1 ⟨rfl, hb⟩
        obtain ⟨⟨s0, s1, s2, s3, s4, s5, s6⟩, _⟩ := ((SetBox.new w w.heap.size rfl s).kept hb).cell
        have hz := hb.size
        simp at hz
        have z0 : w.heap.size < w1.heap.size := by omega
        have z1 : w.heap.size < w1.heap.size + 1 := by omega
        have z2 : w.heap.size < w1.heap.size + 1 + 1 := by omega
        have HB := Lib.hid (below_step (below_alloc (Below.refl w.heap.size w) _) hb)
        clear hb hz
        go_wp2_with (fail)
        refine (in1_t _ _ _ _ _ _ (by simp) H1.out).mono ?_
        rintro e w2 ⟨rfl, rfl⟩
        go_wp2_with (fail)
        refine (in1_f _ _ _ _ _ _ (by simp) H2.out).mono ?_
        rintro e w2 ⟨rfl, rfl⟩
        go_wp2
        go_ret2
        exact ⟨rfl, by repeat (first | exact HB.out | apply below_alloc)⟩
    · have HS := Lib.hid hs
      have H1 := Lib.hid h1
      clear hs h1 h
      go_enter Try.func12, Try.ntmps12
      go_wp2_with (fail)
      refine (sets_yes _ _ HS.out).mono ?_
      rintro e w1 ⟨rfl, hb⟩
      obtain ⟨⟨s0, s1, s2, s3, s4, s5, s6⟩, _⟩ := ((SetBox.new w w.heap.size rfl s).kept hb).cell
      have hz := hb.size
      simp at hz
      have z0 : w.heap.size < w1.heap.size := by omega
      have z1 : w.heap.size < w1.heap.size + 1 := by omega
      have z2 : w.heap.size < w1.heap.size + 1 + 1 := by omega
      have HB := Lib.hid (below_step (below_alloc (Below.refl w.heap.size w) _) hb)
      clear hb hz
      go_wp2_with (fail)
      refine (in1_f _ _ _ _ _ _ (by simp) H1.out).mono ?_
      rintro e w2 ⟨rfl, rfl⟩
      go_wp2
      go_ret2
      exact ⟨rfl, by repeat (first | exact HB.out | apply below_alloc)⟩
  · have HS := Lib.hid hs
    clear hs h
    go_enter Try.func12, Try.ntmps12
    go_wp2_with (fail)
    refine (sets_no _ _ HS.out).mono ?_
    rintro e w1 ⟨rfl, hb⟩
    have HB := Lib.hid (below_step (below_alloc (Below.refl w.heap.size w) _) hb)
    clear hb
    go_wp2
    go_ret2
    exact ⟨rfl, by repeat (first | exact HB.out | apply below_alloc)⟩

set_option maxHeartbeats 1000000 in
theorem panics_ok (s : OSet) (n k : Int) (w : World) (h : RoomP s n k) : Calls Try.prog 12 #[.agg #[.int .i64 s.row, .int .i64 s.mille, .int .i64 s.least, .int .i64 s.base, .int .i64 s.most, .int .i64 s.percent, .int .i64 s.panic], .int .i64 n, .int .i64 k] w (Gives (.tuple #[.bool (decide (100 * k < s.panic * n)), .int .i64 0]) w) := by
  obtain ⟨hs, n0, n1, k0, k1⟩ := h
  have p0 := hs.panic0
  have p1 := hs.panic1
  have q0 : 0 ≤ s.panic * n := Int.mul_nonneg p0 n0
  have q1 : s.panic * n ≤ 100 * 32 := Int.mul_le_mul p1 n1 n0 (by omega)
  have HS := Lib.hid hs
  have H1 : Hid (0 ≤ n ∧ n ≤ 32) := ⟨n0, n1⟩
  have H2 : Hid (0 ≤ k ∧ k ≤ n) := ⟨k0, k1⟩
  clear hs
  go_enter Try.func12, Try.ntmps12
  go_wp2_with (fail)
  refine (sets_yes _ _ HS.out).mono ?_
  rintro e w1 ⟨rfl, hb⟩
  obtain ⟨⟨s0, s1, s2, s3, s4, s5, s6⟩, _⟩ := ((SetBox.new w w.heap.size rfl s).kept hb).cell
  have hz := hb.size
  simp at hz
  have z0 : w.heap.size < w1.heap.size := by omega
  have z1 : w.heap.size < w1.heap.size + 1 := by omega
  have z2 : w.heap.size < w1.heap.size + 1 + 1 := by omega
  have HB := Lib.hid (below_step (below_alloc (Below.refl w.heap.size w) _) hb)
  clear hb hz
  go_wp2_with (fail)
  refine (in1_t _ _ _ _ _ _ (by simp) H1.out).mono ?_
  rintro e w2 ⟨rfl, rfl⟩
  go_wp2_with (fail)
  refine (in1_t _ _ _ _ _ _ (by simp) H2.out).mono ?_
  rintro e w2 ⟨rfl, rfl⟩
  go_wp2
  go_ret2
  exact ⟨rfl, by repeat (first | exact HB.out | apply below_alloc)⟩

set_option maxHeartbeats 1000000 in
theorem rpanics_no (s : OSet) (n k : Int) (w : World) (h : ¬ RoomP s n k) : Calls Try.prog 23 #[.agg #[.int .i64 s.row, .int .i64 s.mille, .int .i64 s.least, .int .i64 s.base, .int .i64 s.most, .int .i64 s.percent, .int .i64 s.panic], .int .i64 n, .int .i64 k] w (Gives (.tuple #[.bool false, .int .i64 4]) w) := by
  by_cases hs : SetsP s
  · by_cases h1 : 0 ≤ n ∧ n ≤ 32
    · by_cases h2 : 0 ≤ k ∧ k ≤ n
      · exact absurd ⟨hs, h1.1, h1.2, h2.1, h2.2⟩ h
      · have HS := Lib.hid hs
        have H1 := Lib.hid h1
        have H2 := Lib.hid h2
        clear hs h1 h2 h
        go_enter Try.func23, Try.ntmps23
        go_wp2_with (fail)
        refine (rsets_yes _ _ HS.out).mono ?_
        rintro e w1 ⟨rfl, hb⟩
        obtain ⟨⟨s0, s1, s2, s3, s4, s5, s6⟩, _⟩ := ((SetBox.new w w.heap.size rfl s).kept hb).cell
        have hz := hb.size
        simp at hz
        have z0 : w.heap.size < w1.heap.size := by omega
        have z1 : w.heap.size < w1.heap.size + 1 := by omega
        have z2 : w.heap.size < w1.heap.size + 1 + 1 := by omega
        have HB := Lib.hid (below_step (below_alloc (Below.refl w.heap.size w) _) hb)
        clear hb hz
        go_wp2_with (fail)
        refine (rin_t _ _ _ _ H1.out).mono ?_
        rintro e w2 ⟨rfl, rfl⟩
        go_wp2_with (fail)
        refine (rin_f _ _ _ _ H2.out).mono ?_
        rintro e w2 ⟨rfl, rfl⟩
        go_wp2
        go_ret2
        exact ⟨rfl, by repeat (first | exact HB.out | apply below_alloc)⟩
    · have HS := Lib.hid hs
      have H1 := Lib.hid h1
      clear hs h1 h
      go_enter Try.func23, Try.ntmps23
      go_wp2_with (fail)
      refine (rsets_yes _ _ HS.out).mono ?_
      rintro e w1 ⟨rfl, hb⟩
      obtain ⟨⟨s0, s1, s2, s3, s4, s5, s6⟩, _⟩ := ((SetBox.new w w.heap.size rfl s).kept hb).cell
      have hz := hb.size
      simp at hz
      have z0 : w.heap.size < w1.heap.size := by omega
      have z1 : w.heap.size < w1.heap.size + 1 := by omega
      have z2 : w.heap.size < w1.heap.size + 1 + 1 := by omega
      have HB := Lib.hid (below_step (below_alloc (Below.refl w.heap.size w) _) hb)
      clear hb hz
      go_wp2_with (fail)
      refine (rin_f _ _ _ _ H1.out).mono ?_
      rintro e w2 ⟨rfl, rfl⟩
      go_wp2
      go_ret2
      exact ⟨rfl, by repeat (first | exact HB.out | apply below_alloc)⟩
  · have HS := Lib.hid hs
    clear hs h
    go_enter Try.func23, Try.ntmps23
    go_wp2_with (fail)
    refine (rsets_no _ _ HS.out).mono ?_
    rintro e w1 ⟨rfl, hb⟩
    have HB := Lib.hid (below_step (below_alloc (Below.refl w.heap.size w) _) hb)
    clear hb
    go_wp2
    go_ret2
    exact ⟨rfl, by repeat (first | exact HB.out | apply below_alloc)⟩

set_option maxHeartbeats 1000000 in
theorem rpanics_ok (s : OSet) (n k : Int) (w : World) (h : RoomP s n k) : Calls Try.prog 23 #[.agg #[.int .i64 s.row, .int .i64 s.mille, .int .i64 s.least, .int .i64 s.base, .int .i64 s.most, .int .i64 s.percent, .int .i64 s.panic], .int .i64 n, .int .i64 k] w (Gives (.tuple #[.bool (decide (100 * k < s.panic * n)), .int .i64 0]) w) := by
  obtain ⟨hs, n0, n1, k0, k1⟩ := h
  have p0 := hs.panic0
  have p1 := hs.panic1
  have q0 : 0 ≤ s.panic * n := Int.mul_nonneg p0 n0
  have q1 : s.panic * n ≤ 100 * 32 := Int.mul_le_mul p1 n1 n0 (by omega)
  have HS := Lib.hid hs
  have H1 : Hid (0 ≤ n ∧ n ≤ 32) := ⟨n0, n1⟩
  have H2 : Hid (0 ≤ k ∧ k ≤ n) := ⟨k0, k1⟩
  clear hs
  go_enter Try.func23, Try.ntmps23
  go_wp2_with (fail)
  refine (rsets_yes _ _ HS.out).mono ?_
  rintro e w1 ⟨rfl, hb⟩
  obtain ⟨⟨s0, s1, s2, s3, s4, s5, s6⟩, _⟩ := ((SetBox.new w w.heap.size rfl s).kept hb).cell
  have hz := hb.size
  simp at hz
  have z0 : w.heap.size < w1.heap.size := by omega
  have z1 : w.heap.size < w1.heap.size + 1 := by omega
  have z2 : w.heap.size < w1.heap.size + 1 + 1 := by omega
  have HB := Lib.hid (below_step (below_alloc (Below.refl w.heap.size w) _) hb)
  clear hb hz
  go_wp2_with (fail)
  refine (rin_t _ _ _ _ H1.out).mono ?_
  rintro e w2 ⟨rfl, rfl⟩
  go_wp2_with (fail)
  refine (rin_t _ _ _ _ H2.out).mono ?_
  rintro e w2 ⟨rfl, rfl⟩
  go_wp2
  go_ret2
  exact ⟨rfl, by repeat (first | exact HB.out | apply below_alloc)⟩
end Go.Proofs.Ytnhkfhjiolpimaa
