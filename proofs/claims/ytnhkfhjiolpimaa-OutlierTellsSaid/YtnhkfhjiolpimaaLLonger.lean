/- The walk of OutlierLonger: it hands back true. Condition: none but that the numbers are ints. -/
import Derived.Test.YtnhkfhjiolpimaaLRoom
import Derived.Laws.StructEq
namespace Go.Proofs.Ytnhkfhjiolpimaa
open Go.RowKit

theorem tmod20_in (n : Int) : -20 < n.tmod 20 ∧ n.tmod 20 < 20 := by
  rcases Int.le_total 0 n with h | h
  · rw [Int.tmod_eq_emod_of_nonneg h]
    omega
  · have e : n.tmod 20 = -((-n).tmod 20) := by rw [Int.neg_tmod, Int.neg_neg]
    rw [e, Int.tmod_eq_emod_of_nonneg (by omega)]
    omega

/-- How long the last ejection was, behind i of them. -/
def lastO (s : OSet) (i : Nat) : Int := if i = 0 then 0 else longO s i

theorem last_next {s : OSet} (hs : SetsP s) (i : Nat) : 0 ≤ lastO s i ∧ lastO s i ≤ longO s ((i : Int) + 1) ∧ (longO s ((i : Int) + 1) < s.most → lastO s i < longO s ((i : Int) + 1)) := by
  have b0 := hs.base0
  have m0 := hs.most0
  have e : s.base * ((i : Int) + 1) = s.base * i + s.base := by rw [Int.mul_add, Int.mul_one]
  have p0 : 0 ≤ s.base * (i : Int) := Int.mul_nonneg (by omega) (by omega)
  unfold lastO longO
  rw [e]
  refine ⟨?_, ?_, ?_⟩
  all_goals
    repeat' split
    all_goals omega

theorem times_next (i : Nat) (h : i < 20) : timesO (i : Int) = (i : Int) + 1 := by unfold timesO; split <;> omega

def atO (i : Nat) (since tick : Int) : Out := ⟨0, 0, 0, i, since, tick, false⟩
def outO (i : Nat) (tick L : Int) : Out := ⟨0, 0, 0, (i : Int) + 1, tick, tick + L, true⟩

theorem m20 : (0 : Int) ≤ 1048576 := by decide

theorem step_eject (s : OSet) (i : Nat) (since tick : Int) (hs : SetsP s) (hi : i < 20) (h0 : 0 ≤ since) (h1 : since ≤ tick) (h2 : tick ≤ 20971520) (w : World) :
    Calls Try.prog 13 #[.agg #[.int .i64 0, .int .i64 0, .int .i64 0, .int .i64 i, .int .i64 since, .int .i64 tick, .bool false], .agg #[.int .i64 s.row, .int .i64 s.mille, .int .i64 s.least, .int .i64 s.base, .int .i64 s.most, .int .i64 s.percent, .int .i64 s.panic], .int .i64 tick] w
      (Gives (.tuple #[.agg #[.int .i64 0, .int .i64 0, .int .i64 0, .int .i64 ((i : Int) + 1), .int .i64 tick, .int .i64 (tick + longO s ((i : Int) + 1)), .bool true], .int .i64 0]) w) := by
  have hO : OutP (atO i since tick) := ⟨Int.le_refl 0, m20, Int.le_refl 0, m20, Int.le_refl 0, m20, by show (0 : Int) ≤ i; omega, by show (i : Int) ≤ 1000; omega, h0, by show since ≤ 1073741824; omega, by show 0 ≤ tick; omega, by show tick ≤ 1073741824; omega⟩
  have h := eject_ok (atO i since tick) s tick w (chk_ok hs ⟨by omega, by omega⟩ hO) rfl
  have e : ejectO (atO i since tick) s tick = outO i tick (longO s ((i : Int) + 1)) := by
    unfold ejectO atO outO
    rw [times_next i hi]
  rw [e] at h
  exact h

theorem outO_in {s : OSet} {i : Nat} {tick L : Int} (hi : i < 20) (h0 : 0 ≤ tick) (h2 : tick ≤ 20971520) (l0 : 1 ≤ L) (l1 : L ≤ s.most) (hs : SetsP s) : OutP (outO i tick L) := by
  have := hs.most1
  exact ⟨Int.le_refl 0, m20, Int.le_refl 0, m20, Int.le_refl 0, m20, by show (0 : Int) ≤ (i : Int) + 1; omega, by show (i : Int) + 1 ≤ 1000; omega, h0, by show tick ≤ 1073741824; omega, by show 0 ≤ tick + L; omega, by show tick + L ≤ 1073741824; omega⟩

theorem step_ahead (s : OSet) (i : Nat) (tick L : Int) (hs : SetsP s) (hi : i < 20) (h0 : 0 ≤ tick) (h2 : tick ≤ 20971520) (l0 : 1 ≤ L) (l1 : L ≤ s.most) (w : World) :
    Calls Try.prog 15 #[.agg #[.int .i64 0, .int .i64 0, .int .i64 0, .int .i64 ((i : Int) + 1), .int .i64 tick, .int .i64 (tick + L), .bool true], .agg #[.int .i64 s.row, .int .i64 s.mille, .int .i64 s.least, .int .i64 s.base, .int .i64 s.most, .int .i64 s.percent, .int .i64 s.panic], .int .i64 (tick + L - 1)] w
      (Gives (.tuple #[.agg #[.int .i64 0, .int .i64 0, .int .i64 0, .int .i64 ((i : Int) + 1), .int .i64 tick, .int .i64 (tick + L), .bool true], .int .i64 0]) w) := by
  have m := hs.most1
  have h := tick_ok (outO i tick L) s (tick + L - 1) w (chk_ok hs ⟨by omega, by omega⟩ (outO_in hi h0 h2 l0 l1 hs))
  have e : tickO (outO i tick L) (tick + L - 1) = outO i tick L := by
    unfold tickO
    rw [if_neg (by show ¬ tick + L ≤ tick + L - 1; omega)]
  rw [e] at h
  exact h

theorem step_over (s : OSet) (i : Nat) (tick L : Int) (hs : SetsP s) (hi : i < 20) (h0 : 0 ≤ tick) (h2 : tick ≤ 20971520) (l0 : 1 ≤ L) (l1 : L ≤ s.most) (w : World) :
    Calls Try.prog 15 #[.agg #[.int .i64 0, .int .i64 0, .int .i64 0, .int .i64 ((i : Int) + 1), .int .i64 tick, .int .i64 (tick + L), .bool true], .agg #[.int .i64 s.row, .int .i64 s.mille, .int .i64 s.least, .int .i64 s.base, .int .i64 s.most, .int .i64 s.percent, .int .i64 s.panic], .int .i64 (tick + L)] w
      (Gives (.tuple #[.agg #[.int .i64 0, .int .i64 0, .int .i64 0, .int .i64 ((i : Int) + 1), .int .i64 tick, .int .i64 (tick + L), .bool false], .int .i64 0]) w) := by
  have m := hs.most1
  have h := tick_ok (outO i tick L) s (tick + L) w (chk_ok hs ⟨by omega, by omega⟩ (outO_in hi h0 h2 l0 l1 hs))
  have e : tickO (outO i tick L) (tick + L) = { outO i tick L with out := false } := by
    unfold tickO
    exact if_pos (by show tick + L ≤ tick + L; omega)
  rw [e] at h
  exact h

/-- What holds at the head of a round: i ejections are over. -/
def Lng (s : OSet) (N : Int) (w : World) (r : Nat) (wr : World) (vl vt vi : Value) : Prop :=
  ∃ (i : Nat) (since tick last : Int), (i : Int) ≤ N ∧ vi = .int .i64 i ∧ vl = .int .i64 last ∧ vt = .int .i64 tick ∧ last = lastO s i ∧ OutBox wr r (atO i since tick) ∧ SetBox wr w.heap.size s ∧ Below w.heap.size w wr ∧ 0 ≤ since ∧ since ≤ tick ∧ tick ≤ (i : Int) * 1048576

theorem OutBox.drew {w : World} {b : Nat} {o : Out} (h : OutBox w b o) : OutBox w.drew b o := h.heap rfl
theorem SetBox.drew {w : World} {b : Nat} {s : OSet} (h : SetBox w b s) : SetBox w.drew b s := h.heap rfl

theorem long_box {w : World} {b : Nat} {o : Out} {r g d m s u : Int} {x : Bool} (h : OutBox w b o) (y : Obj) :
    OutBox ((((((((w.setCell ⟨b, 0, none⟩ (.int .i64 r)).setCell ⟨b, 1, none⟩ (.int .i64 g)).setCell ⟨b, 2, none⟩ (.int .i64 d)).setCell ⟨b, 3, none⟩ (.int .i64 m)).setCell ⟨b, 4, none⟩ (.int .i64 s)).setCell ⟨b, 5, none⟩ (.int .i64 u)).setCell ⟨b, 6, none⟩ (.bool x)).alloc y).drew b ⟨r, g, d, m, s, u, x⟩ :=
  ((h.whole r g d m s u x).alloc y).drew

theorem SetBox.setFar {w : World} {b c j : Nat} {s : OSet} (h : SetBox w b s) (v : Value) (hne : b ≠ c) : SetBox (w.setCell ⟨c, j, none⟩ v) b s := by
  unfold SetBox at h ⊢
  exact block_far h hne v

theorem long_set {w : World} {b c : Nat} {z : OSet} {r g d m s u : Int} {x : Bool} (h : SetBox w c z) (hne : c ≠ b) (y : Obj) :
    SetBox ((((((((w.setCell ⟨b, 0, none⟩ (.int .i64 r)).setCell ⟨b, 1, none⟩ (.int .i64 g)).setCell ⟨b, 2, none⟩ (.int .i64 d)).setCell ⟨b, 3, none⟩ (.int .i64 m)).setCell ⟨b, 4, none⟩ (.int .i64 s)).setCell ⟨b, 5, none⟩ (.int .i64 u)).setCell ⟨b, 6, none⟩ (.bool x)).alloc y).drew c z :=
  ((((((((h.setFar _ hne).setFar _ hne).setFar _ hne).setFar _ hne).setFar _ hne).setFar _ hne).setFar _ hne).alloc y).drew

theorem long_below {a w : World} {b : Nat} {r g d m s u : Int} {x : Bool} (h : Below a.heap.size a w) (hb : a.heap.size ≤ b) (y : Obj) :
    Below a.heap.size a ((((((((w.setCell ⟨b, 0, none⟩ (.int .i64 r)).setCell ⟨b, 1, none⟩ (.int .i64 g)).setCell ⟨b, 2, none⟩ (.int .i64 d)).setCell ⟨b, 3, none⟩ (.int .i64 m)).setCell ⟨b, 4, none⟩ (.int .i64 s)).setCell ⟨b, 5, none⟩ (.int .i64 u)).setCell ⟨b, 6, none⟩ (.bool x)).alloc y).drew :=
  (below_alloc (whole_below h hb r g d m s u x) y).drew

set_option maxRecDepth 100000 in
set_option maxHeartbeats 4000000 in
theorem longer_ok (s : OSet) (n : Int) (w : World) (hs : SetsP s) : Calls Try.prog 4 #[.agg #[.int .i64 s.row, .int .i64 s.mille, .int .i64 s.least, .int .i64 s.base, .int .i64 s.most, .int .i64 s.percent, .int .i64 s.panic], .int .i64 n] w (Gives (.bool true) w) := by
  have HS := Lib.hid hs
  obtain ⟨t0, t1⟩ := tmod20_in n
  clear hs
  go_enter Try.func4, Try.ntmps4
  go_wp2_with (fail)
  refine (alive_any _).mono ?_
  rintro e1 w1 ⟨rfl, hb⟩
  have HX := Lib.hid ((SetBox.new w w.heap.size rfl s).kept hb)
  have HB := Lib.hid (below_step (below_alloc (Below.refl w.heap.size w) _) hb)
  clear hb
  go_wp2_with (fail)
  have n0 : 0 ≤ (n.tmod 20 + 20) % 20 := by omega
  have n1 : (n.tmod 20 + 20) % 20 ≤ 19 := by omega
  generalize (n.tmod 20 + 20) % 20 = N at *
  clear t0 t1
  go_loopw [6, 7, 8] (fun vl vt vi wr => Lng s N w w1.heap.size wr vl vt vi) (fun _ _ i _ => (N - intOf i).toNat)
  case atStart => exact ⟨0, 0, 0, 0, n0, rfl, rfl, rfl, rfl, OutBox.new w1 _ rfl (atO 0 0 0), HX.out.alloc _, below_alloc HB.out _, Int.le_refl _, Int.le_refl _, Int.le_refl _⟩
  case round =>
    obtain ⟨i, since, tick, last, hi, rfl, rfl, rfl, hlast, hO, hX, hB, q0, q1, q2⟩ := hrel
    have HO1 := Lib.hid hO
    have HX1 := Lib.hid hX
    have HB1 := Lib.hid hB
    obtain ⟨⟨d0, d1, d2, d3, d4, d5, d6⟩, _⟩ := hO.cell
    obtain ⟨⟨s0, s1, s2, s3, s4, s5, s6⟩, _⟩ := hX.cell
    have HR := hO.lt
    clear hO hX hB
    by_cases hlt : (i : Int) < N
    · have hi20 : i < 20 := by omega
      have hL := longO_in HS.out (t := (i : Int) + 1) (by omega)
      have hN := last_next HS.out i
      rw [← hlast] at hN
      have HL := Lib.hid hlast
      clear hlast
      have t20 : tick ≤ 20971520 := by omega
      have k1 := fun W => step_eject s i since tick HS.out hi20 q0 q1 t20 W
      have k2 := fun W => step_ahead s i tick _ HS.out hi20 (by omega) t20 hL.1 hL.2 W
      have k3 := fun W => step_over s i tick _ HS.out hi20 (by omega) t20 hL.1 hL.2 W
      have HE : Hid (longO s ((i : Int) + 1) = lastO s (i + 1)) := by show _ = _; unfold lastO; rw [if_neg (by omega)]; rfl
      generalize longO s ((i : Int) + 1) = L at *
      have K1 := Lib.hid k1
      have K2 := Lib.hid k2
      have K3 := Lib.hid k3
      obtain ⟨l1, l2⟩ := hL
      obtain ⟨l3, l4, l5⟩ := hN
      have H5 := Lib.hid l5
      have m1 := HS.out.most1
      clear k1 k2 k3 l5
      simp only [atO] at d0 d1 d2 d3 d4 d5 d6
      go_wp2_with (fail)
      refine (K1.out _).mono ?_
      rintro e1 w2 ⟨rfl, hb⟩
      have HO2 := Lib.hid (HO1.out.kept hb)
      have HX2 := Lib.hid (HX1.out.kept hb)
      have HB2 := Lib.hid (below_step HB1.out hb)
      have z2 := Nat.lt_of_lt_of_le HR hb.size
      clear hb d0 d1 d2 d3 d4 d5 d6 s0 s1 s2 s3 s4 s5 s6
      obtain ⟨⟨s0, s1, s2, s3, s4, s5, s6⟩, _⟩ := HX2.out.cell
      have y2 := HX2.out.lt
      go_wp2_with (go_at_call 11; refine (num_any _ _).mono ?_; rintro e1 w9 ⟨rfl, rfl⟩)
      refine (K2.out _).mono ?_
      rintro e1 w3 ⟨rfl, hb⟩
      have XO3 := Lib.hid ((OutBox.new w2 _ rfl (outO i tick L)).kept hb)
      have HO3 := Lib.hid ((HO2.out.alloc _).kept hb)
      have HX3 := Lib.hid ((HX2.out.alloc _).kept hb)
      have HB3 := Lib.hid (below_step (below_alloc HB2.out _) hb)
      clear hb y2 s0 s1 s2 s3 s4 s5 s6
      obtain ⟨⟨s0, s1, s2, s3, s4, s5, s6⟩, _⟩ := HX3.out.cell
      obtain ⟨⟨x0, x1, x2, x3, x4, x5, x6⟩, _⟩ := XO3.out.cell
      simp only [outO] at x0 x1 x2 x3 x4 x5 x6
      have y3 := HX3.out.lt
      have v3 := XO3.out.lt
      go_wp2_with (go_at_call 11; refine (num_any _ _).mono ?_; rintro e1 w9 ⟨rfl, rfl⟩)
      refine (K3.out _).mono ?_
      rintro e1 w4 ⟨rfl, hb⟩
      have XO4 := Lib.hid ((XO3.out.alloc _).kept hb)
      have YO4 := Lib.hid ((OutBox.new w3 _ rfl (outO i tick L)).kept hb)
      have HO4 := Lib.hid ((HO3.out.alloc _).kept hb)
      have HX4 := Lib.hid ((HX3.out.alloc _).kept hb)
      have HB4 := Lib.hid (below_step (below_alloc HB3.out _) hb)
      clear hb y3 v3 s0 s1 s2 s3 s4 s5 s6 x0 x1 x2 x3 x4 x5 x6
      obtain ⟨⟨s0, s1, s2, s3, s4, s5, s6⟩, _⟩ := HX4.out.cell
      obtain ⟨⟨x0, x1, x2, x3, x4, x5, x6⟩, _⟩ := XO4.out.cell
      obtain ⟨⟨_, _, _, _, _, _, y6⟩, _⟩ := YO4.out.cell
      simp only [outO] at x0 x1 x2 x3 x4 x5 x6 y6
      obtain ⟨⟨o0, o1, o2, o3, o4, o5, o6⟩, of⟩ := HO4.out.cell
      have f0 := of 0
      have f1 := of 1
      have f2 := of 2
      have f3 := of 3
      have f4 := of 4
      have f5 := of 5
      have f6 := of 6
      simp only [atO] at o0 o1 o2 o3 o4 o5 o6
      have y4 := HX4.out.lt
      have v4 := XO4.out.lt
      have u4 := YO4.out.lt
      have z4 := HO4.out.lt
      clear of
      have hM : tick + L - tick ≤ s.most := by omega
      have hl : last ≤ tick + L - tick := by omega
      by_cases hA : L < s.most
      · have hA1 : tick + L - tick < s.most := by omega
        have hA2 : last < tick + L - tick := by have := H5.out hA; omega
        have hA3 : (tick + L - tick == last) = false := by rw [beq_eq_false_iff_ne]; omega
        go_wp2_with (go_at_call 11; refine (num_any _ _).mono ?_; rintro e1 w9 ⟨rfl, rfl⟩)
        go_region
        go_wp2
        go_roundw
        case rel => exact ⟨i + 1, tick, tick + L, _, by omega, by go_num, rfl, rfl, by rw [← HE.out]; omega, long_box HO4.out _, long_set HX4.out (by have := HX.out.lt; omega) _, long_below HB4.out (Nat.le_of_lt HX.out.lt) _, by omega, by omega, by rw [Int.natCast_add, Int.add_mul]; omega⟩
        case measure => simp [intOf]; omega
      · have hA2 : s.most ≤ tick + L - tick := by omega
        go_wp2_with (go_at_call 11; refine (num_any _ _).mono ?_; rintro e1 w9 ⟨rfl, rfl⟩)
        go_region
        go_wp2
        go_roundw
        case rel => exact ⟨i + 1, tick, tick + L, _, by omega, by go_num, rfl, rfl, by rw [← HE.out]; omega, long_box HO4.out _, long_set HX4.out (by have := HX.out.lt; omega) _, long_below HB4.out (Nat.le_of_lt HX.out.lt) _, by omega, by omega, by rw [Int.natCast_add, Int.add_mul]; omega⟩
        case measure => simp [intOf]; omega
    · go_wp2
      go_ret
      exact ⟨rfl, HB1.out⟩

theorem bad_eject (s : OSet) (hs : ¬ SetsP s) (w : World) :
    Calls Try.prog 13 #[.agg #[.int .i64 0, .int .i64 0, .int .i64 0, .int .i64 0, .int .i64 0, .int .i64 0, .bool false], .agg #[.int .i64 s.row, .int .i64 s.mille, .int .i64 s.least, .int .i64 s.base, .int .i64 s.most, .int .i64 s.percent, .int .i64 s.panic], .int .i64 0] w
      (Gives (.tuple #[.agg #[.int .i64 0, .int .i64 0, .int .i64 0, .int .i64 0, .int .i64 0, .int .i64 0, .bool false], .int .i64 4]) w) :=
  eject_bad Out.zero s 0 4 w (.inl ⟨rfl, fun h => hs h.1⟩) (.inl rfl)

theorem bad_check (s : OSet) (hs : ¬ SetsP s) (w : World) :
    Calls Try.prog 14 #[.agg #[.int .i64 0, .int .i64 0, .int .i64 0, .int .i64 0, .int .i64 0, .int .i64 0, .bool false], .agg #[.int .i64 s.row, .int .i64 s.mille, .int .i64 s.least, .int .i64 s.base, .int .i64 s.most, .int .i64 s.percent, .int .i64 s.panic], .int .i64 0] w (Gives (.int .i64 4) w) :=
  rcheck_any Out.zero s 0 4 w (.inl ⟨rfl, fun h => hs h.1⟩)

/-- Nothing has been done. -/
def Lng0 (s : OSet) (w : World) (r : Nat) (wr : World) (vl vt vi : Value) : Prop :=
  vi = .int .i64 0 ∧ vl = .int .i64 0 ∧ vt = .int .i64 0 ∧ OutBox wr r Out.zero ∧ SetBox wr w.heap.size s ∧ Below w.heap.size w wr

set_option maxRecDepth 100000 in
set_option maxHeartbeats 2000000 in
theorem longer_no (s : OSet) (n : Int) (w : World) (hs : ¬ SetsP s) : Calls Try.prog 4 #[.agg #[.int .i64 s.row, .int .i64 s.mille, .int .i64 s.least, .int .i64 s.base, .int .i64 s.most, .int .i64 s.percent, .int .i64 s.panic], .int .i64 n] w (Gives (.bool true) w) := by
  have HS := Lib.hid hs
  obtain ⟨t0, t1⟩ := tmod20_in n
  clear hs
  go_enter Try.func4, Try.ntmps4
  go_wp2_with (fail)
  refine (alive_any _).mono ?_
  rintro e1 w1 ⟨rfl, hb⟩
  have HX := Lib.hid ((SetBox.new w w.heap.size rfl s).kept hb)
  have HB := Lib.hid (below_step (below_alloc (Below.refl w.heap.size w) _) hb)
  clear hb
  go_wp2_with (fail)
  have n0 : 0 ≤ (n.tmod 20 + 20) % 20 := by omega
  have n1 : (n.tmod 20 + 20) % 20 ≤ 19 := by omega
  generalize (n.tmod 20 + 20) % 20 = N at *
  clear t0 t1
  go_loopw [6, 7, 8] (fun vl vt vi wr => Lng0 s w w1.heap.size wr vl vt vi) (fun _ _ _ _ => 0)
  case atStart => exact ⟨rfl, rfl, rfl, OutBox.new w1 _ rfl Out.zero, HX.out.alloc _, below_alloc HB.out _⟩
  case round =>
    obtain ⟨rfl, rfl, rfl, hO, hX, hB⟩ := hrel
    have HO1 := Lib.hid hO
    have HX1 := Lib.hid hX
    have HB1 := Lib.hid hB
    obtain ⟨⟨d0, d1, d2, d3, d4, d5, d6⟩, _⟩ := hO.cell
    obtain ⟨⟨s0, s1, s2, s3, s4, s5, s6⟩, _⟩ := hX.cell
    simp only [Out.zero] at d0 d1 d2 d3 d4 d5 d6
    clear hO hX hB
    by_cases hlt : 0 < N
    · go_wp2_with (fail)
      refine (bad_eject s HS.out _).mono ?_
      rintro e1 w2 ⟨rfl, hb⟩
      have HO2 := Lib.hid (HO1.out.kept hb)
      have HX2 := Lib.hid (HX1.out.kept hb)
      have HB2 := Lib.hid (below_step HB1.out hb)
      clear hb d0 d1 d2 d3 d4 d5 d6 s0 s1 s2 s3 s4 s5 s6
      obtain ⟨⟨s0, s1, s2, s3, s4, s5, s6⟩, _⟩ := HX2.out.cell
      obtain ⟨⟨d0, d1, d2, d3, d4, d5, d6⟩, _⟩ := HO2.out.cell
      simp only [Out.zero] at d0 d1 d2 d3 d4 d5 d6
      have y2 := HX2.out.lt
      have z2 := HO2.out.lt
      go_wp2_with (go_at_call 11; refine (num_any _ _).mono ?_; rintro e1 w9 ⟨rfl, rfl⟩)
      refine (bad_check s HS.out _).mono ?_
      rintro e1 w3 ⟨rfl, hb⟩
      have HB3 := Lib.hid (below_step (below_alloc HB2.out _) hb)
      clear hb d0 d1 d2 d3 d4 d5 d6 s0 s1 s2 s3 s4 s5 s6
      go_wp2
      go_ret
      exact ⟨rfl, HB3.out⟩
    · go_wp2
      go_ret
      exact ⟨rfl, HB1.out⟩

theorem longer_walk (s : OSet) (n : Int) (w : World) : Calls Try.prog 4 #[.agg #[.int .i64 s.row, .int .i64 s.mille, .int .i64 s.least, .int .i64 s.base, .int .i64 s.most, .int .i64 s.percent, .int .i64 s.panic], .int .i64 n] w (Gives (.bool true) w) := by
  by_cases h : SetsP s
  · exact longer_ok s n w h
  · exact longer_no s n w h
end Go.Proofs.Ytnhkfhjiolpimaa
