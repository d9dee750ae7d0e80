/- The walks of BucketBound and BucketEmpty: each hands back true. Condition: the slice reads as the list, and is no longer than the reach. -/
import Derived.Test.YtaaebnfagbiaiaaRuns
import Derived.Test.YtaaebnfagbiaiaaPlainBound
namespace Go.Proofs.Ytaaebnfagbiaiaa
open Go.RowKit

/-- What holds at the head of a round of BucketBound's count. -/
def Count (l : List Int) (vx vy vi : Value) : Prop :=
  ∃ (i : Nat) (x y : Int), i ≤ l.length ∧ vi = .int .i64 i ∧ vx = .int .i64 x ∧ vy = .int .i64 y ∧ x = cnt 1 (l.take i) ∧ y = cnt 2 (l.take i)

theorem count_close {l : List Int} {i : Nat} {x y x' y' : Int} {vx vy vi : Value} (hi : i < l.length) (hx : x = cnt 1 (l.take i)) (hy : y = cnt 2 (l.take i))
    (h1 : vi = .int .i64 ((i + 1 : Nat) : Int)) (h2 : vx = .int .i64 x') (h3 : vy = .int .i64 y') (e1 : x' = x + if l.getD i 0 = 1 then 1 else 0) (e2 : y' = y + if l.getD i 0 = 2 then 1 else 0) : Count l vx vy vi :=
  ⟨i + 1, x', y', hi, h1, h2, h3, by rw [cnt_take 1 l i hi, ← hx, e1], by rw [cnt_take 2 l i hi, ← hy, e2]⟩

theorem cnt_in (a : Int) (l : List Int) (i : Nat) (h : i ≤ l.length) : 0 ≤ cnt a (l.take i) ∧ cnt a (l.take i) ≤ i := by
  have := cnt_bd a (l.take i)
  simp at this
  omega

set_option maxHeartbeats 2000000 in
theorem bound_bad (c t r k : Int) (a : Option Addr) (l : List Int) (cap : Nat) (w : World) (e : Int) (he : e = 4 ∨ e = 3 ∨ e = 23) (hC : Comes c t r k l 0 0 e) (hl : IntsAt w a l) (hm : l.length ≤ maxLen) :
    Calls Try.prog 4 #[.agg #[.int .i64 c, .int .i64 t, .int .i64 r, .int .i64 k], .slice a l.length cap] w (Gives (.bool true) w) := by
  have HC := Lib.hid hC
  have HL := Lib.hid hl
  have HM := Lib.hid hm
  clear hC hl hm
  rcases he with rfl | rfl | rfl
  all_goals
    go_enter Try.func4, Try.ntmps4
    go_wp2_with (fail)
    refine (alive_any _).mono ?_
    rintro e1 w1 ⟨rfl, hb⟩
    obtain ⟨hc, hf⟩ := bcell hb
    have HB := Lib.hid (below_step (below_alloc (Below.refl w.heap.size w) _) hb)
    clear hb
    go_wp2_with (fail)
    refine (run_comes HC.out _ _ _ (HL.out.below HB.out (Nat.le_refl _)) HM.out).mono ?_
    rintro e1 w2 ⟨rfl, hb⟩
    have HB2 := Lib.hid (below_step HB.out hb)
    clear hb
    go_wp2_with (go_at_call 11; refine (num_any _ _).mono ?_; rintro e1 w3 ⟨rfl, rfl⟩)
    go_ret
    exact ⟨rfl, HB2.out⟩

set_option maxHeartbeats 4000000 in
theorem bound_ok (c t r k : Int) (a : Option Addr) (l : List Int) (cap : Nat) (w : World) (h : SetsP c t r k) (hn : l.length ≤ 4096) (hk : AllActs l) (hl : IntsAt w a l) (hm : l.length ≤ maxLen) :
    Calls Try.prog 4 #[.agg #[.int .i64 c, .int .i64 t, .int .i64 r, .int .i64 k], .slice a l.length cap] w (Gives (.bool true) w) := by
  have HC := Lib.hid (Comes.ok h hn hk)
  have HP := Lib.hid (acts_bound c t r k l)
  obtain ⟨f1, f2, f3, f4⟩ := acts_fits h l
  generalize acts c t r k l = p at *
  obtain ⟨lev, n⟩ := p
  simp only at f1 f2 f3 f4 HC HP
  obtain ⟨h1, h2, h3, h4, h5, h6, h7⟩ := h
  have HL := Lib.hid hl
  have HM := Lib.hid hm
  clear hl hm hk
  go_enter Try.func4, Try.ntmps4
  go_wp2_with (fail)
  refine (alive_any _).mono ?_
  rintro e1 w1 ⟨rfl, hb⟩
  have HX := Lib.hid ((box_new c t r k w).below hb (by simp))
  obtain ⟨d0, d1, d2, d3⟩ := HX.out.cell
  have HB := Lib.hid (below_step (below_alloc (Below.refl w.heap.size w) _) hb)
  have hz := hb.size
  clear hb
  simp at hz
  go_wp2_with (fail)
  refine (run_comes HC.out _ _ _ (HL.out.below HB.out (Nat.le_refl _)) HM.out).mono ?_
  rintro e1 w2 ⟨rfl, hb⟩
  clear d0 d1 d2 d3
  obtain ⟨d0, d1, d2, d3⟩ := (HX.out.below hb (by first | exact hz | omega)).cell
  have HB2 := Lib.hid (below_step HB.out hb)
  clear hb hz
  go_wp2_with (go_at_call 11; refine (num_any _ _).mono ?_; rintro e1 w3 ⟨rfl, rfl⟩)
  go_loop [8, 9, 10] (fun x y i => Count l x y i) (fun _ _ i => l.length - (intOf i).toNat)
  case atStart => exact ⟨0, 0, 0, Nat.zero_le _, rfl, rfl, rfl, rfl, rfl⟩
  case round =>
    obtain ⟨i, x, y, hi, rfl, rfl, rfl, hx, hy⟩ := hrel
    obtain ⟨x0, x1⟩ := cnt_in 1 l i hi
    obtain ⟨y0, y1⟩ := cnt_in 2 l i hi
    rw [← hx] at x0 x1
    rw [← hy] at y0 y1
    have X := Lib.hid hx
    have Y := Lib.hid hy
    clear hx hy
    by_cases hlt : i < l.length
    · obtain ⟨b, off, rfl, hbw, hcell⟩ := (HL.out.below HB2.out (Nat.le_refl _)).at hlt
      generalize hg : l.getD i 0 = z at hcell
      have G := Lib.hid hg
      clear hg hbw
      by_cases hz1 : z = 1
      · subst hz1
        go_wp2
        go_round
        case rel => exact count_close hlt X.out Y.out (by go_num) rfl rfl (by rw [G.out]; simp) (by rw [G.out]; simp)
        case measure => simp [intOf]; omega
      · by_cases hz2 : z = 2
        · subst hz2
          go_wp2
          go_round
          case rel => exact count_close hlt X.out Y.out (by go_num) rfl rfl (by rw [G.out]; simp) (by rw [G.out]; simp)
          case measure => simp [intOf]; omega
        · go_wp2
          go_round
          case rel => exact count_close hlt X.out Y.out (by go_num) rfl rfl (by rw [G.out]; simp [hz1]) (by rw [G.out]; simp [hz2])
          case measure => simp [intOf]; omega
    · obtain rfl : i = l.length := by omega
      have hP : 1000 * n + lev ≤ 1000 * r + c * x + t * y := by
        have h := HP.out
        rw [X.out, Y.out, List.take_length]
        exact h
      have m1 : 0 ≤ c * x := Int.mul_nonneg h1 x0
      have m2 : c * x ≤ 1000 * 4096 := Int.mul_le_mul h2 (by omega) x0 (by omega)
      have m3 : 0 ≤ t * y := Int.mul_nonneg h3 y0
      have m4 : t * y ≤ 1000 * 4096 := Int.mul_le_mul h4 (by omega) y0 (by omega)
      have hQ : n ≤ r + (c * x + t * y) / 1000 := by omega
      go_wp2
      go_ret
      exact ⟨ret_bool (by simp <;> omega), HB2.out⟩

theorem bound_walk (c t r k : Int) (a : Option Addr) (l : List Int) (cap : Nat) (w : World) (hl : IntsAt w a l) (hm : l.length ≤ maxLen) :
    Calls Try.prog 4 #[.agg #[.int .i64 c, .int .i64 t, .int .i64 r, .int .i64 k], .slice a l.length cap] w (Gives (.bool true) w) := by
  obtain ⟨x, y, e, hC⟩ := comes_some c t r k l
  cases hC with
  | no h => exact bound_bad _ _ _ _ _ _ _ _ _ (.inl rfl) (.no h) hl hm
  | long h h2 => exact bound_bad _ _ _ _ _ _ _ _ _ (.inr (.inl rfl)) (.long h h2) hl hm
  | kind h h2 h3 => exact bound_bad _ _ _ _ _ _ _ _ _ (.inr (.inr rfl)) (.kind h h2 h3) hl hm
  | ok h h2 h3 => exact bound_ok _ _ _ _ _ _ _ _ h h2 h3 hl hm
end Go.Proofs.Ytaaebnfagbiaiaa
