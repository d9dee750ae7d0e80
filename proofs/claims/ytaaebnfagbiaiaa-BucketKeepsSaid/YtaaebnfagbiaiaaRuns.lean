/- The walks of BucketRuns, BucketBound and BucketEmpty: each hands back true. Condition: the slice reads as the list, and is no longer than the reach. -/
import Derived.Test.YtaaebnfagbiaiaaAlive
namespace Go.Proofs.Ytaaebnfagbiaiaa
open Go.RowKit

/-- What Run comes to, of whatever settings and acts. -/
inductive Comes (c t r k : Int) (l : List Int) : Int → Int → Int → Prop where
  | no (h : ¬ SetsP c t r k) : Comes c t r k l 0 0 4
  | long (h : SetsP c t r k) (hl : 4096 < l.length) : Comes c t r k l 0 0 3
  | kind (h : SetsP c t r k) (hl : l.length ≤ 4096) (hk : ∃ x, x ∈ l ∧ NoAct x) : Comes c t r k l 0 0 23
  | ok (h : SetsP c t r k) (hl : l.length ≤ 4096) (hk : AllActs l) : Comes c t r k l (acts c t r k l).1 (acts c t r k l).2 0

theorem comes_some (c t r k : Int) (l : List Int) : ∃ x y e, Comes c t r k l x y e := by
  by_cases h : SetsP c t r k
  · by_cases hl : l.length ≤ 4096
    · by_cases hk : ∃ x, x ∈ l ∧ NoAct x
      · exact ⟨_, _, _, .kind h hl hk⟩
      · exact ⟨_, _, _, .ok h hl fun x hx hn => hk ⟨x, hx, hn⟩⟩
    · exact ⟨_, _, _, .long h (by omega)⟩
  · exact ⟨_, _, _, .no h⟩

theorem run_comes {c t r k : Int} {l : List Int} {x y e : Int} (h : Comes c t r k l x y e) (a : Option Addr) (cap : Nat) (w : World) (hl : IntsAt w a l) (hm : l.length ≤ maxLen) :
    Calls Try.prog 9 #[.agg #[.int .i64 c, .int .i64 t, .int .i64 r, .int .i64 k], .slice a l.length cap] w (Gives (.tuple #[.int .i64 x, .int .i64 y, .int .i64 e]) w) := by
  cases h with
  | no h => exact run_no _ _ _ _ _ _ _ _ h
  | long h h2 => exact run_long _ _ _ _ _ _ _ _ h hm h2
  | kind h h2 h3 => exact run_kind _ _ _ _ _ _ _ _ h hl h2 h3
  | ok h h2 h3 => exact run_ok _ _ _ _ _ _ _ _ h hl h2 h3

theorem rrun_comes {c t r k : Int} {l : List Int} {x y e : Int} (h : Comes c t r k l x y e) (a : Option Addr) (cap : Nat) (w : World) (hl : IntsAt w a l) (hm : l.length ≤ maxLen) :
    Calls Try.prog 10 #[.agg #[.int .i64 c, .int .i64 t, .int .i64 r, .int .i64 k], .slice a l.length cap] w (Gives (.tuple #[.int .i64 x, .int .i64 y, .int .i64 e]) w) := by
  cases h with
  | no h => exact rrun_no _ _ _ _ _ _ _ _ h
  | long h h2 => exact rrun_long _ _ _ _ _ _ _ _ h hm h2
  | kind h h2 h3 => exact rrun_kind _ _ _ _ _ _ _ _ h hl h2 h3
  | ok h h2 h3 => exact rrun_ok _ _ _ _ _ _ _ _ h hl h2 h3

set_option maxHeartbeats 2000000 in
theorem runs_walk (c t r k : Int) (a : Option Addr) (l : List Int) (cap : Nat) (w : World) (hl : IntsAt w a l) (hm : l.length ≤ maxLen) :
    Calls Try.prog 3 #[.agg #[.int .i64 c, .int .i64 t, .int .i64 r, .int .i64 k], .slice a l.length cap] w (Gives (.bool true) w) := by
  obtain ⟨x, y, e, hC⟩ := comes_some c t r k l
  have HC := Lib.hid hC
  have HL := Lib.hid hl
  have HM := Lib.hid hm
  clear hC hl hm
  go_enter Try.func3, Try.ntmps3
  go_wp2_with (fail)
  refine (run_comes HC.out _ _ _ (HL.out.below (below_alloc (Below.refl _ _) _) (Nat.le_refl _)) HM.out).mono ?_
  rintro e1 w1 ⟨rfl, hb⟩
  obtain ⟨hc, hf⟩ := bcell hb
  have HB := Lib.hid (below_step (below_alloc (Below.refl w.heap.size w) _) hb)
  clear hb
  go_wp2_with (fail)
  refine (rrun_comes HC.out _ _ _ (HL.out.below HB.out (Nat.le_refl _)) HM.out).mono ?_
  rintro e1 w2 ⟨rfl, hb⟩
  have HB2 := Lib.hid (below_step HB.out hb)
  clear hb hc hf
  go_wp2_with (first | (go_at_call 11; refine (num_any _ _).mono ?_; rintro e1 w3 ⟨rfl, rfl⟩) | (go_at_call 12; refine (alive_any _).mono ?_; rintro e1 w3 ⟨rfl, hb3⟩))
  go_ret
  exact ⟨rfl, below_step HB2.out hb3⟩
end Go.Proofs.Ytaaebnfagbiaiaa
