/- What the document's Run hands back. Condition: the slice reads as the list. -/
import Derived.Test.YtaaebnfagbiaiaaRun
namespace Go.Proofs.Ytaaebnfagbiaiaa
open Go.RowKit

theorem rcalls_one (c t r k l : Int) (h : SetsP c t r k) (h0 : 0 ≤ l) (h1 : l ≤ 1000 * k) (w : World) :
    Calls Try.prog 16 #[.agg #[.int .i64 c, .int .i64 t, .int .i64 r, .int .i64 k], .int .i64 l, .int .i64 1] w (Gives (.tuple #[.int .i64 (capped l c k), .int .i64 0]) w) := by
  have e := rcalls_ok c t r k l 1 ⟨h, h0, h1, by omega, by omega⟩ w
  rwa [Int.one_mul] at e

theorem rticks_one (c t r k l : Int) (h : SetsP c t r k) (h0 : 0 ≤ l) (h1 : l ≤ 1000 * k) (w : World) :
    Calls Try.prog 18 #[.agg #[.int .i64 c, .int .i64 t, .int .i64 r, .int .i64 k], .int .i64 l, .int .i64 1] w (Gives (.tuple #[.int .i64 (capped l t k), .int .i64 0]) w) := by
  have e := rticks_ok c t r k l 1 ⟨h, h0, h1, by omega, by omega⟩ w
  rwa [Int.one_mul] at e

/-- Settings that were boxed. -/
def BoxAt (w : World) (b : Nat) (c t r k : Int) : Prop := w.heap[b]? = some (.cells #[.int .i64 c, .int .i64 t, .int .i64 r, .int .i64 k] 23 (0, 0))

theorem BoxAt.cell {w : World} {b : Nat} {c t r k : Int} (h : BoxAt w b c t r k) :
    w.cell? ⟨b, 0, none⟩ = some (.int .i64 c) ∧ w.cell? ⟨b, 1, none⟩ = some (.int .i64 t) ∧ w.cell? ⟨b, 2, none⟩ = some (.int .i64 r) ∧ w.cell? ⟨b, 3, none⟩ = some (.int .i64 k) := by
  unfold BoxAt at h
  simp [World.cell?, h]

theorem BoxAt.below {w w1 : World} {b B : Nat} {c t r k : Int} (h : BoxAt w b c t r k) (hb : Below B w w1) (hB : b < B) : BoxAt w1 b c t r k := by
  unfold BoxAt at h ⊢
  rw [hb.block b hB]; exact h

theorem box_new (c t r k : Int) (w : World) : BoxAt (w.alloc (.cells #[.int .i64 c, .int .i64 t, .int .i64 r, .int .i64 k] 23)) w.heap.size c t r k := by
  unfold BoxAt
  show (w.heap.push _)[w.heap.size]? = _
  simp

set_option maxHeartbeats 1000000 in
theorem rrun_no (c t r k : Int) (a : Option Addr) (n cap : Nat) (w : World) (h : ¬ SetsP c t r k) :
    Calls Try.prog 10 #[.agg #[.int .i64 c, .int .i64 t, .int .i64 r, .int .i64 k], .slice a n cap] w (Gives (.tuple #[.int .i64 0, .int .i64 0, .int .i64 4]) w) := by
  have H := Lib.hid h
  clear h
  go_enter Try.func10, Try.ntmps10
  go_wp2_with (go_at_call 15; refine (rstart_no _ _ _ _ H.out _).mono ?_; rintro e w1 ⟨rfl, hb⟩)
  go_ret3
  exact ⟨rfl, below_step (below_alloc (Below.refl _ _) _) hb⟩

set_option maxHeartbeats 1000000 in
theorem rrun_long (c t r k : Int) (a : Option Addr) (n cap : Nat) (w : World) (h : SetsP c t r k) (hm : n ≤ maxLen) (hn : 4096 < n) :
    Calls Try.prog 10 #[.agg #[.int .i64 c, .int .i64 t, .int .i64 r, .int .i64 k], .slice a n cap] w (Gives (.tuple #[.int .i64 0, .int .i64 0, .int .i64 3]) w) := by
  unfold maxLen at hm
  have H := Lib.hid h
  clear h
  go_enter Try.func10, Try.ntmps10
  go_wp2_with (go_at_call 15; refine (rstart_ok _ _ _ _ H.out _).mono ?_; rintro e w1 ⟨rfl, hb⟩)
  go_ret3
  exact ⟨rfl, below_step (below_alloc (Below.refl _ _) _) hb⟩

/-- The first i numbers are acts. -/
def Seen (l : List Int) (vi : Value) : Prop := ∃ i : Nat, i ≤ l.length ∧ vi = .int .i64 i ∧ ∀ j, j < i → ¬ NoAct (l.getD j 0)

set_option maxHeartbeats 2000000 in
theorem rrun_kind (c t r k : Int) (a : Option Addr) (l : List Int) (cap : Nat) (w : World) (h : SetsP c t r k) (hl : IntsAt w a l) (hn : l.length ≤ 4096) (hk : ∃ x, x ∈ l ∧ NoAct x) :
    Calls Try.prog 10 #[.agg #[.int .i64 c, .int .i64 t, .int .i64 r, .int .i64 k], .slice a l.length cap] w (Gives (.tuple #[.int .i64 0, .int .i64 0, .int .i64 23]) w) := by
  have H := Lib.hid h
  have HL := Lib.hid hl
  have HK := Lib.hid hk
  clear h hl hk
  go_enter Try.func10, Try.ntmps10
  go_wp2_with (go_at_call 15; refine (rstart_ok _ _ _ _ H.out _).mono ?_; rintro e w1 ⟨rfl, hb⟩; have HB := Lib.hid (below_step (below_alloc (Below.refl w.heap.size w) _) hb); clear hb)
  go_loop [9] (fun i => Seen l i) (fun i => l.length - (intOf i).toNat)
  case atStart => exact ⟨0, Nat.zero_le _, rfl, fun j hj => absurd hj (Nat.not_lt_zero _)⟩
  case round =>
    obtain ⟨i, hi, rfl, hs⟩ := hrel
    have HS := Lib.hid hs
    clear hs
    by_cases hlt : i < l.length
    · obtain ⟨b, off, rfl, hbw, hcell⟩ := (HL.out.below HB.out (Nat.le_refl _)).at hlt
      generalize hg : l.getD i 0 = x at hcell
      have HG := Lib.hid hg
      clear hg hbw
      by_cases hx : NoAct x
      · unfold NoAct at hx
        by_cases h1 : x < 1
        all_goals
          go_wp2
          go_ret3
          exact ⟨rfl, HB.out⟩
      · have HX := Lib.hid hx
        unfold NoAct at hx
        have h1 : 1 ≤ x := by omega
        have h3 : x ≤ 3 := by omega
        clear hx
        go_wp2
        go_round
        case rel => exact ⟨i + 1, by omega, by go_num, fun j hj => by
          rcases Nat.lt_or_ge j i with h | h
          · exact HS.out j h
          · obtain rfl : j = i := by omega
            rw [HG.out]; exact HX.out⟩
        case measure => simp [intOf]; omega
    · exact absurd HK.out (none_of fun j hj => HS.out j (by omega))
end Go.Proofs.Ytaaebnfagbiaiaa
