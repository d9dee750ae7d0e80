/- What bucket.Run hands back. Condition: the slice reads as the list. -/
import Derived.Test.YtaaebnfagbiaiaaFind
namespace Go.Proofs.Ytaaebnfagbiaiaa
open Go.RowKit

/-- No act is none of the three. -/
def AllActs (l : List Int) : Prop := ∀ x, x ∈ l → ¬ NoAct x

theorem AllActs.no {l : List Int} (h : AllActs l) : false = true ↔ ∃ x, x ∈ l ∧ NoAct x := ⟨fun h => by simp at h, fun ⟨x, hx, hn⟩ => absurd hn (h x hx)⟩

set_option maxHeartbeats 1000000 in
theorem run_no (c t r k : Int) (a : Option Addr) (n cap : Nat) (w : World) (h : ¬ SetsP c t r k) :
    Calls Try.prog 9 #[.agg #[.int .i64 c, .int .i64 t, .int .i64 r, .int .i64 k], .slice a n cap] w (Gives (.tuple #[.int .i64 0, .int .i64 0, .int .i64 4]) w) := by
  have H := Lib.hid h
  clear h
  go_enter Try.func9, Try.ntmps9
  go_wp2_with (go_at_call 14; refine (start_no _ _ _ _ H.out _).mono ?_; rintro e w1 ⟨rfl, hb⟩)
  go_ret3
  exact ⟨rfl, below_step (below_alloc (Below.refl _ _) _) hb⟩

set_option maxHeartbeats 1000000 in
theorem run_long (c t r k : Int) (a : Option Addr) (n cap : Nat) (w : World) (h : SetsP c t r k) (hm : n ≤ maxLen) (hn : 4096 < n) :
    Calls Try.prog 9 #[.agg #[.int .i64 c, .int .i64 t, .int .i64 r, .int .i64 k], .slice a n cap] w (Gives (.tuple #[.int .i64 0, .int .i64 0, .int .i64 3]) w) := by
  unfold maxLen at hm
  have H := Lib.hid h
  clear h
  go_enter Try.func9, Try.ntmps9
  go_wp2_with (go_at_call 14; refine (start_ok _ _ _ _ H.out _).mono ?_; rintro e w1 ⟨rfl, hb⟩)
  go_ret3
  exact ⟨rfl, below_step (below_alloc (Below.refl _ _) _) hb⟩

set_option maxHeartbeats 1000000 in
theorem run_kind (c t r k : Int) (a : Option Addr) (l : List Int) (cap : Nat) (w : World) (h : SetsP c t r k) (hl : IntsAt w a l) (hn : l.length ≤ 4096) (hk : ∃ x, x ∈ l ∧ NoAct x) :
    Calls Try.prog 9 #[.agg #[.int .i64 c, .int .i64 t, .int .i64 r, .int .i64 k], .slice a l.length cap] w (Gives (.tuple #[.int .i64 0, .int .i64 0, .int .i64 23]) w) := by
  have H := Lib.hid h
  have HL := Lib.hid hl
  have HK := Lib.hid hk
  have HM : Hid (l.length ≤ maxLen) := (by unfold maxLen; omega : l.length ≤ maxLen)
  clear h hl hk
  go_enter Try.func9, Try.ntmps9
  go_wp2_with (first | (go_at_call 14; refine (start_ok _ _ _ _ H.out _).mono ?_; rintro e w1 ⟨rfl, hb⟩) | (go_at_call 23; refine (contains_any _ _ _ _ (HL.out.below (below_step (below_alloc (Below.refl _ _) _) hb) (Nat.le_refl _)) HM.out true ⟨fun _ => HK.out, fun _ => rfl⟩).mono ?_; rintro e w2 ⟨rfl, rfl⟩))
  go_ret3
  exact ⟨rfl, below_step (below_alloc (Below.refl _ _) _) hb⟩

/-- What holds at the head of a round: i acts are done, a budget at block b bears what they make. -/
def Round (c t r k : Int) (l : List Int) (w : World) (b : Nat) (wr : World) (vn vi : Value) : Prop :=
  ∃ i : Nat, i ≤ l.length ∧ vi = .int .i64 i ∧ vn = .int .i64 (acts c t r k (l.take i)).2 ∧ Fits k i (acts c t r k (l.take i)) ∧ BudgetAt wr b c t r k (acts c t r k (l.take i)).1 ∧ Below w.heap.size w wr

theorem round_close {c t r k : Int} {l : List Int} {w wr : World} {b i : Nat} {q : Int × Int} {vn vi : Value} (hi : i < l.length) (hS : acts c t r k (l.take (i + 1)) = q)
    (hn : vn = .int .i64 q.2) (hv : vi = .int .i64 ((i + 1 : Nat) : Int)) (hf : Fits k (i + 1) q) (hB : BudgetAt wr b c t r k q.1) (hb : Below w.heap.size w wr) : Round c t r k l w b wr vn vi := by
  subst hS
  exact ⟨i + 1, hi, hv, hn, hf, hB, hb⟩

theorem ret_pair {x n e : Int} {q : Int × Int} (h : (x, n) = q) : Ending.returned (.tuple #[.int .i64 x, .int .i64 n, .int .i64 e]) = .returned (.tuple #[.int .i64 q.1, .int .i64 q.2, .int .i64 e]) := by
  subst h; rfl

theorem fit_in {k lev n m : Int} {i : Nat} (h : Fits k i (lev, n)) (h0 : 0 ≤ m) (_h1 : m ≤ 1000) : Fits k (i + 1) (capped lev m k, n) := by
  obtain ⟨f1, f2, f3, f4⟩ := h
  simp only at f1 f2 f3 f4
  obtain ⟨g1, g2, g3, g4⟩ := capped_in f1 f2 h0
  exact ⟨g1, g2, f3, by simp only; omega⟩

set_option maxHeartbeats 4000000 in
theorem run_ok (c t r k : Int) (a : Option Addr) (l : List Int) (cap : Nat) (w : World) (h : SetsP c t r k) (hl : IntsAt w a l) (hn : l.length ≤ 4096) (hk : AllActs l) :
    Calls Try.prog 9 #[.agg #[.int .i64 c, .int .i64 t, .int .i64 r, .int .i64 k], .slice a l.length cap] w (Gives (.tuple #[.int .i64 (acts c t r k l).1, .int .i64 (acts c t r k l).2, .int .i64 0]) w) := by
  have H := Lib.hid h
  have HL := Lib.hid hl
  have HK := Lib.hid hk
  have HM : Hid (l.length ≤ maxLen) := (by unfold maxLen; omega : l.length ≤ maxLen)
  obtain ⟨h1, h2, h3, h4, h5, h6, h7⟩ := h
  clear hl hk
  go_enter Try.func9, Try.ntmps9
  go_wp2_with (first | (go_at_call 14; refine (start_ok _ _ _ _ H.out _).mono ?_; rintro e w1 ⟨rfl, hb⟩; obtain ⟨hc, hf⟩ := bcell hb; have hz := hb.size; simp at hz) | (go_at_call 23; refine (contains_any _ _ _ _ (HL.out.below (below_step (below_alloc (Below.refl _ _) _) hb) (Nat.le_refl _)) HM.out false HK.out.no).mono ?_; rintro e w2 ⟨rfl, rfl⟩))
  have HZ : Hid (w.heap.size < w1.heap.size) := by first | exact hz | omega
  have HB0 := Lib.hid (below_step (below_alloc (Below.refl w.heap.size w) _) hb)
  clear hc hf hz hb
  go_loopw [10, 35] (fun n i wr => Round c t r k l w w1.heap.size wr n i) (fun _ i _ => l.length - (intOf i).toNat)
  case atStart => exact ⟨0, Nat.zero_le _, rfl, rfl, Fits.start H.out, budget_new _ _ _ _ _ _, below_alloc HB0.out _⟩
  case round =>
    obtain ⟨i, hi, rfl, rfl, hfit, hB, hb⟩ := hrel
    obtain ⟨f1, f2, f3, f4⟩ := hfit
    have HS := acts_take c t r k l i
    generalize hp : acts c t r k (l.take i) = p at *
    have HP := Lib.hid hp
    clear hp
    obtain ⟨lev, n⟩ := p
    simp only at f1 f2 f3 f4 HS
    obtain ⟨d0, d1, d2, d3, d4, hf2⟩ := hB.cell
    have HB := Lib.hid hB
    have HBW := Lib.hid hb
    clear hB hb hf2
    by_cases hlt : i < l.length
    · have hS := Lib.hid (HS hlt)
      have hcell : ∃ b off, a = some ⟨b, off, none⟩ ∧ wr.cell? ⟨b, off + i, none⟩ = some (.int .i64 (l.getD i 0)) := by
        rcases HL.out with h | ⟨b, off, h1, h2, h3⟩
        · subst h; simp at hlt
        · exact ⟨b, off, h1, (HBW.out.cell (p := ⟨b, off + i, none⟩) h2).trans (h3 i hlt)⟩
      obtain ⟨ba, off, rfl, hcell⟩ := hcell
      have HA := HK.out (l.getD i 0) (by simp [List.getD, hlt])
      clear HS
      generalize hg : l.getD i 0 = x at *
      clear hg
      unfold NoAct at HA
      have ha1 : 1 ≤ x := by omega
      have ha3 : x ≤ 3 := by omega
      clear HA
      by_cases hx1 : x = 1
      · subst hx1
        go_wp2_with (go_at_call 25; refine (in_any _ _ _ _ _ _ _ _ HB.out ⟨by omega, by omega⟩ ⟨by omega, by omega⟩ ⟨by omega, by omega⟩).mono ?_; rintro e w2 ⟨rfl, hB2, hb2⟩; have HB2 := Lib.hid hB2; have Hb2 := Lib.hid hb2; clear hB2 hb2)
        go_roundw
        case rel => exact round_close hlt hS.out rfl (by go_num) (fit_in ⟨f1, f2, f3, f4⟩ h1 (by omega)) HB2.out (below_at HBW.out Hb2.out (Nat.le_of_lt HZ.out))
        case measure => simp [intOf]; omega
      · by_cases hx2 : x = 2
        · subst hx2
          go_wp2_with (go_at_call 25; refine (in_any _ _ _ _ _ _ _ _ HB.out ⟨by omega, by omega⟩ ⟨by omega, by omega⟩ ⟨by omega, by omega⟩).mono ?_; rintro e w2 ⟨rfl, hB2, hb2⟩; have HB2 := Lib.hid hB2; have Hb2 := Lib.hid hb2; clear hB2 hb2)
          go_roundw
          case rel => exact round_close hlt hS.out rfl (by go_num) (fit_in ⟨f1, f2, f3, f4⟩ h3 (by omega)) HB2.out (below_at HBW.out Hb2.out (Nat.le_of_lt HZ.out))
          case measure => simp [intOf]; omega
        · obtain rfl : x = 3 := by omega
          by_cases hlev : 1000 ≤ lev
          · have hA : act c t k (lev, n) 3 = (lev - 1000, n + 1) := by simp [act, hlev]
            have HA := Lib.hid hA
            clear hA
            go_wp2_with (go_at_call 26; refine (out_yes _ _ _ _ _ _ _ HB.out (by omega) (by omega)).mono ?_; rintro e w2 ⟨rfl, hB2, hb2⟩; have HB2 := Lib.hid hB2; have Hb2 := Lib.hid hb2; clear hB2 hb2)
            go_roundw
            case rel => exact round_close hlt (hS.out.trans HA.out) rfl (by go_num) ⟨by simp; omega, by simp; omega, by simp; omega, by simp; omega⟩ HB2.out (below_at HBW.out Hb2.out (Nat.le_of_lt HZ.out))
            case measure => simp [intOf]; omega
          · have hA : act c t k (lev, n) 3 = (lev, n) := by simp [act, hlev]
            have HA := Lib.hid hA
            clear hA
            go_wp2_with (go_at_call 26; refine (out_no _ _ _ _ _ _ _ HB.out (by omega)).mono ?_; rintro e w2 ⟨rfl, hB2, hb2⟩; have HB2 := Lib.hid hB2; have Hb2 := Lib.hid hb2; clear hB2 hb2)
            go_roundw
            case rel => exact round_close hlt (hS.out.trans HA.out) rfl (by go_num) ⟨f1, f2, f3, by simp; omega⟩ HB2.out (below_at HBW.out Hb2.out (Nat.le_of_lt HZ.out))
            case measure => simp [intOf]; omega
    · obtain rfl : i = l.length := by omega
      clear HS
      have hE : (lev, n) = acts c t r k l := by have h := HP.out; rw [List.take_length] at h; exact h.symm
      have HE := Lib.hid hE
      clear hE HP
      go_wp2
      go_ret3
      exact ⟨ret_pair HE.out, HBW.out⟩
end Go.Proofs.Ytaaebnfagbiaiaa
