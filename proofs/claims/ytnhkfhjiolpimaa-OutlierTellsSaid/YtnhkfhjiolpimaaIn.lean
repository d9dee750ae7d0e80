/- Do all of some numbers lie between two? What outlier's in hands back. Condition: the slice reads as the list. -/
import Derived.Test.YtnhkfhjiolpimaaProg
import Derived.Test.YtnhkfhjiolpimaaReads
import Derived.Test.YtnhkfhjiolpimaaPlain
import Derived.LoopTactic
namespace Go.Proofs.Ytnhkfhjiolpimaa
open Go.RowKit

/-- All of the first i lie between. -/
def Between (lo hi : Int) (l : List Int) (vi : Value) : Prop := ∃ i : Nat, i ≤ l.length ∧ vi = .int .i64 i ∧ ∀ j, j < i → lo ≤ l.getD j 0 ∧ l.getD j 0 ≤ hi

theorem all_of {lo hi : Int} {l : List Int} {r : Bool} (hr : r = true ↔ ∀ x, x ∈ l → lo ≤ x ∧ x ≤ hi) (h : ∀ j, j < l.length → lo ≤ l.getD j 0 ∧ l.getD j 0 ≤ hi) : true = r := by
  refine (hr.2 fun x hx => ?_).symm
  obtain ⟨j, hj, rfl⟩ := List.getElem_of_mem hx
  have := h j hj
  simpa [List.getD, hj] using this

theorem not_of {lo hi : Int} {l : List Int} {r : Bool} (hr : r = true ↔ ∀ x, x ∈ l → lo ≤ x ∧ x ≤ hi) {j : Nat} (hj : j < l.length) (h : ¬ (lo ≤ l.getD j 0 ∧ l.getD j 0 ≤ hi)) : false = r := by
  cases r with
  | false => rfl
  | true => exact absurd (hr.1 rfl (l.getD j 0) (by simp [List.getD, hj])) h

set_option maxHeartbeats 2000000 in
theorem in_any (lo hi : Int) (a : Option Addr) (l : List Int) (cap : Nat) (w : World) (hl : IntsAt w a l) (hm : l.length ≤ maxLen) (r : Bool) (hr : r = true ↔ ∀ x, x ∈ l → lo ≤ x ∧ x ≤ hi) :
    Calls Try.prog 26 #[.int .i64 lo, .int .i64 hi, .slice a l.length cap] w fun e w' => e = .returned (.bool r) ∧ w = w' := by
  unfold maxLen at hm
  have HR := Lib.hid hr
  have HL := Lib.hid hl
  clear hr hl
  go_enter Try.func26, Try.ntmps26
  go_wp2
  go_loop [11] (fun i => Between lo hi l i) (fun i => l.length - (intOf i).toNat)
  case atStart => exact ⟨0, Nat.zero_le _, rfl, fun j hj => absurd hj (Nat.not_lt_zero _)⟩
  case round =>
    obtain ⟨i, hi', rfl, hn⟩ := hrel
    have HN := Lib.hid hn
    clear hn
    by_cases hlt : i < l.length
    · obtain ⟨b, off, rfl, hbw, hcell⟩ := HL.out.at hlt
      generalize hg : l.getD i 0 = x at hcell
      have HG := Lib.hid hg
      clear hg hbw
      by_cases h1 : x < lo
      · go_wp2
        go_ret
        exact ⟨ret_bool (not_of HR.out hlt (by rw [HG.out]; omega)), rfl⟩
      · by_cases h2 : hi < x
        · go_wp2
          go_ret
          exact ⟨ret_bool (not_of HR.out hlt (by rw [HG.out]; omega)), rfl⟩
        · go_wp2
          go_round
          case rel => exact ⟨i + 1, by omega, by go_num, fun j hj => by
            rcases Nat.lt_or_ge j i with h | h
            · exact HN.out j h
            · obtain rfl : j = i := by omega
              rw [HG.out]; omega⟩
          case measure => simp [intOf]; omega
    · have hn : ∀ j, j < l.length → lo ≤ l.getD j 0 ∧ l.getD j 0 ≤ hi := fun j hj => HN.out j (by omega)
      clear HN
      have HN := Lib.hid hn
      clear hn
      go_wp2
      go_ret
      exact ⟨ret_bool (all_of HR.out HN.out), rfl⟩

theorem in1 (lo hi x : Int) (b : Nat) (w : World) (h0 : w.cell? ⟨b, 0, none⟩ = some (.int .i64 x)) (r : Bool) (hr : r = true ↔ lo ≤ x ∧ x ≤ hi) :
    Calls Try.prog 26 #[.int .i64 lo, .int .i64 hi, .slice (some ⟨b, 0, none⟩) 1 1] w fun e w' => e = .returned (.bool r) ∧ w = w' :=
  in_any lo hi _ [x] 1 w (.inr ⟨b, 0, rfl, World.block_lt_of_cell? w _ h0, fun i hi => by
    obtain rfl : i = 0 := by simpa using hi
    simpa using h0⟩) (by unfold maxLen; simp) r (by rw [hr]; simp)

theorem in2 (lo hi x y : Int) (b : Nat) (w : World) (h0 : w.cell? ⟨b, 0, none⟩ = some (.int .i64 x)) (h1 : w.cell? ⟨b, 1, none⟩ = some (.int .i64 y)) (r : Bool) (hr : r = true ↔ (lo ≤ x ∧ x ≤ hi) ∧ lo ≤ y ∧ y ≤ hi) :
    Calls Try.prog 26 #[.int .i64 lo, .int .i64 hi, .slice (some ⟨b, 0, none⟩) 2 2] w fun e w' => e = .returned (.bool r) ∧ w = w' :=
  in_any lo hi _ [x, y] 2 w (.inr ⟨b, 0, rfl, World.block_lt_of_cell? w _ h0, fun i hi => by
    rcases i with _ | _ | i
    · simpa using h0
    · simpa using h1
    · simp at hi; omega⟩) (by unfold maxLen; simp) r (by rw [hr]; simp)

theorem in3 (lo hi x y z : Int) (b : Nat) (w : World) (h0 : w.cell? ⟨b, 0, none⟩ = some (.int .i64 x)) (h1 : w.cell? ⟨b, 1, none⟩ = some (.int .i64 y)) (h2 : w.cell? ⟨b, 2, none⟩ = some (.int .i64 z)) (r : Bool) (hr : r = true ↔ (lo ≤ x ∧ x ≤ hi) ∧ (lo ≤ y ∧ y ≤ hi) ∧ lo ≤ z ∧ z ≤ hi) :
    Calls Try.prog 26 #[.int .i64 lo, .int .i64 hi, .slice (some ⟨b, 0, none⟩) 3 3] w fun e w' => e = .returned (.bool r) ∧ w = w' :=
  in_any lo hi _ [x, y, z] 3 w (.inr ⟨b, 0, rfl, World.block_lt_of_cell? w _ h0, fun i hi => by
    rcases i with _ | _ | _ | i
    · simpa using h0
    · simpa using h1
    · simpa using h2
    · simp at hi; omega⟩) (by unfold maxLen; simp) r (by rw [hr]; simp)

theorem is_false {p : Prop} {r : Bool} (hr : r = true ↔ p) (h : ¬ p) : false = r := by
  cases r with
  | false => rfl
  | true => exact absurd (hr.1 rfl) h

theorem is_true {p : Prop} {r : Bool} (hr : r = true ↔ p) (h : p) : true = r := (hr.2 h).symm

theorem in1_yes (lo hi x : Int) (b : Nat) (w : World) (h0 : w.cell? ⟨b, 0, none⟩ = some (.int .i64 x)) (hc : lo ≤ x ∧ x ≤ hi) :
    Calls Try.prog 26 #[.int .i64 lo, .int .i64 hi, .slice (some ⟨b, 0, none⟩) 1 1] w fun e w' => e = .returned (.bool true) ∧ w = w' :=
  in1 lo hi x b w h0 true ⟨fun _ => hc, fun _ => rfl⟩

theorem in1_no (lo hi x : Int) (b : Nat) (w : World) (h0 : w.cell? ⟨b, 0, none⟩ = some (.int .i64 x)) (hc : ¬ (lo ≤ x ∧ x ≤ hi)) :
    Calls Try.prog 26 #[.int .i64 lo, .int .i64 hi, .slice (some ⟨b, 0, none⟩) 1 1] w fun e w' => e = .returned (.bool false) ∧ w = w' :=
  in1 lo hi x b w h0 false ⟨fun h => by simp at h, fun h => absurd h hc⟩

theorem in2_yes (lo hi x y : Int) (b : Nat) (w : World) (h0 : w.cell? ⟨b, 0, none⟩ = some (.int .i64 x)) (h1 : w.cell? ⟨b, 1, none⟩ = some (.int .i64 y)) (hc : (lo ≤ x ∧ x ≤ hi) ∧ lo ≤ y ∧ y ≤ hi) :
    Calls Try.prog 26 #[.int .i64 lo, .int .i64 hi, .slice (some ⟨b, 0, none⟩) 2 2] w fun e w' => e = .returned (.bool true) ∧ w = w' :=
  in2 lo hi x y b w h0 h1 true ⟨fun _ => hc, fun _ => rfl⟩

theorem in2_no (lo hi x y : Int) (b : Nat) (w : World) (h0 : w.cell? ⟨b, 0, none⟩ = some (.int .i64 x)) (h1 : w.cell? ⟨b, 1, none⟩ = some (.int .i64 y)) (hc : ¬ ((lo ≤ x ∧ x ≤ hi) ∧ lo ≤ y ∧ y ≤ hi)) :
    Calls Try.prog 26 #[.int .i64 lo, .int .i64 hi, .slice (some ⟨b, 0, none⟩) 2 2] w fun e w' => e = .returned (.bool false) ∧ w = w' :=
  in2 lo hi x y b w h0 h1 false ⟨fun h => by simp at h, fun h => absurd h hc⟩

theorem in3_yes (lo hi x y z : Int) (b : Nat) (w : World) (h0 : w.cell? ⟨b, 0, none⟩ = some (.int .i64 x)) (h1 : w.cell? ⟨b, 1, none⟩ = some (.int .i64 y)) (h2 : w.cell? ⟨b, 2, none⟩ = some (.int .i64 z)) (hc : (lo ≤ x ∧ x ≤ hi) ∧ (lo ≤ y ∧ y ≤ hi) ∧ lo ≤ z ∧ z ≤ hi) :
    Calls Try.prog 26 #[.int .i64 lo, .int .i64 hi, .slice (some ⟨b, 0, none⟩) 3 3] w fun e w' => e = .returned (.bool true) ∧ w = w' :=
  in3 lo hi x y z b w h0 h1 h2 true ⟨fun _ => hc, fun _ => rfl⟩

theorem in3_no (lo hi x y z : Int) (b : Nat) (w : World) (h0 : w.cell? ⟨b, 0, none⟩ = some (.int .i64 x)) (h1 : w.cell? ⟨b, 1, none⟩ = some (.int .i64 y)) (h2 : w.cell? ⟨b, 2, none⟩ = some (.int .i64 z)) (hc : ¬ ((lo ≤ x ∧ x ≤ hi) ∧ (lo ≤ y ∧ y ≤ hi) ∧ lo ≤ z ∧ z ≤ hi)) :
    Calls Try.prog 26 #[.int .i64 lo, .int .i64 hi, .slice (some ⟨b, 0, none⟩) 3 3] w fun e w' => e = .returned (.bool false) ∧ w = w' :=
  in3 lo hi x y z b w h0 h1 h2 false ⟨fun h => by simp at h, fun h => absurd h hc⟩

theorem sets_of {s : OSet} (h1 : (1 ≤ s.row ∧ s.row ≤ 1000) ∧ (1 ≤ s.mille ∧ s.mille ≤ 1000) ∧ 1 ≤ s.least ∧ s.least ≤ 1000) (h2 : (1 ≤ s.base ∧ s.base ≤ 1048576) ∧ 1 ≤ s.most ∧ s.most ≤ 1048576)
    (h3 : s.base ≤ s.most) (h4 : (0 ≤ s.percent ∧ s.percent ≤ 100) ∧ 0 ≤ s.panic ∧ s.panic ≤ 100) : SetsP s :=
  ⟨h1.1.1, h1.1.2, h1.2.1.1, h1.2.1.2, h1.2.2.1, h1.2.2.2, h2.1.1, h2.1.2, h2.2.1, h2.2.2, h3, h4.1.1, h4.1.2, h4.2.1, h4.2.2⟩

set_option maxHeartbeats 2000000 in
theorem sets_yes (s : OSet) (w : World) (h : SetsP s) : Calls Try.prog 25 #[.agg #[.int .i64 s.row, .int .i64 s.mille, .int .i64 s.least, .int .i64 s.base, .int .i64 s.most, .int .i64 s.percent, .int .i64 s.panic]] w (Gives (.bool true) w) := by
  have h4 := h.order
  have E1 := Lib.hid (show (1 ≤ s.row ∧ s.row ≤ 1000) ∧ (1 ≤ s.mille ∧ s.mille ≤ 1000) ∧ 1 ≤ s.least ∧ s.least ≤ 1000 from ⟨⟨h.row0, h.row1⟩, ⟨h.mille0, h.mille1⟩, h.least0, h.least1⟩)
  have E2 := Lib.hid (show (1 ≤ s.base ∧ s.base ≤ 1048576) ∧ 1 ≤ s.most ∧ s.most ≤ 1048576 from ⟨⟨h.base0, h.base1⟩, h.most0, h.most1⟩)
  have E3 := Lib.hid (show (0 ≤ s.percent ∧ s.percent ≤ 100) ∧ 0 ≤ s.panic ∧ s.panic ≤ 100 from ⟨⟨h.percent0, h.percent1⟩, h.panic0, h.panic1⟩)
  clear h
  go_enter Try.func25, Try.ntmps25
  go_wp2_with (fail)
  refine (in3_yes _ _ _ _ _ _ _ (by go_simp) (by go_simp) (by go_simp) E1.out).mono ?_
  rintro e w1 ⟨rfl, rfl⟩
  go_wp2_with (fail)
  refine (in2_yes _ _ _ _ _ _ (by go_simp) (by go_simp) E2.out).mono ?_
  rintro e w1 ⟨rfl, rfl⟩
  go_wp2_with (fail)
  refine (in2_yes _ _ _ _ _ _ (by go_simp) (by go_simp) E3.out).mono ?_
  rintro e w1 ⟨rfl, rfl⟩
  go_wp2
  go_ret
  exact ⟨rfl, below_alloc (below_alloc (below_alloc (below_alloc (Below.refl _ _) _) _) _) _⟩

set_option maxHeartbeats 4000000 in
theorem sets_no (s : OSet) (w : World) (h : ¬ SetsP s) : Calls Try.prog 25 #[.agg #[.int .i64 s.row, .int .i64 s.mille, .int .i64 s.least, .int .i64 s.base, .int .i64 s.most, .int .i64 s.percent, .int .i64 s.panic]] w (Gives (.bool false) w) := by
  have H := Lib.hid h
  clear h
  by_cases e1 : (1 ≤ s.row ∧ s.row ≤ 1000) ∧ (1 ≤ s.mille ∧ s.mille ≤ 1000) ∧ 1 ≤ s.least ∧ s.least ≤ 1000
  · by_cases e2 : (1 ≤ s.base ∧ s.base ≤ 1048576) ∧ 1 ≤ s.most ∧ s.most ≤ 1048576
    · have E1 := Lib.hid e1
      have E2 := Lib.hid e2
      clear e1 e2
      by_cases h4 : s.base ≤ s.most
      · by_cases e3 : (0 ≤ s.percent ∧ s.percent ≤ 100) ∧ 0 ≤ s.panic ∧ s.panic ≤ 100
        · exact absurd (sets_of E1.out E2.out h4 e3) H.out
        · have E3 := Lib.hid e3
          clear e3
          go_enter Try.func25, Try.ntmps25
          go_wp2_with (fail)
          refine (in3_yes _ _ _ _ _ _ _ (by go_simp) (by go_simp) (by go_simp) E1.out).mono ?_
          rintro e w1 ⟨rfl, rfl⟩
          go_wp2_with (fail)
          refine (in2_yes _ _ _ _ _ _ (by go_simp) (by go_simp) E2.out).mono ?_
          rintro e w1 ⟨rfl, rfl⟩
          go_wp2_with (fail)
          refine (in2_no _ _ _ _ _ _ (by go_simp) (by go_simp) E3.out).mono ?_
          rintro e w1 ⟨rfl, rfl⟩
          go_wp2
          go_ret
          exact ⟨rfl, below_alloc (below_alloc (below_alloc (below_alloc (Below.refl _ _) _) _) _) _⟩
      · have h5 : decide (s.base ≤ s.most) = false := decide_eq_false h4
        clear h4
        go_enter Try.func25, Try.ntmps25
        go_wp2_with (fail)
        refine (in3_yes _ _ _ _ _ _ _ (by go_simp) (by go_simp) (by go_simp) E1.out).mono ?_
        rintro e w1 ⟨rfl, rfl⟩
        go_wp2_with (fail)
        refine (in2_yes _ _ _ _ _ _ (by go_simp) (by go_simp) E2.out).mono ?_
        rintro e w1 ⟨rfl, rfl⟩
        go_wp2
        go_ret
        exact ⟨rfl, below_alloc (below_alloc (below_alloc (Below.refl _ _) _) _) _⟩
    · have E1 := Lib.hid e1
      have E2 := Lib.hid e2
      clear e1 e2
      go_enter Try.func25, Try.ntmps25
      go_wp2_with (fail)
      refine (in3_yes _ _ _ _ _ _ _ (by go_simp) (by go_simp) (by go_simp) E1.out).mono ?_
      rintro e w1 ⟨rfl, rfl⟩
      go_wp2_with (fail)
      refine (in2_no _ _ _ _ _ _ (by go_simp) (by go_simp) E2.out).mono ?_
      rintro e w1 ⟨rfl, rfl⟩
      go_wp2
      go_ret
      exact ⟨rfl, below_alloc (below_alloc (below_alloc (Below.refl _ _) _) _) _⟩
  · have E1 := Lib.hid e1
    clear e1
    go_enter Try.func25, Try.ntmps25
    go_wp2_with (fail)
    refine (in3_no _ _ _ _ _ _ _ (by go_simp) (by go_simp) (by go_simp) E1.out).mono ?_
    rintro e w1 ⟨rfl, rfl⟩
    go_wp2
    go_ret
    exact ⟨rfl, below_alloc (below_alloc (Below.refl _ _) _) _⟩
end Go.Proofs.Ytnhkfhjiolpimaa
