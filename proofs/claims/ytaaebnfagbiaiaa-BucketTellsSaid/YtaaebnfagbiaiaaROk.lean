/- What the document's Run hands back where all may be. Condition: the slice reads as the list. -/
import Derived.Test.YtaaebnfagbiaiaaRRun
namespace Go.Proofs.Ytaaebnfagbiaiaa
open Go.RowKit

/-- What holds at the head of a round of the document's: i acts are done. -/
def RRound (c t r k : Int) (l : List Int) (w1 : World) (wr : World) (vl vn vi : Value) : Prop :=
  ∃ i : Nat, i ≤ l.length ∧ vi = .int .i64 i ∧ vl = .int .i64 (acts c t r k (l.take i)).1 ∧ vn = .int .i64 (acts c t r k (l.take i)).2 ∧ Fits k i (acts c t r k (l.take i)) ∧ Below w1.heap.size w1 wr

theorem rround_close {c t r k : Int} {l : List Int} {w1 wr : World} {i : Nat} {q : Int × Int} {vl vn vi : Value} (hi : i < l.length) (hS : acts c t r k (l.take (i + 1)) = q)
    (hl : vl = .int .i64 q.1) (hn : vn = .int .i64 q.2) (hv : vi = .int .i64 ((i + 1 : Nat) : Int)) (hf : Fits k (i + 1) q) (hb : Below w1.heap.size w1 wr) : RRound c t r k l w1 wr vl vn vi := by
  subst hS
  exact ⟨i + 1, hi, hv, hl, hn, hf, hb⟩

set_option maxHeartbeats 4000000 in
theorem rrun_ok (c t r k : Int) (a : Option Addr) (l : List Int) (cap : Nat) (w : World) (h : SetsP c t r k) (hl : IntsAt w a l) (hn : l.length ≤ 4096) (hk : AllActs l) :
    Calls Try.prog 10 #[.agg #[.int .i64 c, .int .i64 t, .int .i64 r, .int .i64 k], .slice a l.length cap] w (Gives (.tuple #[.int .i64 (acts c t r k l).1, .int .i64 (acts c t r k l).2, .int .i64 0]) w) := by
  have H := Lib.hid h
  have HL := Lib.hid hl
  have HK := Lib.hid hk
  obtain ⟨h1, h2, h3, h4, h5, h6, h7⟩ := h
  clear hl hk
  go_enter Try.func10, Try.ntmps10
  go_wp2_with (go_at_call 15; refine (rstart_ok _ _ _ _ H.out _).mono ?_; rintro e w1 ⟨rfl, hb⟩; have HB := Lib.hid (below_step (below_alloc (Below.refl w.heap.size w) _) hb); have HX := Lib.hid ((box_new c t r k w).below hb (by simp)); have hz := hb.size; clear hb; simp at hz)
  have HZ : Hid (w.heap.size < w1.heap.size) := by first | exact hz | omega
  clear hz
  go_loop [9] (fun i => Seen l i) (fun i => l.length - (intOf i).toNat)
  case atStart => exact ⟨0, Nat.zero_le _, rfl, fun j hj => absurd hj (Nat.not_lt_zero _)⟩
  case round =>
    obtain ⟨i, hi, rfl, hs⟩ := hrel
    have HS := Lib.hid hs
    clear hs
    by_cases hlt : i < l.length
    · obtain ⟨b, off, rfl, hbw, hcell⟩ := (HL.out.below HB.out (Nat.le_refl _)).at hlt
      have HA := HK.out (l.getD i 0) (by simp [List.getD, hlt])
      generalize hg : l.getD i 0 = x at *
      have HG := Lib.hid hg
      clear hg hbw
      have HX2 := Lib.hid HA
      unfold NoAct at HA
      have h8 : 1 ≤ x := by omega
      have h9 : x ≤ 3 := by omega
      clear HA
      go_wp2
      go_round
      case rel => exact ⟨i + 1, by omega, by go_num, fun j hj => by
        rcases Nat.lt_or_ge j i with h | h
        · exact HS.out j h
        · obtain rfl : j = i := by omega
          rw [HG.out]; exact HX2.out⟩
      case measure => simp [intOf]; omega
    · clear HS
      go_wp2
      go_loopw [7, 10, 11] (fun vl vn vi wr => RRound c t r k l w1 wr vl vn vi) (fun _ _ i _ => l.length - (intOf i).toNat)
      case atStart => exact ⟨0, Nat.zero_le _, rfl, rfl, rfl, Fits.start H.out, Below.refl _ _⟩
      case round =>
        obtain ⟨i, hi, rfl, rfl, rfl, hfit, hb⟩ := hrel
        obtain ⟨f1, f2, f3, f4⟩ := hfit
        have HS := acts_take c t r k l i
        generalize hp : acts c t r k (l.take i) = p at *
        have HP := Lib.hid hp
        clear hp
        obtain ⟨lev, n⟩ := p
        simp only at f1 f2 f3 f4 HS
        obtain ⟨d0, d1, d2, d3⟩ := (HX.out.below hb HZ.out).cell
        have HBW := Lib.hid hb
        clear hb
        by_cases hlt : i < l.length
        · have hS := Lib.hid (HS hlt)
          obtain ⟨b, off, rfl, hbw, hcell⟩ := ((HL.out.below HB.out (Nat.le_refl _)).below HBW.out (Nat.le_refl _)).at hlt
          have HA := HK.out (l.getD i 0) (by simp [List.getD, hlt])
          clear HS hbw
          generalize hg : l.getD i 0 = x at *
          clear hg
          unfold NoAct at HA
          have ha1 : 1 ≤ x := by omega
          have ha3 : x ≤ 3 := by omega
          clear HA
          by_cases hx1 : x = 1
          · subst hx1
            go_wp2_with (go_at_call 16; refine (rcalls_one _ _ _ _ _ H.out f1 f2 _).mono ?_; rintro e w2 ⟨rfl, hb2⟩; have Hb2 := Lib.hid hb2; clear hb2)
            go_roundw
            case rel => exact rround_close hlt hS.out rfl rfl (by go_num) (fit_in ⟨f1, f2, f3, f4⟩ h1 (by omega)) (below_step HBW.out Hb2.out)
            case measure => simp [intOf]; omega
          · by_cases hx2 : x = 2
            · subst hx2
              go_wp2_with (go_at_call 18; refine (rticks_one _ _ _ _ _ H.out f1 f2 _).mono ?_; rintro e w2 ⟨rfl, hb2⟩; have Hb2 := Lib.hid hb2; clear hb2)
              go_roundw
              case rel => exact rround_close hlt hS.out rfl rfl (by go_num) (fit_in ⟨f1, f2, f3, f4⟩ h3 (by omega)) (below_step HBW.out Hb2.out)
              case measure => simp [intOf]; omega
            · obtain rfl : x = 3 := by omega
              by_cases hlev : 1000 ≤ lev
              · have hA : act c t k (lev, n) 3 = (lev - 1000, n + 1) := by simp [act, hlev]
                have HA := Lib.hid hA
                clear hA
                go_wp2_with (go_at_call 20; refine (rtake_yes _ _ _ _ _ ⟨H.out, f1, f2⟩ hlev _).mono ?_; rintro e w2 ⟨rfl, hb2⟩; have Hb2 := Lib.hid hb2; clear hb2)
                go_roundw
                case rel => exact rround_close hlt (hS.out.trans HA.out) rfl rfl (by go_num) ⟨by simp; omega, by simp; omega, by simp; omega, by simp; omega⟩ (below_step HBW.out Hb2.out)
                case measure => simp [intOf]; omega
              · have hA : act c t k (lev, n) 3 = (lev, n) := by simp [act, hlev]
                have HA := Lib.hid hA
                clear hA
                go_wp2_with (go_at_call 20; refine (rtake_no _ _ _ _ _ ⟨H.out, f1, f2⟩ (by omega) _).mono ?_; rintro e w2 ⟨rfl, hb2⟩; have Hb2 := Lib.hid hb2; clear hb2)
                go_roundw
                case rel => exact rround_close hlt (hS.out.trans HA.out) rfl rfl (by go_num) ⟨f1, f2, f3, by simp; omega⟩ (below_step HBW.out Hb2.out)
                case measure => simp [intOf]; omega
        · obtain rfl : i = l.length := by omega
          clear HS
          have hE : (lev, n) = acts c t r k l := by have h := HP.out; rw [List.take_length] at h; exact h.symm
          have HE := Lib.hid hE
          clear hE HP
          go_wp2
          go_ret3
          exact ⟨ret_pair HE.out, below_step HB.out HBW.out⟩

end Go.Proofs.Ytaaebnfagbiaiaa
