/- What the document's Pins hands back. Conditions: none. -/
import Derived.Test.YtoingfnpffaopaaRgP
import Derived.Deep.DeepCutAuto
namespace Go.Proofs.Ytoingfnpffaopaa
open Go.RowKit

/-- Row k pins the call of row i elsewhere. -/
def pinR (l : List Rw) (i k : Nat) : Bool := decide ((l.getD k Rw.zero).kind = 2) && (decide (1 ≤ (l.getD k Rw.zero).what) && (decide ((l.getD k Rw.zero).what ≤ 2) && (decide ((l.getD i Rw.zero).ckey = (l.getD k Rw.zero).ckey) && !decide ((l.getD i Rw.zero).spot = (l.getD k Rw.zero).spot))))
/-- What the document's Pins answers yes of. -/
def pinQ (l : List Rw) (i : Nat) : Bool := isPin (l.getD i Rw.zero) && (List.range i).any (pinR l i)

theorem pinq_yes {l : List Rw} {i k : Nat} (hp : isPin (l.getD i Rw.zero) = true) (hk : k < i) (h : pinR l i k = true) : pinQ l i = true := by
  unfold pinQ
  rw [hp, Bool.true_and, List.any_eq_true]
  exact ⟨k, by simpa using hk, h⟩
theorem pinq_no {l : List Rw} {i : Nat} (h : ∀ k, k < i → pinR l i k = false) : pinQ l i = false := by
  unfold pinQ
  rw [show (List.range i).any (pinR l i) = false from List.any_eq_false.2 fun k hk => by simp [h k (by simpa using hk)], Bool.and_false]
theorem pinq_off {l : List Rw} {i : Nat} (h : isPin (l.getD i Rw.zero) = false) : pinQ l i = false := by
  unfold pinQ
  rw [h, Bool.false_and]

/-- The first pin of a call. -/
theorem pin_first (l : List Rw) : ∀ (i : Nat) (x : Key), (pinO l i x = none ∧ ∀ k, k < i → isPin (l.getD k Rw.zero) = true → (l.getD k Rw.zero).ckey ≠ x) ∨
    ∃ k, k < i ∧ isPin (l.getD k Rw.zero) = true ∧ (l.getD k Rw.zero).ckey = x ∧ (∀ m, m < k → isPin (l.getD m Rw.zero) = true → (l.getD m Rw.zero).ckey ≠ x) ∧ pinO l i x = some (l.getD k Rw.zero).spot ∧ ∀ m, m ≤ i → k < m → pinO l m x = some (l.getD k Rw.zero).spot
  | 0, x => .inl ⟨rfl, fun k hk => absurd hk (Nat.not_lt_zero _)⟩
  | i + 1, x => by
    have hs : pinO l (i + 1) x = if isPin (l.getD i Rw.zero) = true ∧ (pinO l i (l.getD i Rw.zero).ckey).isSome = false ∧ x = (l.getD i Rw.zero).ckey then some (l.getD i Rw.zero).spot else pinO l i x := rfl
    rcases pin_first l i x with ⟨h1, h2⟩ | ⟨k, hk, h1, h2, h0, h3, h4⟩
    · by_cases hp : isPin (l.getD i Rw.zero) = true ∧ x = (l.getD i Rw.zero).ckey
      · right
        have e : pinO l (i + 1) x = some (l.getD i Rw.zero).spot := by
          rw [hs, if_pos ⟨hp.1, by rw [← hp.2, h1]; rfl, hp.2⟩]
        exact ⟨i, Nat.lt_succ_self i, hp.1, hp.2.symm, h2, e, fun m hm hkm => by
          obtain rfl : m = i + 1 := by omega
          exact e⟩
      · left
        refine ⟨by rw [hs, if_neg fun h => hp ⟨h.1, h.2.2⟩]; exact h1, fun k hk hpk e => ?_⟩
        by_cases ek : k = i
        · subst ek; exact hp ⟨hpk, e.symm⟩
        · exact h2 k (by omega) hpk e
    · right
      have e : pinO l (i + 1) x = some (l.getD k Rw.zero).spot := by
        rw [hs]
        split
        · rename_i h
          rw [← h.2.2, h3] at h
          exact absurd h.2.1 (by simp)
        · exact h3
      exact ⟨k, by omega, h1, h2, h0, e, fun m hm hkm => by
        by_cases em : m = i + 1
        · rw [em]; exact e
        · exact h4 m (by omega) hkm⟩

theorem pin_same (l : List Rw) : idx (pinP l) l.length = idx (pinQ l) l.length := by
  have hR : ∀ i k, pinR l i k = true ↔ isPin (l.getD k Rw.zero) = true ∧ (l.getD i Rw.zero).ckey = (l.getD k Rw.zero).ckey ∧ (l.getD i Rw.zero).spot ≠ (l.getD k Rw.zero).spot := fun i k => by
    unfold pinR isPin
    simp only [Bool.and_eq_true, decide_eq_true_eq, Bool.not_eq_true', decide_eq_false_iff_not, and_assoc, ne_eq]
  have hQ : ∀ i, pinQ l i = true ↔ isPin (l.getD i Rw.zero) = true ∧ ∃ k, k < i ∧ pinR l i k = true := fun i => by
    unfold pinQ
    rw [Bool.and_eq_true, List.any_eq_true]
    simp only [List.mem_range]
  have hP : ∀ i k, isPin (l.getD i Rw.zero) = true → pinO l i (l.getD i Rw.zero).ckey = some (l.getD k Rw.zero).spot → (l.getD k Rw.zero).spot ≠ (l.getD i Rw.zero).spot → pinP l i = true := fun i k h1 h2 h3 => by
    unfold pinP
    rw [h1, h2]
    show (true && (true && decide ((l.getD k Rw.zero).spot ≠ (l.getD i Rw.zero).spot))) = true
    rw [decide_eq_true h3]
    rfl
  refine idx_same (fun i hi h => ?_) fun i hi h => ?_
  · unfold pinP at h
    simp only [Bool.and_eq_true, decide_eq_true_eq] at h
    obtain ⟨h1, h2, h3⟩ := h
    rcases pin_first l i (l.getD i Rw.zero).ckey with ⟨e, _⟩ | ⟨k, hk, g1, g2, _, g3, _⟩
    · rw [e] at h2; exact absurd h2 (by simp)
    · rw [g3] at h3
      exact (hQ i).2 ⟨h1, k, hk, (hR i k).2 ⟨g1, g2.symm, fun e => h3 e.symm⟩⟩
  · obtain ⟨h1, k, hk, h2⟩ := (hQ i).1 h
    obtain ⟨g1, g2, g3⟩ := (hR i k).1 h2
    rcases pin_first l i (l.getD i Rw.zero).ckey with ⟨_, e⟩ | ⟨m, hm, f1, f2, f0, f3, f4⟩
    · exact absurd g2.symm (e k hk g1)
    · by_cases hs : (l.getD m Rw.zero).spot = (l.getD i Rw.zero).spot
      · have hmk : m < k := by
          rcases Nat.lt_trichotomy m k with h | h | h
          · exact h
          · subst h; exact absurd hs.symm g3
          · exact absurd g2.symm (f0 k h g1)
        exact ⟨k, by omega, hP k m g1 (by rw [← g2]; exact f4 k (by omega) hmk) (by rw [hs]; exact g3)⟩
      · exact ⟨i, Nat.le_refl _, hP i m h1 f3 hs⟩

set_option maxHeartbeats 16000000 in
set_option maxRecDepth 100000 in
theorem rpin_any (a : Option Addr) (l : List Rw) (cap : Nat) (w : World) (hm : l.length ≤ maxLen) (hr : RowsAt w a l) :
    Calls Try.prog 20 #[.slice a l.length cap] w (Gives (.int .i64 (idx (pinP l) l.length)) w) := by
  rw [pin_same l]
  unfold maxLen at hm
  have HR := Lib.hid hr
  clear hr
  go_enter Try.func20, Try.ntmps20
  go_wp2
  go_loopw [3] (fun vi wr => RefRel (pinQ l) l.length w vi wr) (fun i _ => l.length - (intOf i).toNat)
  case atStart => exact ⟨0, Nat.zero_le _, rfl, Below.refl _ _, fun j hj => absurd hj (Nat.not_lt_zero _)⟩
  case round =>
    obtain ⟨i, hi, rfl, hb, hn⟩ := hrel
    have HB := Lib.hid hb
    have HN := Lib.hid hn
    clear hb hn
    by_cases hlt : i < l.length
    · obtain ⟨b, off, hab, hbw0, hA0⟩ := (HR.out.below HB.out (Nat.le_refl _)).at hlt
      have i0 : (i : Int) < (l.length : Int) := by omega
      have hP0 : isPin (l.getD i Rw.zero) = decide ((l.getD i Rw.zero).kind = 2 ∧ 1 ≤ (l.getD i Rw.zero).what ∧ (l.getD i Rw.zero).what ≤ 2) := rfl
      generalize hR0 : l.getD i Rw.zero = R0 at hA0 hP0
      obtain ⟨q0, q1, q2, q3, q4, q5, q6, q7, q8, q9, q10, q11, q12, q13, q14, q15⟩ := hA0
      have HR0 := Lib.hid hR0
      have HAB := Lib.hid hab
      clear hR0 hab
      have hkk : (decide (R0.kind = 2) = true ∧ (R0.kind == 2) = true ∧ 1 ≤ R0.what ∧ R0.what ≤ 2) ∨ ((decide (R0.kind = 2) = true ∧ (R0.kind == 2) = true ∧ R0.what < 1) ∨ (decide (R0.kind = 2) = true ∧ (R0.kind == 2) = true ∧ 1 ≤ R0.what ∧ 2 < R0.what) ∨ (decide (R0.kind = 2) = false ∧ (R0.kind == 2) = false)) := by
        by_cases h : R0.kind = 2
        · simp only [h, decide_true, BEq.rfl, true_and]; omega
        · simp [h]
      have HPI0 := Lib.hid hP0
      clear hP0
      have HBW := Lib.hid hbw0
      clear hbw0
      rcases hkk with ⟨f1, f2, f3, f4⟩ | hkk
      · have HPI : Hid (isPin (l.getD i Rw.zero) = true) := by
          have h := HPI0.out
          rw [decide_eq_true (And.intro (of_decide_eq_true f1) (And.intro f3 f4))] at h
          rw [HR0.out]
          exact h
        have HPQ : Hid (∀ k, k < i → pinR l i k = true → pinQ l i = true) := fun k hk h => pinq_yes HPI.out hk h
        obtain rfl := HAB.out
        have f5 : decide (R0.what < 1) = false := decide_eq_false (by omega)
        have f6 : decide (2 < R0.what) = false := decide_eq_false (by omega)
        have f0 : (R0.kind != 2) = false := by rw [bne, f2]; rfl
        go_wp2
        go_loopw [4] (fun vk wr => RefRel (pinR l i) i w vk wr) (fun k _ => i - (intOf k).toNat)
        case atStart => exact ⟨0, Nat.zero_le _, rfl, HB.out, fun j hj => absurd hj (Nat.not_lt_zero _)⟩
        case round =>
          obtain ⟨k, hk, rfl, hb, hn2⟩ := hrel
          have HBR2 := Lib.hid hb
          have HN2 := Lib.hid hn2
          clear hb hn2
          by_cases hkt : k < i
          · obtain ⟨b9, off9, eab, hbw, hA⟩ := (HR.out.below HBR2.out (Nat.le_refl _)).at hlt
            cases eab
            obtain ⟨b', off', e, _, hC⟩ := (HR.out.below HBR2.out (Nat.le_refl _)).at (i := k) (by omega)
            cases e
            have i1 : (k : Int) < (l.length : Int) := by omega
            have i2 : (i : Int) < (l.length : Int) := by omega
            have HA := Lib.hid hA
            have HC := Lib.hid hC
            have HBW2 := Lib.hid hbw
            clear hA hC hbw
            go_upto_region 8 with fail
            go_cut [86] (fun s86 wx => s86 = .bool (pinR l i k) ∧ Below wr.heap.size wr wx)
            case first =>
              rename_i J K' hJ hK'
              refine pinreg i k b off l.length cap _ _ wr _ _ _ _ _ _ _ _ _ _ _ _ _ _ _ _ _ _ _ _ _ _ _ _ _ _ _ _ _ _ _ _ _ _ _ _ _ _ _ _ _ _ _ _ _ _ _ _ _ _ _ _ _ _ _ _ _ _ _ _ _ _ _ _ _ _ _ _ _ _ _ _ _ _ _ _ _ _ _ _ _ _ _ _ _ _ _ HBW2.out i1 i2 HA.out HC.out ?_
              intro y40 y41 y42 y43 y44 y45 y46 y47 y48 y49 y50 y51 y52 y53 y54 y55 y56 y57 y58 y59 y60 y61 y62 y63 y64 y65 y66 y67 y68 y69 y70 y71 y72 y73 y74 y75 y76 y77 y78 y79 y80 y81 y82 y83 y84 y85 wz hbz
              refine hK' _ _ (Met.intro (hJ _ _ ?_))
              (try dsimp only)
              (repeat apply Exists.intro)
              exact ⟨⟨rfl, hbz⟩, rfl⟩
            case rest =>
              obtain ⟨rfl, hbc⟩ := hcut
              have HBX := Lib.hid (below_step HBR2.out hbc)
              clear hbc
              cases hv : pinR l i k with
              | true =>
                have HVV := Lib.hid hv
                clear hv
                go_wp2
                go_ret
                exact ⟨ret_int (idx_some hlt (HPQ.out k hkt HVV.out) HN.out).symm, HBX.out⟩
              | false =>
                have HVV := Lib.hid hv
                clear hv
                go_wp2
                go_roundw
                case rel => exact ⟨k + 1, by omega, by go_num, HBX.out, fun j hj => by
                  rcases Nat.lt_or_ge j k with h | h
                  · exact HN2.out j h
                  · obtain rfl : j = k := by omega
                    exact HVV.out⟩
                case measure => simp [intOf]; omega
          · obtain rfl : k = i := by omega
            go_wp2
            go_roundw
            case rel => exact ⟨k + 1, by omega, by go_num, HBR2.out, fun j hj => by
              rcases Nat.lt_or_ge j k with h | h
              · exact HN.out j h
              · obtain rfl : j = k := by omega
                exact pinq_no HN2.out⟩
            case measure => simp [intOf]; omega
      · have HPI : Hid (isPin (l.getD i Rw.zero) = false) := by
          have h := HPI0.out
          rw [decide_eq_false (fun h2 => by
            obtain ⟨g1, g2, g3⟩ := h2
            rcases hkk with ⟨_, _, h3⟩ | ⟨_, _, _, h3⟩ | ⟨h3, _⟩
            · omega
            · omega
            · exact of_decide_eq_false h3 g1)] at h
          rw [HR0.out]
          exact h
        obtain rfl := HAB.out
        rcases hkk with ⟨f1, f2, f3⟩ | ⟨f1, f2, f3, f4⟩ | ⟨f1, f2⟩
        all_goals
          first | have f0 : (R0.kind != 2) = false := (by rw [bne, f2]; rfl) | have f0 : (R0.kind != 2) = true := (by rw [bne, f2]; rfl)
          (try have f5 : decide (R0.what < 1) = true := decide_eq_true f3)
          (try have f5 : decide (R0.what < 1) = false := decide_eq_false (by omega))
          (try have f6 : decide (2 < R0.what) = true := decide_eq_true f4)
          go_wp2
          go_roundw
          case rel => exact ⟨i + 1, by omega, by go_num, HB.out, fun j hj => by
            rcases Nat.lt_or_ge j i with h | h
            · exact HN.out j h
            · obtain rfl : j = i := by omega
              exact pinq_off HPI.out⟩
          case measure => simp [intOf]; omega
    · obtain rfl : i = l.length := by omega
      go_wp2
      go_ret
      exact ⟨ret_int (idx_none HN.out).symm, HB.out⟩
end Go.Proofs.Ytoingfnpffaopaa
