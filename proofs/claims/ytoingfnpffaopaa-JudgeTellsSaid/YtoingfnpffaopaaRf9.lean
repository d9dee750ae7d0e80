/- What the document's told hands back. Conditions: none. -/
import Derived.Test.YtoingfnpffaopaaRgT
import Derived.Test.YtoingfnpffaopaaRgG
import Derived.Test.YtoingfnpffaopaaRf6
import Derived.Deep.DeepCutAuto
namespace Go.Proofs.Ytoingfnpffaopaa
open Go.RowKit

theorem good_is (l : List Rw) (c i : Nat) : (!((decide ((l.getD i Rw.zero).kind = 3) || decide ((l.getD i Rw.zero).kind = 4)) && (decide ((l.getD i Rw.zero).client = (l.getD c Rw.zero).client) && (decide ((l.getD i Rw.zero).what = (l.getD c Rw.zero).what) && (decide ((l.getD i Rw.zero).key = (l.getD c Rw.zero).key) && (decide ((l.getD i Rw.zero).other = (l.getD c Rw.zero).other) && (decide ((l.getD i Rw.zero).amount = (l.getD c Rw.zero).amount) && (decide ((l.getD i Rw.zero).code = (l.getD c Rw.zero).code) && (decide ((l.getD i Rw.zero).place = (l.getD c Rw.zero).place) && decide ((l.getD i Rw.zero).value = (l.getD c Rw.zero).value)))))))))) = !goodR l c i := by
  unfold goodR isDid Rw.op Rw.res
  congr 1
  rw [Bool.eq_iff_iff]
  simp only [Bool.and_eq_true, Bool.or_eq_true, decide_eq_true_eq, Prod.mk.injEq, and_assoc]

theorem told_yes {l : List Rw} {a i k : Nat} (hi : i < a) (hk : k < a) (hg : goodR l a i = true) (h : toldR l a i k = true) : toldP l a = true := by
  unfold toldP
  rw [List.any_eq_true]
  refine ⟨i, by simpa using hi, ?_⟩
  rw [hg, Bool.true_and, List.any_eq_true]
  exact ⟨k, by simpa using hk, h⟩
/-- Row i does not tell. -/
def rowT (l : List Rw) (a i : Nat) : Bool := goodR l a i && (List.range a).any (toldR l a i)
theorem rowt_off {l : List Rw} {a i : Nat} (h : goodR l a i = false) : rowT l a i = false := by unfold rowT; rw [h, Bool.false_and]
theorem rowt_no {l : List Rw} {a i : Nat} (h : ∀ k, k < a → toldR l a i k = false) : rowT l a i = false := by
  unfold rowT
  rw [show (List.range a).any (toldR l a i) = false from List.any_eq_false.2 fun k hk => by simp [h k (by simpa using hk)], Bool.and_false]
theorem told_no {l : List Rw} {a : Nat} (h : ∀ i, i < a → rowT l a i = false) : toldP l a = false := by
  unfold toldP
  exact List.any_eq_false.2 fun i hi => by
    have := h i (by simpa using hi)
    unfold rowT at this
    simp [this]

set_option maxHeartbeats 16000000 in
set_option maxRecDepth 100000 in
theorem rtold_any (a : Option Addr) (l : List Rw) (cap : Nat) (c : Nat) (w : World) (hm : l.length ≤ maxLen) (hc : c < l.length) (hr : RowsAt w a l) :
    Calls Try.prog 40 #[.slice a l.length cap, .int .i64 c] w (Gives (.bool (toldP l c)) w) := by
  unfold maxLen at hm
  obtain ⟨b, off, hab, _⟩ := hr.at hc
  subst hab
  have HR := Lib.hid hr
  clear hr
  go_enter Try.func40, Try.ntmps40
  go_wp2
  go_loopw [5] (fun vi wr => RefRel (rowT l c) c w vi wr) (fun i _ => c - (intOf i).toNat)
  case atStart => exact ⟨0, Nat.zero_le _, rfl, Below.refl _ _, fun j hj => absurd hj (Nat.not_lt_zero _)⟩
  case round =>
    obtain ⟨i, hi, rfl, hb, hn⟩ := hrel
    have HB := Lib.hid hb
    have HN := Lib.hid hn
    clear hb hn
    have j1 : (i : Int) ≤ (c : Int) := by omega
    by_cases hlt : i < c
    · obtain ⟨b1, off1, e1, hbw, hA⟩ := (HR.out.below HB.out (Nat.le_refl _)).at (i := i) (by omega)
      cases e1
      obtain ⟨b2, off2, e2, _, hC⟩ := (HR.out.below HB.out (Nat.le_refl _)).at hc
      cases e2
      have i2 : (i : Int) < (l.length : Int) := by omega
      have i3 : (c : Int) < (l.length : Int) := by omega
      have i4 : (i : Int) < (c : Int) := by omega
      have HA := Lib.hid hA
      have HC := Lib.hid hC
      have HBW := Lib.hid hbw
      clear hA hC hbw
      go_upto_region 4 with fail
      go_cut [64] (fun s64 wx => s64 = .bool (!goodR l c i) ∧ Below wr.heap.size wr wx)
      case first =>
        rename_i J K' hJ hK'
        refine goodreg c i b off l.length cap _ _ wr _ _ _ _ _ _ _ _ _ _ _ _ _ _ _ _ _ _ _ _ _ _ _ _ _ _ _ _ _ _ _ _ _ _ _ _ _ _ _ _ _ _ _ _ _ _ _ _ _ _ _ _ _ _ _ _ _ _ _ _ _ _ _ _ _ _ _ _ _ _ _ _ _ _ _ _ _ _ _ _ _ _ _ _ _ _ _ _ _ _ _ _ _ _ _ _ _ HBW.out i2 i3 HA.out HC.out ?_
        intro y12 y13 y14 y15 y16 y17 y18 y19 y20 y21 y22 y23 y24 y25 y26 y27 y28 y29 y30 y31 y32 y33 y34 y35 y36 y37 y38 y39 y40 y41 y42 y43 y44 y45 y46 y47 y48 y49 y50 y51 y52 y53 y54 y55 y56 y57 y58 y59 y60 y61 y62 y63 wz hbz
        refine hK' _ _ (Met.intro (hJ _ _ ?_))
        (try dsimp only)
        (repeat apply Exists.intro)
        exact ⟨⟨congrArg Value.bool (good_is l c i), hbz⟩, rfl⟩
      case rest =>
        obtain ⟨rfl, hbc⟩ := hcut
        have HBX := Lib.hid (below_step HB.out hbc)
        clear hbc
        cases hg : goodR l c i with
        | false =>
          have HGG := Lib.hid (rowt_off hg)
          clear hg
          go_wp2
          go_roundw
          case rel => exact ⟨i + 1, by omega, by go_num, HBX.out, fun j hj => by
            rcases Nat.lt_or_ge j i with h | h
            · exact HN.out j h
            · obtain rfl : j = i := by omega
              exact HGG.out⟩
          case measure => simp [intOf]; omega
        | true =>
          have HGG := Lib.hid hg
          clear hg
          go_wp2
          go_loopw [6] (fun vk wr => RefRel (toldR l c i) c w vk wr) (fun k _ => c - (intOf k).toNat)
          case atStart => exact ⟨0, Nat.zero_le _, rfl, HBX.out, fun j hj => absurd hj (Nat.not_lt_zero _)⟩
          case round =>
            obtain ⟨k, hk, rfl, hb, hn2⟩ := hrel
            have HBK := Lib.hid hb
            have HN2 := Lib.hid hn2
            clear hb hn2
            by_cases hkt : k < c
            · obtain ⟨b1, off1, e1, hbw, hA⟩ := (HR.out.below HBK.out (Nat.le_refl _)).at (i := i) (by omega)
              cases e1
              obtain ⟨b2, off2, e2, _, hC⟩ := (HR.out.below HBK.out (Nat.le_refl _)).at hc
              cases e2
              obtain ⟨b3, off3, e3, _, hS⟩ := (HR.out.below HBK.out (Nat.le_refl _)).at (i := k) (by omega)
              cases e3
              have i1 : (k : Int) < (l.length : Int) := by omega
              have i5 : (k : Int) < (c : Int) := by omega
              have HA := Lib.hid hA
              have HC := Lib.hid hC
              have HS := Lib.hid hS
              have HBW2 := Lib.hid hbw
              clear hA hC hS hbw
              go_upto_region 8 with fail
              go_cut [97] (fun s97 wx => s97 = .bool (toldR l c i k) ∧ Below wr.heap.size wr wx)
              case first =>
                rename_i J K' hJ hK'
                refine toldreg c i k b off l.length cap _ _ _ wr _ _ _ _ _ _ _ _ _ _ _ _ _ _ _ _ _ _ _ _ _ _ _ _ _ _ _ _ _ _ _ _ _ _ _ _ _ _ _ _ _ _ _ _ _ _ _ _ _ _ _ _ _ _ _ _ _ _ _ _ _ _ _ _ _ _ _ _ _ _ _ _ _ _ _ _ _ _ _ _ _ _ _ _ _ _ _ _ _ _ _ _ _ _ _ _ HBW2.out i1 i2 i3 HA.out HS.out HC.out ?_
                intro y70 y71 y72 y73 y74 y75 y76 y77 y78 y79 y80 y81 y82 y83 y84 y85 y86 y87 y88 y89 y90 y91 y92 y93 y94 y95 y96 wz hbz
                refine hK' _ _ (Met.intro (hJ _ _ ?_))
                (try dsimp only)
                (repeat apply Exists.intro)
                exact ⟨⟨rfl, hbz⟩, rfl⟩
              case rest =>
                obtain ⟨rfl, hbc⟩ := hcut
                have HBY := Lib.hid (below_step HBK.out hbc)
                clear hbc
                cases hv : toldR l c i k with
                | true =>
                  have HVV := Lib.hid (told_yes hlt hkt HGG.out hv)
                  clear hv
                  go_wp2
                  go_ret
                  exact ⟨ret_bool HVV.out.symm, HBY.out⟩
                | false =>
                  have HVV := Lib.hid hv
                  clear hv
                  go_wp2
                  go_roundw
                  case rel => exact ⟨k + 1, by omega, by go_num, HBY.out, fun j hj => by
                    rcases Nat.lt_or_ge j k with h | h
                    · exact HN2.out j h
                    · obtain rfl : j = k := by omega
                      exact HVV.out⟩
                  case measure => simp [intOf]; omega
            · obtain rfl : k = c := by omega
              go_wp2
              go_roundw
              case rel => exact ⟨i + 1, by omega, by go_num, HBK.out, fun j hj => by
                rcases Nat.lt_or_ge j i with h | h
                · exact HN.out j h
                · obtain rfl : j = i := by omega
                  exact rowt_no HN2.out⟩
              case measure => simp [intOf]; omega
    · obtain rfl : i = c := by omega
      go_wp2
      go_ret
      exact ⟨ret_bool (told_no HN.out).symm, HB.out⟩
end Go.Proofs.Ytoingfnpffaopaa
