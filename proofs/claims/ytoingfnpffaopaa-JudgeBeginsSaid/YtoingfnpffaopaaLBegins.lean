/- The walk of JudgeBegins: it hands back true. Condition: the slice reads as the list. -/
import Derived.Test.YtoingfnpffaopaaReg0
import Derived.Test.YtoingfnpffaopaaReg1
import Derived.Test.YtoingfnpffaopaaReg2
import Derived.Test.YtoingfnpffaopaaReg3
import Derived.Test.YtoingfnpffaopaaReg4
import Derived.Deep.DeepCutAuto
namespace Go.Proofs.Ytoingfnpffaopaa
open Go.RowKit

attribute [local go_sem ↓] run_load43

theorem cells5 {w : World} {g : Nat} {f : Nat → Int} (h : w.heap[g]? = some (.cells #[.int .i64 (f 0), .int .i64 (f 1), .int .i64 (f 2), .int .i64 (f 3), .int .i64 (f 4)] 3 (0, 0))) :
    w.cell? ⟨g, 0, none⟩ = some (.int .i64 (f 0)) ∧ w.cell? ⟨g, 1, none⟩ = some (.int .i64 (f 1)) ∧ w.cell? ⟨g, 2, none⟩ = some (.int .i64 (f 2)) ∧ w.cell? ⟨g, 3, none⟩ = some (.int .i64 (f 3)) ∧ w.cell? ⟨g, 4, none⟩ = some (.int .i64 (f 4)) := by
  simp [World.cell?, h]

/-- What holds at the head of a round. -/
def BegRel (W : World) (v6 : Value) (wr : World) : Prop := ∃ z : Int, 0 ≤ z ∧ z ≤ 5 ∧ v6 = .int .i64 z ∧ Below W.heap.size W wr

set_option maxHeartbeats 40000000 in
set_option maxRecDepth 100000 in
theorem begins_walk (s : CS) (a : Option Addr) (l : List Rw) (cap : Nat) (w : World) (hm : l.length ≤ maxLen) (hbig : l.length * 128 ≤ 140737488355200) (hcap : l.length ≤ cap) (hr : RowsAt w a l) :
    Calls Try.prog 6 #[.agg [.int .i64 s.s0, .bool s.s1, .int .i64 s.s2, .int .i64 s.s3, .int .i64 s.s4, .int .i64 s.s5, .int .i64 s.s6, .int .i64 s.s7, .int .i64 s.s8, .int .i64 s.s9, .int .i64 s.s10, .int .i64 s.s11, .int .i64 s.s12, .int .i64 s.s13, .int .i64 s.s14, .int .i64 s.s15, .int .i64 s.s16, .int .i64 s.s17, .int .i64 s.s18, .int .i64 s.s19, .int .i64 s.s20, .int .i64 s.s21, .int .i64 s.s22, .int .i64 s.s23, .int .i64 s.s24, .int .i64 s.s25].toArray, .slice a l.length cap] w (Gives (.bool true) w) := by
  have hn2 : l.length ≤ 1099511627775 := by omega
  have hrange := five_range s l
  obtain ⟨f, hf⟩ : ∃ f, five s l = f := ⟨_, rfl⟩
  have HF := Lib.hid hf
  have HS := Lib.hid (fun (w1 : World) (hb : Below w.heap.size w w1) => five_calls s a l l.length cap w1 rfl hm (by omega) (hr.below hb (Nat.le_refl _)))
  have HTK := Lib.hid (fun (k : Nat) (w1 : World) (hk : k ≤ l.length) (hr1 : RowsAt w1 a l) => five_calls s a (l.take k) k cap w1 (take_len l k hk) (by omega) (by omega) (hr1.take k hk))
  have HRW := Lib.hid hr
  rw [hf] at HS hrange
  have HRG := Lib.hid hrange
  have hlen : ([.int .i64 s.s0, .bool s.s1, .int .i64 s.s2, .int .i64 s.s3, .int .i64 s.s4, .int .i64 s.s5, .int .i64 s.s6, .int .i64 s.s7, .int .i64 s.s8, .int .i64 s.s9, .int .i64 s.s10, .int .i64 s.s11, .int .i64 s.s12, .int .i64 s.s13, .int .i64 s.s14, .int .i64 s.s15, .int .i64 s.s16, .int .i64 s.s17, .int .i64 s.s18, .int .i64 s.s19, .int .i64 s.s20, .int .i64 s.s21, .int .i64 s.s22, .int .i64 s.s23, .int .i64 s.s24, .int .i64 s.s25] : List Value).length = 26 := rfl
  generalize ([.int .i64 s.s0, .bool s.s1, .int .i64 s.s2, .int .i64 s.s3, .int .i64 s.s4, .int .i64 s.s5, .int .i64 s.s6, .int .i64 s.s7, .int .i64 s.s8, .int .i64 s.s9, .int .i64 s.s10, .int .i64 s.s11, .int .i64 s.s12, .int .i64 s.s13, .int .i64 s.s14, .int .i64 s.s15, .int .i64 s.s16, .int .i64 s.s17, .int .i64 s.s18, .int .i64 s.s19, .int .i64 s.s20, .int .i64 s.s21, .int .i64 s.s22, .int .i64 s.s23, .int .i64 s.s24, .int .i64 s.s25] : List Value) = cs at *
  have hX := CsB.new w w.heap.size rfl cs hlen
  have hB0 := below_alloc (Below.refl w.heap.size w) (.cells cs.toArray 43)
  clear hf hr hrange hm hbig hlen
  generalize hnl : l.length = n at *
  have HNL := Lib.hid hnl
  clear hnl
  go_enter Try.func6, Try.ntmps6
  go_wp2_with (fail)
  refine (alive_any _).mono ?_
  rintro e1 w1 ⟨rfl, hb⟩
  have HX1 := Lib.hid (hX.kept hb)
  have HB1 := Lib.hid (below_step hB0 hb)
  clear hb hX hB0
  go_upto_region 3 with fail
  have hK : ∀ w', Below w1.heap.size w1 w' → Below w1.heap.size w1 w' ∧ HeldCs w' (.pointer (some ⟨w.heap.size, 0, none⟩)) ∧ csOf w' (.pointer (some ⟨w.heap.size, 0, none⟩)) = cs := fun w' hb => ⟨hb, (HX1.out.kept hb).held, (HX1.out.kept hb).of⟩
  have HK := Lib.hid hK
  clear hK
  go_region_held3 (fun w' => Below w1.heap.size w1 w' ∧ HeldCs w' (.pointer (some ⟨w.heap.size, 0, none⟩)) ∧ csOf w' (.pointer (some ⟨w.heap.size, 0, none⟩)) = cs)
    (first | with_reducible assumption | (refine HK.out _ ?_; (first | with_reducible exact (Below.refl _ _).drew | with_reducible exact below_held (by with_reducible assumption) (by with_reducible assumption) | with_reducible exact below_helda (by with_reducible assumption))))
    (first | (go_at_call 9; refine (HS.out _ (below_step HB1.out (And.left (by with_reducible assumption)))).c0.mono ?_; rintro e1 wx ⟨rfl, hbx⟩)
           | (go_at_call 15; refine (HS.out _ (below_step HB1.out (And.left (by with_reducible assumption)))).c1.mono ?_; rintro e1 wx ⟨rfl, hbx⟩)
           | (go_at_call 19; refine (HS.out _ (below_step HB1.out (And.left (by with_reducible assumption)))).c2.mono ?_; rintro e1 wx ⟨rfl, hbx⟩)
           | (go_at_call 21; refine (HS.out _ (below_step HB1.out (And.left (by with_reducible assumption)))).c3.mono ?_; rintro e1 wx ⟨rfl, hbx⟩)
           | (go_at_call 10; refine (HS.out _ (below_step HB1.out (And.left (by with_reducible assumption)))).c4.mono ?_; rintro e1 wx ⟨rfl, hbx⟩))
  have HB2 := Lib.hid (show Below w1.heap.size w1 (wx.alloc (.cells #[.int .i64 (f 0), .int .i64 (f 1), .int .i64 (f 2), .int .i64 (f 3), .int .i64 (f 4)] 3)) from And.left (by with_reducible assumption))
  rename_i hh
  clear hh
  have hnew := heap_alloc_new wx (.cells #[.int .i64 (f 0), .int .i64 (f 1), .int .i64 (f 2), .int .i64 (f 3), .int .i64 (f 4)] 3)
  have HWX := Lib.hid (show wx.heap.size < (wx.alloc (.cells #[.int .i64 (f 0), .int .i64 (f 1), .int .i64 (f 2), .int .i64 (f 3), .int .i64 (f 4)] 3)).heap.size by simp)
  generalize wx.alloc (.cells #[.int .i64 (f 0), .int .i64 (f 1), .int .i64 (f 2), .int .i64 (f 3), .int .i64 (f 4)] 3) = W at *
  generalize wx.heap.size = g at *
  have HBW := Lib.hid (below_step HB1.out HB2.out)
  have HALL : Hid (∀ w', Below W.heap.size W w' → (w'.cell? ⟨g, 0, none⟩ = some (.int .i64 (f 0)) ∧ w'.cell? ⟨g, 1, none⟩ = some (.int .i64 (f 1)) ∧ w'.cell? ⟨g, 2, none⟩ = some (.int .i64 (f 2)) ∧ w'.cell? ⟨g, 3, none⟩ = some (.int .i64 (f 3)) ∧ w'.cell? ⟨g, 4, none⟩ = some (.int .i64 (f 4))) ∧
      HeldCs w' (.pointer (some ⟨w.heap.size, 0, none⟩)) ∧ csOf w' (.pointer (some ⟨w.heap.size, 0, none⟩)) = cs ∧ RowsAt w' a l) := fun w' hb =>
    ⟨cells5 ((hb.block g HWX.out).trans hnew), (HK.out w' (below_step HB2.out hb)).2.1, (HK.out w' (below_step HB2.out hb)).2.2, HRW.out.below (below_step HBW.out hb) (Nat.le_refl _)⟩
  have HP : Hid (∀ k w', k ≤ n → Below W.heap.size W w' → Five cs a k cap (five s (l.take k)) w') := fun k w' hk hb => HTK.out k w' hk (HALL.out w' hb).2.2.2
  clear hnew HS HTK HK HX1
  go_wp2
  go_loopw [6] (fun v6 wr => BegRel W v6 wr) (fun i _ => 5 - (intOf i).toNat)
  case atStart => exact ⟨0, by omega, by omega, rfl, Below.refl _ _⟩
  case round =>
    obtain ⟨z, hz0, hz5, rfl, hbr⟩ := hrel
    have HBR := Lib.hid hbr
    clear hbr
    have hz : z = 5 ∨ z = 0 ∨ z = 1 ∨ z = 2 ∨ z = 3 ∨ z = 4 := by omega
    clear hz0 hz5
    rcases hz with rfl | rfl | rfl | rfl | rfl | rfl
    · go_wp2
      go_ret
      exact ⟨rfl, below_step HBW.out HBR.out⟩
    · rcases HRG.out 0 with hfi | ⟨k, hk, hfi⟩
      · have hk : n ≤ n := Nat.le_refl _
        obtain ⟨x, hx⟩ : ∃ x, five s (l.take n) = x := ⟨_, rfl⟩
        have HXI := Lib.hid (show x 0 = -1 by rw [← hx]; exact five_low s l 0 n (by rw [HNL.out]; omega) (by rw [HF.out]; exact .inl hfi))
        have HPX : Hid (∀ w', Below W.heap.size W w' → Five cs a n cap x w') := fun w' hb => by rw [← hx]; exact HP.out n w' (by omega) hb
        obtain ⟨⟨c0, c1, c2, c3, c4⟩, hcs, hcs2, _⟩ := HALL.out wr HBR.out
        rw [hfi] at c0
        have HFI := Lib.hid hfi
        clear hx hfi hk
        go_upto_region 11 with fail
        go_cut [84] (fun s84 wx => s84 = .bool false ∧ Below W.heap.size W wx)
        case first =>
          rename_i J K' hJ hK'
          refine reg11_0 cs a n cap w.heap.size x W wr _ _ _ _ _ _ _ _ _ _ _ _ _ _ _ _ _ _ _ _ _ _ _ _ _ _ _ _ _ _ _ _ _ _ _ _ _ _ _ _ _ _ _ _ _ _ _ _ _ _ _ _ _ _ _ _ _ _ _ _ _ _ _ _ _ _ _ _ _ _ _ _ _ _ _ _ _ _ _ _ _ _ _ _ _ _ _ _ _ _ _ _ _ _ _ _ _ _ _ _ _ _ _ _ _ _ _ _ _ _ _ _ _ _ _ _ _ _ _ _ _ _ _ _ _ _ _ _ _ _ _ _ _ _ _ _ _ _ _ _ _ _ HBR.out HXI.out HPX.out (fun w' hb => ⟨(HALL.out w' hb).2.1, (HALL.out w' hb).2.2.1⟩) ?_
          intro y41 y42 y43 y44 y45 y46 y47 y48 y49 y50 y51 y52 y53 y54 y55 y56 y57 y58 y59 y60 y61 y62 y63 y64 y65 y66 y67 y68 y69 y70 y71 y72 y73 y74 y75 y76 y77 y78 y79 y80 y81 y82 y83 wz hbz
          refine hK' _ _ (Met.intro (hJ _ _ ?_))
          dsimp only
          (repeat apply Exists.intro)
          exact ⟨⟨rfl, hbz⟩, rfl⟩
        case rest =>
          obtain ⟨rfl, hbc⟩ := hcut
          have HBC := Lib.hid hbc
          clear hbc c0 c1 c2 c3 c4 hcs hcs2
          obtain ⟨⟨c0, c1, c2, c3, c4⟩, hcs, hcs2, _⟩ := HALL.out _ HBC.out
          rw [HFI.out] at c0
          go_wp2
          go_roundw
          case rel => exact ⟨1, by omega, by omega, rfl, HBC.out⟩
          case measure => simp [intOf]
      · have HKI := Lib.hid hk
        obtain ⟨x, hx⟩ : ∃ x, five s (l.take k) = x := ⟨_, rfl⟩
        have HXI := Lib.hid (show x 0 = -1 by rw [← hx]; exact five_low s l 0 k (by rw [HNL.out]; omega) (by rw [HF.out]; exact .inr hfi))
        have HPX : Hid (∀ w', Below W.heap.size W w' → Five cs a k cap x w') := fun w' hb => by rw [← hx]; exact HP.out k w' (by omega) hb
        have HUP : Hid (∀ w', Below W.heap.size W w' → Five cs a (k + 1) cap (five s (l.take (k + 1))) w') := fun w' hb => HP.out (k + 1) w' (by omega) hb
        have HUI := Lib.hid (five_up s l 0 k (by rw [HNL.out]; omega) (by rw [HF.out]; exact hfi))
        obtain ⟨⟨c0, c1, c2, c3, c4⟩, hcs, hcs2, _⟩ := HALL.out wr HBR.out
        rw [hfi] at c0
        have HFI := Lib.hid hfi
        clear hx hfi
        go_upto_region 11 with fail
        go_cut [84] (fun s84 wx => s84 = .bool false ∧ Below W.heap.size W wx)
        case first =>
          rename_i J K' hJ hK'
          refine reg11_0 cs a k cap w.heap.size x W wr _ _ _ _ _ _ _ _ _ _ _ _ _ _ _ _ _ _ _ _ _ _ _ _ _ _ _ _ _ _ _ _ _ _ _ _ _ _ _ _ _ _ _ _ _ _ _ _ _ _ _ _ _ _ _ _ _ _ _ _ _ _ _ _ _ _ _ _ _ _ _ _ _ _ _ _ _ _ _ _ _ _ _ _ _ _ _ _ _ _ _ _ _ _ _ _ _ _ _ _ _ _ _ _ _ _ _ _ _ _ _ _ _ _ _ _ _ _ _ _ _ _ _ _ _ _ _ _ _ _ _ _ _ _ _ _ _ _ _ _ _ _ HBR.out HXI.out HPX.out (fun w' hb => ⟨(HALL.out w' hb).2.1, (HALL.out w' hb).2.2.1⟩) ?_
          intro y41 y42 y43 y44 y45 y46 y47 y48 y49 y50 y51 y52 y53 y54 y55 y56 y57 y58 y59 y60 y61 y62 y63 y64 y65 y66 y67 y68 y69 y70 y71 y72 y73 y74 y75 y76 y77 y78 y79 y80 y81 y82 y83 wz hbz
          refine hK' _ _ (Met.intro (hJ _ _ ?_))
          dsimp only
          (repeat apply Exists.intro)
          exact ⟨⟨rfl, hbz⟩, rfl⟩
        case rest =>
          obtain ⟨rfl, hbc⟩ := hcut
          have HBC := Lib.hid hbc
          clear hbc c0 c1 c2 c3 c4 hcs hcs2
          obtain ⟨⟨c0, c1, c2, c3, c4⟩, hcs, hcs2, _⟩ := HALL.out _ HBC.out
          rw [HFI.out] at c0
          go_wp2_with (fail)
          refine ((HUP.out _ HBC.out).c0).mono ?_
          rw [HUI.out]
          rintro e wd ⟨rfl, hbd⟩
          have HBD := Lib.hid (below_step HBC.out hbd)
          clear hbd c0 c1 c2 c3 c4 hcs hcs2
          go_wp2
          go_roundw
          case rel => exact ⟨1, by omega, by omega, rfl, HBD.out⟩
          case measure => simp [intOf]
    · rcases HRG.out 1 with hfi | ⟨k, hk, hfi⟩
      · have hk : n ≤ n := Nat.le_refl _
        obtain ⟨x, hx⟩ : ∃ x, five s (l.take n) = x := ⟨_, rfl⟩
        have HXI := Lib.hid (show x 1 = -1 by rw [← hx]; exact five_low s l 1 n (by rw [HNL.out]; omega) (by rw [HF.out]; exact .inl hfi))
        have HPX : Hid (∀ w', Below W.heap.size W w' → Five cs a n cap x w') := fun w' hb => by rw [← hx]; exact HP.out n w' (by omega) hb
        obtain ⟨⟨c0, c1, c2, c3, c4⟩, hcs, hcs2, _⟩ := HALL.out wr HBR.out
        rw [hfi] at c1
        have HFI := Lib.hid hfi
        clear hx hfi hk
        go_upto_region 11 with fail
        go_cut [84] (fun s84 wx => s84 = .bool false ∧ Below W.heap.size W wx)
        case first =>
          rename_i J K' hJ hK'
          refine reg11_1 cs a n cap w.heap.size x W wr _ _ _ _ _ _ _ _ _ _ _ _ _ _ _ _ _ _ _ _ _ _ _ _ _ _ _ _ _ _ _ _ _ _ _ _ _ _ _ _ _ _ _ _ _ _ _ _ _ _ _ _ _ _ _ _ _ _ _ _ _ _ _ _ _ _ _ _ _ _ _ _ _ _ _ _ _ _ _ _ _ _ _ _ _ _ _ _ _ _ _ _ _ _ _ _ _ _ _ _ _ _ _ _ _ _ _ _ _ _ _ _ _ _ _ _ _ _ _ _ _ _ _ _ _ _ _ _ _ _ _ _ _ _ _ _ _ _ _ _ _ _ HBR.out HXI.out HPX.out (fun w' hb => ⟨(HALL.out w' hb).2.1, (HALL.out w' hb).2.2.1⟩) ?_
          intro y41 y42 y43 y44 y45 y46 y47 y48 y49 y50 y51 y52 y53 y54 y55 y56 y57 y58 y59 y60 y61 y62 y63 y64 y65 y66 y67 y68 y69 y70 y71 y72 y73 y74 y75 y76 y77 y78 y79 y80 y81 y82 y83 wz hbz
          refine hK' _ _ (Met.intro (hJ _ _ ?_))
          dsimp only
          (repeat apply Exists.intro)
          exact ⟨⟨rfl, hbz⟩, rfl⟩
        case rest =>
          obtain ⟨rfl, hbc⟩ := hcut
          have HBC := Lib.hid hbc
          clear hbc c0 c1 c2 c3 c4 hcs hcs2
          obtain ⟨⟨c0, c1, c2, c3, c4⟩, hcs, hcs2, _⟩ := HALL.out _ HBC.out
          rw [HFI.out] at c1
          go_wp2
          go_roundw
          case rel => exact ⟨2, by omega, by omega, rfl, HBC.out⟩
          case measure => simp [intOf]
      · have HKI := Lib.hid hk
        obtain ⟨x, hx⟩ : ∃ x, five s (l.take k) = x := ⟨_, rfl⟩
        have HXI := Lib.hid (show x 1 = -1 by rw [← hx]; exact five_low s l 1 k (by rw [HNL.out]; omega) (by rw [HF.out]; exact .inr hfi))
        have HPX : Hid (∀ w', Below W.heap.size W w' → Five cs a k cap x w') := fun w' hb => by rw [← hx]; exact HP.out k w' (by omega) hb
        have HUP : Hid (∀ w', Below W.heap.size W w' → Five cs a (k + 1) cap (five s (l.take (k + 1))) w') := fun w' hb => HP.out (k + 1) w' (by omega) hb
        have HUI := Lib.hid (five_up s l 1 k (by rw [HNL.out]; omega) (by rw [HF.out]; exact hfi))
        obtain ⟨⟨c0, c1, c2, c3, c4⟩, hcs, hcs2, _⟩ := HALL.out wr HBR.out
        rw [hfi] at c1
        have HFI := Lib.hid hfi
        clear hx hfi
        go_upto_region 11 with fail
        go_cut [84] (fun s84 wx => s84 = .bool false ∧ Below W.heap.size W wx)
        case first =>
          rename_i J K' hJ hK'
          refine reg11_1 cs a k cap w.heap.size x W wr _ _ _ _ _ _ _ _ _ _ _ _ _ _ _ _ _ _ _ _ _ _ _ _ _ _ _ _ _ _ _ _ _ _ _ _ _ _ _ _ _ _ _ _ _ _ _ _ _ _ _ _ _ _ _ _ _ _ _ _ _ _ _ _ _ _ _ _ _ _ _ _ _ _ _ _ _ _ _ _ _ _ _ _ _ _ _ _ _ _ _ _ _ _ _ _ _ _ _ _ _ _ _ _ _ _ _ _ _ _ _ _ _ _ _ _ _ _ _ _ _ _ _ _ _ _ _ _ _ _ _ _ _ _ _ _ _ _ _ _ _ _ HBR.out HXI.out HPX.out (fun w' hb => ⟨(HALL.out w' hb).2.1, (HALL.out w' hb).2.2.1⟩) ?_
          intro y41 y42 y43 y44 y45 y46 y47 y48 y49 y50 y51 y52 y53 y54 y55 y56 y57 y58 y59 y60 y61 y62 y63 y64 y65 y66 y67 y68 y69 y70 y71 y72 y73 y74 y75 y76 y77 y78 y79 y80 y81 y82 y83 wz hbz
          refine hK' _ _ (Met.intro (hJ _ _ ?_))
          dsimp only
          (repeat apply Exists.intro)
          exact ⟨⟨rfl, hbz⟩, rfl⟩
        case rest =>
          obtain ⟨rfl, hbc⟩ := hcut
          have HBC := Lib.hid hbc
          clear hbc c0 c1 c2 c3 c4 hcs hcs2
          obtain ⟨⟨c0, c1, c2, c3, c4⟩, hcs, hcs2, _⟩ := HALL.out _ HBC.out
          rw [HFI.out] at c1
          go_wp2_with (fail)
          refine ((HUP.out _ HBC.out).c1).mono ?_
          rw [HUI.out]
          rintro e wd ⟨rfl, hbd⟩
          have HBD := Lib.hid (below_step HBC.out hbd)
          clear hbd c0 c1 c2 c3 c4 hcs hcs2
          go_wp2
          go_roundw
          case rel => exact ⟨2, by omega, by omega, rfl, HBD.out⟩
          case measure => simp [intOf]
    · rcases HRG.out 2 with hfi | ⟨k, hk, hfi⟩
      · have hk : n ≤ n := Nat.le_refl _
        obtain ⟨x, hx⟩ : ∃ x, five s (l.take n) = x := ⟨_, rfl⟩
        have HXI := Lib.hid (show x 2 = -1 by rw [← hx]; exact five_low s l 2 n (by rw [HNL.out]; omega) (by rw [HF.out]; exact .inl hfi))
        have HPX : Hid (∀ w', Below W.heap.size W w' → Five cs a n cap x w') := fun w' hb => by rw [← hx]; exact HP.out n w' (by omega) hb
        obtain ⟨⟨c0, c1, c2, c3, c4⟩, hcs, hcs2, _⟩ := HALL.out wr HBR.out
        rw [hfi] at c2
        have HFI := Lib.hid hfi
        clear hx hfi hk
        go_upto_region 11 with fail
        go_cut [84] (fun s84 wx => s84 = .bool false ∧ Below W.heap.size W wx)
        case first =>
          rename_i J K' hJ hK'
          refine reg11_2 cs a n cap w.heap.size x W wr _ _ _ _ _ _ _ _ _ _ _ _ _ _ _ _ _ _ _ _ _ _ _ _ _ _ _ _ _ _ _ _ _ _ _ _ _ _ _ _ _ _ _ _ _ _ _ _ _ _ _ _ _ _ _ _ _ _ _ _ _ _ _ _ _ _ _ _ _ _ _ _ _ _ _ _ _ _ _ _ _ _ _ _ _ _ _ _ _ _ _ _ _ _ _ _ _ _ _ _ _ _ _ _ _ _ _ _ _ _ _ _ _ _ _ _ _ _ _ _ _ _ _ _ _ _ _ _ _ _ _ _ _ _ _ _ _ _ _ _ _ _ HBR.out HXI.out HPX.out (fun w' hb => ⟨(HALL.out w' hb).2.1, (HALL.out w' hb).2.2.1⟩) ?_
          intro y41 y42 y43 y44 y45 y46 y47 y48 y49 y50 y51 y52 y53 y54 y55 y56 y57 y58 y59 y60 y61 y62 y63 y64 y65 y66 y67 y68 y69 y70 y71 y72 y73 y74 y75 y76 y77 y78 y79 y80 y81 y82 y83 wz hbz
          refine hK' _ _ (Met.intro (hJ _ _ ?_))
          dsimp only
          (repeat apply Exists.intro)
          exact ⟨⟨rfl, hbz⟩, rfl⟩
        case rest =>
          obtain ⟨rfl, hbc⟩ := hcut
          have HBC := Lib.hid hbc
          clear hbc c0 c1 c2 c3 c4 hcs hcs2
          obtain ⟨⟨c0, c1, c2, c3, c4⟩, hcs, hcs2, _⟩ := HALL.out _ HBC.out
          rw [HFI.out] at c2
          go_wp2
          go_roundw
          case rel => exact ⟨3, by omega, by omega, rfl, HBC.out⟩
          case measure => simp [intOf]
      · have HKI := Lib.hid hk
        obtain ⟨x, hx⟩ : ∃ x, five s (l.take k) = x := ⟨_, rfl⟩
        have HXI := Lib.hid (show x 2 = -1 by rw [← hx]; exact five_low s l 2 k (by rw [HNL.out]; omega) (by rw [HF.out]; exact .inr hfi))
        have HPX : Hid (∀ w', Below W.heap.size W w' → Five cs a k cap x w') := fun w' hb => by rw [← hx]; exact HP.out k w' (by omega) hb
        have HUP : Hid (∀ w', Below W.heap.size W w' → Five cs a (k + 1) cap (five s (l.take (k + 1))) w') := fun w' hb => HP.out (k + 1) w' (by omega) hb
        have HUI := Lib.hid (five_up s l 2 k (by rw [HNL.out]; omega) (by rw [HF.out]; exact hfi))
        obtain ⟨⟨c0, c1, c2, c3, c4⟩, hcs, hcs2, _⟩ := HALL.out wr HBR.out
        rw [hfi] at c2
        have HFI := Lib.hid hfi
        clear hx hfi
        go_upto_region 11 with fail
        go_cut [84] (fun s84 wx => s84 = .bool false ∧ Below W.heap.size W wx)
        case first =>
          rename_i J K' hJ hK'
          refine reg11_2 cs a k cap w.heap.size x W wr _ _ _ _ _ _ _ _ _ _ _ _ _ _ _ _ _ _ _ _ _ _ _ _ _ _ _ _ _ _ _ _ _ _ _ _ _ _ _ _ _ _ _ _ _ _ _ _ _ _ _ _ _ _ _ _ _ _ _ _ _ _ _ _ _ _ _ _ _ _ _ _ _ _ _ _ _ _ _ _ _ _ _ _ _ _ _ _ _ _ _ _ _ _ _ _ _ _ _ _ _ _ _ _ _ _ _ _ _ _ _ _ _ _ _ _ _ _ _ _ _ _ _ _ _ _ _ _ _ _ _ _ _ _ _ _ _ _ _ _ _ _ HBR.out HXI.out HPX.out (fun w' hb => ⟨(HALL.out w' hb).2.1, (HALL.out w' hb).2.2.1⟩) ?_
          intro y41 y42 y43 y44 y45 y46 y47 y48 y49 y50 y51 y52 y53 y54 y55 y56 y57 y58 y59 y60 y61 y62 y63 y64 y65 y66 y67 y68 y69 y70 y71 y72 y73 y74 y75 y76 y77 y78 y79 y80 y81 y82 y83 wz hbz
          refine hK' _ _ (Met.intro (hJ _ _ ?_))
          dsimp only
          (repeat apply Exists.intro)
          exact ⟨⟨rfl, hbz⟩, rfl⟩
        case rest =>
          obtain ⟨rfl, hbc⟩ := hcut
          have HBC := Lib.hid hbc
          clear hbc c0 c1 c2 c3 c4 hcs hcs2
          obtain ⟨⟨c0, c1, c2, c3, c4⟩, hcs, hcs2, _⟩ := HALL.out _ HBC.out
          rw [HFI.out] at c2
          go_wp2_with (fail)
          refine ((HUP.out _ HBC.out).c2).mono ?_
          rw [HUI.out]
          rintro e wd ⟨rfl, hbd⟩
          have HBD := Lib.hid (below_step HBC.out hbd)
          clear hbd c0 c1 c2 c3 c4 hcs hcs2
          go_wp2
          go_roundw
          case rel => exact ⟨3, by omega, by omega, rfl, HBD.out⟩
          case measure => simp [intOf]
    · rcases HRG.out 3 with hfi | ⟨k, hk, hfi⟩
      · have hk : n ≤ n := Nat.le_refl _
        obtain ⟨x, hx⟩ : ∃ x, five s (l.take n) = x := ⟨_, rfl⟩
        have HXI := Lib.hid (show x 3 = -1 by rw [← hx]; exact five_low s l 3 n (by rw [HNL.out]; omega) (by rw [HF.out]; exact .inl hfi))
        have HPX : Hid (∀ w', Below W.heap.size W w' → Five cs a n cap x w') := fun w' hb => by rw [← hx]; exact HP.out n w' (by omega) hb
        obtain ⟨⟨c0, c1, c2, c3, c4⟩, hcs, hcs2, _⟩ := HALL.out wr HBR.out
        rw [hfi] at c3
        have HFI := Lib.hid hfi
        clear hx hfi hk
        go_upto_region 11 with fail
        go_cut [84] (fun s84 wx => s84 = .bool false ∧ Below W.heap.size W wx)
        case first =>
          rename_i J K' hJ hK'
          refine reg11_3 cs a n cap w.heap.size x W wr _ _ _ _ _ _ _ _ _ _ _ _ _ _ _ _ _ _ _ _ _ _ _ _ _ _ _ _ _ _ _ _ _ _ _ _ _ _ _ _ _ _ _ _ _ _ _ _ _ _ _ _ _ _ _ _ _ _ _ _ _ _ _ _ _ _ _ _ _ _ _ _ _ _ _ _ _ _ _ _ _ _ _ _ _ _ _ _ _ _ _ _ _ _ _ _ _ _ _ _ _ _ _ _ _ _ _ _ _ _ _ _ _ _ _ _ _ _ _ _ _ _ _ _ _ _ _ _ _ _ _ _ _ _ _ _ _ _ _ _ _ _ HBR.out HXI.out HPX.out (fun w' hb => ⟨(HALL.out w' hb).2.1, (HALL.out w' hb).2.2.1⟩) ?_
          intro y41 y42 y43 y44 y45 y46 y47 y48 y49 y50 y51 y52 y53 y54 y55 y56 y57 y58 y59 y60 y61 y62 y63 y64 y65 y66 y67 y68 y69 y70 y71 y72 y73 y74 y75 y76 y77 y78 y79 y80 y81 y82 y83 wz hbz
          refine hK' _ _ (Met.intro (hJ _ _ ?_))
          dsimp only
          (repeat apply Exists.intro)
          exact ⟨⟨rfl, hbz⟩, rfl⟩
        case rest =>
          obtain ⟨rfl, hbc⟩ := hcut
          have HBC := Lib.hid hbc
          clear hbc c0 c1 c2 c3 c4 hcs hcs2
          obtain ⟨⟨c0, c1, c2, c3, c4⟩, hcs, hcs2, _⟩ := HALL.out _ HBC.out
          rw [HFI.out] at c3
          go_wp2
          go_roundw
          case rel => exact ⟨4, by omega, by omega, rfl, HBC.out⟩
          case measure => simp [intOf]
      · have HKI := Lib.hid hk
        obtain ⟨x, hx⟩ : ∃ x, five s (l.take k) = x := ⟨_, rfl⟩
        have HXI := Lib.hid (show x 3 = -1 by rw [← hx]; exact five_low s l 3 k (by rw [HNL.out]; omega) (by rw [HF.out]; exact .inr hfi))
        have HPX : Hid (∀ w', Below W.heap.size W w' → Five cs a k cap x w') := fun w' hb => by rw [← hx]; exact HP.out k w' (by omega) hb
        have HUP : Hid (∀ w', Below W.heap.size W w' → Five cs a (k + 1) cap (five s (l.take (k + 1))) w') := fun w' hb => HP.out (k + 1) w' (by omega) hb
        have HUI := Lib.hid (five_up s l 3 k (by rw [HNL.out]; omega) (by rw [HF.out]; exact hfi))
        obtain ⟨⟨c0, c1, c2, c3, c4⟩, hcs, hcs2, _⟩ := HALL.out wr HBR.out
        rw [hfi] at c3
        have HFI := Lib.hid hfi
        clear hx hfi
        go_upto_region 11 with fail
        go_cut [84] (fun s84 wx => s84 = .bool false ∧ Below W.heap.size W wx)
        case first =>
          rename_i J K' hJ hK'
          refine reg11_3 cs a k cap w.heap.size x W wr _ _ _ _ _ _ _ _ _ _ _ _ _ _ _ _ _ _ _ _ _ _ _ _ _ _ _ _ _ _ _ _ _ _ _ _ _ _ _ _ _ _ _ _ _ _ _ _ _ _ _ _ _ _ _ _ _ _ _ _ _ _ _ _ _ _ _ _ _ _ _ _ _ _ _ _ _ _ _ _ _ _ _ _ _ _ _ _ _ _ _ _ _ _ _ _ _ _ _ _ _ _ _ _ _ _ _ _ _ _ _ _ _ _ _ _ _ _ _ _ _ _ _ _ _ _ _ _ _ _ _ _ _ _ _ _ _ _ _ _ _ _ HBR.out HXI.out HPX.out (fun w' hb => ⟨(HALL.out w' hb).2.1, (HALL.out w' hb).2.2.1⟩) ?_
          intro y41 y42 y43 y44 y45 y46 y47 y48 y49 y50 y51 y52 y53 y54 y55 y56 y57 y58 y59 y60 y61 y62 y63 y64 y65 y66 y67 y68 y69 y70 y71 y72 y73 y74 y75 y76 y77 y78 y79 y80 y81 y82 y83 wz hbz
          refine hK' _ _ (Met.intro (hJ _ _ ?_))
          dsimp only
          (repeat apply Exists.intro)
          exact ⟨⟨rfl, hbz⟩, rfl⟩
        case rest =>
          obtain ⟨rfl, hbc⟩ := hcut
          have HBC := Lib.hid hbc
          clear hbc c0 c1 c2 c3 c4 hcs hcs2
          obtain ⟨⟨c0, c1, c2, c3, c4⟩, hcs, hcs2, _⟩ := HALL.out _ HBC.out
          rw [HFI.out] at c3
          go_wp2_with (fail)
          refine ((HUP.out _ HBC.out).c3).mono ?_
          rw [HUI.out]
          rintro e wd ⟨rfl, hbd⟩
          have HBD := Lib.hid (below_step HBC.out hbd)
          clear hbd c0 c1 c2 c3 c4 hcs hcs2
          go_wp2
          go_roundw
          case rel => exact ⟨4, by omega, by omega, rfl, HBD.out⟩
          case measure => simp [intOf]
    · rcases HRG.out 4 with hfi | ⟨k, hk, hfi⟩
      · have hk : n ≤ n := Nat.le_refl _
        obtain ⟨x, hx⟩ : ∃ x, five s (l.take n) = x := ⟨_, rfl⟩
        have HXI := Lib.hid (show x 4 = -1 by rw [← hx]; exact five_low s l 4 n (by rw [HNL.out]; omega) (by rw [HF.out]; exact .inl hfi))
        have HPX : Hid (∀ w', Below W.heap.size W w' → Five cs a n cap x w') := fun w' hb => by rw [← hx]; exact HP.out n w' (by omega) hb
        obtain ⟨⟨c0, c1, c2, c3, c4⟩, hcs, hcs2, _⟩ := HALL.out wr HBR.out
        rw [hfi] at c4
        have HFI := Lib.hid hfi
        clear hx hfi hk
        go_upto_region 11 with fail
        go_cut [84] (fun s84 wx => s84 = .bool false ∧ Below W.heap.size W wx)
        case first =>
          rename_i J K' hJ hK'
          refine reg11_4 cs a n cap w.heap.size x W wr _ _ _ _ _ _ _ _ _ _ _ _ _ _ _ _ _ _ _ _ _ _ _ _ _ _ _ _ _ _ _ _ _ _ _ _ _ _ _ _ _ _ _ _ _ _ _ _ _ _ _ _ _ _ _ _ _ _ _ _ _ _ _ _ _ _ _ _ _ _ _ _ _ _ _ _ _ _ _ _ _ _ _ _ _ _ _ _ _ _ _ _ _ _ _ _ _ _ _ _ _ _ _ _ _ _ _ _ _ _ _ _ _ _ _ _ _ _ _ _ _ _ _ _ _ _ _ _ _ _ _ _ _ _ _ _ _ _ _ _ _ _ HBR.out HXI.out HPX.out (fun w' hb => ⟨(HALL.out w' hb).2.1, (HALL.out w' hb).2.2.1⟩) ?_
          intro y41 y42 y43 y44 y45 y46 y47 y48 y49 y50 y51 y52 y53 y54 y55 y56 y57 y58 y59 y60 y61 y62 y63 y64 y65 y66 y67 y68 y69 y70 y71 y72 y73 y74 y75 y76 y77 y78 y79 y80 y81 y82 y83 wz hbz
          refine hK' _ _ (Met.intro (hJ _ _ ?_))
          dsimp only
          (repeat apply Exists.intro)
          exact ⟨⟨rfl, hbz⟩, rfl⟩
        case rest =>
          obtain ⟨rfl, hbc⟩ := hcut
          have HBC := Lib.hid hbc
          clear hbc c0 c1 c2 c3 c4 hcs hcs2
          obtain ⟨⟨c0, c1, c2, c3, c4⟩, hcs, hcs2, _⟩ := HALL.out _ HBC.out
          rw [HFI.out] at c4
          go_wp2
          go_roundw
          case rel => exact ⟨5, by omega, by omega, rfl, HBC.out⟩
          case measure => simp [intOf]
      · have HKI := Lib.hid hk
        obtain ⟨x, hx⟩ : ∃ x, five s (l.take k) = x := ⟨_, rfl⟩
        have HXI := Lib.hid (show x 4 = -1 by rw [← hx]; exact five_low s l 4 k (by rw [HNL.out]; omega) (by rw [HF.out]; exact .inr hfi))
        have HPX : Hid (∀ w', Below W.heap.size W w' → Five cs a k cap x w') := fun w' hb => by rw [← hx]; exact HP.out k w' (by omega) hb
        have HUP : Hid (∀ w', Below W.heap.size W w' → Five cs a (k + 1) cap (five s (l.take (k + 1))) w') := fun w' hb => HP.out (k + 1) w' (by omega) hb
        have HUI := Lib.hid (five_up s l 4 k (by rw [HNL.out]; omega) (by rw [HF.out]; exact hfi))
        obtain ⟨⟨c0, c1, c2, c3, c4⟩, hcs, hcs2, _⟩ := HALL.out wr HBR.out
        rw [hfi] at c4
        have HFI := Lib.hid hfi
        clear hx hfi
        go_upto_region 11 with fail
        go_cut [84] (fun s84 wx => s84 = .bool false ∧ Below W.heap.size W wx)
        case first =>
          rename_i J K' hJ hK'
          refine reg11_4 cs a k cap w.heap.size x W wr _ _ _ _ _ _ _ _ _ _ _ _ _ _ _ _ _ _ _ _ _ _ _ _ _ _ _ _ _ _ _ _ _ _ _ _ _ _ _ _ _ _ _ _ _ _ _ _ _ _ _ _ _ _ _ _ _ _ _ _ _ _ _ _ _ _ _ _ _ _ _ _ _ _ _ _ _ _ _ _ _ _ _ _ _ _ _ _ _ _ _ _ _ _ _ _ _ _ _ _ _ _ _ _ _ _ _ _ _ _ _ _ _ _ _ _ _ _ _ _ _ _ _ _ _ _ _ _ _ _ _ _ _ _ _ _ _ _ _ _ _ _ HBR.out HXI.out HPX.out (fun w' hb => ⟨(HALL.out w' hb).2.1, (HALL.out w' hb).2.2.1⟩) ?_
          intro y41 y42 y43 y44 y45 y46 y47 y48 y49 y50 y51 y52 y53 y54 y55 y56 y57 y58 y59 y60 y61 y62 y63 y64 y65 y66 y67 y68 y69 y70 y71 y72 y73 y74 y75 y76 y77 y78 y79 y80 y81 y82 y83 wz hbz
          refine hK' _ _ (Met.intro (hJ _ _ ?_))
          dsimp only
          (repeat apply Exists.intro)
          exact ⟨⟨rfl, hbz⟩, rfl⟩
        case rest =>
          obtain ⟨rfl, hbc⟩ := hcut
          have HBC := Lib.hid hbc
          clear hbc c0 c1 c2 c3 c4 hcs hcs2
          obtain ⟨⟨c0, c1, c2, c3, c4⟩, hcs, hcs2, _⟩ := HALL.out _ HBC.out
          rw [HFI.out] at c4
          go_wp2_with (fail)
          refine ((HUP.out _ HBC.out).c4).mono ?_
          rw [HUI.out]
          rintro e wd ⟨rfl, hbd⟩
          have HBD := Lib.hid (below_step HBC.out hbd)
          clear hbd c0 c1 c2 c3 c4 hcs hcs2
          go_wp2
          go_roundw
          case rel => exact ⟨5, by omega, by omega, rfl, HBD.out⟩
          case measure => simp [intOf]
end Go.Proofs.Ytoingfnpffaopaa
