/- What judge's True makes of a row that was sent. Conditions: the call's places are few enough to be kept. -/
import Derived.Test.YtoingfnpffaopaaTru2
namespace Go.Proofs.Ytoingfnpffaopaa
open Go.RowKit

set_option maxHeartbeats 8000000 in
set_option maxRecDepth 100000 in
theorem sent37 (b1 b2 r B : Nat) (A : Key → Option Value) (L : Key → List Spot) (R : Rw) (hk : R.kind = 2) (w : World) (hB : B ≤ w.heap.size) (h1 : ValBox w b1 75 (.map (some r))) (hS : Spots w B r A L)
    (hn : (L (R.client, R.call)).length + 1 ≤ maxLen) (hby : ((L (R.client, R.call)).length + 1) * 40 ≤ 140737488355328) :
    Calls Try.prog 37 #[.agg #[.int .i64 R.kind, .int .i64 R.step, .int .i64 R.client, .int .i64 R.call, .int .i64 R.backend, .int .i64 R.incarnation, .int .i64 R.session, .int .i64 R.seq, .int .i64 R.what, .int .i64 R.key, .int .i64 R.other, .int .i64 R.amount, .int .i64 R.code, .int .i64 R.place, .int .i64 R.value, .int .i64 R.n], .pointer (some ⟨b1, 0, none⟩), .pointer (some ⟨b2, 0, none⟩)] w (SentPost r B L R w) := by
  obtain ⟨i0, hi0, hz0, hz1, hz2⟩ := info_parts info55
  obtain ⟨v, hv⟩ : ∃ v, (A (R.client, R.call)).getD (.slice none 0 0) = v := ⟨_, rfl⟩
  have HV := Lib.hid hv
  have hd : decide (R.kind = 2) = true := by simpa using hk
  have he : (R.kind == 2) = true := by simpa using hk
  have hX := RowBox.new w w.heap.size rfl R
  have h10 := h1.alloc (.cells #[.int .i64 R.kind, .int .i64 R.step, .int .i64 R.client, .int .i64 R.call, .int .i64 R.backend, .int .i64 R.incarnation, .int .i64 R.session, .int .i64 R.seq, .int .i64 R.what, .int .i64 R.key, .int .i64 R.other, .int .i64 R.amount, .int .i64 R.code, .int .i64 R.place, .int .i64 R.value, .int .i64 R.n] 30)
  have hlr := hS.map.lt
  have hown := hS.own (R.client, R.call)
  rw [hv] at hown
  have hbr : b1 ≠ r := by
    rintro rfl
    obtain ⟨l, c, hl, _⟩ := hS.map
    rw [show w.heap[b1]? = _ from h1] at hl
    exact absurd hl (by simp)
  have hbo : some b1 ≠ v.ownBlock := fun e => by
    obtain ⟨_, _, cur, hc⟩ := own_block hown e.symm
    rw [show w.heap[b1]? = _ from h1] at hc
    simp at hc
  have hgo : some w.heap.size ≠ v.ownBlock := fun e => by
    have := (own_block hown e.symm).2.1
    omega
  have hp0 : PreS (w.alloc (.cells #[.int .i64 R.kind, .int .i64 R.step, .int .i64 R.client, .int .i64 R.call, .int .i64 R.backend, .int .i64 R.incarnation, .int .i64 R.session, .int .i64 R.seq, .int .i64 R.what, .int .i64 R.key, .int .i64 R.other, .int .i64 R.amount, .int .i64 R.code, .int .i64 R.place, .int .i64 R.value, .int .i64 R.n] 30)).heap.size r B A v (L (R.client, R.call)).length (cellsS (L (R.client, R.call))) (w.alloc (.cells #[.int .i64 R.kind, .int .i64 R.step, .int .i64 R.client, .int .i64 R.call, .int .i64 R.backend, .int .i64 R.incarnation, .int .i64 R.session, .int .i64 R.seq, .int .i64 R.what, .int .i64 R.key, .int .i64 R.other, .int .i64 R.amount, .int .i64 R.code, .int .i64 R.place, .int .i64 R.value, .int .i64 R.n] 30)) := ⟨Nat.le_refl _, hS.map.alloc _, own_same hown fun b hb => (below_alloc (Below.refl _ w) (.cells #[.int .i64 R.kind, .int .i64 R.step, .int .i64 R.client, .int .i64 R.call, .int .i64 R.backend, .int .i64 R.incarnation, .int .i64 R.session, .int .i64 R.seq, .int .i64 R.what, .int .i64 R.key, .int .i64 R.other, .int .i64 R.amount, .int .i64 R.code, .int .i64 R.place, .int .i64 R.value, .int .i64 R.n] 30)).block b (hown.lt b hb).2⟩
  have hbW := below_alloc (Below.refl _ w) (.cells #[.int .i64 R.kind, .int .i64 R.step, .int .i64 R.client, .int .i64 R.call, .int .i64 R.backend, .int .i64 R.incarnation, .int .i64 R.session, .int .i64 R.seq, .int .i64 R.what, .int .i64 R.key, .int .i64 R.other, .int .i64 R.amount, .int .i64 R.code, .int .i64 R.place, .int .i64 R.value, .int .i64 R.n] 30)
  have HSP := Lib.hid hS
  have HLR : Hid (w.heap.size ≠ r) := by intro e; omega
  have HN := Lib.hid hn
  have HBY := Lib.hid hby
  have hBB : B ≤ (w.alloc (.cells #[.int .i64 R.kind, .int .i64 R.step, .int .i64 R.client, .int .i64 R.call, .int .i64 R.backend, .int .i64 R.incarnation, .int .i64 R.session, .int .i64 R.seq, .int .i64 R.what, .int .i64 R.key, .int .i64 R.other, .int .i64 R.amount, .int .i64 R.code, .int .i64 R.place, .int .i64 R.value, .int .i64 R.n] 30)).heap.size := Nat.le_trans hB hbW.size
  clear hk hv h1 hS hn hby hlr hown hB
  go_enter Try.func37, Try.ntmps37
  go_wp2_with (fail)
  generalize w.alloc (.cells #[.int .i64 R.kind, .int .i64 R.step, .int .i64 R.client, .int .i64 R.call, .int .i64 R.backend, .int .i64 R.incarnation, .int .i64 R.session, .int .i64 R.seq, .int .i64 R.what, .int .i64 R.key, .int .i64 R.other, .int .i64 R.amount, .int .i64 R.code, .int .i64 R.place, .int .i64 R.value, .int .i64 R.n] 30) = W at *
  have HBW := Lib.hid hbW
  have HBB := Lib.hid hBB
  have hK : ∀ w', Apart r v.ownBlock W w' → Apart r v.ownBlock W w' ∧ w'.cell? ⟨w.heap.size, 0, none⟩ = some (.int .i64 R.kind) ∧ w'.cell? ⟨w.heap.size, 1, none⟩ = some (.int .i64 R.step) ∧ w'.cell? ⟨w.heap.size, 2, none⟩ = some (.int .i64 R.client) ∧ w'.cell? ⟨w.heap.size, 3, none⟩ = some (.int .i64 R.call) ∧ w'.cell? ⟨w.heap.size, 4, none⟩ = some (.int .i64 R.backend) ∧ w'.cell? ⟨w.heap.size, 5, none⟩ = some (.int .i64 R.incarnation) ∧ w'.cell? ⟨w.heap.size, 6, none⟩ = some (.int .i64 R.session) ∧ w'.cell? ⟨w.heap.size, 7, none⟩ = some (.int .i64 R.seq) ∧ w'.cell? ⟨w.heap.size, 8, none⟩ = some (.int .i64 R.what) ∧ w'.cell? ⟨w.heap.size, 9, none⟩ = some (.int .i64 R.key) ∧ w'.cell? ⟨w.heap.size, 10, none⟩ = some (.int .i64 R.other) ∧ w'.cell? ⟨w.heap.size, 11, none⟩ = some (.int .i64 R.amount) ∧ w'.cell? ⟨w.heap.size, 12, none⟩ = some (.int .i64 R.code) ∧ w'.cell? ⟨w.heap.size, 13, none⟩ = some (.int .i64 R.place) ∧ w'.cell? ⟨w.heap.size, 14, none⟩ = some (.int .i64 R.value) ∧ w'.cell? ⟨w.heap.size, 15, none⟩ = some (.int .i64 R.n) ∧ w'.cell? ⟨b1, 0, none⟩ = some (.map (some r)) := by
    intro w' hb
    obtain ⟨⟨k0, k1, k2, k3, k4, k5, k6, k7, k8, k9, k10, k11, k12, k13, k14, k15⟩, _⟩ := (hX.apart hb HLR.out hgo).cell
    exact ⟨hb, k0, k1, k2, k3, k4, k5, k6, k7, k8, k9, k10, k11, k12, k13, k14, k15, (h10.apart hb hbr hbo).cell.1⟩
  have HK := Lib.hid hK
  have HP0 := Lib.hid hp0
  have HPD := Lib.hid (pre_drew hp0)
  clear hK hp0 hX h10 hbr hbo hgo hbW hBB
  generalize hg : w.heap.size = g at *
  have HG := Lib.hid hg
  clear hg
  generalize hnn : (L (R.client, R.call)).length = n at *
  have HNN := Lib.hid hnn
  clear hnn
  generalize hxx : cellsS (L (R.client, R.call)) = xs at *
  have HXX := Lib.hid hxx
  clear hxx
  go_region_held3 (fun w' => Apart r v.ownBlock W w' ∧ w'.cell? ⟨g, 0, none⟩ = some (.int .i64 R.kind) ∧ w'.cell? ⟨g, 1, none⟩ = some (.int .i64 R.step) ∧ w'.cell? ⟨g, 2, none⟩ = some (.int .i64 R.client) ∧ w'.cell? ⟨g, 3, none⟩ = some (.int .i64 R.call) ∧ w'.cell? ⟨g, 4, none⟩ = some (.int .i64 R.backend) ∧ w'.cell? ⟨g, 5, none⟩ = some (.int .i64 R.incarnation) ∧ w'.cell? ⟨g, 6, none⟩ = some (.int .i64 R.session) ∧ w'.cell? ⟨g, 7, none⟩ = some (.int .i64 R.seq) ∧ w'.cell? ⟨g, 8, none⟩ = some (.int .i64 R.what) ∧ w'.cell? ⟨g, 9, none⟩ = some (.int .i64 R.key) ∧ w'.cell? ⟨g, 10, none⟩ = some (.int .i64 R.other) ∧ w'.cell? ⟨g, 11, none⟩ = some (.int .i64 R.amount) ∧ w'.cell? ⟨g, 12, none⟩ = some (.int .i64 R.code) ∧ w'.cell? ⟨g, 13, none⟩ = some (.int .i64 R.place) ∧ w'.cell? ⟨g, 14, none⟩ = some (.int .i64 R.value) ∧ w'.cell? ⟨g, 15, none⟩ = some (.int .i64 R.n) ∧ w'.cell? ⟨b1, 0, none⟩ = some (.map (some r)))
    (first | with_reducible assumption | (refine HK.out _ ?_; (first | with_reducible exact (Apart.refl _ _ _).drew | with_reducible exact ap_step (by with_reducible assumption) (by with_reducible assumption) | with_reducible exact ap_grown (by with_reducible assumption) (by with_reducible assumption) | with_reducible exact ap_only (by with_reducible assumption) (by with_reducible assumption) | with_reducible exact ap_drewn (by with_reducible assumption) | with_reducible exact ap_alloc (by with_reducible assumption))))
    (first | (go_at_call 31; refine (callOf_any _ _).mono ?_; rintro e1 wx ⟨rfl, hbx⟩
              have hP := pre_kept hbx (by first | with_reducible exact HPD.out | with_reducible assumption | with_reducible exact pre_drewn HPD.out | with_reducible exact pre_alloc (by with_reducible assumption))
              have hlk := run_lookup keyLaws hP.map Try.underlying75 (zero77 _) (R.client, R.call) false
              have hlk2 := run_lookup keyLaws (hP.map.alloc (.cells #[.int .i64 R.client, .int .i64 R.backend, .int .i64 R.incarnation, .int .i64 R.session, .int .i64 R.seq] 55)) Try.underlying75 (zero77 _) (R.client, R.call) false
              rw [HV.out] at hlk hlk2
              simp only [encKey, Bool.false_eq_true, if_false] at hlk hlk2
              (try have hsp := (SpotBox.new _ _ rfl R.client R.backend R.incarnation R.session R.seq).kept hbx)
              (try have hsp := SpotBox.kept (by with_reducible assumption) hbx)
              (try (have HU := pre_up hP R.client R.call
                    obtain ⟨wu, hup, hMu, hou⟩ := HU
                    have HMU := Lib.hid hMu
                    clear hMu)))
           | (go_at_call 25; refine (spotOf_any _ _).mono ?_; rintro e1 wx ⟨rfl, hbx⟩
              have hP := pre_kept hbx (by first | with_reducible exact HPD.out | with_reducible assumption | with_reducible exact pre_drewn HPD.out | with_reducible exact pre_alloc (by with_reducible assumption))
              have hlk := run_lookup keyLaws hP.map Try.underlying75 (zero77 _) (R.client, R.call) false
              have hlk2 := run_lookup keyLaws (hP.map.alloc (.cells #[.int .i64 R.client, .int .i64 R.backend, .int .i64 R.incarnation, .int .i64 R.session, .int .i64 R.seq] 55)) Try.underlying75 (zero77 _) (R.client, R.call) false
              rw [HV.out] at hlk hlk2
              simp only [encKey, Bool.false_eq_true, if_false] at hlk hlk2)
           | (refine step_append_lies _ (by rfl) _ _ _ (by rfl) B 55 i0 _ 5 40 Try.underlying77 hi0 hz0 hz1 hz2 rfl (by omega) v n xs (by rfl) (pre_own (by first | with_reducible exact HPD.out | with_reducible assumption | with_reducible exact pre_drewn HPD.out | with_reducible exact pre_alloc (by with_reducible assumption))) _ 1 1 [.int .i64 R.client, .int .i64 R.backend, .int .i64 R.incarnation, .int .i64 R.session, .int .i64 R.seq] (by rfl) (by rfl) (World.news_of_block (cs := #[.int .i64 R.client, .int .i64 R.backend, .int .i64 R.incarnation, .int .i64 R.session, .int .i64 R.seq]) (t := 55) (fr := (0, 0)) (by first | exact heap_alloc_new _ _ | assumption)) (by simp [Value.oneCell']) (by omega) HN.out HBY.out (pre_base HBB.out (by first | with_reducible exact HPD.out | with_reducible assumption | with_reducible exact pre_drewn HPD.out | with_reducible exact pre_alloc (by with_reducible assumption))) _ rfl ?_
              intro gg cap w1 hown1 hgrow hat hlt
              have hat2 := pre_at (x := v.ownBlock) (by first | with_reducible exact HPD.out | with_reducible assumption | with_reducible exact pre_drewn HPD.out | with_reducible exact pre_alloc (by with_reducible assumption)) hat
              have hP := pre_grown (by first | with_reducible exact HPD.out | with_reducible assumption | with_reducible exact pre_drewn HPD.out | with_reducible exact pre_alloc (by with_reducible assumption)) hgrow hown1
              obtain ⟨wu, hup, hMu, hou⟩ := pre_up hP R.client R.call
              have HMU := Lib.hid hMu
              have HAT := Lib.hid hat2
              clear hMu hat hat2))
  all_goals
    go_wp2
    go_ret
    obtain rfl := HG.out
    obtain rfl := HNN.out
    obtain rfl := HXX.out
    exact sent_post HBW.out HSP.out HV.out hP HAT.out (And.left (by assumption)) HMU.out hou
end Go.Proofs.Ytoingfnpffaopaa
