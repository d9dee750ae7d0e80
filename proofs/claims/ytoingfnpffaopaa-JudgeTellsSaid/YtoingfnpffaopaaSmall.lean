/- What judge's callOf, spotOf, ledger's Once hand back. Conditions: none. -/
import Derived.Test.YtoingfnpffaopaaKeys
import Derived.Test.YtoingfnpffaopaaBoxes
import Derived.RegionTactic
import Derived.ChangeAlike
import Derived.Deep.QuietTactic
import Derived.BigQuiet
namespace Go.Proofs.Ytoingfnpffaopaa
open Go.RowKit

theorem results_key {fn : Func} {tmps : Array Value} {w : World} {i b : Nat} {x1 x2 : Int} (hr : fn.results = #[ResultVar.cell i 67]) (h0 : tmps.getD i undef = .pointer (some ⟨b, 0, none⟩)) (h : KeyBox w b x1 x2) :
    (results fn tmps).run Try.prog w = .ok (.agg #[.int .i64 x1, .int .i64 x2]) w := by
  obtain ⟨⟨d0, d1⟩, _⟩ := h.cell
  simp only [Array.getD_eq_getD_getElem?] at h0
  simp [results, hr, h0, go_sem, d0, d1]

theorem results_spot {fn : Func} {tmps : Array Value} {w : World} {i b : Nat} {x1 x2 x3 x4 x5 : Int} (hr : fn.results = #[ResultVar.cell i 55]) (h0 : tmps.getD i undef = .pointer (some ⟨b, 0, none⟩)) (h : SpotBox w b x1 x2 x3 x4 x5) :
    (results fn tmps).run Try.prog w = .ok (.agg #[.int .i64 x1, .int .i64 x2, .int .i64 x3, .int .i64 x4, .int .i64 x5]) w := by
  obtain ⟨⟨d0, d1, d2, d3, d4⟩, _⟩ := h.cell
  simp only [Array.getD_eq_getD_getElem?] at h0
  simp [results, hr, h0, go_sem, d0, d1, d2, d3, d4]

theorem callOf_any (r : Rw) (w : World) : Calls Try.prog 31 #[.agg #[.int .i64 r.kind, .int .i64 r.step, .int .i64 r.client, .int .i64 r.call, .int .i64 r.backend, .int .i64 r.incarnation, .int .i64 r.session, .int .i64 r.seq, .int .i64 r.what, .int .i64 r.key, .int .i64 r.other, .int .i64 r.amount, .int .i64 r.code, .int .i64 r.place, .int .i64 r.value, .int .i64 r.n]] w (Gives (.agg #[.int .i64 r.client, .int .i64 r.call]) w) := by
  go_enter Try.func31, Try.ntmps31
  go_wp2
  refine bodyPost_ret (results_key Try.results31 rfl ?_) rfl ⟨rfl, ?_⟩
  · exact KeyBox.new _ _ (by simp) _ _
  · exact below_alloc (below_alloc (Below.refl _ _) _) _

theorem spotOf_any (r : Rw) (w : World) : Calls Try.prog 25 #[.agg #[.int .i64 r.kind, .int .i64 r.step, .int .i64 r.client, .int .i64 r.call, .int .i64 r.backend, .int .i64 r.incarnation, .int .i64 r.session, .int .i64 r.seq, .int .i64 r.what, .int .i64 r.key, .int .i64 r.other, .int .i64 r.amount, .int .i64 r.code, .int .i64 r.place, .int .i64 r.value, .int .i64 r.n]] w (Gives (.agg #[.int .i64 r.client, .int .i64 r.backend, .int .i64 r.incarnation, .int .i64 r.session, .int .i64 r.seq]) w) := by
  go_enter Try.func25, Try.ntmps25
  go_wp2
  refine bodyPost_ret (results_spot Try.results25 rfl ?_) rfl ⟨rfl, ?_⟩
  · exact SpotBox.new _ _ (by simp) _ _ _ _ _
  · exact below_alloc (below_alloc (Below.refl _ _) _) _

theorem once_yes (n : Int) (h : 1 ≤ n ∧ n ≤ 2) (w : World) : Calls Try.prog 36 #[.int .i64 n] w fun e w' => e = .returned (.tuple #[.bool true, .int .i64 0]) ∧ w = w' := by
  obtain ⟨h1, h2⟩ := h
  go_enter Try.func36, Try.ntmps36
  go_wp2
  go_ret2
  exact ⟨by simp <;> omega, rfl⟩

theorem once_no (n : Int) (h : ¬ (1 ≤ n ∧ n ≤ 2)) (w : World) : ∃ x, Calls Try.prog 36 #[.int .i64 n] w fun e w' => e = .returned (.tuple #[.bool false, .int .i64 x]) ∧ w = w' := by
  by_cases h1 : n < 1
  · refine ⟨23, ?_⟩
    clear h
    go_enter Try.func36, Try.ntmps36
    go_wp2
    go_ret2
    exact ⟨rfl, rfl⟩
  · by_cases h2 : 4 < n
    · refine ⟨23, ?_⟩
      clear h
      go_enter Try.func36, Try.ntmps36
      go_wp2
      go_ret2
      exact ⟨rfl, rfl⟩
    · refine ⟨0, ?_⟩
      have h3 : 2 < n := by omega
      clear h
      go_enter Try.func36, Try.ntmps36
      go_wp2
      go_ret2
      exact ⟨by simp <;> omega, rfl⟩
end Go.Proofs.Ytoingfnpffaopaa
