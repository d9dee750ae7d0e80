/- A slice of rows that came in, as a list of rows. No program in sight. -/
import Derived.Test.YtoingfnpffaopaaFlat
import Derived.Test.YtoingfnpffaopaaRowz
namespace Go.Proofs.Ytoingfnpffaopaa
open Go.RowKit

theorem row_fit {w : World} {b p : Nat} {cs : List Value} (hf : Fit [.int .i64, .int .i64, .int .i64, .int .i64, .int .i64, .int .i64, .int .i64, .int .i64, .int .i64, .int .i64, .int .i64, .int .i64, .int .i64, .int .i64, .int .i64, .int .i64] cs) (hc : ∀ j, j < cs.length → w.cell? ⟨b, p + j, none⟩ = cs[j]?) : ∃ r, RowAt w b p r := by
  obtain ⟨n0, v0, rfl, _, f1⟩ := hf.int
  obtain ⟨n1, v1, rfl, _, f2⟩ := f1.int
  obtain ⟨n2, v2, rfl, _, f3⟩ := f2.int
  obtain ⟨n3, v3, rfl, _, f4⟩ := f3.int
  obtain ⟨n4, v4, rfl, _, f5⟩ := f4.int
  obtain ⟨n5, v5, rfl, _, f6⟩ := f5.int
  obtain ⟨n6, v6, rfl, _, f7⟩ := f6.int
  obtain ⟨n7, v7, rfl, _, f8⟩ := f7.int
  obtain ⟨n8, v8, rfl, _, f9⟩ := f8.int
  obtain ⟨n9, v9, rfl, _, f10⟩ := f9.int
  obtain ⟨n10, v10, rfl, _, f11⟩ := f10.int
  obtain ⟨n11, v11, rfl, _, f12⟩ := f11.int
  obtain ⟨n12, v12, rfl, _, f13⟩ := f12.int
  obtain ⟨n13, v13, rfl, _, f14⟩ := f13.int
  obtain ⟨n14, v14, rfl, _, f15⟩ := f14.int
  obtain ⟨n15, v15, rfl, _, f16⟩ := f15.int
  obtain rfl := f16.nil
  refine ⟨⟨n0, n1, n2, n3, n4, n5, n6, n7, n8, n9, n10, n11, n12, n13, n14, n15⟩, hc 0 (by simp), hc 1 (by simp), hc 2 (by simp), hc 3 (by simp), hc 4 (by simp), hc 5 (by simp), hc 6 (by simp), hc 7 (by simp), hc 8 (by simp), hc 9 (by simp), hc 10 (by simp), hc 11 (by simp), hc 12 (by simp), hc 13 (by simp), hc 14 (by simp), hc 15 (by simp)⟩

theorem rows_at {w : World} {a : Option Addr} {len cap : Nat} (h : FlatRows [.int .i64, .int .i64, .int .i64, .int .i64, .int .i64, .int .i64, .int .i64, .int .i64, .int .i64, .int .i64, .int .i64, .int .i64, .int .i64, .int .i64, .int .i64, .int .i64] w a len cap) : ∃ l : List Rw, len = l.length ∧ RowsAt w a l := by
  rcases h with ⟨_, rfl, _⟩ | ⟨rfl, _⟩ | ⟨b, off, rfl, hb, hr⟩
  · exact ⟨[], rfl, .inl rfl⟩
  · exact ⟨[], rfl, .inl rfl⟩
  · obtain ⟨l, hl, hp⟩ := choose_list Rw.zero (fun i r => RowAt w b (off + i * 16) r) len fun i hi => by
      obtain ⟨cs, hf, hc⟩ := hr i hi
      exact row_fit hf (fun j hj => hc j (by rw [← hf.length]; exact hj))
    subst hl
    exact ⟨l, rfl, .inr ⟨b, off, rfl, hb, hp⟩⟩
end Go.Proofs.Ytoingfnpffaopaa
