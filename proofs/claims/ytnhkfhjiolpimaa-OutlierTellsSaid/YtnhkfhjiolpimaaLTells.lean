/- The walk of OutlierTells: it hands back true. Condition: the slice reads as the list. -/
import Derived.Test.YtnhkfhjiolpimaaLRow
import Derived.Deep.RegionHeld3
namespace Go.Proofs.Ytnhkfhjiolpimaa
open Go.RowKit

/-- What both texts come to, of whatever they are asked. -/
structure Both (o : Out) (s : OSet) (t : Int) (a : Option Addr) (l : List Bool) (cap : Nat) (n k : Int) (ra : Out) (re : Int) (ri : Bool) (rie : Int) (ej : Out) (eje : Int) (tk : Out) (tke : Int) (rm rme : Int) (pn : Bool) (pne ch : Int) : Prop where
  record : ∀ w, BoolsAt w a l → Calls Try.prog 17 #[.agg #[.int .i64 o.row, .int .i64 o.good, .int .i64 o.bad, .int .i64 o.times, .int .i64 o.since, .int .i64 o.till, .bool o.out], .agg #[.int .i64 s.row, .int .i64 s.mille, .int .i64 s.least, .int .i64 s.base, .int .i64 s.most, .int .i64 s.percent, .int .i64 s.panic], .int .i64 t, .slice a l.length cap] w (Gives (.tuple #[.agg #[.int .i64 ra.row, .int .i64 ra.good, .int .i64 ra.bad, .int .i64 ra.times, .int .i64 ra.since, .int .i64 ra.till, .bool ra.out], .int .i64 re]) w)
  ripe : ∀ w, Calls Try.prog 16 #[.agg #[.int .i64 o.row, .int .i64 o.good, .int .i64 o.bad, .int .i64 o.times, .int .i64 o.since, .int .i64 o.till, .bool o.out], .agg #[.int .i64 s.row, .int .i64 s.mille, .int .i64 s.least, .int .i64 s.base, .int .i64 s.most, .int .i64 s.percent, .int .i64 s.panic], .int .i64 t] w (Gives (.tuple #[.bool ri, .int .i64 rie]) w)
  eject : ∀ w, Calls Try.prog 13 #[.agg #[.int .i64 o.row, .int .i64 o.good, .int .i64 o.bad, .int .i64 o.times, .int .i64 o.since, .int .i64 o.till, .bool o.out], .agg #[.int .i64 s.row, .int .i64 s.mille, .int .i64 s.least, .int .i64 s.base, .int .i64 s.most, .int .i64 s.percent, .int .i64 s.panic], .int .i64 t] w (Gives (.tuple #[.agg #[.int .i64 ej.row, .int .i64 ej.good, .int .i64 ej.bad, .int .i64 ej.times, .int .i64 ej.since, .int .i64 ej.till, .bool ej.out], .int .i64 eje]) w)
  tick : ∀ w, Calls Try.prog 15 #[.agg #[.int .i64 o.row, .int .i64 o.good, .int .i64 o.bad, .int .i64 o.times, .int .i64 o.since, .int .i64 o.till, .bool o.out], .agg #[.int .i64 s.row, .int .i64 s.mille, .int .i64 s.least, .int .i64 s.base, .int .i64 s.most, .int .i64 s.percent, .int .i64 s.panic], .int .i64 t] w (Gives (.tuple #[.agg #[.int .i64 tk.row, .int .i64 tk.good, .int .i64 tk.bad, .int .i64 tk.times, .int .i64 tk.since, .int .i64 tk.till, .bool tk.out], .int .i64 tke]) w)
  room : ∀ w, Calls Try.prog 10 #[.agg #[.int .i64 s.row, .int .i64 s.mille, .int .i64 s.least, .int .i64 s.base, .int .i64 s.most, .int .i64 s.percent, .int .i64 s.panic], .int .i64 n, .int .i64 k] w (Gives (.tuple #[.int .i64 rm, .int .i64 rme]) w)
  panics : ∀ w, Calls Try.prog 12 #[.agg #[.int .i64 s.row, .int .i64 s.mille, .int .i64 s.least, .int .i64 s.base, .int .i64 s.most, .int .i64 s.percent, .int .i64 s.panic], .int .i64 n, .int .i64 k] w (Gives (.tuple #[.bool pn, .int .i64 pne]) w)
  check : ∀ w, Calls Try.prog 24 #[.agg #[.int .i64 o.row, .int .i64 o.good, .int .i64 o.bad, .int .i64 o.times, .int .i64 o.since, .int .i64 o.till, .bool o.out], .agg #[.int .i64 s.row, .int .i64 s.mille, .int .i64 s.least, .int .i64 s.base, .int .i64 s.most, .int .i64 s.percent, .int .i64 s.panic], .int .i64 t] w (Gives (.int .i64 ch) w)
  rrecord : ∀ w, BoolsAt w a l → Calls Try.prog 18 #[.agg #[.int .i64 o.row, .int .i64 o.good, .int .i64 o.bad, .int .i64 o.times, .int .i64 o.since, .int .i64 o.till, .bool o.out], .agg #[.int .i64 s.row, .int .i64 s.mille, .int .i64 s.least, .int .i64 s.base, .int .i64 s.most, .int .i64 s.percent, .int .i64 s.panic], .int .i64 t, .slice a l.length cap] w (Gives (.tuple #[.agg #[.int .i64 ra.row, .int .i64 ra.good, .int .i64 ra.bad, .int .i64 ra.times, .int .i64 ra.since, .int .i64 ra.till, .bool ra.out], .int .i64 re]) w)
  rripe : ∀ w, Calls Try.prog 19 #[.agg #[.int .i64 o.row, .int .i64 o.good, .int .i64 o.bad, .int .i64 o.times, .int .i64 o.since, .int .i64 o.till, .bool o.out], .agg #[.int .i64 s.row, .int .i64 s.mille, .int .i64 s.least, .int .i64 s.base, .int .i64 s.most, .int .i64 s.percent, .int .i64 s.panic], .int .i64 t] w (Gives (.tuple #[.bool ri, .int .i64 rie]) w)
  reject : ∀ w, Calls Try.prog 20 #[.agg #[.int .i64 o.row, .int .i64 o.good, .int .i64 o.bad, .int .i64 o.times, .int .i64 o.since, .int .i64 o.till, .bool o.out], .agg #[.int .i64 s.row, .int .i64 s.mille, .int .i64 s.least, .int .i64 s.base, .int .i64 s.most, .int .i64 s.percent, .int .i64 s.panic], .int .i64 t] w (Gives (.tuple #[.agg #[.int .i64 ej.row, .int .i64 ej.good, .int .i64 ej.bad, .int .i64 ej.times, .int .i64 ej.since, .int .i64 ej.till, .bool ej.out], .int .i64 eje]) w)
  rtick : ∀ w, Calls Try.prog 21 #[.agg #[.int .i64 o.row, .int .i64 o.good, .int .i64 o.bad, .int .i64 o.times, .int .i64 o.since, .int .i64 o.till, .bool o.out], .agg #[.int .i64 s.row, .int .i64 s.mille, .int .i64 s.least, .int .i64 s.base, .int .i64 s.most, .int .i64 s.percent, .int .i64 s.panic], .int .i64 t] w (Gives (.tuple #[.agg #[.int .i64 tk.row, .int .i64 tk.good, .int .i64 tk.bad, .int .i64 tk.times, .int .i64 tk.since, .int .i64 tk.till, .bool tk.out], .int .i64 tke]) w)
  rroom : ∀ w, Calls Try.prog 22 #[.agg #[.int .i64 s.row, .int .i64 s.mille, .int .i64 s.least, .int .i64 s.base, .int .i64 s.most, .int .i64 s.percent, .int .i64 s.panic], .int .i64 n, .int .i64 k] w (Gives (.tuple #[.int .i64 rm, .int .i64 rme]) w)
  rpanics : ∀ w, Calls Try.prog 23 #[.agg #[.int .i64 s.row, .int .i64 s.mille, .int .i64 s.least, .int .i64 s.base, .int .i64 s.most, .int .i64 s.percent, .int .i64 s.panic], .int .i64 n, .int .i64 k] w (Gives (.tuple #[.bool pn, .int .i64 pne]) w)
  rcheck : ∀ w, Calls Try.prog 14 #[.agg #[.int .i64 o.row, .int .i64 o.good, .int .i64 o.bad, .int .i64 o.times, .int .i64 o.since, .int .i64 o.till, .bool o.out], .agg #[.int .i64 s.row, .int .i64 s.mille, .int .i64 s.least, .int .i64 s.base, .int .i64 s.most, .int .i64 s.percent, .int .i64 s.panic], .int .i64 t] w (Gives (.int .i64 ch) w)

theorem both_some (o : Out) (s : OSet) (t : Int) (a : Option Addr) (l : List Bool) (cap : Nat) (n k : Int) (hm : l.length ≤ maxLen) : ∃ ra re ri rie ej eje tk tke rm rme pn pne ch, Both o s t a l cap n k ra re ri rie ej eje tk tke rm rme pn pne ch := by
  have hR : ∃ rm rme pn pne, (∀ w, Calls Try.prog 10 #[.agg #[.int .i64 s.row, .int .i64 s.mille, .int .i64 s.least, .int .i64 s.base, .int .i64 s.most, .int .i64 s.percent, .int .i64 s.panic], .int .i64 n, .int .i64 k] w (Gives (.tuple #[.int .i64 rm, .int .i64 rme]) w)) ∧ (∀ w, Calls Try.prog 22 #[.agg #[.int .i64 s.row, .int .i64 s.mille, .int .i64 s.least, .int .i64 s.base, .int .i64 s.most, .int .i64 s.percent, .int .i64 s.panic], .int .i64 n, .int .i64 k] w (Gives (.tuple #[.int .i64 rm, .int .i64 rme]) w)) ∧
      (∀ w, Calls Try.prog 12 #[.agg #[.int .i64 s.row, .int .i64 s.mille, .int .i64 s.least, .int .i64 s.base, .int .i64 s.most, .int .i64 s.percent, .int .i64 s.panic], .int .i64 n, .int .i64 k] w (Gives (.tuple #[.bool pn, .int .i64 pne]) w)) ∧ (∀ w, Calls Try.prog 23 #[.agg #[.int .i64 s.row, .int .i64 s.mille, .int .i64 s.least, .int .i64 s.base, .int .i64 s.most, .int .i64 s.percent, .int .i64 s.panic], .int .i64 n, .int .i64 k] w (Gives (.tuple #[.bool pn, .int .i64 pne]) w)) := by
    by_cases h : RoomP s n k
    · exact ⟨_, _, _, _, fun w => room_ok s n k w h, fun w => rroom_ok s n k w h, fun w => panics_ok s n k w h, fun w => rpanics_ok s n k w h⟩
    · exact ⟨_, _, _, _, fun w => room_no s n k w h, fun w => rroom_no s n k w h, fun w => panics_no s n k w h, fun w => rpanics_no s n k w h⟩
  obtain ⟨rm, rme, pn, pne, q1, q2, q3, q4⟩ := hR
  rcases chk_some o s t with ⟨h1, h2, h3⟩ | ⟨x, hx, h2⟩
  · have hx := chk_ok h1 h2 h3
    cases ho : o.out with
    | true => exact ⟨_, _, _, _, Out.zero, _, _, _, _, _, _, _, _, { record := fun w hw => record_ok o s t a l cap w hw hm hx, ripe := fun w => ripe_ok o s t w hx, eject := fun w => eject_out o s t w hx ho, tick := fun w => tick_ok o s t w hx, room := fun w => q1 w, panics := fun w => q3 w, check := fun w => check_any o s t 0 w hx, rrecord := fun w hw => rrecord_ok o s t a l cap w hw hm hx, rripe := fun w => rripe_ok o s t w hx, reject := fun w => reject_out o s t w hx ho, rtick := fun w => rtick_ok o s t w hx, rroom := fun w => q2 w, rpanics := fun w => q4 w, rcheck := fun w => rcheck_any o s t 0 w hx }⟩
    | false => exact ⟨_, _, _, _, _, _, _, _, _, _, _, _, _, { record := fun w hw => record_ok o s t a l cap w hw hm hx, ripe := fun w => ripe_ok o s t w hx, eject := fun w => eject_ok o s t w hx ho, tick := fun w => tick_ok o s t w hx, room := fun w => q1 w, panics := fun w => q3 w, check := fun w => check_any o s t 0 w hx, rrecord := fun w hw => rrecord_ok o s t a l cap w hw hm hx, rripe := fun w => rripe_ok o s t w hx, reject := fun w => reject_ok o s t w hx ho, rtick := fun w => rtick_ok o s t w hx, rroom := fun w => q2 w, rpanics := fun w => q4 w, rcheck := fun w => rcheck_any o s t 0 w hx }⟩
  · exact ⟨Out.zero, _, _, _, Out.zero, _, Out.zero, _, _, _, _, _, _, { record := fun w _ => record_bad o s t x a l cap w hx h2, ripe := fun w => ripe_bad o s t x w hx h2, eject := fun w => eject_bad o s t x w hx h2, tick := fun w => tick_bad o s t x w hx h2, room := fun w => q1 w, panics := fun w => q3 w, check := fun w => check_any o s t x w hx, rrecord := fun w _ => rrecord_bad o s t x a l cap w hx h2, rripe := fun w => rripe_bad o s t x w hx h2, reject := fun w => reject_bad o s t x w hx h2, rtick := fun w => rtick_bad o s t x w hx h2, rroom := fun w => q2 w, rpanics := fun w => q4 w, rcheck := fun w => rcheck_any o s t x w hx }⟩

theorem held_kept {o : Out} {s : OSet} {w W w1 : World} (h : Below w.heap.size w W ∧ W.cell? ⟨w.heap.size, 0, none⟩ = some (.int .i64 o.row) ∧ W.cell? ⟨w.heap.size, 1, none⟩ = some (.int .i64 o.good) ∧ W.cell? ⟨w.heap.size, 2, none⟩ = some (.int .i64 o.bad) ∧ W.cell? ⟨w.heap.size, 3, none⟩ = some (.int .i64 o.times) ∧ W.cell? ⟨w.heap.size, 4, none⟩ = some (.int .i64 o.since) ∧ W.cell? ⟨w.heap.size, 5, none⟩ = some (.int .i64 o.till) ∧ W.cell? ⟨w.heap.size, 6, none⟩ = some (.bool o.out) ∧ W.cell? ⟨w.heap.size + 1, 0, none⟩ = some (.int .i64 s.row) ∧ W.cell? ⟨w.heap.size + 1, 1, none⟩ = some (.int .i64 s.mille) ∧ W.cell? ⟨w.heap.size + 1, 2, none⟩ = some (.int .i64 s.least) ∧ W.cell? ⟨w.heap.size + 1, 3, none⟩ = some (.int .i64 s.base) ∧ W.cell? ⟨w.heap.size + 1, 4, none⟩ = some (.int .i64 s.most) ∧ W.cell? ⟨w.heap.size + 1, 5, none⟩ = some (.int .i64 s.percent) ∧ W.cell? ⟨w.heap.size + 1, 6, none⟩ = some (.int .i64 s.panic))
    (hb : Below W.heap.size W w1) : Below w.heap.size w w1 ∧ w1.cell? ⟨w.heap.size, 0, none⟩ = some (.int .i64 o.row) ∧ w1.cell? ⟨w.heap.size, 1, none⟩ = some (.int .i64 o.good) ∧ w1.cell? ⟨w.heap.size, 2, none⟩ = some (.int .i64 o.bad) ∧ w1.cell? ⟨w.heap.size, 3, none⟩ = some (.int .i64 o.times) ∧ w1.cell? ⟨w.heap.size, 4, none⟩ = some (.int .i64 o.since) ∧ w1.cell? ⟨w.heap.size, 5, none⟩ = some (.int .i64 o.till) ∧ w1.cell? ⟨w.heap.size, 6, none⟩ = some (.bool o.out) ∧ w1.cell? ⟨w.heap.size + 1, 0, none⟩ = some (.int .i64 s.row) ∧ w1.cell? ⟨w.heap.size + 1, 1, none⟩ = some (.int .i64 s.mille) ∧ w1.cell? ⟨w.heap.size + 1, 2, none⟩ = some (.int .i64 s.least) ∧ w1.cell? ⟨w.heap.size + 1, 3, none⟩ = some (.int .i64 s.base) ∧ w1.cell? ⟨w.heap.size + 1, 4, none⟩ = some (.int .i64 s.most) ∧ w1.cell? ⟨w.heap.size + 1, 5, none⟩ = some (.int .i64 s.percent) ∧ w1.cell? ⟨w.heap.size + 1, 6, none⟩ = some (.int .i64 s.panic) := by
  obtain ⟨h0, d0, d1, d2, d3, d4, d5, d6, s0, s1, s2, s3, s4, s5, s6⟩ := h
  have l0 := World.block_lt_of_cell? W _ d0
  have l1 := World.block_lt_of_cell? W _ s0
  exact ⟨below_step h0 hb, (hb.cell (p := ⟨w.heap.size, 0, none⟩) l0).trans d0, (hb.cell (p := ⟨w.heap.size, 1, none⟩) l0).trans d1, (hb.cell (p := ⟨w.heap.size, 2, none⟩) l0).trans d2, (hb.cell (p := ⟨w.heap.size, 3, none⟩) l0).trans d3, (hb.cell (p := ⟨w.heap.size, 4, none⟩) l0).trans d4, (hb.cell (p := ⟨w.heap.size, 5, none⟩) l0).trans d5, (hb.cell (p := ⟨w.heap.size, 6, none⟩) l0).trans d6, (hb.cell (p := ⟨w.heap.size + 1, 0, none⟩) l1).trans s0, (hb.cell (p := ⟨w.heap.size + 1, 1, none⟩) l1).trans s1, (hb.cell (p := ⟨w.heap.size + 1, 2, none⟩) l1).trans s2, (hb.cell (p := ⟨w.heap.size + 1, 3, none⟩) l1).trans s3, (hb.cell (p := ⟨w.heap.size + 1, 4, none⟩) l1).trans s4, (hb.cell (p := ⟨w.heap.size + 1, 5, none⟩) l1).trans s5, (hb.cell (p := ⟨w.heap.size + 1, 6, none⟩) l1).trans s6⟩

set_option maxRecDepth 100000 in
set_option maxHeartbeats 8000000 in
theorem tells_walk (o : Out) (s : OSet) (t : Int) (a : Option Addr) (l : List Bool) (cap : Nat) (n k : Int) (w : World) (hl : BoolsAt w a l) (hm : l.length ≤ maxLen) : Calls Try.prog 8 #[.agg #[.int .i64 o.row, .int .i64 o.good, .int .i64 o.bad, .int .i64 o.times, .int .i64 o.since, .int .i64 o.till, .bool o.out], .agg #[.int .i64 s.row, .int .i64 s.mille, .int .i64 s.least, .int .i64 s.base, .int .i64 s.most, .int .i64 s.percent, .int .i64 s.panic], .int .i64 t, .slice a l.length cap, .int .i64 n, .int .i64 k] w (Gives (.bool true) w) := by
  obtain ⟨ra, re, ri, rie, ej, eje, tk, tke, rm, rme, pn, pne, ch, hS⟩ := both_some o s t a l cap n k hm
  have HS := Lib.hid hS
  have HL := Lib.hid hl
  clear hS hl hm
  go_enter Try.func8, Try.ntmps8
  have HO0 := Lib.hid ((OutBox.new w w.heap.size rfl o).alloc (.cells #[.int .i64 s.row, .int .i64 s.mille, .int .i64 s.least, .int .i64 s.base, .int .i64 s.most, .int .i64 s.percent, .int .i64 s.panic] 23))
  have HX0 := Lib.hid (SetBox.new (w.alloc (.cells #[.int .i64 o.row, .int .i64 o.good, .int .i64 o.bad, .int .i64 o.times, .int .i64 o.since, .int .i64 o.till, .bool o.out] 33)) (w.heap.size + 1) (by simp) s)
  have HB0 := Lib.hid (below_alloc (below_alloc (Below.refl w.heap.size w) (.cells #[.int .i64 o.row, .int .i64 o.good, .int .i64 o.bad, .int .i64 o.times, .int .i64 o.since, .int .i64 o.till, .bool o.out] 33)) (.cells #[.int .i64 s.row, .int .i64 s.mille, .int .i64 s.least, .int .i64 s.base, .int .i64 s.most, .int .i64 s.percent, .int .i64 s.panic] 23))
  go_wp2_with (fail)
  have HBa := HB0
  refine (HS.out.record _ (HL.out.below HBa.out (Nat.le_refl _))).mono ?_
  rintro e1 w1 ⟨rfl, hb⟩
  have HO1c := Lib.hid (HO0.out.kept hb)
  have HX1c := Lib.hid (HX0.out.kept hb)
  have HB1c := Lib.hid (below_step HB0.out hb)
  have HO1 := Lib.hid (HO1c.out.alloc (.cells #[.int .i64 ra.row, .int .i64 ra.good, .int .i64 ra.bad, .int .i64 ra.times, .int .i64 ra.since, .int .i64 ra.till, .bool ra.out] 33))
  have HX1 := Lib.hid (HX1c.out.alloc (.cells #[.int .i64 ra.row, .int .i64 ra.good, .int .i64 ra.bad, .int .i64 ra.times, .int .i64 ra.since, .int .i64 ra.till, .bool ra.out] 33))
  have HB1 := Lib.hid (below_alloc HB1c.out (.cells #[.int .i64 ra.row, .int .i64 ra.good, .int .i64 ra.bad, .int .i64 ra.times, .int .i64 ra.since, .int .i64 ra.till, .bool ra.out] 33))
  have BA1 := Lib.hid (OutBox.new w1 _ rfl ra)
  clear hb HBa
  obtain ⟨⟨s0, s1, s2, s3, s4, s5, s6⟩, _⟩ := HX1c.out.cell
  obtain ⟨⟨d0, d1, d2, d3, d4, d5, d6⟩, _⟩ := HO1c.out.cell
  have y := HX1c.out.lt
  have z := HO1c.out.lt
  go_wp2_with (fail)
  have HBa := HB1
  refine (HS.out.rrecord _ (HL.out.below HBa.out (Nat.le_refl _))).mono ?_
  rintro e1 w2 ⟨rfl, hb⟩
  have HO2c := Lib.hid (HO1.out.kept hb)
  have HX2c := Lib.hid (HX1.out.kept hb)
  have HB2c := Lib.hid (below_step HB1.out hb)
  have BA2c := Lib.hid (BA1.out.kept hb)
  have HO2 := Lib.hid (HO2c.out.alloc (.cells #[.int .i64 ra.row, .int .i64 ra.good, .int .i64 ra.bad, .int .i64 ra.times, .int .i64 ra.since, .int .i64 ra.till, .bool ra.out] 33))
  have HX2 := Lib.hid (HX2c.out.alloc (.cells #[.int .i64 ra.row, .int .i64 ra.good, .int .i64 ra.bad, .int .i64 ra.times, .int .i64 ra.since, .int .i64 ra.till, .bool ra.out] 33))
  have HB2 := Lib.hid (below_alloc HB2c.out (.cells #[.int .i64 ra.row, .int .i64 ra.good, .int .i64 ra.bad, .int .i64 ra.times, .int .i64 ra.since, .int .i64 ra.till, .bool ra.out] 33))
  have BA2 := Lib.hid (BA2c.out.alloc (.cells #[.int .i64 ra.row, .int .i64 ra.good, .int .i64 ra.bad, .int .i64 ra.times, .int .i64 ra.since, .int .i64 ra.till, .bool ra.out] 33))
  have BB2 := Lib.hid (OutBox.new w2 _ rfl ra)
  clear hb HBa s0 s1 s2 s3 s4 s5 s6 d0 d1 d2 d3 d4 d5 d6 y z
  obtain ⟨⟨s0, s1, s2, s3, s4, s5, s6⟩, _⟩ := HX2c.out.cell
  obtain ⟨⟨d0, d1, d2, d3, d4, d5, d6⟩, _⟩ := HO2c.out.cell
  have y := HX2c.out.lt
  have z := HO2c.out.lt
  go_wp2_with (fail)
  refine (HS.out.ripe _).mono ?_
  rintro e1 w3 ⟨rfl, hb⟩
  have HO3c := Lib.hid (HO2.out.kept hb)
  have HX3c := Lib.hid (HX2.out.kept hb)
  have HB3c := Lib.hid (below_step HB2.out hb)
  have BA3c := Lib.hid (BA2.out.kept hb)
  have BB3c := Lib.hid (BB2.out.kept hb)
  have HO3 := HO3c
  have HX3 := HX3c
  have HB3 := HB3c
  have BA3 := BA3c
  have BB3 := BB3c
  clear hb s0 s1 s2 s3 s4 s5 s6 d0 d1 d2 d3 d4 d5 d6 y z
  obtain ⟨⟨s0, s1, s2, s3, s4, s5, s6⟩, _⟩ := HX3c.out.cell
  obtain ⟨⟨d0, d1, d2, d3, d4, d5, d6⟩, _⟩ := HO3c.out.cell
  have y := HX3c.out.lt
  have z := HO3c.out.lt
  go_wp2_with (fail)
  refine (HS.out.rripe _).mono ?_
  rintro e1 w4 ⟨rfl, hb⟩
  have HO4c := Lib.hid (HO3.out.kept hb)
  have HX4c := Lib.hid (HX3.out.kept hb)
  have HB4c := Lib.hid (below_step HB3.out hb)
  have BA4c := Lib.hid (BA3.out.kept hb)
  have BB4c := Lib.hid (BB3.out.kept hb)
  have HO4 := HO4c
  have HX4 := HX4c
  have HB4 := HB4c
  have BA4 := BA4c
  have BB4 := BB4c
  clear hb s0 s1 s2 s3 s4 s5 s6 d0 d1 d2 d3 d4 d5 d6 y z
  obtain ⟨⟨s0, s1, s2, s3, s4, s5, s6⟩, _⟩ := HX4c.out.cell
  obtain ⟨⟨d0, d1, d2, d3, d4, d5, d6⟩, _⟩ := HO4c.out.cell
  have y := HX4c.out.lt
  have z := HO4c.out.lt
  go_wp2_with (fail)
  refine (HS.out.eject _).mono ?_
  rintro e1 w5 ⟨rfl, hb⟩
  have HO5c := Lib.hid (HO4.out.kept hb)
  have HX5c := Lib.hid (HX4.out.kept hb)
  have HB5c := Lib.hid (below_step HB4.out hb)
  have BA5c := Lib.hid (BA4.out.kept hb)
  have BB5c := Lib.hid (BB4.out.kept hb)
  have HO5 := Lib.hid (HO5c.out.alloc (.cells #[.int .i64 ej.row, .int .i64 ej.good, .int .i64 ej.bad, .int .i64 ej.times, .int .i64 ej.since, .int .i64 ej.till, .bool ej.out] 33))
  have HX5 := Lib.hid (HX5c.out.alloc (.cells #[.int .i64 ej.row, .int .i64 ej.good, .int .i64 ej.bad, .int .i64 ej.times, .int .i64 ej.since, .int .i64 ej.till, .bool ej.out] 33))
  have HB5 := Lib.hid (below_alloc HB5c.out (.cells #[.int .i64 ej.row, .int .i64 ej.good, .int .i64 ej.bad, .int .i64 ej.times, .int .i64 ej.since, .int .i64 ej.till, .bool ej.out] 33))
  have BA5 := Lib.hid (BA5c.out.alloc (.cells #[.int .i64 ej.row, .int .i64 ej.good, .int .i64 ej.bad, .int .i64 ej.times, .int .i64 ej.since, .int .i64 ej.till, .bool ej.out] 33))
  have BB5 := Lib.hid (BB5c.out.alloc (.cells #[.int .i64 ej.row, .int .i64 ej.good, .int .i64 ej.bad, .int .i64 ej.times, .int .i64 ej.since, .int .i64 ej.till, .bool ej.out] 33))
  have BX5 := Lib.hid (OutBox.new w5 _ rfl ej)
  clear hb s0 s1 s2 s3 s4 s5 s6 d0 d1 d2 d3 d4 d5 d6 y z
  obtain ⟨⟨s0, s1, s2, s3, s4, s5, s6⟩, _⟩ := HX5c.out.cell
  obtain ⟨⟨d0, d1, d2, d3, d4, d5, d6⟩, _⟩ := HO5c.out.cell
  have y := HX5c.out.lt
  have z := HO5c.out.lt
  go_wp2_with (fail)
  refine (HS.out.reject _).mono ?_
  rintro e1 w6 ⟨rfl, hb⟩
  have HO6c := Lib.hid (HO5.out.kept hb)
  have HX6c := Lib.hid (HX5.out.kept hb)
  have HB6c := Lib.hid (below_step HB5.out hb)
  have BA6c := Lib.hid (BA5.out.kept hb)
  have BB6c := Lib.hid (BB5.out.kept hb)
  have BX6c := Lib.hid (BX5.out.kept hb)
  have HO6 := Lib.hid (HO6c.out.alloc (.cells #[.int .i64 ej.row, .int .i64 ej.good, .int .i64 ej.bad, .int .i64 ej.times, .int .i64 ej.since, .int .i64 ej.till, .bool ej.out] 33))
  have HX6 := Lib.hid (HX6c.out.alloc (.cells #[.int .i64 ej.row, .int .i64 ej.good, .int .i64 ej.bad, .int .i64 ej.times, .int .i64 ej.since, .int .i64 ej.till, .bool ej.out] 33))
  have HB6 := Lib.hid (below_alloc HB6c.out (.cells #[.int .i64 ej.row, .int .i64 ej.good, .int .i64 ej.bad, .int .i64 ej.times, .int .i64 ej.since, .int .i64 ej.till, .bool ej.out] 33))
  have BA6 := Lib.hid (BA6c.out.alloc (.cells #[.int .i64 ej.row, .int .i64 ej.good, .int .i64 ej.bad, .int .i64 ej.times, .int .i64 ej.since, .int .i64 ej.till, .bool ej.out] 33))
  have BB6 := Lib.hid (BB6c.out.alloc (.cells #[.int .i64 ej.row, .int .i64 ej.good, .int .i64 ej.bad, .int .i64 ej.times, .int .i64 ej.since, .int .i64 ej.till, .bool ej.out] 33))
  have BX6 := Lib.hid (BX6c.out.alloc (.cells #[.int .i64 ej.row, .int .i64 ej.good, .int .i64 ej.bad, .int .i64 ej.times, .int .i64 ej.since, .int .i64 ej.till, .bool ej.out] 33))
  have BY6 := Lib.hid (OutBox.new w6 _ rfl ej)
  clear hb s0 s1 s2 s3 s4 s5 s6 d0 d1 d2 d3 d4 d5 d6 y z
  obtain ⟨⟨s0, s1, s2, s3, s4, s5, s6⟩, _⟩ := HX6c.out.cell
  obtain ⟨⟨d0, d1, d2, d3, d4, d5, d6⟩, _⟩ := HO6c.out.cell
  have y := HX6c.out.lt
  have z := HO6c.out.lt
  go_wp2_with (fail)
  refine (HS.out.tick _).mono ?_
  rintro e1 w7 ⟨rfl, hb⟩
  have HO7c := Lib.hid (HO6.out.kept hb)
  have HX7c := Lib.hid (HX6.out.kept hb)
  have HB7c := Lib.hid (below_step HB6.out hb)
  have BA7c := Lib.hid (BA6.out.kept hb)
  have BB7c := Lib.hid (BB6.out.kept hb)
  have BX7c := Lib.hid (BX6.out.kept hb)
  have BY7c := Lib.hid (BY6.out.kept hb)
  have HO7 := Lib.hid (HO7c.out.alloc (.cells #[.int .i64 tk.row, .int .i64 tk.good, .int .i64 tk.bad, .int .i64 tk.times, .int .i64 tk.since, .int .i64 tk.till, .bool tk.out] 33))
  have HX7 := Lib.hid (HX7c.out.alloc (.cells #[.int .i64 tk.row, .int .i64 tk.good, .int .i64 tk.bad, .int .i64 tk.times, .int .i64 tk.since, .int .i64 tk.till, .bool tk.out] 33))
  have HB7 := Lib.hid (below_alloc HB7c.out (.cells #[.int .i64 tk.row, .int .i64 tk.good, .int .i64 tk.bad, .int .i64 tk.times, .int .i64 tk.since, .int .i64 tk.till, .bool tk.out] 33))
  have BA7 := Lib.hid (BA7c.out.alloc (.cells #[.int .i64 tk.row, .int .i64 tk.good, .int .i64 tk.bad, .int .i64 tk.times, .int .i64 tk.since, .int .i64 tk.till, .bool tk.out] 33))
  have BB7 := Lib.hid (BB7c.out.alloc (.cells #[.int .i64 tk.row, .int .i64 tk.good, .int .i64 tk.bad, .int .i64 tk.times, .int .i64 tk.since, .int .i64 tk.till, .bool tk.out] 33))
  have BX7 := Lib.hid (BX7c.out.alloc (.cells #[.int .i64 tk.row, .int .i64 tk.good, .int .i64 tk.bad, .int .i64 tk.times, .int .i64 tk.since, .int .i64 tk.till, .bool tk.out] 33))
  have BY7 := Lib.hid (BY7c.out.alloc (.cells #[.int .i64 tk.row, .int .i64 tk.good, .int .i64 tk.bad, .int .i64 tk.times, .int .i64 tk.since, .int .i64 tk.till, .bool tk.out] 33))
  have BU7 := Lib.hid (OutBox.new w7 _ rfl tk)
  clear hb s0 s1 s2 s3 s4 s5 s6 d0 d1 d2 d3 d4 d5 d6 y z
  obtain ⟨⟨s0, s1, s2, s3, s4, s5, s6⟩, _⟩ := HX7c.out.cell
  obtain ⟨⟨d0, d1, d2, d3, d4, d5, d6⟩, _⟩ := HO7c.out.cell
  have y := HX7c.out.lt
  have z := HO7c.out.lt
  go_wp2_with (fail)
  refine (HS.out.rtick _).mono ?_
  rintro e1 w8 ⟨rfl, hb⟩
  have HO8c := Lib.hid (HO7.out.kept hb)
  have HX8c := Lib.hid (HX7.out.kept hb)
  have HB8c := Lib.hid (below_step HB7.out hb)
  have BA8c := Lib.hid (BA7.out.kept hb)
  have BB8c := Lib.hid (BB7.out.kept hb)
  have BX8c := Lib.hid (BX7.out.kept hb)
  have BY8c := Lib.hid (BY7.out.kept hb)
  have BU8c := Lib.hid (BU7.out.kept hb)
  have HO8 := Lib.hid (HO8c.out.alloc (.cells #[.int .i64 tk.row, .int .i64 tk.good, .int .i64 tk.bad, .int .i64 tk.times, .int .i64 tk.since, .int .i64 tk.till, .bool tk.out] 33))
  have HX8 := Lib.hid (HX8c.out.alloc (.cells #[.int .i64 tk.row, .int .i64 tk.good, .int .i64 tk.bad, .int .i64 tk.times, .int .i64 tk.since, .int .i64 tk.till, .bool tk.out] 33))
  have HB8 := Lib.hid (below_alloc HB8c.out (.cells #[.int .i64 tk.row, .int .i64 tk.good, .int .i64 tk.bad, .int .i64 tk.times, .int .i64 tk.since, .int .i64 tk.till, .bool tk.out] 33))
  have BA8 := Lib.hid (BA8c.out.alloc (.cells #[.int .i64 tk.row, .int .i64 tk.good, .int .i64 tk.bad, .int .i64 tk.times, .int .i64 tk.since, .int .i64 tk.till, .bool tk.out] 33))
  have BB8 := Lib.hid (BB8c.out.alloc (.cells #[.int .i64 tk.row, .int .i64 tk.good, .int .i64 tk.bad, .int .i64 tk.times, .int .i64 tk.since, .int .i64 tk.till, .bool tk.out] 33))
  have BX8 := Lib.hid (BX8c.out.alloc (.cells #[.int .i64 tk.row, .int .i64 tk.good, .int .i64 tk.bad, .int .i64 tk.times, .int .i64 tk.since, .int .i64 tk.till, .bool tk.out] 33))
  have BY8 := Lib.hid (BY8c.out.alloc (.cells #[.int .i64 tk.row, .int .i64 tk.good, .int .i64 tk.bad, .int .i64 tk.times, .int .i64 tk.since, .int .i64 tk.till, .bool tk.out] 33))
  have BU8 := Lib.hid (BU8c.out.alloc (.cells #[.int .i64 tk.row, .int .i64 tk.good, .int .i64 tk.bad, .int .i64 tk.times, .int .i64 tk.since, .int .i64 tk.till, .bool tk.out] 33))
  have BV8 := Lib.hid (OutBox.new w8 _ rfl tk)
  clear hb s0 s1 s2 s3 s4 s5 s6 d0 d1 d2 d3 d4 d5 d6 y z
  obtain ⟨⟨s0, s1, s2, s3, s4, s5, s6⟩, _⟩ := HX8c.out.cell
  obtain ⟨⟨d0, d1, d2, d3, d4, d5, d6⟩, _⟩ := HO8c.out.cell
  have y := HX8c.out.lt
  have z := HO8c.out.lt
  clear s0 s1 s2 s3 s4 s5 s6 d0 d1 d2 d3 d4 d5 d6 y z
  obtain ⟨⟨s0, s1, s2, s3, s4, s5, s6⟩, _⟩ := HX8c.out.cell
  obtain ⟨⟨d0, d1, d2, d3, d4, d5, d6⟩, _⟩ := HO8c.out.cell
  have y := HX8c.out.lt
  have z := HO8c.out.lt
  obtain ⟨⟨BAq0, BAq1, BAq2, BAq3, BAq4, BAq5, BAq6⟩, _⟩ := BA8c.out.cell
  have BAz := BA8c.out.lt
  obtain ⟨⟨BBq0, BBq1, BBq2, BBq3, BBq4, BBq5, BBq6⟩, _⟩ := BB8c.out.cell
  have BBz := BB8c.out.lt
  obtain ⟨⟨BXq0, BXq1, BXq2, BXq3, BXq4, BXq5, BXq6⟩, _⟩ := BX8c.out.cell
  have BXz := BX8c.out.lt
  obtain ⟨⟨BYq0, BYq1, BYq2, BYq3, BYq4, BYq5, BYq6⟩, _⟩ := BY8c.out.cell
  have BYz := BY8c.out.lt
  obtain ⟨⟨BUq0, BUq1, BUq2, BUq3, BUq4, BUq5, BUq6⟩, _⟩ := BU8c.out.cell
  have BUz := BU8c.out.lt
  go_wp2_with (go_at_call 11; refine (num_any _ _).mono ?_; rintro e1 w99 ⟨rfl, rfl⟩)
  refine (HS.out.room _).mono ?_
  rintro e1 w9 ⟨rfl, hb⟩
  have HO9 := Lib.hid (HO8.out.kept hb)
  have HX9 := Lib.hid (HX8.out.kept hb)
  have HB9 := Lib.hid (below_step HB8.out hb)
  clear hb s0 s1 s2 s3 s4 s5 s6 d0 d1 d2 d3 d4 d5 d6 y z BAq0 BAq1 BAq2 BAq3 BAq4 BAq5 BAq6 BAz BBq0 BBq1 BBq2 BBq3 BBq4 BBq5 BBq6 BBz BXq0 BXq1 BXq2 BXq3 BXq4 BXq5 BXq6 BXz BYq0 BYq1 BYq2 BYq3 BYq4 BYq5 BYq6 BYz BUq0 BUq1 BUq2 BUq3 BUq4 BUq5 BUq6 BUz
  obtain ⟨⟨s0, s1, s2, s3, s4, s5, s6⟩, _⟩ := HX9.out.cell
  obtain ⟨⟨d0, d1, d2, d3, d4, d5, d6⟩, _⟩ := HO9.out.cell
  go_wp2_with (fail)
  refine (HS.out.rroom _).mono ?_
  rintro e1 w10 ⟨rfl, hb⟩
  have HO10 := Lib.hid (HO9.out.kept hb)
  have HX10 := Lib.hid (HX9.out.kept hb)
  have HB10 := Lib.hid (below_step HB9.out hb)
  clear hb s0 s1 s2 s3 s4 s5 s6 d0 d1 d2 d3 d4 d5 d6
  obtain ⟨⟨s0, s1, s2, s3, s4, s5, s6⟩, _⟩ := HX10.out.cell
  obtain ⟨⟨d0, d1, d2, d3, d4, d5, d6⟩, _⟩ := HO10.out.cell
  go_wp2_with (fail)
  refine (HS.out.panics _).mono ?_
  rintro e1 w11 ⟨rfl, hb⟩
  have HO11 := Lib.hid (HO10.out.kept hb)
  have HX11 := Lib.hid (HX10.out.kept hb)
  have HB11 := Lib.hid (below_step HB10.out hb)
  clear hb s0 s1 s2 s3 s4 s5 s6 d0 d1 d2 d3 d4 d5 d6
  obtain ⟨⟨s0, s1, s2, s3, s4, s5, s6⟩, _⟩ := HX11.out.cell
  obtain ⟨⟨d0, d1, d2, d3, d4, d5, d6⟩, _⟩ := HO11.out.cell
  go_wp2_with (fail)
  refine (HS.out.rpanics _).mono ?_
  rintro e1 w12 ⟨rfl, hb⟩
  have HO12 := Lib.hid (HO11.out.kept hb)
  have HX12 := Lib.hid (HX11.out.kept hb)
  have HB12 := Lib.hid (below_step HB11.out hb)
  clear hb s0 s1 s2 s3 s4 s5 s6 d0 d1 d2 d3 d4 d5 d6
  obtain ⟨⟨s0, s1, s2, s3, s4, s5, s6⟩, _⟩ := HX12.out.cell
  obtain ⟨⟨d0, d1, d2, d3, d4, d5, d6⟩, _⟩ := HO12.out.cell
  go_wp2_with (fail)
  have hBW := HB12.out
  go_region_held3 (fun w' => Below w.heap.size w w' ∧ w'.cell? ⟨w.heap.size, 0, none⟩ = some (.int .i64 o.row) ∧ w'.cell? ⟨w.heap.size, 1, none⟩ = some (.int .i64 o.good) ∧ w'.cell? ⟨w.heap.size, 2, none⟩ = some (.int .i64 o.bad) ∧ w'.cell? ⟨w.heap.size, 3, none⟩ = some (.int .i64 o.times) ∧ w'.cell? ⟨w.heap.size, 4, none⟩ = some (.int .i64 o.since) ∧ w'.cell? ⟨w.heap.size, 5, none⟩ = some (.int .i64 o.till) ∧ w'.cell? ⟨w.heap.size, 6, none⟩ = some (.bool o.out) ∧ w'.cell? ⟨w.heap.size + 1, 0, none⟩ = some (.int .i64 s.row) ∧ w'.cell? ⟨w.heap.size + 1, 1, none⟩ = some (.int .i64 s.mille) ∧ w'.cell? ⟨w.heap.size + 1, 2, none⟩ = some (.int .i64 s.least) ∧ w'.cell? ⟨w.heap.size + 1, 3, none⟩ = some (.int .i64 s.base) ∧ w'.cell? ⟨w.heap.size + 1, 4, none⟩ = some (.int .i64 s.most) ∧ w'.cell? ⟨w.heap.size + 1, 5, none⟩ = some (.int .i64 s.percent) ∧ w'.cell? ⟨w.heap.size + 1, 6, none⟩ = some (.int .i64 s.panic))
    (first | exact ⟨hBW.drew, d0, d1, d2, d3, d4, d5, d6, s0, s1, s2, s3, s4, s5, s6⟩ | exact held_kept (by assumption) (by assumption) | go_keep)
    (first | (go_at_call 11; refine (num_any _ _).mono ?_; rintro e1 wx ⟨rfl, rfl⟩) | (go_at_call 24; refine (HS.out.check _).mono ?_; rintro e1 wx ⟨rfl, hbx⟩) | (go_at_call 14; refine (HS.out.rcheck _).mono ?_; rintro e1 wx ⟨rfl, hbx⟩) | (go_at_call 9; refine (alive_any _).mono ?_; rintro e1 wx ⟨rfl, hbx⟩))
  all_goals
    go_wp2
    go_ret
    exact ⟨rfl, And.left (by assumption)⟩
end Go.Proofs.Ytnhkfhjiolpimaa
