/- What judge's True keeps of what was sent: a map of slices, each of its own block. Conditions: none. -/
import Derived.Test.YtoingfnpffaopaaTru1
import Derived.Test.YtoingfnpffaopaaFourA
import Derived.Deep.AppendLies
import Derived.Deep.DeepCutAuto
namespace Go.Proofs.Ytoingfnpffaopaa
open Go.RowKit

theorem info55 : (Try.prog.info? 55).map (fun i => (i.zero, i.size, i.bytes)) = some (some (.agg #[.int .i64 0, .int .i64 0, .int .i64 0, .int .i64 0, .int .i64 0]), 5, 40) := by kernel_rfl

/-- The cells of places. -/
def cellsS : List Spot → List Value
  | [] => []
  | s :: l => .int .i64 s.1 :: .int .i64 s.2.1 :: .int .i64 s.2.2.1 :: .int .i64 s.2.2.2.1 :: .int .i64 s.2.2.2.2 :: cellsS l
theorem cellsS_snoc (l : List Spot) (s : Spot) : cellsS (l ++ [s]) = cellsS l ++ [.int .i64 s.1, .int .i64 s.2.1, .int .i64 s.2.2.1, .int .i64 s.2.2.2.1, .int .i64 s.2.2.2.2] := by
  induction l with
  | nil => rfl
  | cons x l ih => simp [cellsS, ih]
theorem cellsS_get (l : List Spot) (i : Nat) (h : i < l.length) :
    (cellsS l)[i * 5]? = some (.int .i64 (l.getD i (0, 0, 0, 0, 0)).1) ∧ (cellsS l)[i * 5 + 1]? = some (.int .i64 (l.getD i (0, 0, 0, 0, 0)).2.1) ∧ (cellsS l)[i * 5 + 2]? = some (.int .i64 (l.getD i (0, 0, 0, 0, 0)).2.2.1) ∧ (cellsS l)[i * 5 + 3]? = some (.int .i64 (l.getD i (0, 0, 0, 0, 0)).2.2.2.1) ∧ (cellsS l)[i * 5 + 4]? = some (.int .i64 (l.getD i (0, 0, 0, 0, 0)).2.2.2.2) := by
  induction l generalizing i with
  | nil => exact absurd h (Nat.not_lt_zero _)
  | cons x l ih =>
    cases i with
    | zero => simp [cellsS]
    | succ i =>
      obtain ⟨h0, h1, h2, h3, h4⟩ := ih i (by simpa using h)
      rw [show (i + 1) * 5 = i * 5 + 5 by omega]
      refine ⟨?_, ?_, ?_, ?_, ?_⟩
      · rw [show i * 5 + 5 = i * 5 + 1 + 1 + 1 + 1 + 1 by omega]; simpa [cellsS] using h0
      · rw [show i * 5 + 5 + 1 = i * 5 + 1 + 1 + 1 + 1 + 1 + 1 by omega]; simpa [cellsS] using h1
      · rw [show i * 5 + 5 + 2 = i * 5 + 2 + 1 + 1 + 1 + 1 + 1 by omega]; simpa [cellsS] using h2
      · rw [show i * 5 + 5 + 3 = i * 5 + 3 + 1 + 1 + 1 + 1 + 1 by omega]; simpa [cellsS] using h3
      · rw [show i * 5 + 5 + 4 = i * 5 + 4 + 1 + 1 + 1 + 1 + 1 by omega]; simpa [cellsS] using h4

theorem own_same {w w1 : World} {B : Nat} {v : Value} {n : Nat} {xs : List Value} (h : w.ownsRow B 55 5 v n xs) (e : ∀ b, v.ownBlock = some b → w1.heap[b]? = w.heap[b]?) : w1.ownsRow B 55 5 v n xs := by
  refine ⟨h.1, ?_⟩
  rcases h.2 with hn | ⟨g, cap, cur, rfl, hb, hgg, rest⟩
  · exact .inl hn
  · exact .inr ⟨g, cap, cur, rfl, hb, (e g rfl).trans hgg, rest⟩
theorem own_block {w : World} {B : Nat} {v : Value} {n b : Nat} {xs : List Value} (h : w.ownsRow B 55 5 v n xs) (hb : v.ownBlock = some b) : B ≤ b ∧ b < w.heap.size ∧ ∃ cur, w.heap[b]? = some (.cells cur 55 (0, 0)) := by
  have hl := h.lt b hb
  refine ⟨hl.1, hl.2, ?_⟩
  rcases h.2 with ⟨rfl, _⟩ | ⟨g, cap, cur, rfl, _, hgg, _⟩
  · exact absurd hb (by simp [Value.ownBlock])
  · obtain rfl : g = b := by simpa [Value.ownBlock] using hb
    exact ⟨cur, hgg⟩
theorem own_map {α : Type} [DecidableEq α] {enc : α → Value} {w : World} {B r b : Nat} {v : Value} {n : Nat} {xs : List Value} {f : α → Option Value} (h : w.ownsRow B 55 5 v n xs) (hM : MapFn w r enc f) (hb : v.ownBlock = some b) : b ≠ r := by
  obtain ⟨_, _, cur, hc⟩ := own_block h hb
  obtain ⟨l, c, hm, _⟩ := hM
  rintro rfl
  rw [hc] at hm
  exact absurd hm (by simp)

/-- Of what was there nothing but block r and the row has turned. -/
structure Apart (r : Nat) (row : Option Nat) (w w' : World) : Prop where
  os : w'.os = w.os
  tape : w'.tape = w.tape
  output : w'.output = w.output
  size : w.heap.size ≤ w'.heap.size
  block : ∀ k, k < w.heap.size → k ≠ r → some k ≠ row → w'.heap[k]? = w.heap[k]?

theorem Apart.refl (r : Nat) (row : Option Nat) (w : World) : Apart r row w w := ⟨rfl, rfl, rfl, Nat.le_refl _, fun _ _ _ _ => rfl⟩
theorem Apart.step {r : Nat} {row : Option Nat} {w w1 w2 : World} (h : Apart r row w w1) (h2 : Below w1.heap.size w1 w2) : Apart r row w w2 :=
  ⟨h2.os.trans h.os, h2.tape.trans h.tape, h2.output.trans h.output, Nat.le_trans h.size h2.size, fun k hk hr hn => (h2.block k (Nat.lt_of_lt_of_le hk h.size)).trans (h.block k hk hr hn)⟩
theorem Apart.only {r : Nat} {row : Option Nat} {w w1 w2 : World} (h : Apart r row w w1) (h2 : Only r w1 w2) : Apart r row w w2 :=
  ⟨h2.os.trans h.os, h2.tape.trans h.tape, h2.output.trans h.output, by rw [h2.size]; exact h.size, fun k hk hr hn => (h2.block k hr).trans (h.block k hk hr hn)⟩
theorem Apart.grown {r : Nat} {row : Option Nat} {w w1 w2 : World} (h : Apart r row w w1) (h2 : w1.grownBy w2 row) : Apart r row w w2 :=
  ⟨h2.os.trans h.os, h2.tape.trans h.tape, h2.output.trans h.output, Nat.le_trans h.size h2.size, fun k hk hr hn => (h2.block k (Nat.lt_of_lt_of_le hk h.size) hn).trans (h.block k hk hr hn)⟩
theorem Apart.alloc {r : Nat} {row : Option Nat} {w w1 : World} (h : Apart r row w w1) (o : Obj) : Apart r row w (w1.alloc o) := h.step (below_alloc (Below.refl _ _) o)
theorem Apart.drew {r : Nat} {row : Option Nat} {w w1 : World} (h : Apart r row w w1) : Apart r row w w1.drew := ⟨h.os, h.tape, h.output, h.size, h.block⟩
theorem Apart.of_below {r : Nat} {row : Option Nat} {w w1 w2 : World} (h : Below w.heap.size w w1) (h2 : Apart r row w1 w2) : Apart r row w w2 :=
  ⟨h2.os.trans h.os, h2.tape.trans h.tape, h2.output.trans h.output, Nat.le_trans h.size h2.size, fun k hk hr hn => (h2.block k (Nat.lt_of_lt_of_le hk h.size) hr hn).trans (h.block k hk)⟩

theorem ap_step {r : Nat} {row : Option Nat} {w w1 w2 : World} {p : Prop} (h2 : Below w1.heap.size w1 w2) (h : Apart r row w w1 ∧ p) : Apart r row w w2 := h.1.step h2
theorem ap_only {r : Nat} {row : Option Nat} {w w1 w2 : World} {p : Prop} (h2 : Only r w1 w2) (h : Apart r row w w1 ∧ p) : Apart r row w w2 := h.1.only h2
theorem ap_grown {r : Nat} {row : Option Nat} {w w1 w2 : World} {p : Prop} (h2 : w1.grownBy w2 row) (h : Apart r row w w1 ∧ p) : Apart r row w w2 := h.1.grown h2
theorem ap_alloc {r : Nat} {row : Option Nat} {w w1 : World} {o : Obj} {p : Prop} (h : Apart r row w w1 ∧ p) : Apart r row w (w1.alloc o) := h.1.alloc o
theorem ap_drewn {r : Nat} {row : Option Nat} {w w1 : World} {o : Obj} {p : Prop} (h : Apart r row w w1.drew ∧ p) : Apart r row w (w1.alloc o).drew := by
  have h1 : Apart r row w w1 := ⟨h.1.os, h.1.tape, h.1.output, h.1.size, h.1.block⟩
  exact (h1.alloc o).drew

theorem RowBox.apart {w w1 : World} {b r : Nat} {row : Option Nat} {x : Rw} (h : RowBox w b x) (hb : Apart r row w w1) (hn : b ≠ r) (hr : some b ≠ row) : RowBox w1 b x := h.same (hb.block b h.lt hn hr)
theorem ValBox.apart {w w1 : World} {b r : Nat} {row : Option Nat} {T : TypeId} {v : Value} (h : ValBox w b T v) (hb : Apart r row w w1) (hn : b ≠ r) (hr : some b ≠ row) : ValBox w1 b T v := h.same (hb.block b h.lt hn hr)

/-- What was sent, by call: a map of slices, each of its own block. -/
structure Spots (w : World) (B r : Nat) (A : Key → Option Value) (L : Key → List Spot) : Prop where
  map : MapFn w r encKey A
  own : ∀ k, w.ownsRow B 55 5 ((A k).getD (.slice none 0 0)) (L k).length (cellsS (L k))
  inj : ∀ k k' b, ((A k).getD (.slice none 0 0)).ownBlock = some b → ((A k').getD (.slice none 0 0)).ownBlock = some b → k = k'

theorem Spots.kept {w w1 : World} {B r : Nat} {A : Key → Option Value} {L : Key → List Spot} (h : Spots w B r A L) (hb : Below w.heap.size w w1) : Spots w1 B r A L :=
  ⟨h.map.kept hb, fun k => own_same (h.own k) fun b hk => hb.block b ((h.own k).lt b hk).2, h.inj⟩
theorem Spots.beside {w w1 : World} {B r q : Nat} {A : Key → Option Value} {L : Key → List Spot} {α : Type} [DecidableEq α] {enc : α → Value} {f : α → Option Value} (h : Spots w B r A L) (hb : Beside q w w1) (hM : MapFn w q enc f) (hq : r ≠ q) : Spots w1 B r A L :=
  ⟨h.map.same (hb.block r h.map.lt hq), fun k => own_same (h.own k) fun b hk => hb.block b ((h.own k).lt b hk).2 (own_map (h.own k) hM hk), h.inj⟩

/-- The slice of a call leads to its places. -/
theorem Spots.reads {w : World} {B r : Nat} {A : Key → Option Value} {L : Key → List Spot} (h : Spots w B r A L) (k : Key) : ∃ a cap, (A k).getD (.slice none 0 0) = .slice a (L k).length cap ∧ SpotsAt w a (L k) := by
  have ho := h.own k
  rcases ho.2 with ⟨e, hn⟩ | ⟨g, cap, cur, e, hb, hgg, rest⟩
  · exact ⟨none, 0, by rw [e, hn], .inl (List.eq_nil_of_length_eq_zero hn)⟩
  · refine ⟨some ⟨g, 0, none⟩, cap, e, .inr ⟨g, 0, rfl, (Array.getElem?_eq_some_iff.1 hgg).1, fun i hi => ?_⟩⟩
    have hc := ho.cells (g := g) (by rw [e]; rfl)
    have hadd : ∀ j, (⟨g, 0, none⟩ : Addr).add j = ⟨g, j, none⟩ := fun j => by unfold Addr.add; split <;> simp_all
    obtain ⟨h0, h1, h2, h3, h4⟩ := cellsS_get (L k) i hi
    have c0 := hc _ _ h0
    have c1 := hc _ _ h1
    have c2 := hc _ _ h2
    have c3 := hc _ _ h3
    have c4 := hc _ _ h4
    rw [hadd] at c0 c1 c2 c3 c4
    rw [Nat.zero_add]
    exact ⟨c0, c1, c2, c3, c4⟩

/-- What is known of one call's slice on the way: v reads xs. -/
structure PreS (N r B : Nat) (A : Key → Option Value) (v : Value) (n : Nat) (xs : List Value) (w : World) : Prop where
  size : N ≤ w.heap.size
  map : MapFn w r encKey A
  own : w.ownsRow B 55 5 v n xs

theorem pre_kept {N r B n : Nat} {A : Key → Option Value} {v : Value} {xs : List Value} {w w1 : World} (hb : Below w.heap.size w w1) (h : PreS N r B A v n xs w) : PreS N r B A v n xs w1 :=
  ⟨Nat.le_trans h.size hb.size, h.map.kept hb, own_same h.own fun b hk => hb.block b (h.own.lt b hk).2⟩
theorem pre_alloc {N r B n : Nat} {A : Key → Option Value} {v : Value} {xs : List Value} {w : World} {o : Obj} (h : PreS N r B A v n xs w) : PreS N r B A v n xs (w.alloc o) := pre_kept (below_alloc (Below.refl _ _) o) h
theorem pre_drew {N r B n : Nat} {A : Key → Option Value} {v : Value} {xs : List Value} {w : World} (h : PreS N r B A v n xs w) : PreS N r B A v n xs w.drew := ⟨h.size, h.map.drew, h.own⟩
theorem pre_drewn {N r B n : Nat} {A : Key → Option Value} {v : Value} {xs : List Value} {w : World} {o : Obj} (h : PreS N r B A v n xs w.drew) : PreS N r B A v n xs (w.alloc o).drew := pre_drew (pre_alloc ⟨h.size, h.map.same rfl, h.own⟩)
theorem pre_own {N r B n : Nat} {A : Key → Option Value} {v : Value} {xs : List Value} {w : World} (h : PreS N r B A v n xs w) : w.ownsRow B 55 5 v n xs := h.own
theorem pre_base {N r B n : Nat} {A : Key → Option Value} {v : Value} {xs : List Value} {w : World} (hB : B ≤ N) (h : PreS N r B A v n xs w) : B ≤ w.heap.size := Nat.le_trans hB h.size
theorem pre_grown {N r B n n' : Nat} {A : Key → Option Value} {v v' : Value} {xs xs' : List Value} {w w1 : World} (h : PreS N r B A v n xs w) (hg : w.grownBy w1 v.ownBlock) (ho : w1.ownsRow B 55 5 v' n' xs') : PreS N r B A v' n' xs' w1 :=
  ⟨Nat.le_trans h.size hg.size, h.map.same (hg.block r h.map.lt fun e => own_map h.own h.map e.symm rfl), ho⟩
theorem pre_at {N r B n : Nat} {A : Key → Option Value} {v : Value} {xs : List Value} {w : World} {x : Option Nat} {g : Nat} (h : PreS N r B A v n xs w) (hat : x = some g ∨ g = w.heap.size) : x = some g ∨ N ≤ g := hat.imp_right fun e => by rw [e]; exact h.size

theorem pre_up {N r B m g cap : Nat} {A : Key → Option Value} {xs : List Value} {w : World} (h : PreS N r B A (.slice (some ⟨g, 0, none⟩) m cap) m xs w) (a b : Int) :
    ∃ wu, (Instr.mapUpdate 75 (.map (some r)) (.agg #[.int .i64 a, .int .i64 b]) (.slice (some ⟨g, 0, none⟩) m cap)).run Try.prog w = .ok () wu ∧ MapFn wu r encKey (fun k => if k = (a, b) then some (.slice (some ⟨g, 0, none⟩) m cap) else A k) ∧ Only r w wu :=
  run_update keyLaws h.map Try.underlying75 (a, b) (.slice (some ⟨g, 0, none⟩) m cap)

/-- What the row that was sent makes of all that. -/
def SentPost (r B : Nat) (L : Key → List Spot) (R : Rw) (w : World) (e : Ending) (w' : World) : Prop :=
  e = .returned (.bool false) ∧ ∃ A' row, Spots w' B r A' (fun k => if k = R.ckey then L k ++ [R.spot] else L k) ∧ Apart r row w w' ∧ ∀ b, row = some b → B ≤ b ∧ ∃ cur, w.heap[b]? = some (.cells cur 55 (0, 0))

theorem sent_post {r B : Nat} {A : Key → Option Value} {L : Key → List Spot} {R : Rw} {w W w1 w2 : World} (hw : Below w.heap.size w W) (h : Spots w B r A L) {v : Value} (hv : (A (R.client, R.call)).getD (.slice none 0 0) = v) {g cap : Nat}
    (hp : PreS W.heap.size r B A (.slice (some ⟨g, 0, none⟩) ((L (R.client, R.call)).length + 1) cap) ((L (R.client, R.call)).length + 1) (cellsS (L (R.client, R.call)) ++ [.int .i64 R.client, .int .i64 R.backend, .int .i64 R.incarnation, .int .i64 R.session, .int .i64 R.seq]) w1)
    (hat : v.ownBlock = some g ∨ W.heap.size ≤ g) (ha : Apart r v.ownBlock W w2) (hm : MapFn w2 r encKey (fun b => if b = (R.client, R.call) then some (.slice (some ⟨g, 0, none⟩) ((L (R.client, R.call)).length + 1) cap) else A b)) (ho : Only r w1 w2) :
    SentPost r B L R w (.returned (.bool false)) w2 := by
  have hA := Apart.of_below hw ha
  have hne : ∀ k b, k ≠ (R.client, R.call) → ((A k).getD (.slice none 0 0)).ownBlock = some b → v.ownBlock ≠ some b := fun k b hk hb e => hk (h.inj k _ b hb (by rw [hv]; exact e))
  refine ⟨rfl, _, v.ownBlock, ⟨hm, fun k => ?_, fun k k' b hk hk' => ?_⟩, hA, fun b hb => ?_⟩
  · by_cases e : k = (R.client, R.call)
    · subst e
      have hp1 := own_same hp.own (w1 := w2) fun b hk => ho.block b (own_map hp.own hp.map hk)
      simp only [Rw.ckey, if_true, Option.getD_some, List.length_append, List.length_singleton]
      rw [cellsS_snoc]
      exact hp1
    · have e1 : ¬ k = R.ckey := e
      simp only [if_neg e, if_neg e1]
      exact own_same (h.own k) fun b hk => hA.block b ((h.own k).lt b hk).2 (own_map (h.own k) h.map hk) fun e' => hne k b e hk e'.symm
  · by_cases e : k = (R.client, R.call) <;> by_cases e' : k' = (R.client, R.call)
    · rw [e, e']
    · simp only [if_pos e, if_neg e', Option.getD_some] at hk hk'
      obtain rfl : g = b := by simpa [Value.ownBlock] using hk
      have hl := ((h.own k').lt _ hk').2
      rcases hat with hat | hat
      · exact absurd hat (hne k' _ e' hk')
      · have := hw.size; omega
    · simp only [if_neg e, if_pos e', Option.getD_some] at hk hk'
      obtain rfl : g = b := by simpa [Value.ownBlock] using hk'
      have hl := ((h.own k).lt _ hk).2
      rcases hat with hat | hat
      · exact absurd hat (hne k _ e hk)
      · have := hw.size; omega
    · simp only [if_neg e, if_neg e'] at hk hk'
      exact h.inj k k' b hk hk'
  · have hx := own_block (h.own (R.client, R.call)) (b := b) (by rw [hv]; exact hb)
    exact ⟨hx.1, hx.2.2⟩
end Go.Proofs.Ytoingfnpffaopaa
