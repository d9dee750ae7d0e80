/- Maps that a call makes, as functions: what a look-up, an update make of them. No program in sight. Conditions: the key's laws (KeyLaws). -/
import Derived.Test.YtoingfnpffaopaaBase
namespace Go.Proofs.Ytoingfnpffaopaa
open Go.RowKit

/-- The entries of a map with these keys, values, births. -/
def ents {α : Type} (enc : α → Value) (l : List (α × Value × Nat)) : List MapEntry := l.map fun x => { key := enc x.1, val := x.2.1, born := x.2.2 }

/-- Where a key stands first. -/
def findP {α : Type} [DecidableEq α] (a : α) : List (α × Value × Nat) → Nat → Option (Nat × Value)
  | [], _ => none
  | x :: l, i => if a = x.1 then some (i, x.2.1) else findP a l (i + 1)

theorem obj_get {P : Program} {w : World} {r : Nat} {es : Array MapEntry} {c : Nat} (h : w.heap[r]? = some (.map es c)) : (getObj r).run P w = .ok (.map es c) w := by simp [getObj, Sem.run, h]
theorem obj_set {P : Program} {w : World} {r : Nat} {es : Array MapEntry} {c : Nat} (o : Obj) (h : w.heap[r]? = some (.map es c)) : (setObj r o).run P w = .ok () { w with heap := w.heap.setIfInBounds r o } := by simp [setObj, Sem.run, h]

/-- What a key type's values must obey. -/
structure KeyLaws (P : Program) (K : TypeId) {α : Type} [DecidableEq α] (enc : α → Value) : Prop where
  find : ∀ (a : α) (l : List (α × Value × Nat)) (w : World), (Instr.findKey K (enc a) (ents enc l)).run P w = .ok (findP a l 0) w
  check : ∀ (e : Bool) (a : α) (w : World), (Instr.checkKey e 10000 K (enc a)).run P w = .ok () w
  same : ∀ a : α, Instr.sameBits 10000 (enc a) (enc a) = true

theorem ents_modify {α : Type} {enc : α → Value} (a : α) (v : Value) (l : List (α × Value × Nat)) (j : Nat) : (ents enc l).toArray.modify j (fun e => { e with key := enc a, val := v }) = (ents enc (l.modify j fun x => (a, v, x.2.2))).toArray := by
  apply Array.toList_inj.1
  rw [Array.toList_modify]
  show (ents enc l).modify j _ = ents enc _
  induction l generalizing j with
  | nil => simp [ents]
  | cons x l ih =>
    cases j with
    | zero => simp [ents]
    | succ j => simpa [ents] using ih j

section
variable {P : Program} {K : TypeId} {α : Type} [DecidableEq α] {enc : α → Value}

theorem asking (eq : ∀ (a b : α) (w : World), (Op.equal K (enc a) (enc b)).run P w = .ok (decide (a = b)) w) (a : α) : ∀ (l : List (α × Value × Nat)) (i : Nat) (w : World), (Instr.findAsking K (enc a) (ents enc l) i).run P w = .ok (findP a l i) w := by
  intro l
  induction l with
  | nil => intro i w; rfl
  | cons x l ih =>
    intro i w
    show ((do if ← Op.equal K (enc a) (enc x.1) then pure (some (i, x.2.1)) else Instr.findAsking K (enc a) (ents enc l) (i + 1)) : Sem _).run P w = _
    rw [Sem.run_bind, eq]
    simp only [Result.andThen_ok, findP]
    by_cases h : a = x.1
    · simp [h]
    · simp only [h, decide_false, if_false, Bool.false_eq_true]
      exact ih (i + 1) w

theorem find_struct {fs : Array Field} (hu : P.underlying K = some (.struct fs)) (eq : ∀ (a b : α) (w : World), (Op.equal K (enc a) (enc b)).run P w = .ok (decide (a = b)) w) (a : α) (l : List (α × Value × Nat)) (w : World) :
    (Instr.findKey K (enc a) (ents enc l)).run P w = .ok (findP a l 0) w := by
  unfold Instr.findKey
  rw [Sem.run_bind, run_underlying hu]
  simp only [Result.andThen_ok]
  cases l with
  | nil => simp [ents, Instr.findNow, findP]
  | cons x l =>
    have e : Instr.findNow (.struct fs) (enc a) (ents enc (x :: l)) 0 = none := by
      have : Instr.sameNow (.struct fs) (enc a) (enc x.1) = none := by unfold Instr.sameNow; split <;> simp_all
      simp [ents, Instr.findNow, this]
    rw [e]
    exact asking eq a (x :: l) 0 w

/-- What a key has. -/
def getP (l : List (α × Value × Nat)) (a : α) : Option Value := (findP a l 0).map (·.2)

theorem findP_shift (a : α) : ∀ (l : List (α × Value × Nat)) (i : Nat), (findP a l i).map (·.2) = getP l a := by
  intro l
  induction l with
  | nil => intro i; rfl
  | cons x l ih =>
    intro i
    unfold getP findP
    split
    · rfl
    · rw [ih (i + 1), ih (0 + 1)]

theorem getP_cons (x : α × Value × Nat) (l : List (α × Value × Nat)) (a : α) : getP (x :: l) a = if a = x.1 then some x.2.1 else getP l a := by
  show (findP a (x :: l) 0).map (·.2) = _
  unfold findP
  split
  · rfl
  · exact findP_shift a l _

theorem findP_at (a : α) : ∀ (l : List (α × Value × Nat)) (i j : Nat) (v : Value), findP a l i = some (j, v) → i ≤ j ∧ (l[j - i]?).map (·.1) = some a := by
  intro l
  induction l with
  | nil => intro i j v h; exact absurd h (by simp [findP])
  | cons x l ih =>
    intro i j v h
    unfold findP at h
    split at h
    · rename_i e
      simp at h
      obtain ⟨rfl, _⟩ := h
      exact ⟨Nat.le_refl _, by simp [e]⟩
    · obtain ⟨h1, h2⟩ := ih (i + 1) j v h
      refine ⟨by omega, ?_⟩
      rw [show j - i = (j - (i + 1)) + 1 by omega]
      simpa using h2

theorem getP_modify (a b : α) (v : Value) : ∀ (l : List (α × Value × Nat)) (i j : Nat) (u : Value), findP a l i = some (j, u) → getP (l.modify (j - i) fun x => (a, v, x.2.2)) b = if b = a then some v else getP l b := by
  intro l
  induction l with
  | nil => intro i j u h; exact absurd h (by simp [findP])
  | cons x l ih =>
    intro i j u h
    unfold findP at h
    split at h
    · rename_i e
      simp at h
      obtain ⟨rfl, _⟩ := h
      simp only [Nat.sub_self, List.modify_zero_cons, getP_cons, ← e]
      split <;> rfl
    · rename_i e
      have h1 := (findP_at a l _ _ _ h).1
      rw [show j - i = (j - (i + 1)) + 1 by omega]
      simp only [List.modify_succ_cons, getP_cons]
      rw [ih (i + 1) j u h]
      by_cases hb : b = a
      · subst hb; simp [e]
      · simp [hb]

theorem getP_append (a b : α) (v : Value) (n : Nat) : ∀ (l : List (α × Value × Nat)) (i : Nat), findP a l i = none → getP (l ++ [(a, v, n)]) b = if b = a then some v else getP l b := by
  intro l
  induction l with
  | nil =>
    intro i _
    show getP [(a, v, n)] b = _
    rw [getP_cons]
  | cons x l ih =>
    intro i h
    unfold findP at h
    split at h
    · exact absurd h (by simp)
    · rename_i e
      rw [List.cons_append, getP_cons, getP_cons, ih (i + 1) h]
      by_cases hb : b = a
      · subst hb; simp [e]
      · simp [hb]

/-- Block r is a map that reads as f. -/
def MapFn (w : World) (r : Nat) (enc : α → Value) (f : α → Option Value) : Prop :=
  ∃ (l : List (α × Value × Nat)) (clock : Nat), w.heap[r]? = some (.map (ents enc l).toArray clock) ∧ ∀ a, f a = getP l a

/-- Nothing but block r has turned. -/
structure Only (r : Nat) (w w' : World) : Prop where
  os : w'.os = w.os
  tape : w'.tape = w.tape
  output : w'.output = w.output
  size : w'.heap.size = w.heap.size
  block : ∀ k, k ≠ r → w'.heap[k]? = w.heap[k]?

theorem MapFn.new (w : World) (r : Nat) (hr : r = w.heap.size) (enc : α → Value) : MapFn (w.alloc (.map #[] 0)) r enc (fun _ => none) := by
  subst hr
  refine ⟨[], 0, ?_, fun _ => rfl⟩
  show (w.heap.push _)[w.heap.size]? = _
  simp [ents]

theorem MapFn.lt {w : World} {r : Nat} {f : α → Option Value} (h : MapFn w r enc f) : r < w.heap.size := by
  obtain ⟨l, c, h, _⟩ := h
  by_cases hb : r < w.heap.size
  · exact hb
  · rw [Array.getElem?_eq_none (by omega)] at h
    exact absurd h (by simp)

theorem MapFn.same {w w1 : World} {r : Nat} {f : α → Option Value} (h : MapFn w r enc f) (e : w1.heap[r]? = w.heap[r]?) : MapFn w1 r enc f := by
  obtain ⟨l, c, h1, h2⟩ := h
  exact ⟨l, c, e.trans h1, h2⟩

theorem MapFn.kept {w w1 : World} {r : Nat} {f : α → Option Value} (h : MapFn w r enc f) (hb : Below w.heap.size w w1) : MapFn w1 r enc f := h.same (hb.block r h.lt)
theorem MapFn.alloc {w : World} {r : Nat} {f : α → Option Value} (h : MapFn w r enc f) (o : Obj) : MapFn (w.alloc o) r enc f := h.kept (below_alloc (Below.refl _ _) o)
theorem MapFn.ext {w : World} {r : Nat} {f g : α → Option Value} (h : MapFn w r enc f) (e : ∀ a, g a = f a) : MapFn w r enc g := by
  obtain ⟨l, c, h1, h2⟩ := h
  exact ⟨l, c, h1, fun a => (e a).trans (h2 a)⟩

theorem run_lookup (L : KeyLaws P K enc) {w : World} {r : Nat} {f : α → Option Value} (h : MapFn w r enc f) {T E : TypeId} (hT : P.underlying T = some (.map K E)) {z : Value} (hz : (zeroValue E).run P w = .ok z w) (a : α) (ok : Bool) :
    (Instr.lookup T (.map (some r)) (enc a) ok).run P w = .ok (if ok then .tuple #[(f a).getD z, .bool (f a).isSome] else (f a).getD z) w := by
  obtain ⟨l, c, h1, h2⟩ := h
  unfold Instr.lookup
  simp only [Sem.run_bind, run_underlying hT, Result.andThen_ok, obj_get h1, Sem.run_pure, L.check, L.find]
  rw [h2 a]
  show _ = Result.ok (if ok = true then Value.tuple #[((findP a l 0).map (·.2)).getD z, .bool ((findP a l 0).map (·.2)).isSome] else ((findP a l 0).map (·.2)).getD z) w
  cases hf : findP a l 0 with
  | none => simp [hz]
  | some x => simp

theorem run_update (L : KeyLaws P K enc) {w : World} {r : Nat} {f : α → Option Value} (h : MapFn w r enc f) {T E : TypeId} (hT : P.underlying T = some (.map K E)) (a : α) (v : Value) :
    ∃ w', (Instr.mapUpdate T (.map (some r)) (enc a) v).run P w = .ok () w' ∧ MapFn w' r enc (fun b => if b = a then some v else f b) ∧ Only r w w' := by
  have hlt := h.lt
  obtain ⟨l, c, h1, h2⟩ := h
  cases hf : findP a l 0 with
  | none =>
    refine ⟨{ w with heap := w.heap.setIfInBounds r (.map (ents enc (l ++ [(a, v, c)])).toArray (c + 1)) }, ?_, ⟨l ++ [(a, v, c)], c + 1, ?_, fun b => ?_⟩, ⟨rfl, rfl, rfl, by simp, fun k hk => ?_⟩⟩
    · unfold Instr.mapUpdate
      simp only [Sem.run_bind, run_underlying hT, Result.andThen_ok, obj_get h1, L.check, L.find, hf]
      rw [obj_set _ h1]
      simp [ents]
    · simp [hlt]
    · show (if b = a then some v else f b) = _
      rw [getP_append a b v c l 0 hf, h2 b]
    · show (w.heap.setIfInBounds r _)[k]? = _
      rw [Array.getElem?_setIfInBounds_ne (by omega)]
  | some x =>
    obtain ⟨j, u⟩ := x
    have hat := (findP_at a l 0 j u hf).2
    rw [Nat.sub_zero] at hat
    have hm := fun b => getP_modify a b v l 0 j u hf
    simp only [Nat.sub_zero] at hm
    refine ⟨{ w with heap := w.heap.setIfInBounds r (.map (ents enc (l.modify j fun x => (a, v, x.2.2))).toArray c) }, ?_, ⟨l.modify j fun x => (a, v, x.2.2), c, ?_, fun b => ?_⟩, ⟨rfl, rfl, rfl, by simp, fun k hk => ?_⟩⟩
    · unfold Instr.mapUpdate
      simp only [Sem.run_bind, run_underlying hT, Result.andThen_ok, obj_get h1, L.check, L.find, hf]
      have hk : (((ents enc l).toArray[j]?).map (·.key)).getD (enc a) = enc a := by
        simp only [ents, List.getElem?_toArray, List.getElem?_map]
        cases hl : l[j]? with
        | none => rfl
        | some y =>
          rw [hl] at hat
          simp at hat
          simp [hat]
      rw [hk]
      unfold Instr.keyThatStays
      simp only [L.same, if_true, Sem.run_pure, Result.andThen_ok]
      rw [obj_set _ h1]
      rw [ents_modify]
    · simp [hlt]
    · show (if b = a then some v else f b) = _
      rw [hm b, h2 b]
    · show (w.heap.setIfInBounds r _)[k]? = _
      rw [Array.getElem?_setIfInBounds_ne (by omega)]
end
end Go.Proofs.Ytoingfnpffaopaa
