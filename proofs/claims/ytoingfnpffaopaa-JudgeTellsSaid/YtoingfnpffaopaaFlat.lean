/- Arguments whose types are made of whole numbers and bools alone, opened: a struct by value is a row of such cells; a slice of them leads to such rows. No program in sight. Conditions: the type is told flat by reckoning. -/
import Derived.ProofKit
import Derived.WalkKit
import Derived.SizedLaws
import Derived.Test.YtoingfnpffaopaaReads
namespace Go.Proofs.Ytoingfnpffaopaa
open Go.ChangeShapes Go.WideShapes

/-- What one cell of a flat type is. -/
inductive Leaf where
  | int (k : IntKind)
  | bool

def Leaf.ok : Leaf → Value → Prop
  | .int k, v => ∃ n, v = .int k n ∧ (Lit.int k n).wf = true
  | .bool, v => ∃ b, v = .bool b

/-- These cells are of these leaves. -/
def Fit : List Leaf → List Value → Prop
  | [], [] => True
  | k :: ks, v :: vs => k.ok v ∧ Fit ks vs
  | _, _ => False

theorem Fit.nil {cs : List Value} (h : Fit [] cs) : cs = [] := by
  cases cs with
  | nil => rfl
  | cons _ _ => exact absurd h (by simp [Fit])

theorem Fit.int {k : IntKind} {ks : List Leaf} {cs : List Value} (h : Fit (.int k :: ks) cs) : ∃ n vs, cs = .int k n :: vs ∧ (Lit.int k n).wf = true ∧ Fit ks vs := by
  cases cs with
  | nil => exact absurd h (by simp [Fit])
  | cons v vs =>
    obtain ⟨⟨n, rfl, hn⟩, hf⟩ := h
    exact ⟨n, vs, rfl, hn, hf⟩

theorem Fit.bool {ks : List Leaf} {cs : List Value} (h : Fit (.bool :: ks) cs) : ∃ b vs, cs = .bool b :: vs ∧ Fit ks vs := by
  cases cs with
  | nil => exact absurd h (by simp [Fit])
  | cons v vs =>
    obtain ⟨⟨n, rfl⟩, hf⟩ := h
    exact ⟨n, vs, rfl, hf⟩

theorem Fit.append {as bs : List Leaf} {cs ds : List Value} (h : Fit as cs) (h2 : Fit bs ds) : Fit (as ++ bs) (cs ++ ds) := by
  induction as generalizing cs with
  | nil => rw [h.nil]; exact h2
  | cons a as ih =>
    cases cs with
    | nil => exact absurd h (by simp [Fit])
    | cons c cs => exact ⟨h.1, ih h.2⟩

theorem Fit.length {ks : List Leaf} {cs : List Value} (h : Fit ks cs) : cs.length = ks.length := by
  induction ks generalizing cs with
  | nil => rw [h.nil]; rfl
  | cons a as ih =>
    cases cs with
    | nil => exact absurd h (by simp [Fit])
    | cons c cs => simp [ih h.2]

def flatFs (P : Program) (g : TypeId → Option (List Leaf)) : Nat → List Field → Option (List Leaf)
  | _, [] => some []
  | o, f :: fs => if f.offset = o then match g f.type, flatFs P g (o + P.cellsOf f.type) fs with
    | some a, some b => if a.length = P.cellsOf f.type then some (a ++ b) else none
    | _, _ => none else none

/-- The leaves of a type that is made of whole numbers and bools alone. -/
def flat (P : Program) : Nat → TypeId → Option (List Leaf)
  | 0, _ => none
  | n + 1, t => match P.underlying t with
    | some .bool => some [.bool]
    | some (.int k) => some [.int k]
    | some (.struct fs) => match flatFs P (flat P n) 0 fs.toList with
      | some ks => if ks.length = P.cellsOf t then some ks else none
      | none => none
    | _ => none

variable {H : Type} {enc : TypeId × Value → H} {P : Program} {w : World} {base : Nat} {spare : Nat → Bool} {held : Bool}

theorem flatFs_trod (n : Nat) (ih : ∀ t ks, flat P n t = some ks → ∀ fuel cs x, DataW.trod enc P w base spare held fuel t cs = some x → Fit ks cs) (fuel : Nat) (cs : List Value) :
    ∀ (fs : List Field) (o : Nat) (ks : List Leaf) (xs : List (DataW H × List MemPlace)), flatFs P (flat P n) o fs = some ks →
      (fs.mapM fun f => DataW.trod enc P w base spare held fuel f.type ((cs.drop f.offset).take (P.cellsOf f.type))) = some xs →
      Fit ks ((cs.drop o).take ks.length) := by
  intro fs
  induction fs with
  | nil =>
    intro o ks xs h _
    simp [flatFs] at h
    subst h
    simp [Fit]
  | cons f fs ihf =>
    intro o ks xs h hx
    unfold flatFs at h
    split at h
    · rename_i ho
      subst ho
      split at h
      · rename_i a b ha hb
        split at h
        · rename_i hal
          simp at h
          subst h
          rw [List.mapM_cons] at hx
          cases h1 : DataW.trod enc P w base spare held fuel f.type ((cs.drop f.offset).take (P.cellsOf f.type)) with
          | none => rw [h1] at hx; exact absurd hx (by simp)
          | some x =>
            rw [h1] at hx
            cases h2 : (fs.mapM fun f => DataW.trod enc P w base spare held fuel f.type ((cs.drop f.offset).take (P.cellsOf f.type))) with
            | none => rw [h2] at hx; exact absurd hx (by simp)
            | some ys =>
              have g1 := ih f.type a ha fuel _ x h1
              have g2 := ihf (f.offset + P.cellsOf f.type) b ys hb h2
              have e : ((cs.drop f.offset).take (a ++ b).length) = ((cs.drop f.offset).take (P.cellsOf f.type)) ++ ((cs.drop (f.offset + P.cellsOf f.type)).take b.length) := by
                rw [List.length_append, hal, List.take_add, List.drop_drop]
              rw [e]
              exact g1.append g2
        · exact absurd h (by simp)
      · exact absurd h (by simp)
    · exact absurd h (by simp)

theorem flat_trod : ∀ (n : Nat) (t : TypeId) (ks : List Leaf), flat P n t = some ks → ∀ fuel cs x, DataW.trod enc P w base spare held fuel t cs = some x → Fit ks cs := by
  intro n
  induction n with
  | zero => intro t ks h; exact absurd h (by simp [flat])
  | succ n ih =>
    intro t ks h fuel cs x hx
    unfold flat at h
    split at h
    · rename_i hu
      obtain ⟨b, rfl, _⟩ := DataW.trod_bool hu hx
      simp at h
      subst h
      exact ⟨⟨b, rfl⟩, trivial⟩
    · rename_i k hu
      obtain ⟨m, rfl, _, hw⟩ := DataW.trod_int hu hx
      simp at h
      subst h
      exact ⟨⟨m, rfl, hw⟩, trivial⟩
    · rename_i fs hu
      split at h
      · rename_i ks' hk
        split at h
        · rename_i hl
          simp at h
          subst h
          cases fuel with
          | zero => exact absurd hx (by simp [DataW.trod])
          | succ fuel =>
            unfold DataW.trod at hx
            simp only [hu] at hx
            split at hx
            · rename_i hc
              cases hm : (fs.toList.mapM fun f => DataW.trod enc P w base spare held fuel f.type ((cs.drop f.offset).take (P.cellsOf f.type))) with
              | none => rw [hm] at hx; exact absurd hx (by simp)
              | some xs =>
                have g := flatFs_trod n ih fuel cs fs.toList 0 ks' xs hk hm
                rw [List.drop_zero, List.take_of_length_le (by omega)] at g
                exact g
            · exact absurd hx (by simp)
        · exact absurd h (by simp)
      · exact absurd h (by simp)
    · exact absurd h (by simp)

/-- A struct by value of a flat type, opened. -/
theorem flat_arg {n : Nat} {t : TypeId} {ks : List Leaf} {fs : Array Field} {r : Reach} {b0 : Nat} {W : World} {v : Value} {d : DataW H} {ps : List MemPlace} (hf : flat P n t = some ks) (hs : P.underlying t = some (.struct fs))
    (hv : Value.okWide P W r b0 t v) (h : DataW.Trod enc P w base spare held t v d ps) : ∃ cs : List Value, v = .agg cs.toArray ∧ Fit ks cs := by
  obtain ⟨cs, rfl, _⟩ := okWide_struct hs hv
  obtain ⟨fuel, hx⟩ := h
  exact ⟨cs.toList, by simp, flat_trod n t ks hf fuel _ _ hx⟩

theorem mapM_some {α β : Type} {f : α → Option β} : ∀ {l : List α} {ys : List β}, l.mapM f = some ys → ys.length = l.length ∧ ∀ i (h : i < l.length), f l[i] = ys[i]? := by
  intro l
  induction l with
  | nil => intro ys h; simp at h; subst h; simp
  | cons a l ih =>
    intro ys h
    rw [List.mapM_cons] at h
    cases h1 : f a with
    | none => rw [h1] at h; exact absurd h (by simp)
    | some y =>
      rw [h1] at h
      cases h2 : l.mapM f with
      | none => rw [h2] at h; exact absurd h (by simp)
      | some zs =>
        rw [h2] at h
        simp at h
        subst h
        obtain ⟨g1, g2⟩ := ih h2
        refine ⟨by simp [g1], fun i hi => ?_⟩
        cases i with
        | zero => simpa using h1
        | succ i => simpa using g2 i (by simpa using hi)

/-- Where a slice of rows of so many cells leads. -/
def FlatRows (ks : List Leaf) (w : World) (a : Option Addr) (len cap : Nat) : Prop :=
  (a = none ∧ len = 0 ∧ cap = 0) ∨ (len = 0 ∧ ∃ x, a = some x) ∨ ∃ b off, a = some ⟨b, off, none⟩ ∧ b < w.heap.size ∧ ∀ i, i < len → ∃ cs : List Value, Fit ks cs ∧ ∀ j, j < ks.length → w.cell? ⟨b, off + i * ks.length + j, none⟩ = cs[j]?

theorem cell_some {w : World} {x : Addr} {v : Value} (h : w.cell? x = some v) : x = ⟨x.block, x.off, none⟩ ∧ x.block < w.heap.size := by
  unfold World.cell? at h
  split at h
  · rename_i c t fr hb
    have hlt : x.block < w.heap.size := by
      by_cases hh : x.block < w.heap.size
      · exact hh
      · rw [Array.getElem?_eq_none (by omega)] at hb
        exact absurd hb (by simp)
    split at h
    · exact absurd h (by simp)
    · rename_i hs
      refine ⟨?_, hlt⟩
      cases x with
      | mk b o s =>
        cases s with
        | none => rfl
        | some s => exact absurd rfl hs
  · exact absurd h (by simp)

theorem add_add (b o i j : Nat) : ((⟨b, o, none⟩ : Addr).add i).add j = ⟨b, o + i + j, none⟩ := by
  unfold Addr.add
  by_cases hi : i = 0 <;> by_cases hj : j = 0 <;> simp [hi, hj]

theorem flat_slice {n : Nat} {t e : TypeId} {ks : List Leaf} {a : Option Addr} {len cap : Nat} {d : DataW H} {ps : List MemPlace} (hf : flat P n e = some ks) (hc : P.cellsOf e = ks.length) (hk : 0 < ks.length) (hs : P.underlying t = some (.slice e))
    (h : DataW.Trod enc P w base spare held t (.slice a len cap) d ps) : len ≤ cap ∧ cap ≤ maxLen ∧ FlatRows ks w a len cap ∧ (len = 0 ∨ ∃ xs ys, d = .slice xs ys ∧ xs.length = len) := by
  obtain ⟨fuel, hx⟩ := h
  cases fuel with
  | zero => exact absurd hx (by simp [DataW.trod])
  | succ fuel =>
    cases a with
    | none =>
      cases len with
      | zero =>
        cases cap with
        | zero => exact ⟨Nat.le_refl _, by unfold maxLen; omega, .inl ⟨rfl, rfl, rfl⟩, .inl rfl⟩
        | succ cap => unfold DataW.trod at hx; simp [hs, Value.cells] at hx
      | succ len => unfold DataW.trod at hx; simp [hs, Value.cells] at hx
    | some x =>
      unfold DataW.trod at hx
      simp only [hs, Value.cells] at hx
      split at hx
      · rename_i hg
        refine ⟨hg.2.1, hg.2.2, ?_⟩
        rw [Option.bind_eq_some_iff] at hx
        obtain ⟨ys, hm, hx⟩ := hx
        simp only [Option.map_eq_some_iff] at hx
        obtain ⟨zs, _, hx⟩ := hx
        have hd := (Prod.mk.inj hx).1
        clear hx
        obtain ⟨hl, hat⟩ := mapM_some hm
        refine ⟨?_, .inr ⟨_, _, hd.symm, by simpa using hl⟩⟩
        clear hd
        cases len with
        | zero => exact .inr (.inl ⟨rfl, x, rfl⟩)
        | succ len =>
          have row : ∀ i, i < len + 1 → ∃ cs : List Value, Fit ks cs ∧ ∀ j, j < ks.length → w.cell? ((x.add (i * ks.length)).add j) = cs[j]? := by
            intro i hi
            have h1 := hat i (by simpa using hi)
            have h2 : i < ys.length := by rw [hl]; simpa using hi
            rw [List.getElem?_eq_getElem h2] at h1
            simp only [List.getElem_range, hc] at h1
            cases hcs : w.cells? base (x.add (i * ks.length)) ks.length with
            | none => rw [hcs] at h1; exact absurd h1 (by simp)
            | some cs =>
              rw [hcs] at h1
              have hfit := flat_trod n e ks hf fuel cs _ h1
              refine ⟨cs, hfit, fun j hj => ?_⟩
              unfold World.cells? at hcs
              split at hcs
              · have := (mapM_some hcs).2 j (by simpa using hj)
                simpa using this
              · exact absurd hcs (by simp)
          obtain ⟨cs0, hf0, h0⟩ := row 0 (by omega)
          have hl0 := hf0.length
          have hz := h0 0 hk
          have hx0 : (x.add (0 * ks.length)).add 0 = x := by simp [Addr.add]
          rw [hx0, List.getElem?_eq_getElem (by omega)] at hz
          obtain ⟨e1, e2⟩ := cell_some hz
          refine .inr (.inr ⟨x.block, x.off, by rw [← e1], e2, fun i hi => ?_⟩)
          obtain ⟨cs, hcf, hcell⟩ := row i hi
          refine ⟨cs, hcf, fun j hj => ?_⟩
          have e3 : (x.add (i * ks.length)).add j = ⟨x.block, x.off + i * ks.length + j, none⟩ :=
            (congrArg (fun y : Addr => (y.add (i * ks.length)).add j) e1).trans (add_add _ _ _ _)
          rw [← e3]
          exact hcell j hj
      · exact absurd hx (by simp)
/-- How long a slice can be: it lies within the form's reach. -/
theorem flat_reach {ts : List TypeId} {ds : List (DataW H)} {j len B : Nat} {t e : TypeId} {d : DataW H} (hsz : (DataW.weightsEach P ts ds).all (· ≤ reachBytes) = true) (ht : ts[j]? = some t) (hd : ds[j]? = some d) (hu : P.underlying t = some (.slice e)) (hB : P.bytesOf e = B)
    (h : len = 0 ∨ ∃ xs ys, d = .slice xs ys ∧ xs.length = len) : len * B ≤ 140737488351232 := by
  rcases h with rfl | ⟨xs, ys, rfl, rfl⟩
  · simp
  · have z := sized_slice hsz ht hd hu
    rw [hB] at z
    exact Nat.le_trans (Nat.mul_le_mul_right _ (Nat.le_add_right _ _)) z

theorem choose_list {α : Type} (x0 : α) (p : Nat → α → Prop) : ∀ n, (∀ i, i < n → ∃ x, p i x) → ∃ l : List α, l.length = n ∧ ∀ i, i < n → p i (l.getD i x0) := by
  intro n
  induction n with
  | zero => intro _; exact ⟨[], rfl, fun i hi => absurd hi (Nat.not_lt_zero _)⟩
  | succ n ih =>
    intro h
    obtain ⟨l, hl, hp⟩ := ih fun i hi => h i (by omega)
    obtain ⟨x, hx⟩ := h n (by omega)
    refine ⟨l ++ [x], by simp [hl], fun i hi => ?_⟩
    rcases Nat.lt_or_ge i n with h1 | h1
    · have := hp i h1
      simp only [List.getD_eq_getElem?_getD] at this ⊢
      rw [List.getElem?_append_left (by omega)]
      exact this
    · obtain rfl : i = n := by omega
      subst hl
      simpa using hx

theorem ints_at {w : World} {a : Option Addr} {len cap : Nat} (h : FlatRows [.int .i64] w a len cap) : ∃ l : List Int, len = l.length ∧ IntsAt w a l ∧ ∀ n, n ∈ l → (Lit.int .i64 n).wf = true := by
  rcases h with ⟨_, rfl, _⟩ | ⟨rfl, _⟩ | ⟨b, off, rfl, hb, hr⟩
  · exact ⟨[], rfl, .inl rfl, by simp⟩
  · exact ⟨[], rfl, .inl rfl, by simp⟩
  · obtain ⟨l, hl, hp⟩ := choose_list (0 : Int) (fun i n => w.cell? ⟨b, off + i, none⟩ = some (.int .i64 n) ∧ (Lit.int .i64 n).wf = true) len fun i hi => by
      obtain ⟨cs, hf, hc⟩ := hr i hi
      obtain ⟨n, vs, rfl, hw, _⟩ := hf.int
      exact ⟨n, by simpa using hc 0 (by simp), hw⟩
    subst hl
    refine ⟨l, rfl, .inr ⟨b, off, rfl, hb, fun i hi => (hp i hi).1⟩, fun n hn => ?_⟩
    obtain ⟨i, hi, rfl⟩ := List.getElem_of_mem hn
    have := (hp i hi).2
    simpa [hi] using this

theorem bools_at {w : World} {a : Option Addr} {len cap : Nat} (h : FlatRows [.bool] w a len cap) : ∃ l : List Bool, len = l.length ∧ BoolsAt w a l := by
  rcases h with ⟨_, rfl, _⟩ | ⟨rfl, _⟩ | ⟨b, off, rfl, hb, hr⟩
  · exact ⟨[], rfl, .inl rfl⟩
  · exact ⟨[], rfl, .inl rfl⟩
  · obtain ⟨l, hl, hp⟩ := choose_list false (fun i n => w.cell? ⟨b, off + i, none⟩ = some (.bool n)) len fun i hi => by
      obtain ⟨cs, hf, hc⟩ := hr i hi
      obtain ⟨n, vs, rfl, _⟩ := hf.bool
      exact ⟨n, by simpa using hc 0 (by simp)⟩
    subst hl
    exact ⟨l, rfl, .inr ⟨b, off, rfl, hb, fun i hi => hp i hi⟩⟩
end Go.Proofs.Ytoingfnpffaopaa
