/- The plain words of the outlier's layer: settings, what is known, what an end, an ejection, a tick make of it. No program in sight. -/
namespace Go.Proofs.Ytnhkfhjiolpimaa

structure OSet where
  row : Int
  mille : Int
  least : Int
  base : Int
  most : Int
  percent : Int
  panic : Int

structure Out where
  row : Int
  good : Int
  bad : Int
  times : Int
  since : Int
  till : Int
  out : Bool

def Out.zero : Out := ⟨0, 0, 0, 0, 0, 0, false⟩

/-- May settings be? -/
structure SetsP (s : OSet) : Prop where
  row0 : 1 ≤ s.row
  row1 : s.row ≤ 1000
  mille0 : 1 ≤ s.mille
  mille1 : s.mille ≤ 1000
  least0 : 1 ≤ s.least
  least1 : s.least ≤ 1000
  base0 : 1 ≤ s.base
  base1 : s.base ≤ 1048576
  most0 : 1 ≤ s.most
  most1 : s.most ≤ 1048576
  order : s.base ≤ s.most
  percent0 : 0 ≤ s.percent
  percent1 : s.percent ≤ 100
  panic0 : 0 ≤ s.panic
  panic1 : s.panic ≤ 100

/-- May a tick be? -/
structure TickP (t : Int) : Prop where
  t0 : 0 ≤ t
  t1 : t ≤ 536870912

/-- May what is known be? -/
structure OutP (o : Out) : Prop where
  row0 : 0 ≤ o.row
  row1 : o.row ≤ 1048576
  good0 : 0 ≤ o.good
  good1 : o.good ≤ 1048576
  bad0 : 0 ≤ o.bad
  bad1 : o.bad ≤ 1048576
  times0 : 0 ≤ o.times
  times1 : o.times ≤ 1000
  since0 : 0 ≤ o.since
  since1 : o.since ≤ 1073741824
  till0 : 0 ≤ o.till
  till1 : o.till ≤ 1073741824

/-- One more, up to the most that is counted. -/
def up (n : Int) : Int := if 1048576 < n + 1 then 1048576 else n + 1

/-- An end of a request. -/
def endO (o : Out) (good : Bool) : Out :=
  if good then { o with row := 0, good := up o.good } else { o with row := up o.row, bad := up o.bad }

/-- Ends of requests. -/
def endsO (o : Out) (l : List Bool) : Out := l.foldl endO o

/-- Is it to be put out? -/
def ripeO (o : Out) (s : OSet) : Bool :=
  !o.out && (decide (s.row ≤ o.row) || (decide (s.least ≤ o.good + o.bad) && decide (s.mille * (o.good + o.bad) ≤ 1000 * o.bad)))

/-- How often it was put out, one more, up to the most. -/
def timesO (n : Int) : Int := if 1000 < n + 1 then 1000 else n + 1

/-- How long it stays out. -/
def longO (s : OSet) (t : Int) : Int := if s.most < s.base * t then s.most else s.base * t

/-- It is put out. -/
def ejectO (o : Out) (s : OSet) (tick : Int) : Out := ⟨0, 0, 0, timesO o.times, tick, tick + longO s (timesO o.times), true⟩

/-- Time goes on. -/
def tickO (o : Out) (tick : Int) : Out := if o.till ≤ tick then { o with out := false } else o

theorem up_in {n : Int} (h : 0 ≤ n) (_h1 : n ≤ 1048576) : 0 ≤ up n ∧ up n ≤ 1048576 := by unfold up; split <;> omega
theorem timesO_in {n : Int} (h : 0 ≤ n) (_h1 : n ≤ 1000) : 1 ≤ timesO n ∧ timesO n ≤ 1000 := by unfold timesO; split <;> omega
theorem longO_in {s : OSet} (hs : SetsP s) {t : Int} (h : 1 ≤ t) : 1 ≤ longO s t ∧ longO s t ≤ s.most := by
  have h0 := hs.base0
  have hm := hs.most0
  have : 1 * 1 ≤ s.base * t := Int.mul_le_mul h0 h (by omega) (by omega)
  unfold longO
  split <;> omega

theorem endO_in {o : Out} (h : OutP o) (g : Bool) : OutP (endO o g) := by
  have hg := up_in h.good0 h.good1
  have hb := up_in h.bad0 h.bad1
  have hr := up_in h.row0 h.row1
  obtain ⟨a1, a2, a3, a4, a5, a6, a7, a8, a9, a10, a11, a12⟩ := h
  unfold endO
  cases g
  · exact ⟨hr.1, hr.2, a3, a4, hb.1, hb.2, a7, a8, a9, a10, a11, a12⟩
  · exact ⟨Int.le_refl _, show (0 : Int) ≤ 1048576 by decide, hg.1, hg.2, a5, a6, a7, a8, a9, a10, a11, a12⟩

theorem endsO_in {o : Out} (h : OutP o) (l : List Bool) : OutP (endsO o l) := by
  induction l generalizing o with
  | nil => exact h
  | cons g l ih => exact ih (endO_in h g)

theorem endsO_take (o : Out) (l : List Bool) (i : Nat) (h : i < l.length) : endsO o (l.take (i + 1)) = endO (endsO o (l.take i)) (l.getD i false) := by
  rw [List.take_succ_eq_append_getElem h]
  unfold endsO
  rw [List.foldl_append]
  simp [List.getD, h]

theorem zero_in : OutP Out.zero := ⟨by decide, by decide, by decide, by decide, by decide, by decide, by decide, by decide, by decide, by decide, by decide, by decide⟩

theorem ejectO_in {o : Out} {s : OSet} {t : Int} (h : OutP o) (hs : SetsP s) (ht : TickP t) : OutP (ejectO o s t) := by
  have h1 := timesO_in h.times0 h.times1
  have h2 := longO_in hs h1.1
  have h3 := hs.most1
  have h4 := ht.t0
  have h5 := ht.t1
  exact ⟨Int.le_refl _, show (0 : Int) ≤ 1048576 by decide, Int.le_refl _, show (0 : Int) ≤ 1048576 by decide, Int.le_refl _, show (0 : Int) ≤ 1048576 by decide, by simp only [ejectO]; omega, h1.2, h4, by simp only [ejectO]; omega, by simp only [ejectO]; omega, by simp only [ejectO]; omega⟩

theorem tickO_in {o : Out} {t : Int} (h : OutP o) : OutP (tickO o t) := by
  obtain ⟨a1, a2, a3, a4, a5, a6, a7, a8, a9, a10, a11, a12⟩ := h
  unfold tickO
  split
  · exact ⟨a1, a2, a3, a4, a5, a6, a7, a8, a9, a10, a11, a12⟩
  · exact ⟨a1, a2, a3, a4, a5, a6, a7, a8, a9, a10, a11, a12⟩

end Go.Proofs.Ytnhkfhjiolpimaa
