/-
  No cell of these rows narrows 'for every input' (looked for: loops, veiled, ifaces, maps, wideKeys, modest, calm, conditions, laid).
  DERIVED. THE GIVEN ROWS OF THIS SEAT. 6 by the template 'for every input the law returns true; each argument reads behind the call as it read before'; 0 by the template 'total and deterministic' (their statements: YtnhkfhjiolpimaaTotals.lean).
  GIVEN WITH THE SEED: the statements are not yours to turn. If you find one false, say at which input.
  Laid BY PROGRAM, IN A SANDBOX (cutbox-rows.mjs): the forced cells as the released guide's own fill.sh prints them over the translation f456fb92c56242b1… (all of the seat's roots in one cut). By AI agents, Wed Nov 11 2026. No macro, syntax, notation, axiom, sorry.
-/
import Derived.Test.YtnhkfhjiolpimaaChecked
import GoSem.Claim
import GoSem.ClaimJoined
import GoSem.ClaimMapViews
import Derived.JoinedTies
import Derived.KernelRfl
namespace Go.Proofs.Ytnhkfhjiolpimaa
/- THE CELL 'sum', in the pinned program and in every row, IS THE sha256 OF THE DUMP (.gsa) THAT YtnhkfhjiolpimaaProg.lean LOADS. Nothing in Lean hashes anything: it is a label: what it is worth is what the hold of that sum in a sandbox is worth. -/
noncomputable def Try.pinned : Pinned := { name := "ytnhkfhjiolpimaa", sum := "f456fb92c56242b15d610f1bb3cc202f07678f340d5d2cfdbd1f79dc47175382", checked := Try.checked }
namespace Rows
def none {H : Type} : Left H := { results := [], args := [] }

/-- 'waybilllaw16.OutlierRoom': WHATEVER THE INPUT: true; the input reads as it did. -/
def outlierRoomSpec : ChangeSpec := { name := "outlierRoom", fn := fun _ => fun
  | [d1, d2] => { results := [.lit (.bool true)], args := [d1, d2] }
  | _ => none }
def outlierRoomRow : OpenClaim := { program := "ytnhkfhjiolpimaa", sum := "f456fb92c56242b15d610f1bb3cc202f07678f340d5d2cfdbd1f79dc47175382", func := "waybill/waybilllaw16.OutlierRoom", spec := "outlierRoom", apart := false }
def OutlierRoomSaid : Prop := outlierRoomRow.holds Try.pinned (OpenSpec.ofChange outlierRoomSpec)

/-- ITS FALSE NEIGHBOUR: 'it returns false'. Refute it at one input. -/
def outlierRoomWrong : ChangeSpec := { name := "outlierRoom", fn := fun _ => fun
  | [d1, d2] => { results := [.lit (.bool false)], args := [d1, d2] }
  | _ => none }
def OutlierRoomWrongFalsely : Prop := outlierRoomRow.holds Try.pinned (OpenSpec.ofChange outlierRoomWrong)

/-- 'waybilllaw16.OutlierLonger': WHATEVER THE INPUT: true; the input reads as it did. -/
def outlierLongerSpec : ChangeSpec := { name := "outlierLonger", fn := fun _ => fun
  | [d1, d2] => { results := [.lit (.bool true)], args := [d1, d2] }
  | _ => none }
def outlierLongerRow : OpenClaim := { program := "ytnhkfhjiolpimaa", sum := "f456fb92c56242b15d610f1bb3cc202f07678f340d5d2cfdbd1f79dc47175382", func := "waybill/waybilllaw16.OutlierLonger", spec := "outlierLonger", apart := false }
def OutlierLongerSaid : Prop := outlierLongerRow.holds Try.pinned (OpenSpec.ofChange outlierLongerSpec)

/-- ITS FALSE NEIGHBOUR: 'it returns false'. Refute it at one input. -/
def outlierLongerWrong : ChangeSpec := { name := "outlierLonger", fn := fun _ => fun
  | [d1, d2] => { results := [.lit (.bool false)], args := [d1, d2] }
  | _ => none }
def OutlierLongerWrongFalsely : Prop := outlierLongerRow.holds Try.pinned (OpenSpec.ofChange outlierLongerWrong)

/-- 'waybilllaw16.OutlierSame': WHATEVER THE INPUT: true; the input reads as it did. -/
def outlierSameSpec : ChangeSpec := { name := "outlierSame", fn := fun _ => fun
  | [d1, d2, d3] => { results := [.lit (.bool true)], args := [d1, d2, d3] }
  | _ => none }
def outlierSameRow : OpenClaim := { program := "ytnhkfhjiolpimaa", sum := "f456fb92c56242b15d610f1bb3cc202f07678f340d5d2cfdbd1f79dc47175382", func := "waybill/waybilllaw16.OutlierSame", spec := "outlierSame", apart := false }
def OutlierSameSaid : Prop := outlierSameRow.holds Try.pinned (OpenSpec.ofChange outlierSameSpec)

/-- ITS FALSE NEIGHBOUR: 'it returns false'. Refute it at one input. -/
def outlierSameWrong : ChangeSpec := { name := "outlierSame", fn := fun _ => fun
  | [d1, d2, d3] => { results := [.lit (.bool false)], args := [d1, d2, d3] }
  | _ => none }
def OutlierSameWrongFalsely : Prop := outlierSameRow.holds Try.pinned (OpenSpec.ofChange outlierSameWrong)

/-- 'waybilllaw16.OutlierCounts': WHATEVER THE INPUT: true; the input reads as it did. -/
def outlierCountsSpec : ChangeSpec := { name := "outlierCounts", fn := fun _ => fun
  | [d1, d2] => { results := [.lit (.bool true)], args := [d1, d2] }
  | _ => none }
def outlierCountsRow : OpenClaim := { program := "ytnhkfhjiolpimaa", sum := "f456fb92c56242b15d610f1bb3cc202f07678f340d5d2cfdbd1f79dc47175382", func := "waybill/waybilllaw16.OutlierCounts", spec := "outlierCounts", apart := false }
def OutlierCountsSaid : Prop := outlierCountsRow.holds Try.pinned (OpenSpec.ofChange outlierCountsSpec)

/-- ITS FALSE NEIGHBOUR: 'it returns false'. Refute it at one input. -/
def outlierCountsWrong : ChangeSpec := { name := "outlierCounts", fn := fun _ => fun
  | [d1, d2] => { results := [.lit (.bool false)], args := [d1, d2] }
  | _ => none }
def OutlierCountsWrongFalsely : Prop := outlierCountsRow.holds Try.pinned (OpenSpec.ofChange outlierCountsWrong)

/-- 'waybilllaw16.OutlierRow': WHATEVER THE INPUT: true; the input reads as it did. -/
def outlierRowSpec : ChangeSpec := { name := "outlierRow", fn := fun _ => fun
  | [d1, d2, d3] => { results := [.lit (.bool true)], args := [d1, d2, d3] }
  | _ => none }
def outlierRowRow : OpenClaim := { program := "ytnhkfhjiolpimaa", sum := "f456fb92c56242b15d610f1bb3cc202f07678f340d5d2cfdbd1f79dc47175382", func := "waybill/waybilllaw16.OutlierRow", spec := "outlierRow", apart := false }
def OutlierRowSaid : Prop := outlierRowRow.holds Try.pinned (OpenSpec.ofChange outlierRowSpec)

/-- ITS FALSE NEIGHBOUR: 'it returns false'. Refute it at one input. -/
def outlierRowWrong : ChangeSpec := { name := "outlierRow", fn := fun _ => fun
  | [d1, d2, d3] => { results := [.lit (.bool false)], args := [d1, d2, d3] }
  | _ => none }
def OutlierRowWrongFalsely : Prop := outlierRowRow.holds Try.pinned (OpenSpec.ofChange outlierRowWrong)

/-- 'waybilllaw16.OutlierTells': WHATEVER THE INPUT: true; the input reads as it did. -/
def outlierTellsSpec : ChangeSpec := { name := "outlierTells", fn := fun _ => fun
  | [d1, d2, d3, d4, d5, d6] => { results := [.lit (.bool true)], args := [d1, d2, d3, d4, d5, d6] }
  | _ => none }
def outlierTellsRow : OpenClaim := { program := "ytnhkfhjiolpimaa", sum := "f456fb92c56242b15d610f1bb3cc202f07678f340d5d2cfdbd1f79dc47175382", func := "waybill/waybilllaw16.OutlierTells", spec := "outlierTells", apart := false }
def OutlierTellsSaid : Prop := outlierTellsRow.holds Try.pinned (OpenSpec.ofChange outlierTellsSpec)

/-- ITS FALSE NEIGHBOUR: 'it returns false'. Refute it at one input. -/
def outlierTellsWrong : ChangeSpec := { name := "outlierTells", fn := fun _ => fun
  | [d1, d2, d3, d4, d5, d6] => { results := [.lit (.bool false)], args := [d1, d2, d3, d4, d5, d6] }
  | _ => none }
def OutlierTellsWrongFalsely : Prop := outlierTellsRow.holds Try.pinned (OpenSpec.ofChange outlierTellsWrong)

/- THE SECOND FORM. 'bulk': how many values and letters a reading holds, each counted each time it is reached (what is shared counts as often as it is met; a slice's spare places count too). A statement '..UptoSaid' is the law's where the arguments, and the package variables that the reading takes, are together of bulk at most 1048576: NARROWER than '..Said'. Prove '..Said' where nothing that the law and all that it calls make is longer than what came in: it says more and counts as full. Else prove '..UptoSaid'. A law counts once. -/
mutual
def uptoBulk {H : Type} : DataW H → Nat
  | .lit (.string bytes) => bytes.length + 1
  | .lit _ => 1
  | .nil => 1
  | .ptr d => uptoBulk d + 1
  | .slice elems spare => uptoBulkAll elems + uptoBulkAll spare + 1
  | .agg parts => uptoBulkAll parts + 1
  | .iface _ d => uptoBulk d + 1
  | .map entries => uptoBulkEntries entries + 1
  | .held _ => 1
def uptoBulkAll {H : Type} : List (DataW H) → Nat
  | [] => 0
  | d :: r => uptoBulk d + uptoBulkAll r
def uptoBulkEntries {H : Type} : List (Lit × DataW H) → Nat
  | [] => 0
  | x :: r => uptoBulkEntry x + uptoBulkEntries r
def uptoBulkEntry {H : Type} : Lit × DataW H → Nat
  | (.string bytes, d) => bytes.length + uptoBulk d + 1
  | (_, d) => uptoBulk d + 1
 end
def uptoSmall : (H : Type) → List (DataW H) → Bool := fun _ ds => decide (uptoBulkAll ds ≤ 1048576)
def OpenSpec.upto (s : _root_.Go.ChangeSpec) : _root_.Go.OpenSpec := { _root_.Go.OpenSpec.ofChange s with cond := some uptoSmall }

/-- 'waybilllaw16.OutlierRoom', WHERE WHAT IT READS IS OF BULK AT MOST 1048576: true; the input reads as it did. -/
def outlierRoomUptoRow : OpenClaim := { program := "ytnhkfhjiolpimaa", sum := "f456fb92c56242b15d610f1bb3cc202f07678f340d5d2cfdbd1f79dc47175382", func := "waybill/waybilllaw16.OutlierRoom", spec := "outlierRoom", apart := false, narrowed := true }
def OutlierRoomUptoSaid : Prop := outlierRoomUptoRow.holds Try.pinned (OpenSpec.upto outlierRoomSpec)

/-- 'waybilllaw16.OutlierLonger', WHERE WHAT IT READS IS OF BULK AT MOST 1048576: true; the input reads as it did. -/
def outlierLongerUptoRow : OpenClaim := { program := "ytnhkfhjiolpimaa", sum := "f456fb92c56242b15d610f1bb3cc202f07678f340d5d2cfdbd1f79dc47175382", func := "waybill/waybilllaw16.OutlierLonger", spec := "outlierLonger", apart := false, narrowed := true }
def OutlierLongerUptoSaid : Prop := outlierLongerUptoRow.holds Try.pinned (OpenSpec.upto outlierLongerSpec)

/-- 'waybilllaw16.OutlierSame', WHERE WHAT IT READS IS OF BULK AT MOST 1048576: true; the input reads as it did. -/
def outlierSameUptoRow : OpenClaim := { program := "ytnhkfhjiolpimaa", sum := "f456fb92c56242b15d610f1bb3cc202f07678f340d5d2cfdbd1f79dc47175382", func := "waybill/waybilllaw16.OutlierSame", spec := "outlierSame", apart := false, narrowed := true }
def OutlierSameUptoSaid : Prop := outlierSameUptoRow.holds Try.pinned (OpenSpec.upto outlierSameSpec)

/-- 'waybilllaw16.OutlierCounts', WHERE WHAT IT READS IS OF BULK AT MOST 1048576: true; the input reads as it did. -/
def outlierCountsUptoRow : OpenClaim := { program := "ytnhkfhjiolpimaa", sum := "f456fb92c56242b15d610f1bb3cc202f07678f340d5d2cfdbd1f79dc47175382", func := "waybill/waybilllaw16.OutlierCounts", spec := "outlierCounts", apart := false, narrowed := true }
def OutlierCountsUptoSaid : Prop := outlierCountsUptoRow.holds Try.pinned (OpenSpec.upto outlierCountsSpec)

/-- 'waybilllaw16.OutlierRow', WHERE WHAT IT READS IS OF BULK AT MOST 1048576: true; the input reads as it did. -/
def outlierRowUptoRow : OpenClaim := { program := "ytnhkfhjiolpimaa", sum := "f456fb92c56242b15d610f1bb3cc202f07678f340d5d2cfdbd1f79dc47175382", func := "waybill/waybilllaw16.OutlierRow", spec := "outlierRow", apart := false, narrowed := true }
def OutlierRowUptoSaid : Prop := outlierRowUptoRow.holds Try.pinned (OpenSpec.upto outlierRowSpec)

/-- 'waybilllaw16.OutlierTells', WHERE WHAT IT READS IS OF BULK AT MOST 1048576: true; the input reads as it did. -/
def outlierTellsUptoRow : OpenClaim := { program := "ytnhkfhjiolpimaa", sum := "f456fb92c56242b15d610f1bb3cc202f07678f340d5d2cfdbd1f79dc47175382", func := "waybill/waybilllaw16.OutlierTells", spec := "outlierTells", apart := false, narrowed := true }
def OutlierTellsUptoSaid : Prop := outlierTellsUptoRow.holds Try.pinned (OpenSpec.upto outlierTellsSpec)

end Rows
end Go.Proofs.Ytnhkfhjiolpimaa
