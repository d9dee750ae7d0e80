/-
  No cell of these rows narrows 'for every input' (looked for: loops, veiled, ifaces, maps, wideKeys, modest, calm, conditions, laid).
  DERIVED. THE GIVEN ROWS OF THIS SEAT. 6 by the template 'for every input the law returns true; each argument reads behind the call as it read before'; 0 by the template 'total and deterministic' (their statements: YtaaebnfagbiaiaaTotals.lean).
  GIVEN WITH THE SEED: the statements are not yours to turn. If you find one false, say at which input.
  Laid BY PROGRAM, IN A SANDBOX (cutbox-rows.mjs): the forced cells as the released guide's own fill.sh prints them over the translation f7122071cd49339b… (all of the seat's roots in one cut). By AI agents, Wed Nov 11 2026. No macro, syntax, notation, axiom, sorry.
-/
import Derived.Test.YtaaebnfagbiaiaaChecked
import GoSem.Claim
import GoSem.ClaimJoined
import GoSem.ClaimMapViews
import Derived.JoinedTies
import Derived.KernelRfl
namespace Go.Proofs.Ytaaebnfagbiaiaa
/- THE CELL 'sum', in the pinned program and in every row, IS THE sha256 OF THE DUMP (.gsa) THAT YtaaebnfagbiaiaaProg.lean LOADS. Nothing in Lean hashes anything: it is a label: what it is worth is what the hold of that sum in a sandbox is worth. -/
noncomputable def Try.pinned : Pinned := { name := "ytaaebnfagbiaiaa", sum := "f7122071cd49339b17a2bc632d6c7d9c5c22cdb5fda41f594855d81c9fecb859", checked := Try.checked }
namespace Rows
def none {H : Type} : Left H := { results := [], args := [] }

/-- 'waybilllaw17.BucketRuns': WHATEVER THE INPUT: true; the input reads as it did. -/
def bucketRunsSpec : ChangeSpec := { name := "bucketRuns", fn := fun _ => fun
  | [d1, d2] => { results := [.lit (.bool true)], args := [d1, d2] }
  | _ => none }
def bucketRunsRow : OpenClaim := { program := "ytaaebnfagbiaiaa", sum := "f7122071cd49339b17a2bc632d6c7d9c5c22cdb5fda41f594855d81c9fecb859", func := "waybill/waybilllaw17.BucketRuns", spec := "bucketRuns", unfollowed := true, recurses := true, apart := false }
def BucketRunsSaid : Prop := bucketRunsRow.holds Try.pinned (OpenSpec.ofChange bucketRunsSpec)

/-- ITS FALSE NEIGHBOUR: 'it returns false'. Refute it at one input. -/
def bucketRunsWrong : ChangeSpec := { name := "bucketRuns", fn := fun _ => fun
  | [d1, d2] => { results := [.lit (.bool false)], args := [d1, d2] }
  | _ => none }
def BucketRunsWrongFalsely : Prop := bucketRunsRow.holds Try.pinned (OpenSpec.ofChange bucketRunsWrong)

/-- 'waybilllaw17.BucketBound': WHATEVER THE INPUT: true; the input reads as it did. -/
def bucketBoundSpec : ChangeSpec := { name := "bucketBound", fn := fun _ => fun
  | [d1, d2] => { results := [.lit (.bool true)], args := [d1, d2] }
  | _ => none }
def bucketBoundRow : OpenClaim := { program := "ytaaebnfagbiaiaa", sum := "f7122071cd49339b17a2bc632d6c7d9c5c22cdb5fda41f594855d81c9fecb859", func := "waybill/waybilllaw17.BucketBound", spec := "bucketBound", unfollowed := true, recurses := true, apart := false }
def BucketBoundSaid : Prop := bucketBoundRow.holds Try.pinned (OpenSpec.ofChange bucketBoundSpec)

/-- ITS FALSE NEIGHBOUR: 'it returns false'. Refute it at one input. -/
def bucketBoundWrong : ChangeSpec := { name := "bucketBound", fn := fun _ => fun
  | [d1, d2] => { results := [.lit (.bool false)], args := [d1, d2] }
  | _ => none }
def BucketBoundWrongFalsely : Prop := bucketBoundRow.holds Try.pinned (OpenSpec.ofChange bucketBoundWrong)

/-- 'waybilllaw17.BucketEmpty': WHATEVER THE INPUT: true; the input reads as it did. -/
def bucketEmptySpec : ChangeSpec := { name := "bucketEmpty", fn := fun _ => fun
  | [d1, d2] => { results := [.lit (.bool true)], args := [d1, d2] }
  | _ => none }
def bucketEmptyRow : OpenClaim := { program := "ytaaebnfagbiaiaa", sum := "f7122071cd49339b17a2bc632d6c7d9c5c22cdb5fda41f594855d81c9fecb859", func := "waybill/waybilllaw17.BucketEmpty", spec := "bucketEmpty", unfollowed := true, recurses := true, apart := false }
def BucketEmptySaid : Prop := bucketEmptyRow.holds Try.pinned (OpenSpec.ofChange bucketEmptySpec)

/-- ITS FALSE NEIGHBOUR: 'it returns false'. Refute it at one input. -/
def bucketEmptyWrong : ChangeSpec := { name := "bucketEmpty", fn := fun _ => fun
  | [d1, d2] => { results := [.lit (.bool false)], args := [d1, d2] }
  | _ => none }
def BucketEmptyWrongFalsely : Prop := bucketEmptyRow.holds Try.pinned (OpenSpec.ofChange bucketEmptyWrong)

/-- 'waybilllaw17.BucketMany': WHATEVER THE INPUT: true; the input reads as it did. -/
def bucketManySpec : ChangeSpec := { name := "bucketMany", fn := fun _ => fun
  | [d1, d2, d3, d4] => { results := [.lit (.bool true)], args := [d1, d2, d3, d4] }
  | _ => none }
def bucketManyRow : OpenClaim := { program := "ytaaebnfagbiaiaa", sum := "f7122071cd49339b17a2bc632d6c7d9c5c22cdb5fda41f594855d81c9fecb859", func := "waybill/waybilllaw17.BucketMany", spec := "bucketMany", unfollowed := true, recurses := true, apart := false }
def BucketManySaid : Prop := bucketManyRow.holds Try.pinned (OpenSpec.ofChange bucketManySpec)

/-- ITS FALSE NEIGHBOUR: 'it returns false'. Refute it at one input. -/
def bucketManyWrong : ChangeSpec := { name := "bucketMany", fn := fun _ => fun
  | [d1, d2, d3, d4] => { results := [.lit (.bool false)], args := [d1, d2, d3, d4] }
  | _ => none }
def BucketManyWrongFalsely : Prop := bucketManyRow.holds Try.pinned (OpenSpec.ofChange bucketManyWrong)

/-- 'waybilllaw17.BucketTells': WHATEVER THE INPUT: true; the input reads as it did. -/
def bucketTellsSpec : ChangeSpec := { name := "bucketTells", fn := fun _ => fun
  | [d1, d2, d3] => { results := [.lit (.bool true)], args := [d1, d2, d3] }
  | _ => none }
def bucketTellsRow : OpenClaim := { program := "ytaaebnfagbiaiaa", sum := "f7122071cd49339b17a2bc632d6c7d9c5c22cdb5fda41f594855d81c9fecb859", func := "waybill/waybilllaw17.BucketTells", spec := "bucketTells", unfollowed := true, recurses := true, apart := false }
def BucketTellsSaid : Prop := bucketTellsRow.holds Try.pinned (OpenSpec.ofChange bucketTellsSpec)

/-- ITS FALSE NEIGHBOUR: 'it returns false'. Refute it at one input. -/
def bucketTellsWrong : ChangeSpec := { name := "bucketTells", fn := fun _ => fun
  | [d1, d2, d3] => { results := [.lit (.bool false)], args := [d1, d2, d3] }
  | _ => none }
def BucketTellsWrongFalsely : Prop := bucketTellsRow.holds Try.pinned (OpenSpec.ofChange bucketTellsWrong)

/-- 'waybilllaw17.BucketKeeps': WHATEVER THE INPUT: true; the input reads as it did. -/
def bucketKeepsSpec : ChangeSpec := { name := "bucketKeeps", fn := fun _ => fun
  | [d1, d2, d3] => { results := [.lit (.bool true)], args := [d1, d2, d3] }
  | _ => none }
def bucketKeepsRow : OpenClaim := { program := "ytaaebnfagbiaiaa", sum := "f7122071cd49339b17a2bc632d6c7d9c5c22cdb5fda41f594855d81c9fecb859", func := "waybill/waybilllaw17.BucketKeeps", spec := "bucketKeeps", unfollowed := true, recurses := true, apart := false }
def BucketKeepsSaid : Prop := bucketKeepsRow.holds Try.pinned (OpenSpec.ofChange bucketKeepsSpec)

/-- ITS FALSE NEIGHBOUR: 'it returns false'. Refute it at one input. -/
def bucketKeepsWrong : ChangeSpec := { name := "bucketKeeps", fn := fun _ => fun
  | [d1, d2, d3] => { results := [.lit (.bool false)], args := [d1, d2, d3] }
  | _ => none }
def BucketKeepsWrongFalsely : Prop := bucketKeepsRow.holds Try.pinned (OpenSpec.ofChange bucketKeepsWrong)

/- THE SECOND FORM. 'bulk': how many values and letters a reading holds, each counted each time it is reached (what is shared counts as often as it is met; a slice's spare places count too). A statement '..UptoSaid' is the law's where the arguments, and the package variables that the reading takes, are together of bulk at most 1048576: NARROWER than '..Said'. Prove '..Said' where nothing that the law and all that it calls make is longer than what came in: it says more and counts as full. Else prove '..UptoSaid'. A law counts once. -/
mutual
def uptoBulk {H : Type} : DataW H → Nat
  | .lit (.string bytes) => bytes.length + 1
  | .lit _ => 1
  | .nil => 1
  | .ptr d => uptoBulk d + 1
  | .slice elems spare => uptoBulkAll elems + uptoBulkAll spare + 1
  | .agg parts => uptoBulkAll parts + 1
  | .iface _ d => uptoBulk d + 1
  | .map entries => uptoBulkEntries entries + 1
  | .held _ => 1
def uptoBulkAll {H : Type} : List (DataW H) → Nat
  | [] => 0
  | d :: r => uptoBulk d + uptoBulkAll r
def uptoBulkEntries {H : Type} : List (Lit × DataW H) → Nat
  | [] => 0
  | x :: r => uptoBulkEntry x + uptoBulkEntries r
def uptoBulkEntry {H : Type} : Lit × DataW H → Nat
  | (.string bytes, d) => bytes.length + uptoBulk d + 1
  | (_, d) => uptoBulk d + 1
 end
def uptoSmall : (H : Type) → List (DataW H) → Bool := fun _ ds => decide (uptoBulkAll ds ≤ 1048576)
def OpenSpec.upto (s : _root_.Go.ChangeSpec) : _root_.Go.OpenSpec := { _root_.Go.OpenSpec.ofChange s with cond := some uptoSmall }

/-- 'waybilllaw17.BucketRuns', WHERE WHAT IT READS IS OF BULK AT MOST 1048576: true; the input reads as it did. -/
def bucketRunsUptoRow : OpenClaim := { program := "ytaaebnfagbiaiaa", sum := "f7122071cd49339b17a2bc632d6c7d9c5c22cdb5fda41f594855d81c9fecb859", func := "waybill/waybilllaw17.BucketRuns", spec := "bucketRuns", unfollowed := true, recurses := true, apart := false, narrowed := true }
def BucketRunsUptoSaid : Prop := bucketRunsUptoRow.holds Try.pinned (OpenSpec.upto bucketRunsSpec)

/-- 'waybilllaw17.BucketBound', WHERE WHAT IT READS IS OF BULK AT MOST 1048576: true; the input reads as it did. -/
def bucketBoundUptoRow : OpenClaim := { program := "ytaaebnfagbiaiaa", sum := "f7122071cd49339b17a2bc632d6c7d9c5c22cdb5fda41f594855d81c9fecb859", func := "waybill/waybilllaw17.BucketBound", spec := "bucketBound", unfollowed := true, recurses := true, apart := false, narrowed := true }
def BucketBoundUptoSaid : Prop := bucketBoundUptoRow.holds Try.pinned (OpenSpec.upto bucketBoundSpec)

/-- 'waybilllaw17.BucketEmpty', WHERE WHAT IT READS IS OF BULK AT MOST 1048576: true; the input reads as it did. -/
def bucketEmptyUptoRow : OpenClaim := { program := "ytaaebnfagbiaiaa", sum := "f7122071cd49339b17a2bc632d6c7d9c5c22cdb5fda41f594855d81c9fecb859", func := "waybill/waybilllaw17.BucketEmpty", spec := "bucketEmpty", unfollowed := true, recurses := true, apart := false, narrowed := true }
def BucketEmptyUptoSaid : Prop := bucketEmptyUptoRow.holds Try.pinned (OpenSpec.upto bucketEmptySpec)

/-- 'waybilllaw17.BucketMany', WHERE WHAT IT READS IS OF BULK AT MOST 1048576: true; the input reads as it did. -/
def bucketManyUptoRow : OpenClaim := { program := "ytaaebnfagbiaiaa", sum := "f7122071cd49339b17a2bc632d6c7d9c5c22cdb5fda41f594855d81c9fecb859", func := "waybill/waybilllaw17.BucketMany", spec := "bucketMany", unfollowed := true, recurses := true, apart := false, narrowed := true }
def BucketManyUptoSaid : Prop := bucketManyUptoRow.holds Try.pinned (OpenSpec.upto bucketManySpec)

/-- 'waybilllaw17.BucketTells', WHERE WHAT IT READS IS OF BULK AT MOST 1048576: true; the input reads as it did. -/
def bucketTellsUptoRow : OpenClaim := { program := "ytaaebnfagbiaiaa", sum := "f7122071cd49339b17a2bc632d6c7d9c5c22cdb5fda41f594855d81c9fecb859", func := "waybill/waybilllaw17.BucketTells", spec := "bucketTells", unfollowed := true, recurses := true, apart := false, narrowed := true }
def BucketTellsUptoSaid : Prop := bucketTellsUptoRow.holds Try.pinned (OpenSpec.upto bucketTellsSpec)

/-- 'waybilllaw17.BucketKeeps', WHERE WHAT IT READS IS OF BULK AT MOST 1048576: true; the input reads as it did. -/
def bucketKeepsUptoRow : OpenClaim := { program := "ytaaebnfagbiaiaa", sum := "f7122071cd49339b17a2bc632d6c7d9c5c22cdb5fda41f594855d81c9fecb859", func := "waybill/waybilllaw17.BucketKeeps", spec := "bucketKeeps", unfollowed := true, recurses := true, apart := false, narrowed := true }
def BucketKeepsUptoSaid : Prop := bucketKeepsUptoRow.holds Try.pinned (OpenSpec.upto bucketKeepsSpec)

end Rows
end Go.Proofs.Ytaaebnfagbiaiaa
