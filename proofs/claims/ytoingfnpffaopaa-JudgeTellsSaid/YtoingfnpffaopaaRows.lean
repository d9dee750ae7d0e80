/-
  No cell of these rows narrows 'for every input' (looked for: loops, veiled, ifaces, maps, wideKeys, modest, calm, conditions, laid).
  DERIVED. THE GIVEN ROWS OF THIS SEAT. 5 by the template 'for every input the law returns true; each argument reads behind the call as it read before'; 0 by the template 'total and deterministic' (their statements: YtoingfnpffaopaaTotals.lean).
  GIVEN WITH THE SEED: the statements are not yours to turn. If you find one false, say at which input.
  Laid BY PROGRAM, IN A SANDBOX (cutbox-rows.mjs): the forced cells as the released guide's own fill.sh prints them over the translation ffdfd5c802bdae7f… (all of the seat's roots in one cut). By AI agents, Wed Nov 11 2026. No macro, syntax, notation, axiom, sorry.
-/
import Derived.Test.YtoingfnpffaopaaChecked
import GoSem.Claim
import GoSem.ClaimJoined
import GoSem.ClaimMapViews
import Derived.JoinedTies
import Derived.KernelRfl
namespace Go.Proofs.Ytoingfnpffaopaa
/- THE CELL 'sum', in the pinned program and in every row, IS THE sha256 OF THE DUMP (.gsa) THAT YtoingfnpffaopaaProg.lean LOADS. Nothing in Lean hashes anything: it is a label: what it is worth is what the hold of that sum in a sandbox is worth. -/
noncomputable def Try.pinned : Pinned := { name := "ytoingfnpffaopaa", sum := "ffdfd5c802bdae7f1e04a2f87205e4e04991cbc2ec0fd2b73e80445afc5c8878", checked := Try.checked }
namespace Rows
def none {H : Type} : Left H := { results := [], args := [] }

/-- 'waybilllaw31.JudgeTwice': WHATEVER THE INPUT: true; the input reads as it did. -/
def judgeTwiceSpec : ChangeSpec := { name := "judgeTwice", fn := fun _ => fun
  | [d1, d2] => { results := [.lit (.bool true)], args := [d1, d2] }
  | _ => none }
def judgeTwiceRow : OpenClaim := { program := "ytoingfnpffaopaa", sum := "ffdfd5c802bdae7f1e04a2f87205e4e04991cbc2ec0fd2b73e80445afc5c8878", func := "waybill/waybilllaw31.JudgeTwice", spec := "judgeTwice", unfollowed := true, recurses := true, plainKeys := false, apart := false }
def JudgeTwiceSaid : Prop := judgeTwiceRow.holds Try.pinned (OpenSpec.ofChange judgeTwiceSpec)

/-- ITS FALSE NEIGHBOUR: 'it returns false'. Refute it at one input. -/
def judgeTwiceWrong : ChangeSpec := { name := "judgeTwice", fn := fun _ => fun
  | [d1, d2] => { results := [.lit (.bool false)], args := [d1, d2] }
  | _ => none }
def JudgeTwiceWrongFalsely : Prop := judgeTwiceRow.holds Try.pinned (OpenSpec.ofChange judgeTwiceWrong)

/-- 'waybilllaw31.JudgeFree': WHATEVER THE INPUT: true; the input reads as it did. -/
def judgeFreeSpec : ChangeSpec := { name := "judgeFree", fn := fun _ => fun
  | [d1, d2] => { results := [.lit (.bool true)], args := [d1, d2] }
  | _ => none }
def judgeFreeRow : OpenClaim := { program := "ytoingfnpffaopaa", sum := "ffdfd5c802bdae7f1e04a2f87205e4e04991cbc2ec0fd2b73e80445afc5c8878", func := "waybill/waybilllaw31.JudgeFree", spec := "judgeFree", unfollowed := true, recurses := true, plainKeys := false, apart := false }
def JudgeFreeSaid : Prop := judgeFreeRow.holds Try.pinned (OpenSpec.ofChange judgeFreeSpec)

/-- ITS FALSE NEIGHBOUR: 'it returns false'. Refute it at one input. -/
def judgeFreeWrong : ChangeSpec := { name := "judgeFree", fn := fun _ => fun
  | [d1, d2] => { results := [.lit (.bool false)], args := [d1, d2] }
  | _ => none }
def JudgeFreeWrongFalsely : Prop := judgeFreeRow.holds Try.pinned (OpenSpec.ofChange judgeFreeWrong)

/-- 'waybilllaw31.JudgeTells': WHATEVER THE INPUT: true; the input reads as it did. -/
def judgeTellsSpec : ChangeSpec := { name := "judgeTells", fn := fun _ => fun
  | [d1, d2] => { results := [.lit (.bool true)], args := [d1, d2] }
  | _ => none }
def judgeTellsRow : OpenClaim := { program := "ytoingfnpffaopaa", sum := "ffdfd5c802bdae7f1e04a2f87205e4e04991cbc2ec0fd2b73e80445afc5c8878", func := "waybill/waybilllaw31.JudgeTells", spec := "judgeTells", unfollowed := true, recurses := true, plainKeys := false, apart := false }
def JudgeTellsSaid : Prop := judgeTellsRow.holds Try.pinned (OpenSpec.ofChange judgeTellsSpec)

/-- ITS FALSE NEIGHBOUR: 'it returns false'. Refute it at one input. -/
def judgeTellsWrong : ChangeSpec := { name := "judgeTells", fn := fun _ => fun
  | [d1, d2] => { results := [.lit (.bool false)], args := [d1, d2] }
  | _ => none }
def JudgeTellsWrongFalsely : Prop := judgeTellsRow.holds Try.pinned (OpenSpec.ofChange judgeTellsWrong)

/-- 'waybilllaw31.JudgeBegins': WHATEVER THE INPUT: true; the input reads as it did. -/
def judgeBeginsSpec : ChangeSpec := { name := "judgeBegins", fn := fun _ => fun
  | [d1, d2] => { results := [.lit (.bool true)], args := [d1, d2] }
  | _ => none }
def judgeBeginsRow : OpenClaim := { program := "ytoingfnpffaopaa", sum := "ffdfd5c802bdae7f1e04a2f87205e4e04991cbc2ec0fd2b73e80445afc5c8878", func := "waybill/waybilllaw31.JudgeBegins", spec := "judgeBegins", unfollowed := true, recurses := true, plainKeys := false, apart := false }
def JudgeBeginsSaid : Prop := judgeBeginsRow.holds Try.pinned (OpenSpec.ofChange judgeBeginsSpec)

/-- ITS FALSE NEIGHBOUR: 'it returns false'. Refute it at one input. -/
def judgeBeginsWrong : ChangeSpec := { name := "judgeBegins", fn := fun _ => fun
  | [d1, d2] => { results := [.lit (.bool false)], args := [d1, d2] }
  | _ => none }
def JudgeBeginsWrongFalsely : Prop := judgeBeginsRow.holds Try.pinned (OpenSpec.ofChange judgeBeginsWrong)

/-- 'waybilllaw31.JudgeApart': WHATEVER THE INPUT: true; the input reads as it did. -/
def judgeApartSpec : ChangeSpec := { name := "judgeApart", fn := fun _ => fun
  | [d1, d2, d3] => { results := [.lit (.bool true)], args := [d1, d2, d3] }
  | _ => none }
def judgeApartRow : OpenClaim := { program := "ytoingfnpffaopaa", sum := "ffdfd5c802bdae7f1e04a2f87205e4e04991cbc2ec0fd2b73e80445afc5c8878", func := "waybill/waybilllaw31.JudgeApart", spec := "judgeApart", unfollowed := true, recurses := true, plainKeys := false, apart := false }
def JudgeApartSaid : Prop := judgeApartRow.holds Try.pinned (OpenSpec.ofChange judgeApartSpec)

/-- ITS FALSE NEIGHBOUR: 'it returns false'. Refute it at one input. -/
def judgeApartWrong : ChangeSpec := { name := "judgeApart", fn := fun _ => fun
  | [d1, d2, d3] => { results := [.lit (.bool false)], args := [d1, d2, d3] }
  | _ => none }
def JudgeApartWrongFalsely : Prop := judgeApartRow.holds Try.pinned (OpenSpec.ofChange judgeApartWrong)

/- THE SECOND FORM. 'bulk': how many values and letters a reading holds, each counted each time it is reached (what is shared counts as often as it is met; a slice's spare places count too). A statement '..UptoSaid' is the law's where the arguments, and the package variables that the reading takes, are together of bulk at most 1048576: NARROWER than '..Said'. Prove '..Said' where nothing that the law and all that it calls make is longer than what came in: it says more and counts as full. Else prove '..UptoSaid'. A law counts once. -/
mutual
def uptoBulk {H : Type} : DataW H → Nat
  | .lit (.string bytes) => bytes.length + 1
  | .lit _ => 1
  | .nil => 1
  | .ptr d => uptoBulk d + 1
  | .slice elems spare => uptoBulkAll elems + uptoBulkAll spare + 1
  | .agg parts => uptoBulkAll parts + 1
  | .iface _ d => uptoBulk d + 1
  | .map entries => uptoBulkEntries entries + 1
  | .held _ => 1
def uptoBulkAll {H : Type} : List (DataW H) → Nat
  | [] => 0
  | d :: r => uptoBulk d + uptoBulkAll r
def uptoBulkEntries {H : Type} : List (Lit × DataW H) → Nat
  | [] => 0
  | x :: r => uptoBulkEntry x + uptoBulkEntries r
def uptoBulkEntry {H : Type} : Lit × DataW H → Nat
  | (.string bytes, d) => bytes.length + uptoBulk d + 1
  | (_, d) => uptoBulk d + 1
 end
def uptoSmall : (H : Type) → List (DataW H) → Bool := fun _ ds => decide (uptoBulkAll ds ≤ 1048576)
def OpenSpec.upto (s : _root_.Go.ChangeSpec) : _root_.Go.OpenSpec := { _root_.Go.OpenSpec.ofChange s with cond := some uptoSmall }

/-- 'waybilllaw31.JudgeTwice', WHERE WHAT IT READS IS OF BULK AT MOST 1048576: true; the input reads as it did. -/
def judgeTwiceUptoRow : OpenClaim := { program := "ytoingfnpffaopaa", sum := "ffdfd5c802bdae7f1e04a2f87205e4e04991cbc2ec0fd2b73e80445afc5c8878", func := "waybill/waybilllaw31.JudgeTwice", spec := "judgeTwice", unfollowed := true, recurses := true, plainKeys := false, apart := false, narrowed := true }
def JudgeTwiceUptoSaid : Prop := judgeTwiceUptoRow.holds Try.pinned (OpenSpec.upto judgeTwiceSpec)

/-- 'waybilllaw31.JudgeFree', WHERE WHAT IT READS IS OF BULK AT MOST 1048576: true; the input reads as it did. -/
def judgeFreeUptoRow : OpenClaim := { program := "ytoingfnpffaopaa", sum := "ffdfd5c802bdae7f1e04a2f87205e4e04991cbc2ec0fd2b73e80445afc5c8878", func := "waybill/waybilllaw31.JudgeFree", spec := "judgeFree", unfollowed := true, recurses := true, plainKeys := false, apart := false, narrowed := true }
def JudgeFreeUptoSaid : Prop := judgeFreeUptoRow.holds Try.pinned (OpenSpec.upto judgeFreeSpec)

/-- 'waybilllaw31.JudgeTells', WHERE WHAT IT READS IS OF BULK AT MOST 1048576: true; the input reads as it did. -/
def judgeTellsUptoRow : OpenClaim := { program := "ytoingfnpffaopaa", sum := "ffdfd5c802bdae7f1e04a2f87205e4e04991cbc2ec0fd2b73e80445afc5c8878", func := "waybill/waybilllaw31.JudgeTells", spec := "judgeTells", unfollowed := true, recurses := true, plainKeys := false, apart := false, narrowed := true }
def JudgeTellsUptoSaid : Prop := judgeTellsUptoRow.holds Try.pinned (OpenSpec.upto judgeTellsSpec)

/-- 'waybilllaw31.JudgeBegins', WHERE WHAT IT READS IS OF BULK AT MOST 1048576: true; the input reads as it did. -/
def judgeBeginsUptoRow : OpenClaim := { program := "ytoingfnpffaopaa", sum := "ffdfd5c802bdae7f1e04a2f87205e4e04991cbc2ec0fd2b73e80445afc5c8878", func := "waybill/waybilllaw31.JudgeBegins", spec := "judgeBegins", unfollowed := true, recurses := true, plainKeys := false, apart := false, narrowed := true }
def JudgeBeginsUptoSaid : Prop := judgeBeginsUptoRow.holds Try.pinned (OpenSpec.upto judgeBeginsSpec)

/-- 'waybilllaw31.JudgeApart', WHERE WHAT IT READS IS OF BULK AT MOST 1048576: true; the input reads as it did. -/
def judgeApartUptoRow : OpenClaim := { program := "ytoingfnpffaopaa", sum := "ffdfd5c802bdae7f1e04a2f87205e4e04991cbc2ec0fd2b73e80445afc5c8878", func := "waybill/waybilllaw31.JudgeApart", spec := "judgeApart", unfollowed := true, recurses := true, plainKeys := false, apart := false, narrowed := true }
def JudgeApartUptoSaid : Prop := judgeApartUptoRow.holds Try.pinned (OpenSpec.upto judgeApartSpec)

end Rows
end Go.Proofs.Ytoingfnpffaopaa
