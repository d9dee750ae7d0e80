/- A region of a function's code, by its number. Conditions: none. -/
import Derived.Test.YtoingfnpffaopaaPre
namespace Go.Proofs.Ytoingfnpffaopaa
open Go.RowKit

/-- The region with this number. -/
def regionAt (n : Nat) : Code → Option Code
  | .region m ops d => if m = n then some (.region m ops d) else none
  | .seq a b => match regionAt n a with
    | some c => some c
    | none => regionAt n b
  | .cond _ a b => match regionAt n a with
    | some c => some c
    | none => regionAt n b
  | .block _ c => regionAt n c
  | .loop c => regionAt n c
  | .scope c => regionAt n c
  | _ => none

/-- The long guard of JudgeBegins. -/
noncomputable def r11 : Code := ((Try.f6.body.bind (regionAt 11)).getD .skip)
end Go.Proofs.Ytoingfnpffaopaa
