/-
  A statement of a function, taken out of its text: for lemmas on a part of a walk. Conditions: none.
-/
import Derived.Test.YthjanhfjehccoaaBase
namespace Go.Proofs.Ythjanhfjehccoaa
set_option linter.unusedVariables false
set_option linter.unusedSimpArgs false
open Go.RowKit

def codeSub (p : Code → Bool) : Code → Option Code
  | .skip => if p .skip then some .skip else none
  | .region i o d => if p (.region i o d) then some (.region i o d) else none
  | .seq a b => if p (.seq a b) then some (.seq a b) else match codeSub p a with
    | some c => some c
    | none => codeSub p b
  | .cond c a b => if p (.cond c a b) then some (.cond c a b) else match codeSub p a with
    | some c => some c
    | none => codeSub p b
  | .block i b => if p (.block i b) then some (.block i b) else codeSub p b
  | .loop b => if p (.loop b) then some (.loop b) else codeSub p b
  | .rangeFunc f q a b => if p (.rangeFunc f q a b) then some (.rangeFunc f q a b) else match codeSub p a with
    | some c => some c
    | none => codeSub p b
  | .scope b => if p (.scope b) then some (.scope b) else codeSub p b
  | _ => none
def isBlock (n : Nat) : Code → Bool
  | .block i _ => i == n
  | _ => false
def isRegion (n : Nat) : Code → Bool
  | .region i _ _ => i == n
  | _ => false
/-- The block n of a function. -/
def blockOf (f : Func) (n : Nat) : Code := (f.body.bind (codeSub (isBlock n))).getD .skip
def regionOf (f : Func) (n : Nat) : Code := (f.body.bind (codeSub (isRegion n))).getD .skip
end Go.Proofs.Ythjanhfjehccoaa
