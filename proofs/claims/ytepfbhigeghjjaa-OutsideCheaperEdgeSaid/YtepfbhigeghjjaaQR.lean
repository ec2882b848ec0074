/- A function's region by its number: so that a law on one region can be said by itself. No program is named. -/
import Derived.WalkKit
namespace Go.Proofs.Ytepfbhigeghjjaa.Q
set_option linter.unusedVariables false
set_option linter.unusedSimpArgs false
def regOf : Code → Nat → Option Code
  | .region i ops d, n => if i == n then some (.region i ops d) else none
  | .seq a b, n => match regOf a n with | some c => some c | none => regOf b n
  | .cond _ a b, n => match regOf a n with | some c => some c | none => regOf b n
  | .block _ b, n => regOf b n
  | .loop b, n => regOf b n
  | .scope b, n => regOf b n
  | _, _ => none
def reg (f : Func) (n : Nat) : Code := ((f.body.bind (fun c => regOf c n))).getD .skip
end Go.Proofs.Ytepfbhigeghjjaa.Q
