/- Plain Lean functions for functions of the Go text, and that each call comes to what its function says; written by a program of this workplace (wip/gen.py) out of the translation; no condition beyond those that each theorem names. -/
import Derived.Test.YtnjaimaaijbacaaFLawsFnExactProgOk
namespace Go.Proofs.Ytnjaimaaijbacaa.P
open Go.RowKit Go.Proofs.YtnjaimaaijbacaaW.PrintWords Go.Proofs.YtnjaimaaijbacaaW.PrintLast Go.Proofs.YtnjaimaaijbacaaW.PrintMore
attribute [local go_sem] max2_int min2_int max_two min_two max_three min_three max_four min_four
set_option linter.unusedVariables false
set_option linter.unusedSimpArgs false

def laws_FnExactProgOk.Pure : Prop := ∀ (l0 : List (List (S24))), (∃ (w : World) (A : Option Addr), Kd.C ((Kd.slice 24 k24)) w A l0.length l0) → ∃ k, laws_FnExactProgOk.f k l0 = some true
end Go.Proofs.Ytnjaimaaijbacaa.P
