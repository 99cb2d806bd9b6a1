/- Plain Lean functions for functions of the Go text, and that each call comes to what its function says; written by a program of this workplace (wip/gen.py) out of the translation; no condition beyond those that each theorem names. -/
import Derived.Test.YtnjaimaaijbacaaFLawsFnExactStmtsSame
namespace Go.Proofs.Ytnjaimaaijbacaa.P
open Go.RowKit Go.Proofs.YtnjaimaaijbacaaW.PrintWords Go.Proofs.YtnjaimaaijbacaaW.PrintLast Go.Proofs.YtnjaimaaijbacaaW.PrintMore
attribute [local go_sem] max2_int min2_int max_two min_two max_three min_three max_four min_four
set_option linter.unusedVariables false
set_option linter.unusedSimpArgs false

def laws_FnExactStmtsSame.Pure : Prop := ∀ (l0 : List (S24)) (l1 : List (S24)), (∃ (w : World) (A : Option Addr), Kd.C (k24) w A l0.length l0) → (∃ (w : World) (A : Option Addr), Kd.C (k24) w A l1.length l1) → ∃ k, laws_FnExactStmtsSame.f k l0 l1 = some true
end Go.Proofs.Ytnjaimaaijbacaa.P
