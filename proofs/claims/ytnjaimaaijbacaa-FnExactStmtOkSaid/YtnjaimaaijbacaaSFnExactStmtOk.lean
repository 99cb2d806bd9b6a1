/- Plain Lean functions for functions of the Go text, and that each call comes to what its function says; written by a program of this workplace (wip/gen.py) out of the translation; no condition beyond those that each theorem names. -/
import Derived.Test.YtnjaimaaijbacaaFLawsFnExactStmtOk
namespace Go.Proofs.Ytnjaimaaijbacaa.P
open Go.RowKit Go.Proofs.YtnjaimaaijbacaaW.PrintWords Go.Proofs.YtnjaimaaijbacaaW.PrintLast Go.Proofs.YtnjaimaaijbacaaW.PrintMore
attribute [local go_sem] max2_int min2_int max_two min_two max_three min_three max_four min_four
set_option linter.unusedVariables false
set_option linter.unusedSimpArgs false

def laws_FnExactStmtOk.Pure : Prop := ∀ (a0_0 : Int) (a0_1 : Int) (a0_2 : Int) (a0_3 : Int) (l0_4 : List (S24)) (l0_5 : List (S24)) (a1 : Int) (a2 : Int), (∃ (w : World) (A : Option Addr), Kd.C (k24) w A l0_4.length l0_4) → (∃ (w : World) (A : Option Addr), Kd.C (k24) w A l0_5.length l0_5) → (Lit.int .i64 a1).wf = true → (Lit.int .i64 a2).wf = true → ∃ k, laws_FnExactStmtOk.f k a0_0 a0_1 a0_2 a0_3 l0_4 l0_5 a1 a2 = some true
end Go.Proofs.Ytnjaimaaijbacaa.P
