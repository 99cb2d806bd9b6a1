/- Plain Lean functions for functions of the Go text, and that each call comes to what its function says; written by a program of this workplace (wip/gen.py) out of the translation; no condition beyond those that each theorem names. -/
import Derived.Test.YtphbdoljkpdflaaZFnCodeBent5
import Derived.Test.YtphbdoljkpdflaaZFnCodeBent19
import Derived.Test.YtphbdoljkpdflaaZFnCodeBent22
namespace Go.Proofs.Ytphbdoljkpdflaa.P
open Go.RowKit Go.Proofs.YtphbdoljkpdflaaW.PrintWords Go.Proofs.YtphbdoljkpdflaaW.PrintLast Go.Proofs.YtphbdoljkpdflaaW.PrintMore
attribute [local go_sem] max2_int min2_int max_two min_two max_three min_three max_four min_four
set_option linter.unusedVariables false
set_option linter.unusedSimpArgs false
def impl_CodeOf.f (k : Nat) (l0 : List (S46)) : Option ((List (S42))):=(impl_StmtsOk.f k l0).bind fun t358=>(if t358 = true then ((impl_codeOf.f k l0).bind fun t359=>(some t359)) else (some ([] : List (S42))))
end Go.Proofs.Ytphbdoljkpdflaa.P
