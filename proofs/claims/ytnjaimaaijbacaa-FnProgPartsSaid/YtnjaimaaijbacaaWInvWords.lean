import Derived.Test.YtnjaimaaijbacaaWInv
import Derived.Test.YtnjaimaaijbacaaWFootNe
namespace Go.Proofs.YtnjaimaaijbacaaW.PrintWords
open Go.RowKit
end Go.Proofs.YtnjaimaaijbacaaW.PrintWords
namespace Go.Proofs.YtnjaimaaijbacaaW.PrintLast
section
variable {ops : Array Oper} {a : Act} {o og : Oper} {g : Nat} {t : Tmp} {u : Bool}
end
end Go.Proofs.YtnjaimaaijbacaaW.PrintLast
