import Derived.Test.YthbflhimmmfonaaWInv
import Derived.Test.YthbflhimmmfonaaWFootNe
namespace Go.Proofs.YthbflhimmmfonaaW.PrintWords
open Go.RowKit
end Go.Proofs.YthbflhimmmfonaaW.PrintWords
namespace Go.Proofs.YthbflhimmmfonaaW.PrintLast
section
variable {ops : Array Oper} {a : Act} {o og : Oper} {g : Nat} {t : Tmp} {u : Bool}
end
end Go.Proofs.YthbflhimmmfonaaW.PrintLast
