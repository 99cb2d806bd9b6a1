/- The draws' reader: a pick lies below its bound, the place goes on by one; no condition beyond bytes and a place below 10^12. -/
import Derived.Test.YtnegnanlbdncmaaDoorZFnExactStmtsText12
import Derived.Test.YtnegnanlbdncmaaDoorZFnExactStmtsText8
namespace Go.Proofs.YtnegnanlbdncmaaDoor.P
open Go.RowKit Go.Proofs.YtnegnanlbdncmaaDoorW.PrintWords Go.Proofs.YtnegnanlbdncmaaDoorW.PrintMore
end Go.Proofs.YtnegnanlbdncmaaDoor.P
