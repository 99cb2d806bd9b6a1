-- PRINTED BY print.sh 35421559b90ae4d0a3588c463048766b98c2df88dd9212a6774a882060cdf62d: not written by this session
import Derived.Test.YtjplcmffdhngmaaProg
import Derived.Below
import Derived.Deep.Draws
import Derived.Deep.AppendLies
import Derived.Maps.AppendAt
import Derived.OwnWalk
import Derived.Laws.BytesArg
import Derived.Laws.MakeOwn
import Derived.Laws.OwnMore
import Derived.Deep.OwnRows
import Derived.Tactics
import Derived.Lib.ConvBytes
import Derived.Laws.Slices
import Derived.WalkKit
import Derived.KernelRfl
import Derived.RowKit3
import Derived.Deep.LoopGhost
import Derived.Deep.QuietTactic
import Derived.BigQuiet
import Derived.WideLaws
import Derived.Deep.DeepCutAuto
import Derived.Deep.CutBlock
import Derived.Deep.RegionHeld3
import Derived.Laws.Rows
import Derived.Lib.AppendStr
import Derived.ArgAppend
import Derived.Laws.IdiomCopy
import Derived.OrdersHeld
import Derived.Laws.BitsLemmas
import Derived.RowKit
import Derived.Test.YtjplcmffdhngmaaWWords
import Derived.Test.YtjplcmffdhngmaaWLast
import Derived.Test.YtjplcmffdhngmaaWTab
import Derived.Test.YtjplcmffdhngmaaWFour
import Derived.Test.YtjplcmffdhngmaaWQPut
import Derived.Test.YtjplcmffdhngmaaWApart
import Derived.Test.YtjplcmffdhngmaaWArr
import Derived.Test.YtjplcmffdhngmaaWZeros
import Derived.Test.YtjplcmffdhngmaaWFoot
import Derived.Test.YtjplcmffdhngmaaWKept
import Derived.Test.YtjplcmffdhngmaaWShare
import Derived.Test.YtjplcmffdhngmaaWN
import Derived.Test.YtjplcmffdhngmaaWFootNe
import Derived.Test.YtjplcmffdhngmaaWAt
import Derived.Test.YtjplcmffdhngmaaWEqStruct
import Derived.Test.YtjplcmffdhngmaaWRepsOne
import Derived.Test.YtjplcmffdhngmaaWInv
import Derived.Test.YtjplcmffdhngmaaWInvWords
import Derived.Test.YtjplcmffdhngmaaWGuard
import Derived.Test.YtjplcmffdhngmaaWNEv
import Derived.Test.YtjplcmffdhngmaaWMore
namespace Go.Proofs.Ytjplcmffdhngmaa.PFnExactNumOk
open Go.RowKit Go.Proofs.YtjplcmffdhngmaaW.PrintWords Go.Proofs.YtjplcmffdhngmaaW.PrintLast Go.Proofs.YtjplcmffdhngmaaW.PrintMore
attribute [local go_sem] max2_int min2_int max_two min_two max_three min_three max_four min_four   -- for this text's walks alone
set_option linter.unusedVariables false
set_option linter.unusedSimpArgs false



def errW : Option Int → Value
  | none => .nilIface
  | some c => .iface 0 (.int .i64 c)
theorem errW_none : errW none = .nilIface := rfl
theorem errW_some (c : Int) : errW (some c) = .iface 0 (.int .i64 c) := rfl

-- the values' own types

end Go.Proofs.Ytjplcmffdhngmaa.PFnExactNumOk
