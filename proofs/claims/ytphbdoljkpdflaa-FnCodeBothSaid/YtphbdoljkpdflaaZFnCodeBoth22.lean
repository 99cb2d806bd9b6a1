/- Parts of the proof of FnCodeBoth: plain Lean functions of Go functions, and that the calls come to what they say; no condition beyond those that each theorem names. -/
import Derived.Test.YtphbdoljkpdflaaZFnCodeBoth5
import Derived.Test.YtphbdoljkpdflaaZFnCodeBoth15
import Derived.Laws.CopyOwn
import Derived.Deep.RegionLaw
import Derived.Laws.BitsAllLaws
import Derived.IntWalk
import Derived.Deep.DrawnRows
import Derived.Test.YtphbdoljkpdflaaZFnCodeBoth4
namespace Go.Proofs.Ytphbdoljkpdflaa.P
open Go.RowKit Go.Proofs.YtphbdoljkpdflaaW.PrintWords Go.Proofs.YtphbdoljkpdflaaW.PrintLast Go.Proofs.YtphbdoljkpdflaaW.PrintMore
attribute [local go_sem] max2_int min2_int max_two min_two max_three min_three max_four min_four
attribute [local go_sem ↓] Go.wp_at_zero Go.wp_at_succ
set_option linter.unusedVariables false
set_option linter.unusedSimpArgs false
def slices_Repeat_int_int.f (l0 : List Int) (a1 : Int) : Option (List Int):=if l0.length = 1 ∧ 1 ≤ a1 ∧ a1 ≤ 1000000 then some (List.replicate a1.toNat (rd l0 0)) else none
end Go.Proofs.Ytphbdoljkpdflaa.P

namespace Go.Proofs.Ytphbdoljkpdflaa.P
open Go.RowKit Go.Proofs.YtphbdoljkpdflaaW.PrintWords Go.Proofs.YtphbdoljkpdflaaW.PrintLast Go.Proofs.YtphbdoljkpdflaaW.PrintMore
attribute [local go_sem] max2_int min2_int max_two min_two max_three min_three max_four min_four
set_option linter.unusedVariables false
set_option linter.unusedSimpArgs false
mutual
def impl_roomsOk.l0 : Nat → List (S42) → List Int → List Int → Option (Bool)
 | 0,_,_,_=>none
 | k + 1,x0,x3,x4=>if (x4.length : Int) > 0 then (if 0 < (x4.length : Int) then (if 1 ≤ (x4.length : Int) then (if 0 ≤ (rd x4 0) then (if (rd x4 0) < (x0.length : Int) then (if (rd x4 0) < (x3.length : Int) then ((impl_Ins_moves.f ((rd_T42 x0 (rd x4 0)).f0) ((rd_T42 x0 (rd x4 0)).f1) ((rd_T42 x0 (rd x4 0)).f2) ((rd_T42 x0 (rd x4 0)).f3) (rd x3 (rd x4 0))).bind fun bt198=>(if bt198.2 = true then ((impl_Ins_successors.f ((rd_T42 x0 (rd x4 0)).f0) ((rd_T42 x0 (rd x4 0)).f1) ((rd_T42 x0 (rd x4 0)).f2) ((rd_T42 x0 (rd x4 0)).f3) (rd x4 0)).bind fun t201=>(impl_roomsOk.l1 k x0 x3 (x4.drop (1 : Int).toNat) bt198.1 t201 (t201.length : Int) 0)) else (some false))) else (none)) else (none)) else (none)) else (none)) else (none)) else (some true)
def impl_roomsOk.l1 : Nat → List (S42) → List Int → List Int → Int → List Int → Int → Int → Option (Bool)
 | 0,_,_,_,_,_,_,_=>none
 | k + 1,x0,x3,x4,x6,x44,x45,x46=>if x46 < x45 then (if 0 ≤ x46 then (if x46 < (x44.length : Int) then (if 0 ≤ (rd x44 x46) then (if (rd x44 x46) < (x3.length : Int) then (if (rd x3 (rd x44 x46)) = (-2) then (if x4.length < 17592186044416 then (impl_roomsOk.l1 k x0 (x3.set ((rd x44 x46) : Int).toNat x6) (x4 ++ [rd x44 x46]) x6 x44 x45 (wrap64 (x46 + 1))) else (none)) else (if (rd x3 (rd x44 x46)) = x6 then (impl_roomsOk.l1 k x0 x3 x4 x6 x44 x45 (wrap64 (x46 + 1))) else (some false))) else (none)) else (none)) else (none)) else (none)) else (impl_roomsOk.l0 k x0 x3 x4)
end
def impl_roomsOk.f (k : Nat) (l0 : List (S42)) : Option (Bool):=(slices_Repeat_int_int.f (([(-2)] : List Int)) (l0.length : Int)).bind fun t185=>(if 0 < (t185.length : Int) then (impl_roomsOk.l0 k l0 (t185.set (0 : Int).toNat (-1)) (([0] : List Int))) else (none))
end Go.Proofs.Ytphbdoljkpdflaa.P

namespace Go.Proofs.Ytphbdoljkpdflaa.P
open Go.RowKit Go.Proofs.YtphbdoljkpdflaaW.PrintWords Go.Proofs.YtphbdoljkpdflaaW.PrintLast Go.Proofs.YtphbdoljkpdflaaW.PrintMore
attribute [local go_sem] max2_int min2_int max_two min_two max_three min_three max_four min_four
set_option linter.unusedVariables false
set_option linter.unusedSimpArgs false
mutual
def impl_CodeOk.j0 : Nat → List (S42) → Bool → Option (Bool)
 | 0,_,_=>none
 | k + 1,x0,x12=>if x12 = true then (some false) else (impl_CodeOk.l0 k x0 x0 (x0.length : Int) 0)
def impl_CodeOk.l0 : Nat → List (S42) → List (S42) → Int → Int → Option (Bool)
 | 0,_,_,_,_=>none
 | k + 1,x0,x13,x14,x15=>if x15 < x14 then (if 0 ≤ x15 then (if x15 < (x13.length : Int) then ((impl_insOk.f ((rd_T42 x13 x15).f0) ((rd_T42 x13 x15).f1) ((rd_T42 x13 x15).f2) ((rd_T42 x13 x15).f3) (x0.length : Int)).bind fun t212=>(if t212 = true then (if ((((rd_T42 x13 x15).f0) == 13) != (x15 == (wrap64 ((x0.length : Int) - 1)))) = true then (some false) else (impl_CodeOk.l0 k x0 x13 x14 (wrap64 (x15 + 1)))) else (some false))) else (none)) else (none)) else ((impl_roomsOk.f k x0).bind fun t213=>(some t213))
end
def impl_CodeOk.f (k : Nat) (l0 : List (S42)) : Option (Bool):=if (l0.length : Int) < 1 then (impl_CodeOk.j0 k l0 true) else (impl_CodeOk.j0 k l0 (decide ((l0.length : Int) > 60)))
end Go.Proofs.Ytphbdoljkpdflaa.P
