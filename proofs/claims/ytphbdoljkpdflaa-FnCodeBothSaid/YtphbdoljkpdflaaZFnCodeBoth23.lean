/- The two checks of code come to one: each instruction by itself, and the rooms, by the same ways; code whose rooms fit is right; no condition but that code is no giant. -/
import Derived.Test.YtphbdoljkpdflaaZFnCodeBoth20
import Derived.Test.YtphbdoljkpdflaaZFnCodeBoth5
import Derived.Test.YtphbdoljkpdflaaZFnCodeBoth15
import Derived.Test.YtphbdoljkpdflaaZFnCodeBoth22
namespace Go.Proofs.Ytphbdoljkpdflaa.P
open Go.RowKit Go.Proofs.YtphbdoljkpdflaaW.PrintWords Go.Proofs.YtphbdoljkpdflaaW.PrintMore
set_option linter.unusedVariables false
set_option linter.unusedSimpArgs false
def OkI (c : List S42) (j : Nat) : Prop:=insB (rd_T42 c j).f0 (rd_T42 c j).f1 (rd_T42 c j).f2 (rd_T42 c j).f3 (c.length : Int) = true ∧ ((rd_T42 c j).f0 = 13 ↔ j + 1 = c.length)
structure BInv (c : List S42) (rooms pend : List Int) : Prop where
  len : rooms.length = c.length
  rng : ∀ v ∈ rooms,-2 ≤ v ∧ v ≤ 1
  pend : ∀ p ∈ pend,0 ≤ p ∧ p < (c.length : Int) ∧ rd rooms p ≠ -2
def LabOk (c : List S42) (rooms : List Int) : Prop:=∀ j : Nat,j < c.length → rd rooms (j : Int) = -2 ∨ rd rooms (j : Int) = labI c j
def Both (c : List S42) (rooms todo : List Int) (x7 : Nat) : Prop :=
  ∃ b : Bool,Ev (fun k=>impl_roomsOk.l0 k c rooms (todo.drop x7)) b ∧ (∃ rs,Ev (fun k=>spec_l4Rooms.l1 k c (rooms.map (· + 1)) todo (x7 : Int)) (rs,b)) ∧ ((∀ j,j < c.length → FitI c 0 c.length j) → LabOk c rooms → b = true)
end Go.Proofs.Ytphbdoljkpdflaa.P
