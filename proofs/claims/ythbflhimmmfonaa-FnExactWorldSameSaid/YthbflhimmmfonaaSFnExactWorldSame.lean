/- Plain Lean functions for functions of the Go text, and that each call comes to what its function says; written by a program of this workplace (wip/gen.py) out of the translation; no condition beyond those that each theorem names. -/
import Derived.Test.YthbflhimmmfonaaFLawsFnExactWorldSame
namespace Go.Proofs.Ythbflhimmmfonaa.P
open Go.RowKit Go.Proofs.YthbflhimmmfonaaW.PrintWords Go.Proofs.YthbflhimmmfonaaW.PrintLast Go.Proofs.YthbflhimmmfonaaW.PrintMore
attribute [local go_sem] max2_int min2_int max_two min_two max_three min_three max_four min_four
set_option linter.unusedVariables false
set_option linter.unusedSimpArgs false
def laws_FnExactWorldSame.Pure : Prop := ∀ (l0_0 : List (S117)) (l0_1 : List Int) (l0_2 : List Int) (l0_3 : List (List Int)) (l0_4 : List (S112)) (l1_0 : List (S117)) (l1_1 : List Int) (l1_2 : List Int) (l1_3 : List (List Int)) (l1_4 : List (S112)), (∃ (w : World) (A : Option Addr), Kd.C (k117) w A l0_0.length l0_0) → l0_1.length ≤ 9223372036854775807 → l0_2.length ≤ 9223372036854775807 → (∃ (w : World) (A : Option Addr), Kd.C ((Kd.slice 3 (Kd.int .i64))) w A l0_3.length l0_3) → l0_4.length ≤ 9223372036854775807 → (∃ (w : World) (A : Option Addr), Kd.C (k117) w A l1_0.length l1_0) → l1_1.length ≤ 9223372036854775807 → l1_2.length ≤ 9223372036854775807 → (∃ (w : World) (A : Option Addr), Kd.C ((Kd.slice 3 (Kd.int .i64))) w A l1_3.length l1_3) → l1_4.length ≤ 9223372036854775807 → ∃ k, laws_FnExactWorldSame.f k l0_0 l0_1 l0_2 l0_3 l0_4 l1_0 l1_1 l1_2 l1_3 l1_4 = some true
end Go.Proofs.Ythbflhimmmfonaa.P
