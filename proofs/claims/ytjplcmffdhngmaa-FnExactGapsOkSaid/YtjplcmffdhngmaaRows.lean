/-
  No cell of these rows narrows 'for every input' (looked for: loops, veiled, ifaces, maps, wideKeys, modest, calm, conditions, laid).
  DERIVED. THE GIVEN ROWS OF THIS SEAT. 12 by the template 'for every input the law returns true; each argument reads behind the call as it read before'; 0 by the template 'total and deterministic' (their statements: YtjplcmffdhngmaaTotals.lean).
  GIVEN WITH THE SEED: the statements are not yours to turn. If you find one false, say at which input.
  Laid BY PROGRAM, IN A SANDBOX (cutbox-rows.mjs): the forced cells as the released guide's own fill.sh prints them over the translation 7c497c9b1e4b74f5… (all of the seat's roots in one cut). By AI agents, Wed Nov 11 2026. No macro, syntax, notation, axiom, sorry.
-/
import Derived.Test.YtjplcmffdhngmaaChecked
import GoSem.Claim
import GoSem.ClaimJoined
import GoSem.ClaimMapViews
import Derived.JoinedTies
import Derived.KernelRfl
namespace Go.Proofs.Ytjplcmffdhngmaa
/- THE CELL 'sum', in the pinned program and in every row, IS THE sha256 OF THE DUMP (.gsa) THAT YtjplcmffdhngmaaProg.lean LOADS. Nothing in Lean hashes anything: it is a label: what it is worth is what the hold of that sum in a sandbox is worth. -/
noncomputable def Try.pinned : Pinned := { name := "ytjplcmffdhngmaa", sum := "7c497c9b1e4b74f54bd9f22964af65810b202e67fa25c86522601d9a1efd6daa", checked := Try.checked }
namespace Rows
def none {H : Type} : Left H := { results := [], args := [] }

/-- 'laws.FnExactConstants': WHATEVER THE INPUT: true; the input reads as it did. -/
def fnExactConstantsSpec : ChangeSpec := { name := "fnExactConstants", fn := fun _ => fun
  | [] => { results := [.lit (.bool true)], args := [] }
  | _ => none }
def fnExactConstantsRow : OpenClaim := { program := "ytjplcmffdhngmaa", sum := "7c497c9b1e4b74f54bd9f22964af65810b202e67fa25c86522601d9a1efd6daa", func := "loop.example/changeringer/laws.FnExactConstants", spec := "fnExactConstants", apart := false }
def FnExactConstantsSaid : Prop := fnExactConstantsRow.holds Try.pinned (OpenSpec.ofChange fnExactConstantsSpec)

/-- ITS FALSE NEIGHBOUR: 'it returns false'. Refute it at one input. -/
def fnExactConstantsWrong : ChangeSpec := { name := "fnExactConstants", fn := fun _ => fun
  | [] => { results := [.lit (.bool false)], args := [] }
  | _ => none }
def FnExactConstantsWrongFalsely : Prop := fnExactConstantsRow.holds Try.pinned (OpenSpec.ofChange fnExactConstantsWrong)

/-- 'laws.FnExactNumOk': WHATEVER THE INPUT: true; the input reads as it did. -/
def fnExactNumOkSpec : ChangeSpec := { name := "fnExactNumOk", fn := fun _ => fun
  | [d] => { results := [.lit (.bool true)], args := [d] }
  | _ => none }
def fnExactNumOkRow : OpenClaim := { program := "ytjplcmffdhngmaa", sum := "7c497c9b1e4b74f54bd9f22964af65810b202e67fa25c86522601d9a1efd6daa", func := "loop.example/changeringer/laws.FnExactNumOk", spec := "fnExactNumOk", apart := false }
def FnExactNumOkSaid : Prop := fnExactNumOkRow.holds Try.pinned (OpenSpec.ofChange fnExactNumOkSpec)

/-- ITS FALSE NEIGHBOUR: 'it returns false'. Refute it at one input. -/
def fnExactNumOkWrong : ChangeSpec := { name := "fnExactNumOk", fn := fun _ => fun
  | [d] => { results := [.lit (.bool false)], args := [d] }
  | _ => none }
def FnExactNumOkWrongFalsely : Prop := fnExactNumOkRow.holds Try.pinned (OpenSpec.ofChange fnExactNumOkWrong)

/-- 'laws.FnExactNumCut': WHATEVER THE INPUT: true; the input reads as it did. -/
def fnExactNumCutSpec : ChangeSpec := { name := "fnExactNumCut", fn := fun _ => fun
  | [d] => { results := [.lit (.bool true)], args := [d] }
  | _ => none }
def fnExactNumCutRow : OpenClaim := { program := "ytjplcmffdhngmaa", sum := "7c497c9b1e4b74f54bd9f22964af65810b202e67fa25c86522601d9a1efd6daa", func := "loop.example/changeringer/laws.FnExactNumCut", spec := "fnExactNumCut", apart := false }
def FnExactNumCutSaid : Prop := fnExactNumCutRow.holds Try.pinned (OpenSpec.ofChange fnExactNumCutSpec)

/-- ITS FALSE NEIGHBOUR: 'it returns false'. Refute it at one input. -/
def fnExactNumCutWrong : ChangeSpec := { name := "fnExactNumCut", fn := fun _ => fun
  | [d] => { results := [.lit (.bool false)], args := [d] }
  | _ => none }
def FnExactNumCutWrongFalsely : Prop := fnExactNumCutRow.holds Try.pinned (OpenSpec.ofChange fnExactNumCutWrong)

/-- 'laws.FnExactGapsOk': WHATEVER THE INPUT: true; the input reads as it did. -/
def fnExactGapsOkSpec : ChangeSpec := { name := "fnExactGapsOk", fn := fun _ => fun
  | [d] => { results := [.lit (.bool true)], args := [d] }
  | _ => none }
def fnExactGapsOkRow : OpenClaim := { program := "ytjplcmffdhngmaa", sum := "7c497c9b1e4b74f54bd9f22964af65810b202e67fa25c86522601d9a1efd6daa", func := "loop.example/changeringer/laws.FnExactGapsOk", spec := "fnExactGapsOk", unfollowed := true, recurses := true, apart := false }
def FnExactGapsOkSaid : Prop := fnExactGapsOkRow.holds Try.pinned (OpenSpec.ofChange fnExactGapsOkSpec)

/-- ITS FALSE NEIGHBOUR: 'it returns false'. Refute it at one input. -/
def fnExactGapsOkWrong : ChangeSpec := { name := "fnExactGapsOk", fn := fun _ => fun
  | [d] => { results := [.lit (.bool false)], args := [d] }
  | _ => none }
def FnExactGapsOkWrongFalsely : Prop := fnExactGapsOkRow.holds Try.pinned (OpenSpec.ofChange fnExactGapsOkWrong)

/-- 'laws.FnNumCut': WHATEVER THE INPUT: true; the input reads as it did. -/
def fnNumCutSpec : ChangeSpec := { name := "fnNumCut", fn := fun _ => fun
  | [d1, d2] => { results := [.lit (.bool true)], args := [d1, d2] }
  | _ => none }
def fnNumCutRow : OpenClaim := { program := "ytjplcmffdhngmaa", sum := "7c497c9b1e4b74f54bd9f22964af65810b202e67fa25c86522601d9a1efd6daa", func := "loop.example/changeringer/laws.FnNumCut", spec := "fnNumCut", apart := false }
def FnNumCutSaid : Prop := fnNumCutRow.holds Try.pinned (OpenSpec.ofChange fnNumCutSpec)

/-- ITS FALSE NEIGHBOUR: 'it returns false'. Refute it at one input. -/
def fnNumCutWrong : ChangeSpec := { name := "fnNumCut", fn := fun _ => fun
  | [d1, d2] => { results := [.lit (.bool false)], args := [d1, d2] }
  | _ => none }
def FnNumCutWrongFalsely : Prop := fnNumCutRow.holds Try.pinned (OpenSpec.ofChange fnNumCutWrong)

/-- 'laws.FnExactClockUnder': WHATEVER THE INPUT: true; the input reads as it did. -/
def fnExactClockUnderSpec : ChangeSpec := { name := "fnExactClockUnder", fn := fun _ => fun
  | [d1, d2] => { results := [.lit (.bool true)], args := [d1, d2] }
  | _ => none }
def fnExactClockUnderRow : OpenClaim := { program := "ytjplcmffdhngmaa", sum := "7c497c9b1e4b74f54bd9f22964af65810b202e67fa25c86522601d9a1efd6daa", func := "loop.example/changeringer/laws.FnExactClockUnder", spec := "fnExactClockUnder", apart := false }
def FnExactClockUnderSaid : Prop := fnExactClockUnderRow.holds Try.pinned (OpenSpec.ofChange fnExactClockUnderSpec)

/-- ITS FALSE NEIGHBOUR: 'it returns false'. Refute it at one input. -/
def fnExactClockUnderWrong : ChangeSpec := { name := "fnExactClockUnder", fn := fun _ => fun
  | [d1, d2] => { results := [.lit (.bool false)], args := [d1, d2] }
  | _ => none }
def FnExactClockUnderWrongFalsely : Prop := fnExactClockUnderRow.holds Try.pinned (OpenSpec.ofChange fnExactClockUnderWrong)

/-- 'laws.FnExactClockJoin': WHATEVER THE INPUT: true; the input reads as it did. -/
def fnExactClockJoinSpec : ChangeSpec := { name := "fnExactClockJoin", fn := fun _ => fun
  | [d1, d2] => { results := [.lit (.bool true)], args := [d1, d2] }
  | _ => none }
def fnExactClockJoinRow : OpenClaim := { program := "ytjplcmffdhngmaa", sum := "7c497c9b1e4b74f54bd9f22964af65810b202e67fa25c86522601d9a1efd6daa", func := "loop.example/changeringer/laws.FnExactClockJoin", spec := "fnExactClockJoin", apart := false }
def FnExactClockJoinSaid : Prop := fnExactClockJoinRow.holds Try.pinned (OpenSpec.ofChange fnExactClockJoinSpec)

/-- ITS FALSE NEIGHBOUR: 'it returns false'. Refute it at one input. -/
def fnExactClockJoinWrong : ChangeSpec := { name := "fnExactClockJoin", fn := fun _ => fun
  | [d1, d2] => { results := [.lit (.bool false)], args := [d1, d2] }
  | _ => none }
def FnExactClockJoinWrongFalsely : Prop := fnExactClockJoinRow.holds Try.pinned (OpenSpec.ofChange fnExactClockJoinWrong)

/-- 'laws.FnExactCodeSame': WHATEVER THE INPUT: true; the input reads as it did. -/
def fnExactCodeSameSpec : ChangeSpec := { name := "fnExactCodeSame", fn := fun _ => fun
  | [d1, d2] => { results := [.lit (.bool true)], args := [d1, d2] }
  | _ => none }
def fnExactCodeSameRow : OpenClaim := { program := "ytjplcmffdhngmaa", sum := "7c497c9b1e4b74f54bd9f22964af65810b202e67fa25c86522601d9a1efd6daa", func := "loop.example/changeringer/laws.FnExactCodeSame", spec := "fnExactCodeSame", apart := false }
def FnExactCodeSameSaid : Prop := fnExactCodeSameRow.holds Try.pinned (OpenSpec.ofChange fnExactCodeSameSpec)

/-- ITS FALSE NEIGHBOUR: 'it returns false'. Refute it at one input. -/
def fnExactCodeSameWrong : ChangeSpec := { name := "fnExactCodeSame", fn := fun _ => fun
  | [d1, d2] => { results := [.lit (.bool false)], args := [d1, d2] }
  | _ => none }
def FnExactCodeSameWrongFalsely : Prop := fnExactCodeSameRow.holds Try.pinned (OpenSpec.ofChange fnExactCodeSameWrong)

/-- 'laws.FnExactMarkAhead': WHATEVER THE INPUT: true; the input reads as it did. -/
def fnExactMarkAheadSpec : ChangeSpec := { name := "fnExactMarkAhead", fn := fun _ => fun
  | [d1, d2] => { results := [.lit (.bool true)], args := [d1, d2] }
  | _ => none }
def fnExactMarkAheadRow : OpenClaim := { program := "ytjplcmffdhngmaa", sum := "7c497c9b1e4b74f54bd9f22964af65810b202e67fa25c86522601d9a1efd6daa", func := "loop.example/changeringer/laws.FnExactMarkAhead", spec := "fnExactMarkAhead", apart := false }
def FnExactMarkAheadSaid : Prop := fnExactMarkAheadRow.holds Try.pinned (OpenSpec.ofChange fnExactMarkAheadSpec)

/-- ITS FALSE NEIGHBOUR: 'it returns false'. Refute it at one input. -/
def fnExactMarkAheadWrong : ChangeSpec := { name := "fnExactMarkAhead", fn := fun _ => fun
  | [d1, d2] => { results := [.lit (.bool false)], args := [d1, d2] }
  | _ => none }
def FnExactMarkAheadWrongFalsely : Prop := fnExactMarkAheadRow.holds Try.pinned (OpenSpec.ofChange fnExactMarkAheadWrong)

/-- 'laws.FnClockUnder': WHATEVER THE INPUT: true; the input reads as it did. -/
def fnClockUnderSpec : ChangeSpec := { name := "fnClockUnder", fn := fun _ => fun
  | [d1, d2] => { results := [.lit (.bool true)], args := [d1, d2] }
  | _ => none }
def fnClockUnderRow : OpenClaim := { program := "ytjplcmffdhngmaa", sum := "7c497c9b1e4b74f54bd9f22964af65810b202e67fa25c86522601d9a1efd6daa", func := "loop.example/changeringer/laws.FnClockUnder", spec := "fnClockUnder", apart := false }
def FnClockUnderSaid : Prop := fnClockUnderRow.holds Try.pinned (OpenSpec.ofChange fnClockUnderSpec)

/-- ITS FALSE NEIGHBOUR: 'it returns false'. Refute it at one input. -/
def fnClockUnderWrong : ChangeSpec := { name := "fnClockUnder", fn := fun _ => fun
  | [d1, d2] => { results := [.lit (.bool false)], args := [d1, d2] }
  | _ => none }
def FnClockUnderWrongFalsely : Prop := fnClockUnderRow.holds Try.pinned (OpenSpec.ofChange fnClockUnderWrong)

/-- 'laws.FnClockJoin': WHATEVER THE INPUT: true; the input reads as it did. -/
def fnClockJoinSpec : ChangeSpec := { name := "fnClockJoin", fn := fun _ => fun
  | [d1, d2] => { results := [.lit (.bool true)], args := [d1, d2] }
  | _ => none }
def fnClockJoinRow : OpenClaim := { program := "ytjplcmffdhngmaa", sum := "7c497c9b1e4b74f54bd9f22964af65810b202e67fa25c86522601d9a1efd6daa", func := "loop.example/changeringer/laws.FnClockJoin", spec := "fnClockJoin", apart := false }
def FnClockJoinSaid : Prop := fnClockJoinRow.holds Try.pinned (OpenSpec.ofChange fnClockJoinSpec)

/-- ITS FALSE NEIGHBOUR: 'it returns false'. Refute it at one input. -/
def fnClockJoinWrong : ChangeSpec := { name := "fnClockJoin", fn := fun _ => fun
  | [d1, d2] => { results := [.lit (.bool false)], args := [d1, d2] }
  | _ => none }
def FnClockJoinWrongFalsely : Prop := fnClockJoinRow.holds Try.pinned (OpenSpec.ofChange fnClockJoinWrong)

/-- 'laws.FnExactSaidBy': WHATEVER THE INPUT: true; the input reads as it did. -/
def fnExactSaidBySpec : ChangeSpec := { name := "fnExactSaidBy", fn := fun _ => fun
  | [d1, d2] => { results := [.lit (.bool true)], args := [d1, d2] }
  | _ => none }
def fnExactSaidByRow : OpenClaim := { program := "ytjplcmffdhngmaa", sum := "7c497c9b1e4b74f54bd9f22964af65810b202e67fa25c86522601d9a1efd6daa", func := "loop.example/changeringer/laws.FnExactSaidBy", spec := "fnExactSaidBy", apart := false }
def FnExactSaidBySaid : Prop := fnExactSaidByRow.holds Try.pinned (OpenSpec.ofChange fnExactSaidBySpec)

/-- ITS FALSE NEIGHBOUR: 'it returns false'. Refute it at one input. -/
def fnExactSaidByWrong : ChangeSpec := { name := "fnExactSaidBy", fn := fun _ => fun
  | [d1, d2] => { results := [.lit (.bool false)], args := [d1, d2] }
  | _ => none }
def FnExactSaidByWrongFalsely : Prop := fnExactSaidByRow.holds Try.pinned (OpenSpec.ofChange fnExactSaidByWrong)

/- THE SECOND FORM. 'bulk': how many values and letters a reading holds, each counted each time it is reached (what is shared counts as often as it is met; a slice's spare places count too). A statement '..UptoSaid' is the law's where the arguments, and the package variables that the reading takes, are together of bulk at most 1048576: NARROWER than '..Said'. Prove '..Said' where nothing that the law and all that it calls make is longer than what came in: it says more and counts as full. Else prove '..UptoSaid'. A law counts once. -/
mutual
def uptoBulk {H : Type} : DataW H → Nat
  | .lit (.string bytes) => bytes.length + 1
  | .lit _ => 1
  | .nil => 1
  | .ptr d => uptoBulk d + 1
  | .slice elems spare => uptoBulkAll elems + uptoBulkAll spare + 1
  | .agg parts => uptoBulkAll parts + 1
  | .iface _ d => uptoBulk d + 1
  | .map entries => uptoBulkEntries entries + 1
  | .held _ => 1
def uptoBulkAll {H : Type} : List (DataW H) → Nat
  | [] => 0
  | d :: r => uptoBulk d + uptoBulkAll r
def uptoBulkEntries {H : Type} : List (Lit × DataW H) → Nat
  | [] => 0
  | x :: r => uptoBulkEntry x + uptoBulkEntries r
def uptoBulkEntry {H : Type} : Lit × DataW H → Nat
  | (.string bytes, d) => bytes.length + uptoBulk d + 1
  | (_, d) => uptoBulk d + 1
 end
def uptoSmall : (H : Type) → List (DataW H) → Bool := fun _ ds => decide (uptoBulkAll ds ≤ 1048576)
def OpenSpec.upto (s : _root_.Go.ChangeSpec) : _root_.Go.OpenSpec := { _root_.Go.OpenSpec.ofChange s with cond := some uptoSmall }

/-- 'laws.FnExactConstants', WHERE WHAT IT READS IS OF BULK AT MOST 1048576: true; the input reads as it did. -/
def fnExactConstantsUptoRow : OpenClaim := { program := "ytjplcmffdhngmaa", sum := "7c497c9b1e4b74f54bd9f22964af65810b202e67fa25c86522601d9a1efd6daa", func := "loop.example/changeringer/laws.FnExactConstants", spec := "fnExactConstants", apart := false, narrowed := true }
def FnExactConstantsUptoSaid : Prop := fnExactConstantsUptoRow.holds Try.pinned (OpenSpec.upto fnExactConstantsSpec)

/-- 'laws.FnExactNumOk', WHERE WHAT IT READS IS OF BULK AT MOST 1048576: true; the input reads as it did. -/
def fnExactNumOkUptoRow : OpenClaim := { program := "ytjplcmffdhngmaa", sum := "7c497c9b1e4b74f54bd9f22964af65810b202e67fa25c86522601d9a1efd6daa", func := "loop.example/changeringer/laws.FnExactNumOk", spec := "fnExactNumOk", apart := false, narrowed := true }
def FnExactNumOkUptoSaid : Prop := fnExactNumOkUptoRow.holds Try.pinned (OpenSpec.upto fnExactNumOkSpec)

/-- 'laws.FnExactNumCut', WHERE WHAT IT READS IS OF BULK AT MOST 1048576: true; the input reads as it did. -/
def fnExactNumCutUptoRow : OpenClaim := { program := "ytjplcmffdhngmaa", sum := "7c497c9b1e4b74f54bd9f22964af65810b202e67fa25c86522601d9a1efd6daa", func := "loop.example/changeringer/laws.FnExactNumCut", spec := "fnExactNumCut", apart := false, narrowed := true }
def FnExactNumCutUptoSaid : Prop := fnExactNumCutUptoRow.holds Try.pinned (OpenSpec.upto fnExactNumCutSpec)

/-- 'laws.FnExactGapsOk', WHERE WHAT IT READS IS OF BULK AT MOST 1048576: true; the input reads as it did. -/
def fnExactGapsOkUptoRow : OpenClaim := { program := "ytjplcmffdhngmaa", sum := "7c497c9b1e4b74f54bd9f22964af65810b202e67fa25c86522601d9a1efd6daa", func := "loop.example/changeringer/laws.FnExactGapsOk", spec := "fnExactGapsOk", unfollowed := true, recurses := true, apart := false, narrowed := true }
def FnExactGapsOkUptoSaid : Prop := fnExactGapsOkUptoRow.holds Try.pinned (OpenSpec.upto fnExactGapsOkSpec)

/-- 'laws.FnNumCut', WHERE WHAT IT READS IS OF BULK AT MOST 1048576: true; the input reads as it did. -/
def fnNumCutUptoRow : OpenClaim := { program := "ytjplcmffdhngmaa", sum := "7c497c9b1e4b74f54bd9f22964af65810b202e67fa25c86522601d9a1efd6daa", func := "loop.example/changeringer/laws.FnNumCut", spec := "fnNumCut", apart := false, narrowed := true }
def FnNumCutUptoSaid : Prop := fnNumCutUptoRow.holds Try.pinned (OpenSpec.upto fnNumCutSpec)

/-- 'laws.FnExactClockUnder', WHERE WHAT IT READS IS OF BULK AT MOST 1048576: true; the input reads as it did. -/
def fnExactClockUnderUptoRow : OpenClaim := { program := "ytjplcmffdhngmaa", sum := "7c497c9b1e4b74f54bd9f22964af65810b202e67fa25c86522601d9a1efd6daa", func := "loop.example/changeringer/laws.FnExactClockUnder", spec := "fnExactClockUnder", apart := false, narrowed := true }
def FnExactClockUnderUptoSaid : Prop := fnExactClockUnderUptoRow.holds Try.pinned (OpenSpec.upto fnExactClockUnderSpec)

/-- 'laws.FnExactClockJoin', WHERE WHAT IT READS IS OF BULK AT MOST 1048576: true; the input reads as it did. -/
def fnExactClockJoinUptoRow : OpenClaim := { program := "ytjplcmffdhngmaa", sum := "7c497c9b1e4b74f54bd9f22964af65810b202e67fa25c86522601d9a1efd6daa", func := "loop.example/changeringer/laws.FnExactClockJoin", spec := "fnExactClockJoin", apart := false, narrowed := true }
def FnExactClockJoinUptoSaid : Prop := fnExactClockJoinUptoRow.holds Try.pinned (OpenSpec.upto fnExactClockJoinSpec)

/-- 'laws.FnExactCodeSame', WHERE WHAT IT READS IS OF BULK AT MOST 1048576: true; the input reads as it did. -/
def fnExactCodeSameUptoRow : OpenClaim := { program := "ytjplcmffdhngmaa", sum := "7c497c9b1e4b74f54bd9f22964af65810b202e67fa25c86522601d9a1efd6daa", func := "loop.example/changeringer/laws.FnExactCodeSame", spec := "fnExactCodeSame", apart := false, narrowed := true }
def FnExactCodeSameUptoSaid : Prop := fnExactCodeSameUptoRow.holds Try.pinned (OpenSpec.upto fnExactCodeSameSpec)

/-- 'laws.FnExactMarkAhead', WHERE WHAT IT READS IS OF BULK AT MOST 1048576: true; the input reads as it did. -/
def fnExactMarkAheadUptoRow : OpenClaim := { program := "ytjplcmffdhngmaa", sum := "7c497c9b1e4b74f54bd9f22964af65810b202e67fa25c86522601d9a1efd6daa", func := "loop.example/changeringer/laws.FnExactMarkAhead", spec := "fnExactMarkAhead", apart := false, narrowed := true }
def FnExactMarkAheadUptoSaid : Prop := fnExactMarkAheadUptoRow.holds Try.pinned (OpenSpec.upto fnExactMarkAheadSpec)

/-- 'laws.FnClockUnder', WHERE WHAT IT READS IS OF BULK AT MOST 1048576: true; the input reads as it did. -/
def fnClockUnderUptoRow : OpenClaim := { program := "ytjplcmffdhngmaa", sum := "7c497c9b1e4b74f54bd9f22964af65810b202e67fa25c86522601d9a1efd6daa", func := "loop.example/changeringer/laws.FnClockUnder", spec := "fnClockUnder", apart := false, narrowed := true }
def FnClockUnderUptoSaid : Prop := fnClockUnderUptoRow.holds Try.pinned (OpenSpec.upto fnClockUnderSpec)

/-- 'laws.FnClockJoin', WHERE WHAT IT READS IS OF BULK AT MOST 1048576: true; the input reads as it did. -/
def fnClockJoinUptoRow : OpenClaim := { program := "ytjplcmffdhngmaa", sum := "7c497c9b1e4b74f54bd9f22964af65810b202e67fa25c86522601d9a1efd6daa", func := "loop.example/changeringer/laws.FnClockJoin", spec := "fnClockJoin", apart := false, narrowed := true }
def FnClockJoinUptoSaid : Prop := fnClockJoinUptoRow.holds Try.pinned (OpenSpec.upto fnClockJoinSpec)

/-- 'laws.FnExactSaidBy', WHERE WHAT IT READS IS OF BULK AT MOST 1048576: true; the input reads as it did. -/
def fnExactSaidByUptoRow : OpenClaim := { program := "ytjplcmffdhngmaa", sum := "7c497c9b1e4b74f54bd9f22964af65810b202e67fa25c86522601d9a1efd6daa", func := "loop.example/changeringer/laws.FnExactSaidBy", spec := "fnExactSaidBy", apart := false, narrowed := true }
def FnExactSaidByUptoSaid : Prop := fnExactSaidByUptoRow.holds Try.pinned (OpenSpec.upto fnExactSaidBySpec)

end Rows
end Go.Proofs.Ytjplcmffdhngmaa
