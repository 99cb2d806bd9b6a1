/-
  NARROWER THAN 'FOR EVERY INPUT', by the rows' own cells (each row's printed sentence says how): FnExactWholeLike: loops · FnExactWorldSame: loops · FnExactCpuTwin: loops · FnExactMeanOpen: loops · FnExactWholeOk: loops.
  DERIVED. THE GIVEN ROWS OF THIS SEAT. 6 by the template 'for every input the law returns true; each argument reads behind the call as it read before'; 0 by the template 'total and deterministic' (their statements: YthbflhimmmfonaaTotals.lean).
  GIVEN WITH THE SEED: the statements are not yours to turn. If you find one false, say at which input.
  Laid BY PROGRAM, IN A SANDBOX (cutbox-rows.mjs): the forced cells as the released guide's own fill.sh prints them over the translation 32dea96834f23b43… (all of the seat's roots in one cut). By AI agents, Wed Nov 11 2026. No macro, syntax, notation, axiom, sorry.
-/
import Derived.Test.YthbflhimmmfonaaChecked
import GoSem.Claim
import GoSem.ClaimJoined
import GoSem.ClaimMapViews
import Derived.JoinedTies
import Derived.KernelRfl
namespace Go.Proofs.Ythbflhimmmfonaa
/- THE CELL 'sum', in the pinned program and in every row, IS THE sha256 OF THE DUMP (.gsa) THAT YthbflhimmmfonaaProg.lean LOADS. Nothing in Lean hashes anything: it is a label: what it is worth is what the hold of that sum in a sandbox is worth. -/
noncomputable def Try.pinned : Pinned := { name := "ythbflhimmmfonaa", sum := "32dea96834f23b43845ccacb3bdff3f743d2e72567fd3d6ff012138896e46268", checked := Try.checked }
namespace Rows
def none {H : Type} : Left H := { results := [], args := [] }

/-- 'laws.FnExactCpuSame': WHATEVER THE INPUT: true; the input reads as it did. -/
def fnExactCpuSameSpec : ChangeSpec := { name := "fnExactCpuSame", fn := fun _ => fun
  | [d1, d2] => { results := [.lit (.bool true)], args := [d1, d2] }
  | _ => none }
def fnExactCpuSameRow : OpenClaim := { program := "ythbflhimmmfonaa", sum := "32dea96834f23b43845ccacb3bdff3f743d2e72567fd3d6ff012138896e46268", func := "loop.example/changeringer/laws.FnExactCpuSame", spec := "fnExactCpuSame", unfollowed := true, recurses := true, apart := false }
def FnExactCpuSameSaid : Prop := fnExactCpuSameRow.holds Try.pinned (OpenSpec.ofChange fnExactCpuSameSpec)

/-- ITS FALSE NEIGHBOUR: 'it returns false'. Refute it at one input. -/
def fnExactCpuSameWrong : ChangeSpec := { name := "fnExactCpuSame", fn := fun _ => fun
  | [d1, d2] => { results := [.lit (.bool false)], args := [d1, d2] }
  | _ => none }
def FnExactCpuSameWrongFalsely : Prop := fnExactCpuSameRow.holds Try.pinned (OpenSpec.ofChange fnExactCpuSameWrong)

/-- 'laws.FnExactWholeLike': WHATEVER THE INPUT: true; the input reads as it did. -/
def fnExactWholeLikeSpec : ChangeSpec := { name := "fnExactWholeLike", fn := fun _ => fun
  | [d1, d2] => { results := [.lit (.bool true)], args := [d1, d2] }
  | _ => none }
def fnExactWholeLikeRow : OpenClaim := { program := "ythbflhimmmfonaa", sum := "32dea96834f23b43845ccacb3bdff3f743d2e72567fd3d6ff012138896e46268", func := "loop.example/changeringer/laws.FnExactWholeLike", spec := "fnExactWholeLike", recurses := true, loops := true, apart := false }
def FnExactWholeLikeSaid : Prop := fnExactWholeLikeRow.holds Try.pinned (OpenSpec.ofChange fnExactWholeLikeSpec)

/-- ITS FALSE NEIGHBOUR: 'it returns false'. Refute it at one input. -/
def fnExactWholeLikeWrong : ChangeSpec := { name := "fnExactWholeLike", fn := fun _ => fun
  | [d1, d2] => { results := [.lit (.bool false)], args := [d1, d2] }
  | _ => none }
def FnExactWholeLikeWrongFalsely : Prop := fnExactWholeLikeRow.holds Try.pinned (OpenSpec.ofChange fnExactWholeLikeWrong)

/-- 'laws.FnExactWorldSame': WHATEVER THE INPUT: true; the input reads as it did. -/
def fnExactWorldSameSpec : ChangeSpec := { name := "fnExactWorldSame", fn := fun _ => fun
  | [d1, d2] => { results := [.lit (.bool true)], args := [d1, d2] }
  | _ => none }
def fnExactWorldSameRow : OpenClaim := { program := "ythbflhimmmfonaa", sum := "32dea96834f23b43845ccacb3bdff3f743d2e72567fd3d6ff012138896e46268", func := "loop.example/changeringer/laws.FnExactWorldSame", spec := "fnExactWorldSame", unfollowed := true, recurses := true, loops := true, apart := false }
def FnExactWorldSameSaid : Prop := fnExactWorldSameRow.holds Try.pinned (OpenSpec.ofChange fnExactWorldSameSpec)

/-- ITS FALSE NEIGHBOUR: 'it returns false'. Refute it at one input. -/
def fnExactWorldSameWrong : ChangeSpec := { name := "fnExactWorldSame", fn := fun _ => fun
  | [d1, d2] => { results := [.lit (.bool false)], args := [d1, d2] }
  | _ => none }
def FnExactWorldSameWrongFalsely : Prop := fnExactWorldSameRow.holds Try.pinned (OpenSpec.ofChange fnExactWorldSameWrong)

/-- 'laws.FnExactCpuTwin': WHATEVER THE INPUT: true; the input reads as it did. -/
def fnExactCpuTwinSpec : ChangeSpec := { name := "fnExactCpuTwin", fn := fun _ => fun
  | [d1, d2] => { results := [.lit (.bool true)], args := [d1, d2] }
  | _ => none }
def fnExactCpuTwinRow : OpenClaim := { program := "ythbflhimmmfonaa", sum := "32dea96834f23b43845ccacb3bdff3f743d2e72567fd3d6ff012138896e46268", func := "loop.example/changeringer/laws.FnExactCpuTwin", spec := "fnExactCpuTwin", unfollowed := true, recurses := true, loops := true, apart := false }
def FnExactCpuTwinSaid : Prop := fnExactCpuTwinRow.holds Try.pinned (OpenSpec.ofChange fnExactCpuTwinSpec)

/-- ITS FALSE NEIGHBOUR: 'it returns false'. Refute it at one input. -/
def fnExactCpuTwinWrong : ChangeSpec := { name := "fnExactCpuTwin", fn := fun _ => fun
  | [d1, d2] => { results := [.lit (.bool false)], args := [d1, d2] }
  | _ => none }
def FnExactCpuTwinWrongFalsely : Prop := fnExactCpuTwinRow.holds Try.pinned (OpenSpec.ofChange fnExactCpuTwinWrong)

/-- 'laws.FnExactMeanOpen': WHATEVER THE INPUT: true; the input reads as it did. -/
def fnExactMeanOpenSpec : ChangeSpec := { name := "fnExactMeanOpen", fn := fun _ => fun
  | [d] => { results := [.lit (.bool true)], args := [d] }
  | _ => none }
def fnExactMeanOpenRow : OpenClaim := { program := "ythbflhimmmfonaa", sum := "32dea96834f23b43845ccacb3bdff3f743d2e72567fd3d6ff012138896e46268", func := "loop.example/changeringer/laws.FnExactMeanOpen", spec := "fnExactMeanOpen", unfollowed := true, recurses := true, loops := true, apart := false }
def FnExactMeanOpenSaid : Prop := fnExactMeanOpenRow.holds Try.pinned (OpenSpec.ofChange fnExactMeanOpenSpec)

/-- ITS FALSE NEIGHBOUR: 'it returns false'. Refute it at one input. -/
def fnExactMeanOpenWrong : ChangeSpec := { name := "fnExactMeanOpen", fn := fun _ => fun
  | [d] => { results := [.lit (.bool false)], args := [d] }
  | _ => none }
def FnExactMeanOpenWrongFalsely : Prop := fnExactMeanOpenRow.holds Try.pinned (OpenSpec.ofChange fnExactMeanOpenWrong)

/-- 'laws.FnExactWholeOk': WHATEVER THE INPUT: true; the input reads as it did. -/
def fnExactWholeOkSpec : ChangeSpec := { name := "fnExactWholeOk", fn := fun _ => fun
  | [d1, d2] => { results := [.lit (.bool true)], args := [d1, d2] }
  | _ => none }
def fnExactWholeOkRow : OpenClaim := { program := "ythbflhimmmfonaa", sum := "32dea96834f23b43845ccacb3bdff3f743d2e72567fd3d6ff012138896e46268", func := "loop.example/changeringer/laws.FnExactWholeOk", spec := "fnExactWholeOk", unfollowed := true, recurses := true, loops := true, apart := false }
def FnExactWholeOkSaid : Prop := fnExactWholeOkRow.holds Try.pinned (OpenSpec.ofChange fnExactWholeOkSpec)

/-- ITS FALSE NEIGHBOUR: 'it returns false'. Refute it at one input. -/
def fnExactWholeOkWrong : ChangeSpec := { name := "fnExactWholeOk", fn := fun _ => fun
  | [d1, d2] => { results := [.lit (.bool false)], args := [d1, d2] }
  | _ => none }
def FnExactWholeOkWrongFalsely : Prop := fnExactWholeOkRow.holds Try.pinned (OpenSpec.ofChange fnExactWholeOkWrong)

/- THE SECOND FORM. 'bulk': how many values and letters a reading holds, each counted each time it is reached (what is shared counts as often as it is met; a slice's spare places count too). A statement '..UptoSaid' is the law's where the arguments, and the package variables that the reading takes, are together of bulk at most 1048576: NARROWER than '..Said'. Prove '..Said' where nothing that the law and all that it calls make is longer than what came in: it says more and counts as full. Else prove '..UptoSaid'. A law counts once. -/
mutual
def uptoBulk {H : Type} : DataW H → Nat
  | .lit (.string bytes) => bytes.length + 1
  | .lit _ => 1
  | .nil => 1
  | .ptr d => uptoBulk d + 1
  | .slice elems spare => uptoBulkAll elems + uptoBulkAll spare + 1
  | .agg parts => uptoBulkAll parts + 1
  | .iface _ d => uptoBulk d + 1
  | .map entries => uptoBulkEntries entries + 1
  | .held _ => 1
def uptoBulkAll {H : Type} : List (DataW H) → Nat
  | [] => 0
  | d :: r => uptoBulk d + uptoBulkAll r
def uptoBulkEntries {H : Type} : List (Lit × DataW H) → Nat
  | [] => 0
  | x :: r => uptoBulkEntry x + uptoBulkEntries r
def uptoBulkEntry {H : Type} : Lit × DataW H → Nat
  | (.string bytes, d) => bytes.length + uptoBulk d + 1
  | (_, d) => uptoBulk d + 1
 end
def uptoSmall : (H : Type) → List (DataW H) → Bool := fun _ ds => decide (uptoBulkAll ds ≤ 1048576)
def OpenSpec.upto (s : _root_.Go.ChangeSpec) : _root_.Go.OpenSpec := { _root_.Go.OpenSpec.ofChange s with cond := some uptoSmall }

/-- 'laws.FnExactCpuSame', WHERE WHAT IT READS IS OF BULK AT MOST 1048576: true; the input reads as it did. -/
def fnExactCpuSameUptoRow : OpenClaim := { program := "ythbflhimmmfonaa", sum := "32dea96834f23b43845ccacb3bdff3f743d2e72567fd3d6ff012138896e46268", func := "loop.example/changeringer/laws.FnExactCpuSame", spec := "fnExactCpuSame", unfollowed := true, recurses := true, apart := false, narrowed := true }
def FnExactCpuSameUptoSaid : Prop := fnExactCpuSameUptoRow.holds Try.pinned (OpenSpec.upto fnExactCpuSameSpec)

/-- 'laws.FnExactWholeLike', WHERE WHAT IT READS IS OF BULK AT MOST 1048576: true; the input reads as it did. -/
def fnExactWholeLikeUptoRow : OpenClaim := { program := "ythbflhimmmfonaa", sum := "32dea96834f23b43845ccacb3bdff3f743d2e72567fd3d6ff012138896e46268", func := "loop.example/changeringer/laws.FnExactWholeLike", spec := "fnExactWholeLike", recurses := true, loops := true, apart := false, narrowed := true }
def FnExactWholeLikeUptoSaid : Prop := fnExactWholeLikeUptoRow.holds Try.pinned (OpenSpec.upto fnExactWholeLikeSpec)

/-- 'laws.FnExactWorldSame', WHERE WHAT IT READS IS OF BULK AT MOST 1048576: true; the input reads as it did. -/
def fnExactWorldSameUptoRow : OpenClaim := { program := "ythbflhimmmfonaa", sum := "32dea96834f23b43845ccacb3bdff3f743d2e72567fd3d6ff012138896e46268", func := "loop.example/changeringer/laws.FnExactWorldSame", spec := "fnExactWorldSame", unfollowed := true, recurses := true, loops := true, apart := false, narrowed := true }
def FnExactWorldSameUptoSaid : Prop := fnExactWorldSameUptoRow.holds Try.pinned (OpenSpec.upto fnExactWorldSameSpec)

/-- 'laws.FnExactCpuTwin', WHERE WHAT IT READS IS OF BULK AT MOST 1048576: true; the input reads as it did. -/
def fnExactCpuTwinUptoRow : OpenClaim := { program := "ythbflhimmmfonaa", sum := "32dea96834f23b43845ccacb3bdff3f743d2e72567fd3d6ff012138896e46268", func := "loop.example/changeringer/laws.FnExactCpuTwin", spec := "fnExactCpuTwin", unfollowed := true, recurses := true, loops := true, apart := false, narrowed := true }
def FnExactCpuTwinUptoSaid : Prop := fnExactCpuTwinUptoRow.holds Try.pinned (OpenSpec.upto fnExactCpuTwinSpec)

/-- 'laws.FnExactMeanOpen', WHERE WHAT IT READS IS OF BULK AT MOST 1048576: true; the input reads as it did. -/
def fnExactMeanOpenUptoRow : OpenClaim := { program := "ythbflhimmmfonaa", sum := "32dea96834f23b43845ccacb3bdff3f743d2e72567fd3d6ff012138896e46268", func := "loop.example/changeringer/laws.FnExactMeanOpen", spec := "fnExactMeanOpen", unfollowed := true, recurses := true, loops := true, apart := false, narrowed := true }
def FnExactMeanOpenUptoSaid : Prop := fnExactMeanOpenUptoRow.holds Try.pinned (OpenSpec.upto fnExactMeanOpenSpec)

/-- 'laws.FnExactWholeOk', WHERE WHAT IT READS IS OF BULK AT MOST 1048576: true; the input reads as it did. -/
def fnExactWholeOkUptoRow : OpenClaim := { program := "ythbflhimmmfonaa", sum := "32dea96834f23b43845ccacb3bdff3f743d2e72567fd3d6ff012138896e46268", func := "loop.example/changeringer/laws.FnExactWholeOk", spec := "fnExactWholeOk", unfollowed := true, recurses := true, loops := true, apart := false, narrowed := true }
def FnExactWholeOkUptoSaid : Prop := fnExactWholeOkUptoRow.holds Try.pinned (OpenSpec.upto fnExactWholeOkSpec)

end Rows
end Go.Proofs.Ythbflhimmmfonaa
