/-
  NARROWER THAN 'FOR EVERY INPUT', by the rows' own cells (each row's printed sentence says how): FnExactCodeOf: loops.
  DERIVED. THE GIVEN ROWS OF THIS SEAT. 9 by the template 'for every input the law returns true; each argument reads behind the call as it read before'; 0 by the template 'total and deterministic' (their statements: YtphbdoljkpdflaaTotals.lean).
  GIVEN WITH THE SEED: the statements are not yours to turn. If you find one false, say at which input.
  Laid BY PROGRAM, IN A SANDBOX (cutbox-rows.mjs): the forced cells as the released guide's own fill.sh prints them over the translation a74ca22539bf9e72… (all of the seat's roots in one cut). By AI agents, Wed Nov 11 2026. No macro, syntax, notation, axiom, sorry.
-/
import Derived.Test.YtphbdoljkpdflaaChecked
import GoSem.Claim
import GoSem.ClaimJoined
import GoSem.ClaimMapViews
import Derived.JoinedTies
import Derived.KernelRfl
namespace Go.Proofs.Ytphbdoljkpdflaa
/- THE CELL 'sum', in the pinned program and in every row, IS THE sha256 OF THE DUMP (.gsa) THAT YtphbdoljkpdflaaProg.lean LOADS. Nothing in Lean hashes anything: it is a label: what it is worth is what the hold of that sum in a sandbox is worth. -/
noncomputable def Try.pinned : Pinned := { name := "ytphbdoljkpdflaa", sum := "a74ca22539bf9e7256c4bb1d25df97b6004622e8e8c794246170c452035780b6", checked := Try.checked }
namespace Rows
def none {H : Type} : Left H := { results := [], args := [] }

/-- 'laws.FnExactCodeOk': WHATEVER THE INPUT: true; the input reads as it did. -/
def fnExactCodeOkSpec : ChangeSpec := { name := "fnExactCodeOk", fn := fun _ => fun
  | [d] => { results := [.lit (.bool true)], args := [d] }
  | _ => none }
def fnExactCodeOkRow : OpenClaim := { program := "ytphbdoljkpdflaa", sum := "a74ca22539bf9e7256c4bb1d25df97b6004622e8e8c794246170c452035780b6", func := "loop.example/changeringer/laws.FnExactCodeOk", spec := "fnExactCodeOk", apart := false }
def FnExactCodeOkSaid : Prop := fnExactCodeOkRow.holds Try.pinned (OpenSpec.ofChange fnExactCodeOkSpec)

/-- ITS FALSE NEIGHBOUR: 'it returns false'. Refute it at one input. -/
def fnExactCodeOkWrong : ChangeSpec := { name := "fnExactCodeOk", fn := fun _ => fun
  | [d] => { results := [.lit (.bool false)], args := [d] }
  | _ => none }
def FnExactCodeOkWrongFalsely : Prop := fnExactCodeOkRow.holds Try.pinned (OpenSpec.ofChange fnExactCodeOkWrong)

/-- 'laws.FnExactCodeOf': WHATEVER THE INPUT: true; the input reads as it did. -/
def fnExactCodeOfSpec : ChangeSpec := { name := "fnExactCodeOf", fn := fun _ => fun
  | [d] => { results := [.lit (.bool true)], args := [d] }
  | _ => none }
def fnExactCodeOfRow : OpenClaim := { program := "ytphbdoljkpdflaa", sum := "a74ca22539bf9e7256c4bb1d25df97b6004622e8e8c794246170c452035780b6", func := "loop.example/changeringer/laws.FnExactCodeOf", spec := "fnExactCodeOf", unfollowed := true, recurses := true, loops := true, apart := false }
def FnExactCodeOfSaid : Prop := fnExactCodeOfRow.holds Try.pinned (OpenSpec.ofChange fnExactCodeOfSpec)

/-- ITS FALSE NEIGHBOUR: 'it returns false'. Refute it at one input. -/
def fnExactCodeOfWrong : ChangeSpec := { name := "fnExactCodeOf", fn := fun _ => fun
  | [d] => { results := [.lit (.bool false)], args := [d] }
  | _ => none }
def FnExactCodeOfWrongFalsely : Prop := fnExactCodeOfRow.holds Try.pinned (OpenSpec.ofChange fnExactCodeOfWrong)

/-- 'laws.FnCodeBoth': WHATEVER THE INPUT: true; the input reads as it did. -/
def fnCodeBothSpec : ChangeSpec := { name := "fnCodeBoth", fn := fun _ => fun
  | [d] => { results := [.lit (.bool true)], args := [d] }
  | _ => none }
def fnCodeBothRow : OpenClaim := { program := "ytphbdoljkpdflaa", sum := "a74ca22539bf9e7256c4bb1d25df97b6004622e8e8c794246170c452035780b6", func := "loop.example/changeringer/laws.FnCodeBoth", spec := "fnCodeBoth", unfollowed := true, recurses := true, apart := false }
def FnCodeBothSaid : Prop := fnCodeBothRow.holds Try.pinned (OpenSpec.ofChange fnCodeBothSpec)

/-- ITS FALSE NEIGHBOUR: 'it returns false'. Refute it at one input. -/
def fnCodeBothWrong : ChangeSpec := { name := "fnCodeBoth", fn := fun _ => fun
  | [d] => { results := [.lit (.bool false)], args := [d] }
  | _ => none }
def FnCodeBothWrongFalsely : Prop := fnCodeBothRow.holds Try.pinned (OpenSpec.ofChange fnCodeBothWrong)

/-- 'laws.FnCodeJump': WHATEVER THE INPUT: true; the input reads as it did. -/
def fnCodeJumpSpec : ChangeSpec := { name := "fnCodeJump", fn := fun _ => fun
  | [d] => { results := [.lit (.bool true)], args := [d] }
  | _ => none }
def fnCodeJumpRow : OpenClaim := { program := "ytphbdoljkpdflaa", sum := "a74ca22539bf9e7256c4bb1d25df97b6004622e8e8c794246170c452035780b6", func := "loop.example/changeringer/laws.FnCodeJump", spec := "fnCodeJump", unfollowed := true, recurses := true, apart := false }
def FnCodeJumpSaid : Prop := fnCodeJumpRow.holds Try.pinned (OpenSpec.ofChange fnCodeJumpSpec)

/-- ITS FALSE NEIGHBOUR: 'it returns false'. Refute it at one input. -/
def fnCodeJumpWrong : ChangeSpec := { name := "fnCodeJump", fn := fun _ => fun
  | [d] => { results := [.lit (.bool false)], args := [d] }
  | _ => none }
def FnCodeJumpWrongFalsely : Prop := fnCodeJumpRow.holds Try.pinned (OpenSpec.ofChange fnCodeJumpWrong)

/-- 'laws.FnCodeRooms': WHATEVER THE INPUT: true; the input reads as it did. -/
def fnCodeRoomsSpec : ChangeSpec := { name := "fnCodeRooms", fn := fun _ => fun
  | [d] => { results := [.lit (.bool true)], args := [d] }
  | _ => none }
def fnCodeRoomsRow : OpenClaim := { program := "ytphbdoljkpdflaa", sum := "a74ca22539bf9e7256c4bb1d25df97b6004622e8e8c794246170c452035780b6", func := "loop.example/changeringer/laws.FnCodeRooms", spec := "fnCodeRooms", unfollowed := true, recurses := true, apart := false }
def FnCodeRoomsSaid : Prop := fnCodeRoomsRow.holds Try.pinned (OpenSpec.ofChange fnCodeRoomsSpec)

/-- ITS FALSE NEIGHBOUR: 'it returns false'. Refute it at one input. -/
def fnCodeRoomsWrong : ChangeSpec := { name := "fnCodeRooms", fn := fun _ => fun
  | [d] => { results := [.lit (.bool false)], args := [d] }
  | _ => none }
def FnCodeRoomsWrongFalsely : Prop := fnCodeRoomsRow.holds Try.pinned (OpenSpec.ofChange fnCodeRoomsWrong)

/-- 'laws.FnCodeOf': WHATEVER THE INPUT: true; the input reads as it did. -/
def fnCodeOfSpec : ChangeSpec := { name := "fnCodeOf", fn := fun _ => fun
  | [d] => { results := [.lit (.bool true)], args := [d] }
  | _ => none }
def fnCodeOfRow : OpenClaim := { program := "ytphbdoljkpdflaa", sum := "a74ca22539bf9e7256c4bb1d25df97b6004622e8e8c794246170c452035780b6", func := "loop.example/changeringer/laws.FnCodeOf", spec := "fnCodeOf", unfollowed := true, recurses := true, apart := false }
def FnCodeOfSaid : Prop := fnCodeOfRow.holds Try.pinned (OpenSpec.ofChange fnCodeOfSpec)

/-- ITS FALSE NEIGHBOUR: 'it returns false'. Refute it at one input. -/
def fnCodeOfWrong : ChangeSpec := { name := "fnCodeOf", fn := fun _ => fun
  | [d] => { results := [.lit (.bool false)], args := [d] }
  | _ => none }
def FnCodeOfWrongFalsely : Prop := fnCodeOfRow.holds Try.pinned (OpenSpec.ofChange fnCodeOfWrong)

/-- 'laws.FnCodeIn': WHATEVER THE INPUT: true; the input reads as it did. -/
def fnCodeInSpec : ChangeSpec := { name := "fnCodeIn", fn := fun _ => fun
  | [d] => { results := [.lit (.bool true)], args := [d] }
  | _ => none }
def fnCodeInRow : OpenClaim := { program := "ytphbdoljkpdflaa", sum := "a74ca22539bf9e7256c4bb1d25df97b6004622e8e8c794246170c452035780b6", func := "loop.example/changeringer/laws.FnCodeIn", spec := "fnCodeIn", unfollowed := true, recurses := true, apart := false }
def FnCodeInSaid : Prop := fnCodeInRow.holds Try.pinned (OpenSpec.ofChange fnCodeInSpec)

/-- ITS FALSE NEIGHBOUR: 'it returns false'. Refute it at one input. -/
def fnCodeInWrong : ChangeSpec := { name := "fnCodeIn", fn := fun _ => fun
  | [d] => { results := [.lit (.bool false)], args := [d] }
  | _ => none }
def FnCodeInWrongFalsely : Prop := fnCodeInRow.holds Try.pinned (OpenSpec.ofChange fnCodeInWrong)

/-- 'laws.FnCodeEnd': WHATEVER THE INPUT: true; the input reads as it did. -/
def fnCodeEndSpec : ChangeSpec := { name := "fnCodeEnd", fn := fun _ => fun
  | [d] => { results := [.lit (.bool true)], args := [d] }
  | _ => none }
def fnCodeEndRow : OpenClaim := { program := "ytphbdoljkpdflaa", sum := "a74ca22539bf9e7256c4bb1d25df97b6004622e8e8c794246170c452035780b6", func := "loop.example/changeringer/laws.FnCodeEnd", spec := "fnCodeEnd", unfollowed := true, recurses := true, apart := false }
def FnCodeEndSaid : Prop := fnCodeEndRow.holds Try.pinned (OpenSpec.ofChange fnCodeEndSpec)

/-- ITS FALSE NEIGHBOUR: 'it returns false'. Refute it at one input. -/
def fnCodeEndWrong : ChangeSpec := { name := "fnCodeEnd", fn := fun _ => fun
  | [d] => { results := [.lit (.bool false)], args := [d] }
  | _ => none }
def FnCodeEndWrongFalsely : Prop := fnCodeEndRow.holds Try.pinned (OpenSpec.ofChange fnCodeEndWrong)

/-- 'laws.FnCodeBent': WHATEVER THE INPUT: true; the input reads as it did. -/
def fnCodeBentSpec : ChangeSpec := { name := "fnCodeBent", fn := fun _ => fun
  | [d] => { results := [.lit (.bool true)], args := [d] }
  | _ => none }
def fnCodeBentRow : OpenClaim := { program := "ytphbdoljkpdflaa", sum := "a74ca22539bf9e7256c4bb1d25df97b6004622e8e8c794246170c452035780b6", func := "loop.example/changeringer/laws.FnCodeBent", spec := "fnCodeBent", recurses := true, apart := false }
def FnCodeBentSaid : Prop := fnCodeBentRow.holds Try.pinned (OpenSpec.ofChange fnCodeBentSpec)

/-- ITS FALSE NEIGHBOUR: 'it returns false'. Refute it at one input. -/
def fnCodeBentWrong : ChangeSpec := { name := "fnCodeBent", fn := fun _ => fun
  | [d] => { results := [.lit (.bool false)], args := [d] }
  | _ => none }
def FnCodeBentWrongFalsely : Prop := fnCodeBentRow.holds Try.pinned (OpenSpec.ofChange fnCodeBentWrong)

/- THE SECOND FORM. 'bulk': how many values and letters a reading holds, each counted each time it is reached (what is shared counts as often as it is met; a slice's spare places count too). A statement '..UptoSaid' is the law's where the arguments, and the package variables that the reading takes, are together of bulk at most 1048576: NARROWER than '..Said'. Prove '..Said' where nothing that the law and all that it calls make is longer than what came in: it says more and counts as full. Else prove '..UptoSaid'. A law counts once. -/
mutual
def uptoBulk {H : Type} : DataW H → Nat
  | .lit (.string bytes) => bytes.length + 1
  | .lit _ => 1
  | .nil => 1
  | .ptr d => uptoBulk d + 1
  | .slice elems spare => uptoBulkAll elems + uptoBulkAll spare + 1
  | .agg parts => uptoBulkAll parts + 1
  | .iface _ d => uptoBulk d + 1
  | .map entries => uptoBulkEntries entries + 1
  | .held _ => 1
def uptoBulkAll {H : Type} : List (DataW H) → Nat
  | [] => 0
  | d :: r => uptoBulk d + uptoBulkAll r
def uptoBulkEntries {H : Type} : List (Lit × DataW H) → Nat
  | [] => 0
  | x :: r => uptoBulkEntry x + uptoBulkEntries r
def uptoBulkEntry {H : Type} : Lit × DataW H → Nat
  | (.string bytes, d) => bytes.length + uptoBulk d + 1
  | (_, d) => uptoBulk d + 1
 end
def uptoSmall : (H : Type) → List (DataW H) → Bool := fun _ ds => decide (uptoBulkAll ds ≤ 1048576)
def OpenSpec.upto (s : _root_.Go.ChangeSpec) : _root_.Go.OpenSpec := { _root_.Go.OpenSpec.ofChange s with cond := some uptoSmall }

/-- 'laws.FnExactCodeOk', WHERE WHAT IT READS IS OF BULK AT MOST 1048576: true; the input reads as it did. -/
def fnExactCodeOkUptoRow : OpenClaim := { program := "ytphbdoljkpdflaa", sum := "a74ca22539bf9e7256c4bb1d25df97b6004622e8e8c794246170c452035780b6", func := "loop.example/changeringer/laws.FnExactCodeOk", spec := "fnExactCodeOk", apart := false, narrowed := true }
def FnExactCodeOkUptoSaid : Prop := fnExactCodeOkUptoRow.holds Try.pinned (OpenSpec.upto fnExactCodeOkSpec)

/-- 'laws.FnExactCodeOf', WHERE WHAT IT READS IS OF BULK AT MOST 1048576: true; the input reads as it did. -/
def fnExactCodeOfUptoRow : OpenClaim := { program := "ytphbdoljkpdflaa", sum := "a74ca22539bf9e7256c4bb1d25df97b6004622e8e8c794246170c452035780b6", func := "loop.example/changeringer/laws.FnExactCodeOf", spec := "fnExactCodeOf", unfollowed := true, recurses := true, loops := true, apart := false, narrowed := true }
def FnExactCodeOfUptoSaid : Prop := fnExactCodeOfUptoRow.holds Try.pinned (OpenSpec.upto fnExactCodeOfSpec)

/-- 'laws.FnCodeBoth', WHERE WHAT IT READS IS OF BULK AT MOST 1048576: true; the input reads as it did. -/
def fnCodeBothUptoRow : OpenClaim := { program := "ytphbdoljkpdflaa", sum := "a74ca22539bf9e7256c4bb1d25df97b6004622e8e8c794246170c452035780b6", func := "loop.example/changeringer/laws.FnCodeBoth", spec := "fnCodeBoth", unfollowed := true, recurses := true, apart := false, narrowed := true }
def FnCodeBothUptoSaid : Prop := fnCodeBothUptoRow.holds Try.pinned (OpenSpec.upto fnCodeBothSpec)

/-- 'laws.FnCodeJump', WHERE WHAT IT READS IS OF BULK AT MOST 1048576: true; the input reads as it did. -/
def fnCodeJumpUptoRow : OpenClaim := { program := "ytphbdoljkpdflaa", sum := "a74ca22539bf9e7256c4bb1d25df97b6004622e8e8c794246170c452035780b6", func := "loop.example/changeringer/laws.FnCodeJump", spec := "fnCodeJump", unfollowed := true, recurses := true, apart := false, narrowed := true }
def FnCodeJumpUptoSaid : Prop := fnCodeJumpUptoRow.holds Try.pinned (OpenSpec.upto fnCodeJumpSpec)

/-- 'laws.FnCodeRooms', WHERE WHAT IT READS IS OF BULK AT MOST 1048576: true; the input reads as it did. -/
def fnCodeRoomsUptoRow : OpenClaim := { program := "ytphbdoljkpdflaa", sum := "a74ca22539bf9e7256c4bb1d25df97b6004622e8e8c794246170c452035780b6", func := "loop.example/changeringer/laws.FnCodeRooms", spec := "fnCodeRooms", unfollowed := true, recurses := true, apart := false, narrowed := true }
def FnCodeRoomsUptoSaid : Prop := fnCodeRoomsUptoRow.holds Try.pinned (OpenSpec.upto fnCodeRoomsSpec)

/-- 'laws.FnCodeOf', WHERE WHAT IT READS IS OF BULK AT MOST 1048576: true; the input reads as it did. -/
def fnCodeOfUptoRow : OpenClaim := { program := "ytphbdoljkpdflaa", sum := "a74ca22539bf9e7256c4bb1d25df97b6004622e8e8c794246170c452035780b6", func := "loop.example/changeringer/laws.FnCodeOf", spec := "fnCodeOf", unfollowed := true, recurses := true, apart := false, narrowed := true }
def FnCodeOfUptoSaid : Prop := fnCodeOfUptoRow.holds Try.pinned (OpenSpec.upto fnCodeOfSpec)

/-- 'laws.FnCodeIn', WHERE WHAT IT READS IS OF BULK AT MOST 1048576: true; the input reads as it did. -/
def fnCodeInUptoRow : OpenClaim := { program := "ytphbdoljkpdflaa", sum := "a74ca22539bf9e7256c4bb1d25df97b6004622e8e8c794246170c452035780b6", func := "loop.example/changeringer/laws.FnCodeIn", spec := "fnCodeIn", unfollowed := true, recurses := true, apart := false, narrowed := true }
def FnCodeInUptoSaid : Prop := fnCodeInUptoRow.holds Try.pinned (OpenSpec.upto fnCodeInSpec)

/-- 'laws.FnCodeEnd', WHERE WHAT IT READS IS OF BULK AT MOST 1048576: true; the input reads as it did. -/
def fnCodeEndUptoRow : OpenClaim := { program := "ytphbdoljkpdflaa", sum := "a74ca22539bf9e7256c4bb1d25df97b6004622e8e8c794246170c452035780b6", func := "loop.example/changeringer/laws.FnCodeEnd", spec := "fnCodeEnd", unfollowed := true, recurses := true, apart := false, narrowed := true }
def FnCodeEndUptoSaid : Prop := fnCodeEndUptoRow.holds Try.pinned (OpenSpec.upto fnCodeEndSpec)

/-- 'laws.FnCodeBent', WHERE WHAT IT READS IS OF BULK AT MOST 1048576: true; the input reads as it did. -/
def fnCodeBentUptoRow : OpenClaim := { program := "ytphbdoljkpdflaa", sum := "a74ca22539bf9e7256c4bb1d25df97b6004622e8e8c794246170c452035780b6", func := "loop.example/changeringer/laws.FnCodeBent", spec := "fnCodeBent", recurses := true, apart := false, narrowed := true }
def FnCodeBentUptoSaid : Prop := fnCodeBentUptoRow.holds Try.pinned (OpenSpec.upto fnCodeBentSpec)

end Rows
end Go.Proofs.Ytphbdoljkpdflaa
