/-
  NARROWER THAN 'FOR EVERY INPUT', by the rows' own cells (each row's printed sentence says how): FnExactStmtOk: loops · FnExactStmtsOk: loops · FnExactStmtsMany: loops · FnExactProgOk: loops · FnExactStmtsSame: loops.
  DERIVED. THE GIVEN ROWS OF THIS SEAT. 12 by the template 'for every input the law returns true; each argument reads behind the call as it read before'; 0 by the template 'total and deterministic' (their statements: YtnjaimaaijbacaaTotals.lean).
  GIVEN WITH THE SEED: the statements are not yours to turn. If you find one false, say at which input.
  Laid BY PROGRAM, IN A SANDBOX (cutbox-rows.mjs): the forced cells as the released guide's own fill.sh prints them over the translation cb58d767f25d3b2b… (all of the seat's roots in one cut). By AI agents, Wed Nov 11 2026. No macro, syntax, notation, axiom, sorry.
-/
import Derived.Test.YtnjaimaaijbacaaChecked
import GoSem.Claim
import GoSem.ClaimJoined
import GoSem.ClaimMapViews
import Derived.JoinedTies
import Derived.KernelRfl
namespace Go.Proofs.Ytnjaimaaijbacaa
/- THE CELL 'sum', in the pinned program and in every row, IS THE sha256 OF THE DUMP (.gsa) THAT YtnjaimaaijbacaaProg.lean LOADS. Nothing in Lean hashes anything: it is a label: what it is worth is what the hold of that sum in a sandbox is worth. -/
noncomputable def Try.pinned : Pinned := { name := "ytnjaimaaijbacaa", sum := "cb58d767f25d3b2b121d14b958a8ca6334d26239e1497f2f57a40d2eff19d6ab", checked := Try.checked }
namespace Rows
def none {H : Type} : Left H := { results := [], args := [] }

/-- 'laws.FnExactStmtOk': WHATEVER THE INPUT: true; the input reads as it did. -/
def fnExactStmtOkSpec : ChangeSpec := { name := "fnExactStmtOk", fn := fun _ => fun
  | [d1, d2, d3] => { results := [.lit (.bool true)], args := [d1, d2, d3] }
  | _ => none }
def fnExactStmtOkRow : OpenClaim := { program := "ytnjaimaaijbacaa", sum := "cb58d767f25d3b2b121d14b958a8ca6334d26239e1497f2f57a40d2eff19d6ab", func := "loop.example/changeringer/laws.FnExactStmtOk", spec := "fnExactStmtOk", unfollowed := true, recurses := true, loops := true, apart := false }
def FnExactStmtOkSaid : Prop := fnExactStmtOkRow.holds Try.pinned (OpenSpec.ofChange fnExactStmtOkSpec)

/-- ITS FALSE NEIGHBOUR: 'it returns false'. Refute it at one input. -/
def fnExactStmtOkWrong : ChangeSpec := { name := "fnExactStmtOk", fn := fun _ => fun
  | [d1, d2, d3] => { results := [.lit (.bool false)], args := [d1, d2, d3] }
  | _ => none }
def FnExactStmtOkWrongFalsely : Prop := fnExactStmtOkRow.holds Try.pinned (OpenSpec.ofChange fnExactStmtOkWrong)

/-- 'laws.FnProgDeep': WHATEVER THE INPUT: true; the input reads as it did. -/
def fnProgDeepSpec : ChangeSpec := { name := "fnProgDeep", fn := fun _ => fun
  | [d] => { results := [.lit (.bool true)], args := [d] }
  | _ => none }
def fnProgDeepRow : OpenClaim := { program := "ytnjaimaaijbacaa", sum := "cb58d767f25d3b2b121d14b958a8ca6334d26239e1497f2f57a40d2eff19d6ab", func := "loop.example/changeringer/laws.FnProgDeep", spec := "fnProgDeep", unfollowed := true, recurses := true, apart := false }
def FnProgDeepSaid : Prop := fnProgDeepRow.holds Try.pinned (OpenSpec.ofChange fnProgDeepSpec)

/-- ITS FALSE NEIGHBOUR: 'it returns false'. Refute it at one input. -/
def fnProgDeepWrong : ChangeSpec := { name := "fnProgDeep", fn := fun _ => fun
  | [d] => { results := [.lit (.bool false)], args := [d] }
  | _ => none }
def FnProgDeepWrongFalsely : Prop := fnProgDeepRow.holds Try.pinned (OpenSpec.ofChange fnProgDeepWrong)

/-- 'laws.FnProgElse': WHATEVER THE INPUT: true; the input reads as it did. -/
def fnProgElseSpec : ChangeSpec := { name := "fnProgElse", fn := fun _ => fun
  | [d] => { results := [.lit (.bool true)], args := [d] }
  | _ => none }
def fnProgElseRow : OpenClaim := { program := "ytnjaimaaijbacaa", sum := "cb58d767f25d3b2b121d14b958a8ca6334d26239e1497f2f57a40d2eff19d6ab", func := "loop.example/changeringer/laws.FnProgElse", spec := "fnProgElse", unfollowed := true, recurses := true, apart := false }
def FnProgElseSaid : Prop := fnProgElseRow.holds Try.pinned (OpenSpec.ofChange fnProgElseSpec)

/-- ITS FALSE NEIGHBOUR: 'it returns false'. Refute it at one input. -/
def fnProgElseWrong : ChangeSpec := { name := "fnProgElse", fn := fun _ => fun
  | [d] => { results := [.lit (.bool false)], args := [d] }
  | _ => none }
def FnProgElseWrongFalsely : Prop := fnProgElseRow.holds Try.pinned (OpenSpec.ofChange fnProgElseWrong)

/-- 'laws.FnProgRoom': WHATEVER THE INPUT: true; the input reads as it did. -/
def fnProgRoomSpec : ChangeSpec := { name := "fnProgRoom", fn := fun _ => fun
  | [d] => { results := [.lit (.bool true)], args := [d] }
  | _ => none }
def fnProgRoomRow : OpenClaim := { program := "ytnjaimaaijbacaa", sum := "cb58d767f25d3b2b121d14b958a8ca6334d26239e1497f2f57a40d2eff19d6ab", func := "loop.example/changeringer/laws.FnProgRoom", spec := "fnProgRoom", unfollowed := true, recurses := true, apart := false }
def FnProgRoomSaid : Prop := fnProgRoomRow.holds Try.pinned (OpenSpec.ofChange fnProgRoomSpec)

/-- ITS FALSE NEIGHBOUR: 'it returns false'. Refute it at one input. -/
def fnProgRoomWrong : ChangeSpec := { name := "fnProgRoom", fn := fun _ => fun
  | [d] => { results := [.lit (.bool false)], args := [d] }
  | _ => none }
def FnProgRoomWrongFalsely : Prop := fnProgRoomRow.holds Try.pinned (OpenSpec.ofChange fnProgRoomWrong)

/-- 'laws.FnExactStmtsOk': WHATEVER THE INPUT: true; the input reads as it did. -/
def fnExactStmtsOkSpec : ChangeSpec := { name := "fnExactStmtsOk", fn := fun _ => fun
  | [d] => { results := [.lit (.bool true)], args := [d] }
  | _ => none }
def fnExactStmtsOkRow : OpenClaim := { program := "ytnjaimaaijbacaa", sum := "cb58d767f25d3b2b121d14b958a8ca6334d26239e1497f2f57a40d2eff19d6ab", func := "loop.example/changeringer/laws.FnExactStmtsOk", spec := "fnExactStmtsOk", unfollowed := true, recurses := true, loops := true, apart := false }
def FnExactStmtsOkSaid : Prop := fnExactStmtsOkRow.holds Try.pinned (OpenSpec.ofChange fnExactStmtsOkSpec)

/-- ITS FALSE NEIGHBOUR: 'it returns false'. Refute it at one input. -/
def fnExactStmtsOkWrong : ChangeSpec := { name := "fnExactStmtsOk", fn := fun _ => fun
  | [d] => { results := [.lit (.bool false)], args := [d] }
  | _ => none }
def FnExactStmtsOkWrongFalsely : Prop := fnExactStmtsOkRow.holds Try.pinned (OpenSpec.ofChange fnExactStmtsOkWrong)

/-- 'laws.FnExactStmtsMany': WHATEVER THE INPUT: true; the input reads as it did. -/
def fnExactStmtsManySpec : ChangeSpec := { name := "fnExactStmtsMany", fn := fun _ => fun
  | [d] => { results := [.lit (.bool true)], args := [d] }
  | _ => none }
def fnExactStmtsManyRow : OpenClaim := { program := "ytnjaimaaijbacaa", sum := "cb58d767f25d3b2b121d14b958a8ca6334d26239e1497f2f57a40d2eff19d6ab", func := "loop.example/changeringer/laws.FnExactStmtsMany", spec := "fnExactStmtsMany", unfollowed := true, recurses := true, loops := true, apart := false }
def FnExactStmtsManySaid : Prop := fnExactStmtsManyRow.holds Try.pinned (OpenSpec.ofChange fnExactStmtsManySpec)

/-- ITS FALSE NEIGHBOUR: 'it returns false'. Refute it at one input. -/
def fnExactStmtsManyWrong : ChangeSpec := { name := "fnExactStmtsMany", fn := fun _ => fun
  | [d] => { results := [.lit (.bool false)], args := [d] }
  | _ => none }
def FnExactStmtsManyWrongFalsely : Prop := fnExactStmtsManyRow.holds Try.pinned (OpenSpec.ofChange fnExactStmtsManyWrong)

/-- 'laws.FnProgWait': WHATEVER THE INPUT: true; the input reads as it did. -/
def fnProgWaitSpec : ChangeSpec := { name := "fnProgWait", fn := fun _ => fun
  | [d] => { results := [.lit (.bool true)], args := [d] }
  | _ => none }
def fnProgWaitRow : OpenClaim := { program := "ytnjaimaaijbacaa", sum := "cb58d767f25d3b2b121d14b958a8ca6334d26239e1497f2f57a40d2eff19d6ab", func := "loop.example/changeringer/laws.FnProgWait", spec := "fnProgWait", unfollowed := true, recurses := true, apart := false }
def FnProgWaitSaid : Prop := fnProgWaitRow.holds Try.pinned (OpenSpec.ofChange fnProgWaitSpec)

/-- ITS FALSE NEIGHBOUR: 'it returns false'. Refute it at one input. -/
def fnProgWaitWrong : ChangeSpec := { name := "fnProgWait", fn := fun _ => fun
  | [d] => { results := [.lit (.bool false)], args := [d] }
  | _ => none }
def FnProgWaitWrongFalsely : Prop := fnProgWaitRow.holds Try.pinned (OpenSpec.ofChange fnProgWaitWrong)

/-- 'laws.FnExactProgOk': WHATEVER THE INPUT: true; the input reads as it did. -/
def fnExactProgOkSpec : ChangeSpec := { name := "fnExactProgOk", fn := fun _ => fun
  | [d] => { results := [.lit (.bool true)], args := [d] }
  | _ => none }
def fnExactProgOkRow : OpenClaim := { program := "ytnjaimaaijbacaa", sum := "cb58d767f25d3b2b121d14b958a8ca6334d26239e1497f2f57a40d2eff19d6ab", func := "loop.example/changeringer/laws.FnExactProgOk", spec := "fnExactProgOk", unfollowed := true, recurses := true, loops := true, apart := false }
def FnExactProgOkSaid : Prop := fnExactProgOkRow.holds Try.pinned (OpenSpec.ofChange fnExactProgOkSpec)

/-- ITS FALSE NEIGHBOUR: 'it returns false'. Refute it at one input. -/
def fnExactProgOkWrong : ChangeSpec := { name := "fnExactProgOk", fn := fun _ => fun
  | [d] => { results := [.lit (.bool false)], args := [d] }
  | _ => none }
def FnExactProgOkWrongFalsely : Prop := fnExactProgOkRow.holds Try.pinned (OpenSpec.ofChange fnExactProgOkWrong)

/-- 'laws.FnProgParts': WHATEVER THE INPUT: true; the input reads as it did. -/
def fnProgPartsSpec : ChangeSpec := { name := "fnProgParts", fn := fun _ => fun
  | [d] => { results := [.lit (.bool true)], args := [d] }
  | _ => none }
def fnProgPartsRow : OpenClaim := { program := "ytnjaimaaijbacaa", sum := "cb58d767f25d3b2b121d14b958a8ca6334d26239e1497f2f57a40d2eff19d6ab", func := "loop.example/changeringer/laws.FnProgParts", spec := "fnProgParts", unfollowed := true, recurses := true, apart := false }
def FnProgPartsSaid : Prop := fnProgPartsRow.holds Try.pinned (OpenSpec.ofChange fnProgPartsSpec)

/-- ITS FALSE NEIGHBOUR: 'it returns false'. Refute it at one input. -/
def fnProgPartsWrong : ChangeSpec := { name := "fnProgParts", fn := fun _ => fun
  | [d] => { results := [.lit (.bool false)], args := [d] }
  | _ => none }
def FnProgPartsWrongFalsely : Prop := fnProgPartsRow.holds Try.pinned (OpenSpec.ofChange fnProgPartsWrong)

/-- 'laws.FnProgFirst': WHATEVER THE INPUT: true; the input reads as it did. -/
def fnProgFirstSpec : ChangeSpec := { name := "fnProgFirst", fn := fun _ => fun
  | [d] => { results := [.lit (.bool true)], args := [d] }
  | _ => none }
def fnProgFirstRow : OpenClaim := { program := "ytnjaimaaijbacaa", sum := "cb58d767f25d3b2b121d14b958a8ca6334d26239e1497f2f57a40d2eff19d6ab", func := "loop.example/changeringer/laws.FnProgFirst", spec := "fnProgFirst", unfollowed := true, recurses := true, apart := false }
def FnProgFirstSaid : Prop := fnProgFirstRow.holds Try.pinned (OpenSpec.ofChange fnProgFirstSpec)

/-- ITS FALSE NEIGHBOUR: 'it returns false'. Refute it at one input. -/
def fnProgFirstWrong : ChangeSpec := { name := "fnProgFirst", fn := fun _ => fun
  | [d] => { results := [.lit (.bool false)], args := [d] }
  | _ => none }
def FnProgFirstWrongFalsely : Prop := fnProgFirstRow.holds Try.pinned (OpenSpec.ofChange fnProgFirstWrong)

/-- 'laws.FnExactStmtsSame': WHATEVER THE INPUT: true; the input reads as it did. -/
def fnExactStmtsSameSpec : ChangeSpec := { name := "fnExactStmtsSame", fn := fun _ => fun
  | [d1, d2] => { results := [.lit (.bool true)], args := [d1, d2] }
  | _ => none }
def fnExactStmtsSameRow : OpenClaim := { program := "ytnjaimaaijbacaa", sum := "cb58d767f25d3b2b121d14b958a8ca6334d26239e1497f2f57a40d2eff19d6ab", func := "loop.example/changeringer/laws.FnExactStmtsSame", spec := "fnExactStmtsSame", unfollowed := true, recurses := true, loops := true, apart := false }
def FnExactStmtsSameSaid : Prop := fnExactStmtsSameRow.holds Try.pinned (OpenSpec.ofChange fnExactStmtsSameSpec)

/-- ITS FALSE NEIGHBOUR: 'it returns false'. Refute it at one input. -/
def fnExactStmtsSameWrong : ChangeSpec := { name := "fnExactStmtsSame", fn := fun _ => fun
  | [d1, d2] => { results := [.lit (.bool false)], args := [d1, d2] }
  | _ => none }
def FnExactStmtsSameWrongFalsely : Prop := fnExactStmtsSameRow.holds Try.pinned (OpenSpec.ofChange fnExactStmtsSameWrong)

/-- 'laws.FnClockSelf': WHATEVER THE INPUT: true; the input reads as it did. -/
def fnClockSelfSpec : ChangeSpec := { name := "fnClockSelf", fn := fun _ => fun
  | [d] => { results := [.lit (.bool true)], args := [d] }
  | _ => none }
def fnClockSelfRow : OpenClaim := { program := "ytnjaimaaijbacaa", sum := "cb58d767f25d3b2b121d14b958a8ca6334d26239e1497f2f57a40d2eff19d6ab", func := "loop.example/changeringer/laws.FnClockSelf", spec := "fnClockSelf", apart := false }
def FnClockSelfSaid : Prop := fnClockSelfRow.holds Try.pinned (OpenSpec.ofChange fnClockSelfSpec)

/-- ITS FALSE NEIGHBOUR: 'it returns false'. Refute it at one input. -/
def fnClockSelfWrong : ChangeSpec := { name := "fnClockSelf", fn := fun _ => fun
  | [d] => { results := [.lit (.bool false)], args := [d] }
  | _ => none }
def FnClockSelfWrongFalsely : Prop := fnClockSelfRow.holds Try.pinned (OpenSpec.ofChange fnClockSelfWrong)

/- THE SECOND FORM. 'bulk': how many values and letters a reading holds, each counted each time it is reached (what is shared counts as often as it is met; a slice's spare places count too). A statement '..UptoSaid' is the law's where the arguments, and the package variables that the reading takes, are together of bulk at most 1048576: NARROWER than '..Said'. Prove '..Said' where nothing that the law and all that it calls make is longer than what came in: it says more and counts as full. Else prove '..UptoSaid'. A law counts once. -/
mutual
def uptoBulk {H : Type} : DataW H → Nat
  | .lit (.string bytes) => bytes.length + 1
  | .lit _ => 1
  | .nil => 1
  | .ptr d => uptoBulk d + 1
  | .slice elems spare => uptoBulkAll elems + uptoBulkAll spare + 1
  | .agg parts => uptoBulkAll parts + 1
  | .iface _ d => uptoBulk d + 1
  | .map entries => uptoBulkEntries entries + 1
  | .held _ => 1
def uptoBulkAll {H : Type} : List (DataW H) → Nat
  | [] => 0
  | d :: r => uptoBulk d + uptoBulkAll r
def uptoBulkEntries {H : Type} : List (Lit × DataW H) → Nat
  | [] => 0
  | x :: r => uptoBulkEntry x + uptoBulkEntries r
def uptoBulkEntry {H : Type} : Lit × DataW H → Nat
  | (.string bytes, d) => bytes.length + uptoBulk d + 1
  | (_, d) => uptoBulk d + 1
 end
def uptoSmall : (H : Type) → List (DataW H) → Bool := fun _ ds => decide (uptoBulkAll ds ≤ 1048576)
def OpenSpec.upto (s : _root_.Go.ChangeSpec) : _root_.Go.OpenSpec := { _root_.Go.OpenSpec.ofChange s with cond := some uptoSmall }

/-- 'laws.FnExactStmtOk', WHERE WHAT IT READS IS OF BULK AT MOST 1048576: true; the input reads as it did. -/
def fnExactStmtOkUptoRow : OpenClaim := { program := "ytnjaimaaijbacaa", sum := "cb58d767f25d3b2b121d14b958a8ca6334d26239e1497f2f57a40d2eff19d6ab", func := "loop.example/changeringer/laws.FnExactStmtOk", spec := "fnExactStmtOk", unfollowed := true, recurses := true, loops := true, apart := false, narrowed := true }
def FnExactStmtOkUptoSaid : Prop := fnExactStmtOkUptoRow.holds Try.pinned (OpenSpec.upto fnExactStmtOkSpec)

/-- 'laws.FnProgDeep', WHERE WHAT IT READS IS OF BULK AT MOST 1048576: true; the input reads as it did. -/
def fnProgDeepUptoRow : OpenClaim := { program := "ytnjaimaaijbacaa", sum := "cb58d767f25d3b2b121d14b958a8ca6334d26239e1497f2f57a40d2eff19d6ab", func := "loop.example/changeringer/laws.FnProgDeep", spec := "fnProgDeep", unfollowed := true, recurses := true, apart := false, narrowed := true }
def FnProgDeepUptoSaid : Prop := fnProgDeepUptoRow.holds Try.pinned (OpenSpec.upto fnProgDeepSpec)

/-- 'laws.FnProgElse', WHERE WHAT IT READS IS OF BULK AT MOST 1048576: true; the input reads as it did. -/
def fnProgElseUptoRow : OpenClaim := { program := "ytnjaimaaijbacaa", sum := "cb58d767f25d3b2b121d14b958a8ca6334d26239e1497f2f57a40d2eff19d6ab", func := "loop.example/changeringer/laws.FnProgElse", spec := "fnProgElse", unfollowed := true, recurses := true, apart := false, narrowed := true }
def FnProgElseUptoSaid : Prop := fnProgElseUptoRow.holds Try.pinned (OpenSpec.upto fnProgElseSpec)

/-- 'laws.FnProgRoom', WHERE WHAT IT READS IS OF BULK AT MOST 1048576: true; the input reads as it did. -/
def fnProgRoomUptoRow : OpenClaim := { program := "ytnjaimaaijbacaa", sum := "cb58d767f25d3b2b121d14b958a8ca6334d26239e1497f2f57a40d2eff19d6ab", func := "loop.example/changeringer/laws.FnProgRoom", spec := "fnProgRoom", unfollowed := true, recurses := true, apart := false, narrowed := true }
def FnProgRoomUptoSaid : Prop := fnProgRoomUptoRow.holds Try.pinned (OpenSpec.upto fnProgRoomSpec)

/-- 'laws.FnExactStmtsOk', WHERE WHAT IT READS IS OF BULK AT MOST 1048576: true; the input reads as it did. -/
def fnExactStmtsOkUptoRow : OpenClaim := { program := "ytnjaimaaijbacaa", sum := "cb58d767f25d3b2b121d14b958a8ca6334d26239e1497f2f57a40d2eff19d6ab", func := "loop.example/changeringer/laws.FnExactStmtsOk", spec := "fnExactStmtsOk", unfollowed := true, recurses := true, loops := true, apart := false, narrowed := true }
def FnExactStmtsOkUptoSaid : Prop := fnExactStmtsOkUptoRow.holds Try.pinned (OpenSpec.upto fnExactStmtsOkSpec)

/-- 'laws.FnExactStmtsMany', WHERE WHAT IT READS IS OF BULK AT MOST 1048576: true; the input reads as it did. -/
def fnExactStmtsManyUptoRow : OpenClaim := { program := "ytnjaimaaijbacaa", sum := "cb58d767f25d3b2b121d14b958a8ca6334d26239e1497f2f57a40d2eff19d6ab", func := "loop.example/changeringer/laws.FnExactStmtsMany", spec := "fnExactStmtsMany", unfollowed := true, recurses := true, loops := true, apart := false, narrowed := true }
def FnExactStmtsManyUptoSaid : Prop := fnExactStmtsManyUptoRow.holds Try.pinned (OpenSpec.upto fnExactStmtsManySpec)

/-- 'laws.FnProgWait', WHERE WHAT IT READS IS OF BULK AT MOST 1048576: true; the input reads as it did. -/
def fnProgWaitUptoRow : OpenClaim := { program := "ytnjaimaaijbacaa", sum := "cb58d767f25d3b2b121d14b958a8ca6334d26239e1497f2f57a40d2eff19d6ab", func := "loop.example/changeringer/laws.FnProgWait", spec := "fnProgWait", unfollowed := true, recurses := true, apart := false, narrowed := true }
def FnProgWaitUptoSaid : Prop := fnProgWaitUptoRow.holds Try.pinned (OpenSpec.upto fnProgWaitSpec)

/-- 'laws.FnExactProgOk', WHERE WHAT IT READS IS OF BULK AT MOST 1048576: true; the input reads as it did. -/
def fnExactProgOkUptoRow : OpenClaim := { program := "ytnjaimaaijbacaa", sum := "cb58d767f25d3b2b121d14b958a8ca6334d26239e1497f2f57a40d2eff19d6ab", func := "loop.example/changeringer/laws.FnExactProgOk", spec := "fnExactProgOk", unfollowed := true, recurses := true, loops := true, apart := false, narrowed := true }
def FnExactProgOkUptoSaid : Prop := fnExactProgOkUptoRow.holds Try.pinned (OpenSpec.upto fnExactProgOkSpec)

/-- 'laws.FnProgParts', WHERE WHAT IT READS IS OF BULK AT MOST 1048576: true; the input reads as it did. -/
def fnProgPartsUptoRow : OpenClaim := { program := "ytnjaimaaijbacaa", sum := "cb58d767f25d3b2b121d14b958a8ca6334d26239e1497f2f57a40d2eff19d6ab", func := "loop.example/changeringer/laws.FnProgParts", spec := "fnProgParts", unfollowed := true, recurses := true, apart := false, narrowed := true }
def FnProgPartsUptoSaid : Prop := fnProgPartsUptoRow.holds Try.pinned (OpenSpec.upto fnProgPartsSpec)

/-- 'laws.FnProgFirst', WHERE WHAT IT READS IS OF BULK AT MOST 1048576: true; the input reads as it did. -/
def fnProgFirstUptoRow : OpenClaim := { program := "ytnjaimaaijbacaa", sum := "cb58d767f25d3b2b121d14b958a8ca6334d26239e1497f2f57a40d2eff19d6ab", func := "loop.example/changeringer/laws.FnProgFirst", spec := "fnProgFirst", unfollowed := true, recurses := true, apart := false, narrowed := true }
def FnProgFirstUptoSaid : Prop := fnProgFirstUptoRow.holds Try.pinned (OpenSpec.upto fnProgFirstSpec)

/-- 'laws.FnExactStmtsSame', WHERE WHAT IT READS IS OF BULK AT MOST 1048576: true; the input reads as it did. -/
def fnExactStmtsSameUptoRow : OpenClaim := { program := "ytnjaimaaijbacaa", sum := "cb58d767f25d3b2b121d14b958a8ca6334d26239e1497f2f57a40d2eff19d6ab", func := "loop.example/changeringer/laws.FnExactStmtsSame", spec := "fnExactStmtsSame", unfollowed := true, recurses := true, loops := true, apart := false, narrowed := true }
def FnExactStmtsSameUptoSaid : Prop := fnExactStmtsSameUptoRow.holds Try.pinned (OpenSpec.upto fnExactStmtsSameSpec)

/-- 'laws.FnClockSelf', WHERE WHAT IT READS IS OF BULK AT MOST 1048576: true; the input reads as it did. -/
def fnClockSelfUptoRow : OpenClaim := { program := "ytnjaimaaijbacaa", sum := "cb58d767f25d3b2b121d14b958a8ca6334d26239e1497f2f57a40d2eff19d6ab", func := "loop.example/changeringer/laws.FnClockSelf", spec := "fnClockSelf", apart := false, narrowed := true }
def FnClockSelfUptoSaid : Prop := fnClockSelfUptoRow.holds Try.pinned (OpenSpec.upto fnClockSelfSpec)

end Rows
end Go.Proofs.Ytnjaimaaijbacaa
