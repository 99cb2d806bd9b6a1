/-
  DERIVED. GIVEN WITH THE SEED: THE CARDS: each row of YtnegnanlbdncmaaDoorRows.lean that lists a variable, with what it lists TIED to the program's text (the seventh form; the later family's looks); each row that meets fmt, with fmt's text TOLD by the authors' own Lean function (tested against real Go, not proved from fmt's source: count such statements apart). THE CARD IS WHAT COUNTS. Prove the row's statement (the work); the ties are given (YtnegnanlbdncmaaDoorTie.lean); close each card by the builder's one call (the guide's Derived/Test/ToyasCard.lean, 'card_holds'). Laid BY PROGRAM, IN A SANDBOX (cutbox-door.mjs). By AI agents, Wed Nov 11 2026. No macro, syntax, notation, axiom, sorry.
-/
import Derived.Test.YtnegnanlbdncmaaDoorRows
import GoSem.ClaimSeven
namespace Go.Proofs.YtnegnanlbdncmaaDoor
namespace Rows

/-- THE TIED CARD OF 'laws.FnProgJoin'. -/
def fnProgJoinCard : Claim7 := { stood := { row := fnProgJoinRow, standIns := [], harness := (true, "a66ea31a364591f5433428622ea4399aeca3f916cd1f7de2392591295a4fbf7d"), looks := false }, kinds := [], alts := [], laidByText := true, laidKinds := [.data, .data, .data], laidTests := true, laidLooks := .later }
def FnProgJoinCardSaid : Prop := Claim7.holds Tryd.pinned (.plain (OpenSpec.ofChange fnProgJoinSpec)) fnProgJoinCard

/-- THE TIED CARD OF 'laws.FnExactStmtsText'. -/
def fnExactStmtsTextCard : Claim7 := { stood := { row := fnExactStmtsTextRow, standIns := [], harness := (true, "a66ea31a364591f5433428622ea4399aeca3f916cd1f7de2392591295a4fbf7d"), looks := false }, kinds := [], alts := [], laidByText := true, laidKinds := [.data, .data, .data], laidTests := true, laidLooks := .later }
def FnExactStmtsTextCardSaid : Prop := Claim7.holds Tryd.pinned (.plain (OpenSpec.ofChange fnExactStmtsTextSpec)) fnExactStmtsTextCard

/-- THE TIED CARD OF 'laws.FnProgSame'. -/
def fnProgSameCard : Claim7 := { stood := { row := fnProgSameRow, standIns := [], harness := (true, "a66ea31a364591f5433428622ea4399aeca3f916cd1f7de2392591295a4fbf7d"), looks := false }, kinds := [], alts := [], laidByText := true, laidKinds := [.data, .data, .data], laidTests := true, laidLooks := .later }
def FnProgSameCardSaid : Prop := Claim7.holds Tryd.pinned (.plain (OpenSpec.ofChange fnProgSameSpec)) fnProgSameCard

/-- THE SECOND FORM's CARD OF 'laws.FnProgJoin'. -/
def fnProgJoinUptoCard : Claim7 := { stood := { row := fnProgJoinUptoRow, standIns := [], harness := (true, "a66ea31a364591f5433428622ea4399aeca3f916cd1f7de2392591295a4fbf7d"), looks := false }, kinds := [], alts := [], laidByText := true, laidKinds := [.data, .data, .data], laidTests := true, laidLooks := .later }
def FnProgJoinUptoCardSaid : Prop := Claim7.holds Tryd.pinned (.plain (OpenSpec.upto fnProgJoinSpec)) fnProgJoinUptoCard

/-- THE SECOND FORM's CARD OF 'laws.FnExactStmtsText'. -/
def fnExactStmtsTextUptoCard : Claim7 := { stood := { row := fnExactStmtsTextUptoRow, standIns := [], harness := (true, "a66ea31a364591f5433428622ea4399aeca3f916cd1f7de2392591295a4fbf7d"), looks := false }, kinds := [], alts := [], laidByText := true, laidKinds := [.data, .data, .data], laidTests := true, laidLooks := .later }
def FnExactStmtsTextUptoCardSaid : Prop := Claim7.holds Tryd.pinned (.plain (OpenSpec.upto fnExactStmtsTextSpec)) fnExactStmtsTextUptoCard

/-- THE SECOND FORM's CARD OF 'laws.FnProgSame'. -/
def fnProgSameUptoCard : Claim7 := { stood := { row := fnProgSameUptoRow, standIns := [], harness := (true, "a66ea31a364591f5433428622ea4399aeca3f916cd1f7de2392591295a4fbf7d"), looks := false }, kinds := [], alts := [], laidByText := true, laidKinds := [.data, .data, .data], laidTests := true, laidLooks := .later }
def FnProgSameUptoCardSaid : Prop := Claim7.holds Tryd.pinned (.plain (OpenSpec.upto fnProgSameSpec)) fnProgSameUptoCard
end Rows
end Go.Proofs.YtnegnanlbdncmaaDoor
