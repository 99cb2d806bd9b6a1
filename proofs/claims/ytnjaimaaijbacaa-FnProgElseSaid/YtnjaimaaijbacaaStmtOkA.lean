/- impl.stmtOk: what a look-up in its table comes to; no condition. -/
import Derived.Test.YtnjaimaaijbacaaForms
namespace Go.Proofs.Ytnjaimaaijbacaa.P
open Go.RowKit Go.Maps Go.Proofs.YtnjaimaaijbacaaW.PrintWords Go.Proofs.YtnjaimaaijbacaaW.PrintLast Go.Proofs.YtnjaimaaijbacaaW.PrintMore
set_option linter.unusedVariables false
set_option linter.unusedSimpArgs false

/-- The row of kind n: its word, limits, body, second branch. -/
def fmS (n : Int) : ByteArray := if n = 1 then ⟨#[110, 117, 109]⟩ else if n = 3 then ⟨#[108, 111, 97, 100]⟩ else if n = 4 then ⟨#[115, 116, 111, 114, 101]⟩ else if n = 5 then ⟨#[115, 97, 121]⟩ else if n = 6 then ⟨#[105, 102]⟩ else if n = 7 then ⟨#[119, 104, 105, 108, 101]⟩ else if n = 8 then ⟨#[105, 110]⟩ else if n = 9 then ⟨#[119, 97, 105, 116]⟩ else if n = 10 then ⟨#[115, 105, 103, 110, 97, 108]⟩ else if n = 11 then ⟨#[121, 105, 101, 108, 100]⟩ else ⟨#[]⟩
def fmA (n : Int) : Int := if 1 ≤ n ∧ n ≤ 7 then 3 else if 8 ≤ n ∧ n ≤ 10 then 2 else 0
def fmB (n : Int) : Int := if 2 ≤ n ∧ n ≤ 4 then 3 else 0
def fmX (n : Int) : Bool := decide (6 ≤ n ∧ n ≤ 8)
def fmY (n : Int) : Bool := decide (n = 6)
def fmOk (n : Int) : Bool := decide (1 ≤ n ∧ n ≤ 11)
def fmV (n : Int) : Value := .agg #[.string (fmS n), .int .i64 (fmA n), .int .i64 (fmB n), .bool (fmX n), .bool (fmY n)]
theorem look_forms {W : World} {b : Nat} (hb : W.heap[b]? = some (.map (entries formsL 11) 11)) (n : Int) :
    (Instr.lookup 81 (.map (some b)) (.int .i64 n) true).run Try.prog W = .ok (.tuple #[.agg #[.string (fmS n), .int .i64 (fmA n), .int .i64 (fmB n), .bool (fmX n), .bool (fmY n)], .bool (fmOk n)]) W := by
  have hz : (zeroValue 79).run Try.prog W = .ok (.agg #[.string ⟨#[]⟩, .int .i64 0, .int .i64 0, .bool false, .bool false]) W := by rfl
  by_cases h1 : n = 1
  · subst h1; exact run_look Try.underlying81 Try.underlying3 hb 1 hz rfl
  by_cases h2 : n = 2
  · subst h2; exact run_look Try.underlying81 Try.underlying3 hb 2 hz rfl
  by_cases h3 : n = 3
  · subst h3; exact run_look Try.underlying81 Try.underlying3 hb 3 hz rfl
  by_cases h4 : n = 4
  · subst h4; exact run_look Try.underlying81 Try.underlying3 hb 4 hz rfl
  by_cases h5 : n = 5
  · subst h5; exact run_look Try.underlying81 Try.underlying3 hb 5 hz rfl
  by_cases h6 : n = 6
  · subst h6; exact run_look Try.underlying81 Try.underlying3 hb 6 hz rfl
  by_cases h7 : n = 7
  · subst h7; exact run_look Try.underlying81 Try.underlying3 hb 7 hz rfl
  by_cases h8 : n = 8
  · subst h8; exact run_look Try.underlying81 Try.underlying3 hb 8 hz rfl
  by_cases h9 : n = 9
  · subst h9; exact run_look Try.underlying81 Try.underlying3 hb 9 hz rfl
  by_cases h10 : n = 10
  · subst h10; exact run_look Try.underlying81 Try.underlying3 hb 10 hz rfl
  by_cases h11 : n = 11
  · subst h11; exact run_look Try.underlying81 Try.underlying3 hb 11 hz rfl
  have none_ : Instr.findNow (.int .i64) (.int .i64 n) (entries formsL 11).toList 0 = some none := by
    have e : ∀ m : Int, ¬ n = m → (n == m) = false := fun m h => by simpa using h
    simp [entries, formsL, Instr.findNow, Instr.sameNow, List.zipIdx, e 1 h1, e 2 h2, e 3 h3, e 4 h4, e 5 h5, e 6 h6, e 7 h7, e 8 h8, e 9 h9, e 10 h10, e 11 h11]
  have e := run_look Try.underlying81 Try.underlying3 hb n hz none_
  have a1 : fmS n = ⟨#[]⟩ := by unfold fmS; simp [*]
  have a2 : fmA n = 0 := by unfold fmA; rw [if_neg (by omega), if_neg (by omega)]
  have a3 : fmB n = 0 := by unfold fmB; rw [if_neg (by omega)]
  have a4 : fmX n = false := decide_eq_false (by omega)
  have a5 : fmY n = false := decide_eq_false (by omega)
  have a6 : fmOk n = false := decide_eq_false (by omega)
  rw [a1, a2, a3, a4, a5, a6]
  exact e
end Go.Proofs.Ytnjaimaaijbacaa.P
