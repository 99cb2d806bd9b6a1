/- impl.forms by its contract: the one block that it lays; no condition. -/
import Derived.Test.YtnjaimaaijbacaaIntMap
namespace Go.Proofs.Ytnjaimaaijbacaa.P
open Go.RowKit Go.Maps Go.Proofs.YtnjaimaaijbacaaW.PrintWords Go.Proofs.YtnjaimaaijbacaaW.PrintLast Go.Proofs.YtnjaimaaijbacaaW.PrintMore
set_option linter.unusedVariables false
set_option linter.unusedSimpArgs false

/-- The kinds' rows: word, limits, whether there is a body, a second branch. -/
def formsL : List (Int × Value) := [(1, .agg #[.string ⟨#[110, 117, 109]⟩, .int .i64 3, .int .i64 0, .bool false, .bool false]), (2, .agg #[.string ⟨#[]⟩, .int .i64 3, .int .i64 3, .bool false, .bool false]), (3, .agg #[.string ⟨#[108, 111, 97, 100]⟩, .int .i64 3, .int .i64 3, .bool false, .bool false]), (4, .agg #[.string ⟨#[115, 116, 111, 114, 101]⟩, .int .i64 3, .int .i64 3, .bool false, .bool false]), (5, .agg #[.string ⟨#[115, 97, 121]⟩, .int .i64 3, .int .i64 0, .bool false, .bool false]), (6, .agg #[.string ⟨#[105, 102]⟩, .int .i64 3, .int .i64 0, .bool true, .bool true]), (7, .agg #[.string ⟨#[119, 104, 105, 108, 101]⟩, .int .i64 3, .int .i64 0, .bool true, .bool false]), (8, .agg #[.string ⟨#[105, 110]⟩, .int .i64 2, .int .i64 0, .bool true, .bool false]), (9, .agg #[.string ⟨#[119, 97, 105, 116]⟩, .int .i64 2, .int .i64 0, .bool false, .bool false]), (10, .agg #[.string ⟨#[115, 105, 103, 110, 97, 108]⟩, .int .i64 2, .int .i64 0, .bool false, .bool false]), (11, .agg #[.string ⟨#[121, 105, 101, 108, 100]⟩, .int .i64 0, .int .i64 0, .bool false, .bool false])]
def entries (l : List (Int × Value)) (n : Nat) : Array MapEntry := ((l.take n).zipIdx.map fun x => (⟨.int .i64 x.1.1, x.1.2, x.2⟩ : MapEntry)).toArray
set_option maxHeartbeats 4000000 in
theorem forms_calls (w : World) : Calls Try.prog 66 #[] w fun e w' => e = .returned (.map (some w.heap.size)) ∧ w' = w.alloc (.map (entries formsL 11) 11) := by
  have hmm : (Instr.makeMap 81 none).run Try.prog w = .ok (.map (some w.heap.size)) (w.alloc (.map (entries formsL 0) 0)) := rfl
  have h0 : (Instr.mapUpdate 81 (.map (some w.heap.size)) (.int .i64 1) (.agg #[.string ⟨#[110, 117, 109]⟩, .int .i64 3, .int .i64 0, .bool false, .bool false])).run Try.prog (w.alloc (.map (entries formsL 0) 0)) = .ok () (w.alloc (.map (entries formsL 1) 1)) :=
    run_put_new Try.underlying81 Try.underlying3 w (entries formsL 0) 0 1 _ rfl
  have h1 : (Instr.mapUpdate 81 (.map (some w.heap.size)) (.int .i64 2) (.agg #[.string ⟨#[]⟩, .int .i64 3, .int .i64 3, .bool false, .bool false])).run Try.prog (w.alloc (.map (entries formsL 1) 1)) = .ok () (w.alloc (.map (entries formsL 2) 2)) :=
    run_put_new Try.underlying81 Try.underlying3 w (entries formsL 1) 1 2 _ rfl
  have h2 : (Instr.mapUpdate 81 (.map (some w.heap.size)) (.int .i64 3) (.agg #[.string ⟨#[108, 111, 97, 100]⟩, .int .i64 3, .int .i64 3, .bool false, .bool false])).run Try.prog (w.alloc (.map (entries formsL 2) 2)) = .ok () (w.alloc (.map (entries formsL 3) 3)) :=
    run_put_new Try.underlying81 Try.underlying3 w (entries formsL 2) 2 3 _ rfl
  have h3 : (Instr.mapUpdate 81 (.map (some w.heap.size)) (.int .i64 4) (.agg #[.string ⟨#[115, 116, 111, 114, 101]⟩, .int .i64 3, .int .i64 3, .bool false, .bool false])).run Try.prog (w.alloc (.map (entries formsL 3) 3)) = .ok () (w.alloc (.map (entries formsL 4) 4)) :=
    run_put_new Try.underlying81 Try.underlying3 w (entries formsL 3) 3 4 _ rfl
  have h4 : (Instr.mapUpdate 81 (.map (some w.heap.size)) (.int .i64 5) (.agg #[.string ⟨#[115, 97, 121]⟩, .int .i64 3, .int .i64 0, .bool false, .bool false])).run Try.prog (w.alloc (.map (entries formsL 4) 4)) = .ok () (w.alloc (.map (entries formsL 5) 5)) :=
    run_put_new Try.underlying81 Try.underlying3 w (entries formsL 4) 4 5 _ rfl
  have h5 : (Instr.mapUpdate 81 (.map (some w.heap.size)) (.int .i64 6) (.agg #[.string ⟨#[105, 102]⟩, .int .i64 3, .int .i64 0, .bool true, .bool true])).run Try.prog (w.alloc (.map (entries formsL 5) 5)) = .ok () (w.alloc (.map (entries formsL 6) 6)) :=
    run_put_new Try.underlying81 Try.underlying3 w (entries formsL 5) 5 6 _ rfl
  have h6 : (Instr.mapUpdate 81 (.map (some w.heap.size)) (.int .i64 7) (.agg #[.string ⟨#[119, 104, 105, 108, 101]⟩, .int .i64 3, .int .i64 0, .bool true, .bool false])).run Try.prog (w.alloc (.map (entries formsL 6) 6)) = .ok () (w.alloc (.map (entries formsL 7) 7)) :=
    run_put_new Try.underlying81 Try.underlying3 w (entries formsL 6) 6 7 _ rfl
  have h7 : (Instr.mapUpdate 81 (.map (some w.heap.size)) (.int .i64 8) (.agg #[.string ⟨#[105, 110]⟩, .int .i64 2, .int .i64 0, .bool true, .bool false])).run Try.prog (w.alloc (.map (entries formsL 7) 7)) = .ok () (w.alloc (.map (entries formsL 8) 8)) :=
    run_put_new Try.underlying81 Try.underlying3 w (entries formsL 7) 7 8 _ rfl
  have h8 : (Instr.mapUpdate 81 (.map (some w.heap.size)) (.int .i64 9) (.agg #[.string ⟨#[119, 97, 105, 116]⟩, .int .i64 2, .int .i64 0, .bool false, .bool false])).run Try.prog (w.alloc (.map (entries formsL 8) 8)) = .ok () (w.alloc (.map (entries formsL 9) 9)) :=
    run_put_new Try.underlying81 Try.underlying3 w (entries formsL 8) 8 9 _ rfl
  have h9 : (Instr.mapUpdate 81 (.map (some w.heap.size)) (.int .i64 10) (.agg #[.string ⟨#[115, 105, 103, 110, 97, 108]⟩, .int .i64 2, .int .i64 0, .bool false, .bool false])).run Try.prog (w.alloc (.map (entries formsL 9) 9)) = .ok () (w.alloc (.map (entries formsL 10) 10)) :=
    run_put_new Try.underlying81 Try.underlying3 w (entries formsL 9) 9 10 _ rfl
  have h10 : (Instr.mapUpdate 81 (.map (some w.heap.size)) (.int .i64 11) (.agg #[.string ⟨#[121, 105, 101, 108, 100]⟩, .int .i64 0, .int .i64 0, .bool false, .bool false])).run Try.prog (w.alloc (.map (entries formsL 10) 10)) = .ok () (w.alloc (.map (entries formsL 11) 11)) :=
    run_put_new Try.underlying81 Try.underlying3 w (entries formsL 10) 10 11 _ rfl
  go_enter Try.func66, Try.ntmps66
  go_wp2
  go_ret
  exact ⟨rfl, rfl⟩
end Go.Proofs.Ytnjaimaaijbacaa.P
