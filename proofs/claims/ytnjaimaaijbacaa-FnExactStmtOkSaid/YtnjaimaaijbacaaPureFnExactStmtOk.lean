/- The program's StmtOk is the reference's and leaves its argument as it was, for every statement, depth and room; no condition. -/
import Derived.Test.YtnjaimaaijbacaaSFnExactStmtOk
import Derived.Test.YtnjaimaaijbacaaStm3
import Derived.Test.YtnjaimaaijbacaaTree
namespace Go.Proofs.Ytnjaimaaijbacaa.Pure
open Go.RowKit Go.Proofs.Ytnjaimaaijbacaa.P Go.Proofs.YtnjaimaaijbacaaW.PrintWords Go.Proofs.YtnjaimaaijbacaaW.PrintLast

open Go.Proofs.Ytnjaimaaijbacaa.P Go.Proofs.YtnjaimaaijbacaaW.PrintMore
theorem okBoth (t : S29) (ht : ∀ d, smallS d t) (dp rm : Int) : ∃ v : Bool, Ev (fun k => spec_StmtOk.f k t.f0 t.f1 t.f2 t.f3 t.f4 t.f5 dp rm) v ∧ Ev (fun k => impl_StmtOk.f k t.f0 t.f1 t.f2 t.f3 t.f4 t.f5 dp rm) v := by
  by_cases h0 : 0 ≤ dp
  · obtain ⟨n, rfl⟩ := Int.eq_ofNat_of_zero_le h0
    refine ⟨decide ((n : Int) ≥ 0) && (decide ((n : Int) ≤ 3) && (decide (rm ≥ -1) && (decide (rm < 2) && okS n t rm))), ?_, ?_⟩
    · unfold spec_StmtOk.f
      exact ev_and fun _ => ev_and fun h1 => ev_and fun h2 => ev_and fun _ => ev_last (specStmt_ev n (by omega) t rm h2 (ht n))
    · obtain ⟨b0, b1, b2, b3, b4, b5⟩ := t
      unfold impl_StmtOk.f impl_stmtOk.f
      exact ev_and fun _ => ev_and fun h1 => ev_and fun h2 => ev_and fun _ => ev_last (implStmt_ev n (by omega) ⟨b0, b1, b2, b3, b4, b5⟩ rm h2)
  · refine ⟨false, ?_, ?_⟩
    · unfold spec_StmtOk.f
      exact Evs.ite_neg h0 (Evs.some_ _)
    · unfold impl_StmtOk.f
      exact Evs.ite_neg h0 (Evs.some_ _)
theorem FnExactStmtOk : laws_FnExactStmtOk.Pure := by
  intro a0 a1 a2 a3 l4 l5 dp rm b4 b5 _ _
  refine Ev.rounds (g := fun k => laws_FnExactStmtOk.f k a0 a1 a2 a3 l4 l5 dp rm) ?_
  unfold laws_FnExactStmtOk.f
  obtain ⟨r, hr, c⟩ := goes_all _ ⟨a0, a1, a2, a3, l4, l5⟩ (Nat.le_refl _) b4 b5 1048576 (by omega) (by omega)
  refine Evs.bind hr ?_
  rcases c with c | ⟨c0, c1, t, ht, hs, he⟩
  · exact Evs.ite_pos c (Evs.some_ _)
  obtain ⟨v, hv, hi⟩ := okBoth t hs dp rm
  exact Evs.ite_neg (by omega) (Evs.bind ht (Evs.bind hv (Evs.bind ht (Evs.bind hi (Evs.ite_neg (by simp) (Evs.bind ht (Evs.bind he (Evs.ite_pos (by trivial) (Evs.some_ _)))))))))

end Go.Proofs.Ytnjaimaaijbacaa.Pure
