/- The program's StmtsMany is the reference's and leaves its argument as it was, for every list; no condition. -/
import Derived.Test.YtnjaimaaijbacaaSFnExactStmtsMany
import Derived.Test.YtnjaimaaijbacaaTreeL
namespace Go.Proofs.Ytnjaimaaijbacaa.Pure
open Go.RowKit Go.Proofs.Ytnjaimaaijbacaa.P Go.Proofs.YtnjaimaaijbacaaW.PrintWords Go.Proofs.YtnjaimaaijbacaaW.PrintLast

open Go.Proofs.Ytnjaimaaijbacaa.P Go.Proofs.YtnjaimaaijbacaaW.PrintMore
theorem FnExactStmtsMany : laws_FnExactStmtsMany.Pure := by
  intro l hb
  refine Ev.rounds (g := fun k => laws_FnExactStmtsMany.f k l) ?_
  unfold laws_FnExactStmtsMany.f
  obtain ⟨r, hr, c⟩ := lawL l hb 1048576 (by omega) (by omega)
  refine Evs.bind hr ?_
  rcases c with c | ⟨c0, c1, ts, ht⟩
  · exact Evs.ite_pos c (Evs.some_ _)
  exact Evs.ite_neg (by omega) (Evs.bind ht.1 (Evs.bind (specMany (ht.sl 3)) (Evs.bind ht.1 (Evs.bind (implMany ts) (Evs.ite_pos (by trivial) (Evs.bind ht.1 (Evs.bind ht.eq (Evs.ite_pos rfl (Evs.some_ _)))))))))

end Go.Proofs.Ytnjaimaaijbacaa.Pure
