/- The program's StmtsSame is the reference's and leaves its arguments as they were, for every two lists; no condition. -/
import Derived.Test.YtnjaimaaijbacaaSFnExactStmtsSame
import Derived.Test.YtnjaimaaijbacaaTreeL
import Derived.Test.YtnjaimaaijbacaaSameL
namespace Go.Proofs.Ytnjaimaaijbacaa.Pure
open Go.RowKit Go.Proofs.Ytnjaimaaijbacaa.P Go.Proofs.YtnjaimaaijbacaaW.PrintWords Go.Proofs.YtnjaimaaijbacaaW.PrintLast

open Go.Proofs.Ytnjaimaaijbacaa.P Go.Proofs.YtnjaimaaijbacaaW.PrintMore
theorem FnExactStmtsSame : laws_FnExactStmtsSame.Pure := by
  intro l l2 hb hb2
  refine Ev.rounds (g := fun k => laws_FnExactStmtsSame.f k l l2) ?_
  unfold laws_FnExactStmtsSame.f
  obtain ⟨r, hr, c⟩ := lawL l hb 1048576 (by omega) (by omega)
  refine Evs.bind hr ?_
  rcases c with c | ⟨c0, c1, ts, ht⟩
  · exact Evs.ite_pos c (Evs.some_ _)
  obtain ⟨r2, hr2, c⟩ := lawL l2 hb2 r c0 (by omega)
  refine Evs.ite_neg (by omega) (Evs.bind hr2 ?_)
  rcases c with c | ⟨c2, c3, us, hu⟩
  · exact Evs.ite_pos c (Evs.some_ _)
  exact Evs.ite_neg (by omega) (Evs.bind ht.1 (Evs.bind hu.1 (Evs.bind (specSame (ht.sl 3) (hu.sl 3)) (Evs.bind ht.1 (Evs.bind hu.1 (Evs.bind (implSame ts us) (Evs.ite_neg (by simp) (Evs.bind ht.1 (Evs.bind ht.eq (Evs.ite_pos rfl (Evs.bind hu.1 (Evs.bind hu.eq (Evs.ite_pos rfl (Evs.some_ _))))))))))))))

end Go.Proofs.Ytnjaimaaijbacaa.Pure
