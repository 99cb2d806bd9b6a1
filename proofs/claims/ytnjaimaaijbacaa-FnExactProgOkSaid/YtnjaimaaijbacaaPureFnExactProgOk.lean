/- The program's ProgOk is the reference's and leaves its argument as it was, for every list of lists; no condition. -/
import Derived.Test.YtnjaimaaijbacaaSFnExactProgOk
import Derived.Test.YtnjaimaaijbacaaTreeLL
namespace Go.Proofs.Ytnjaimaaijbacaa.Pure
open Go.RowKit Go.Proofs.Ytnjaimaaijbacaa.P Go.Proofs.YtnjaimaaijbacaaW.PrintWords Go.Proofs.YtnjaimaaijbacaaW.PrintLast

open Go.Proofs.Ytnjaimaaijbacaa.P Go.Proofs.YtnjaimaaijbacaaW.PrintMore
theorem FnExactProgOk : laws_FnExactProgOk.Pure := by
  intro l hb
  refine Ev.rounds (g := fun k => laws_FnExactProgOk.f k l) ?_
  unfold laws_FnExactProgOk.f
  obtain ⟨r, hr, c⟩ := lawLL l hb 1048576 (by omega) (by omega)
  refine Evs.bind hr ?_
  rcases c with c | ⟨c0, c1, ts, ht⟩
  · exact Evs.ite_pos c (Evs.some_ _)
  exact Evs.ite_neg (by omega) (Evs.bind ht.1 (Evs.bind (specProg ht.2.1 ht.2.2.1) (Evs.bind ht.1 (Evs.bind (implProg ts) (Evs.ite_neg (by simp) (Evs.bind ht.1 (Evs.bind ht.2.2.2 (Evs.ite_pos rfl (Evs.some_ _)))))))))

end Go.Proofs.Ytnjaimaaijbacaa.Pure
