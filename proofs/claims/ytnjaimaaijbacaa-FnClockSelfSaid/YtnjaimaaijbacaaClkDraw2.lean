/- Pairs of clocks that are drawn are short; no condition beyond bytes. -/
import Derived.Test.YtnjaimaaijbacaaClkDraw
import Derived.Test.YtnjaimaaijbacaaFSpecDrawClockUnder
namespace Go.Proofs.Ytnjaimaaijbacaa.P
open Go.RowKit Go.Proofs.YtnjaimaaijbacaaW.PrintWords Go.Proofs.YtnjaimaaijbacaaW.PrintMore
theorem drawUnder_ev {l : List Int} (h : ∀ x ∈ l, (Lit.int .u8 x).wf = true) : ∃ a b, a.length ≤ 3 ∧ b.length ≤ 3 ∧ Ev (fun k => spec_DrawClockUnder.f k l) (a, b) := by
  obtain ⟨ys, ho, hb⟩ := open_eq l
  obtain ⟨a, p1, ha, _, _, h1⟩ := clock_ev (p := 0) (hb h) (by omega) (by omega)
  obtain ⟨b, p2, hb', _, _, h2⟩ := clock_ev (p := p1) (hb h) (by omega) (by omega)
  obtain ⟨v, hv, _⟩ := pick_ev (n := 2) (p := p2) (hb h) (by omega) (by omega)
  by_cases c : v = 0
  · exact ⟨a, joinC a b, ha, by rw [joinC_length]; omega, Evs.bind0 ho (Evs.bind h1 (Evs.bind h2 (Evs.bind hv (Evs.ite_pos c (Evs.bind (sJoin_ev a b (by omega) (by omega)) (Evs.some_ _))))))⟩
  · exact ⟨a, b, ha, hb', Evs.bind0 ho (Evs.bind h1 (Evs.bind h2 (Evs.bind hv (Evs.ite_neg c (Evs.some_ _)))))⟩
end Go.Proofs.Ytnjaimaaijbacaa.P
