/- Pairs of clocks that are drawn for a join are short; no condition beyond bytes. -/
import Derived.Test.YtjplcmffdhngmaaClkDraw
import Derived.Test.YtjplcmffdhngmaaFSpecDrawClockJoin
namespace Go.Proofs.Ytjplcmffdhngmaa.P
open Go.RowKit Go.Proofs.YtjplcmffdhngmaaW.PrintWords Go.Proofs.YtjplcmffdhngmaaW.PrintMore
theorem drawJoin_ev {l : List Int} (h : ∀ x ∈ l, (Lit.int .u8 x).wf = true) : ∃ a b, a.length ≤ 3 ∧ b.length ≤ 3 ∧ Ev (fun k => spec_DrawClockJoin.f k l) (a, b) := by
  obtain ⟨ys, ho, hb⟩ := open_eq l
  obtain ⟨a, p1, ha, _, _, h1⟩ := clock_ev (p := 0) (hb h) (by omega) (by omega)
  obtain ⟨b, p2, hb', _, _, h2⟩ := clock_ev (p := p1) (hb h) (by omega) (by omega)
  exact ⟨a, b, ha, hb', Evs.bind0 ho (Evs.bind h1 (Evs.bind h2 (Evs.some_ _)))⟩
end Go.Proofs.Ytjplcmffdhngmaa.P
