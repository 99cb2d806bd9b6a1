/- Drawn numbers: a draw ends with some number; no condition beyond bytes. -/
import Derived.Test.YtjplcmffdhngmaaDraws
import Derived.Test.YtjplcmffdhngmaaFSpecL1Num
import Derived.Test.YtjplcmffdhngmaaFSpecDrawNumCut
import Derived.Test.YtjplcmffdhngmaaFSpecDrawNumOk
namespace Go.Proofs.Ytjplcmffdhngmaa.P
open Go.RowKit Go.Proofs.YtjplcmffdhngmaaW.PrintWords Go.Proofs.YtjplcmffdhngmaaW.PrintMore
theorem l1Num_ev {xs : List Int} {p : Int} (hb : Buf xs) (h0 : 0 ≤ p) (h1 : p ≤ 100000000000) : ∃ v p', p ≤ p' ∧ p' ≤ p + 2 ∧ Ev (fun k => spec_l1Num.f k xs p) (v, p') := by
  obtain ⟨v, hv, _⟩ := pick_ev (n := 12) hb h0 (by omega)
  by_cases h : v = 0
  · obtain ⟨u, _, hu⟩ := num_ev (p := p + 1) (l := [1000, (-1000), 9223372036854775807, (-9223372036854775808)]) hb (by omega) (by omega) (by simp) (by simp)
    exact ⟨u, p + 1 + 1, by omega, by omega, Evs.bind hv (Evs.ite_pos h (Evs.bind hu (Evs.some_ _)))⟩
  · obtain ⟨u, _, hu⟩ := num_ev (p := p + 1) (l := [0, 1, 2, 3, (-1), 7, 31, 32, (-500), 500, 999, (-999)]) hb (by omega) (by omega) (by simp) (by simp)
    exact ⟨u, p + 1 + 1, by omega, by omega, Evs.bind hv (Evs.ite_neg h (Evs.bind hu (Evs.some_ _)))⟩
theorem drawNumCut_ev {l : List Int} (h : ∀ x ∈ l, (Lit.int .u8 x).wf = true) : ∃ v, Ev (fun k => spec_DrawNumCut.f k l) v := by
  obtain ⟨ys, ho, hb⟩ := open_eq l
  obtain ⟨v, p', _, _, hv⟩ := l1Num_ev (p := 0) (hb h) (by omega) (by omega)
  exact ⟨v, Evs.bind0 ho (Evs.bind hv (Evs.some_ _))⟩
theorem drawNumOk_ev {l : List Int} (h : ∀ x ∈ l, (Lit.int .u8 x).wf = true) : ∃ v, Ev (fun k => spec_DrawNumOk.f k l) v := by
  obtain ⟨ys, ho, hb⟩ := open_eq l
  obtain ⟨v, p', _, _, hv⟩ := l1Num_ev (p := 0) (hb h) (by omega) (by omega)
  exact ⟨v, Evs.bind0 ho (Evs.bind hv (Evs.some_ _))⟩
end Go.Proofs.Ytjplcmffdhngmaa.P
