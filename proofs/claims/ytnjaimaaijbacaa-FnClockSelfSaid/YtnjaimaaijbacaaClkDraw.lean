/- Clocks that are drawn are short; no condition beyond bytes. -/
import Derived.Test.YtnjaimaaijbacaaDraws
import Derived.Test.YtnjaimaaijbacaaClkSJoin
import Derived.Test.YtnjaimaaijbacaaFSpecL7Clock
namespace Go.Proofs.Ytnjaimaaijbacaa.P
open Go.RowKit Go.Proofs.YtnjaimaaijbacaaW.PrintWords Go.Proofs.YtnjaimaaijbacaaW.PrintMore

theorem clock_loop {xs : List Int} (hb : Buf xs) (d : Nat) : ∀ (acc : List Int) (p : Int), 0 ≤ p → p + d ≤ 1000000000000 → acc.length + d ≤ 1000 → ∃ c, c.length ≤ acc.length + d ∧ Ev (fun k => spec_l7Clock.l0 k acc (d : Int) xs p) (c, p + d) := by
  induction d with
  | zero =>
    intro acc p _ _ _
    refine ⟨acc, by omega, ?_⟩
    refine Evs.succ (fun k => by simp only [spec_l7Clock.l0]; rfl) ?_
    refine Evs.ite_neg (by omega) ?_
    simpa using Evs.some_ (acc, p)
  | succ d ih =>
    intro acc p h0 h1 h2
    obtain ⟨v, _, hv⟩ := num_ev (l := [0, 1, 2, 3, 9, (-1)]) hb h0 (by omega) (by simp) (by simp)
    obtain ⟨c, hc, he⟩ := ih (acc ++ [v]) (p + 1) (by omega) (by omega) (by simp; omega)
    refine ⟨c, by simp at hc; omega, ?_⟩
    have hw : wrap64 (((d + 1 : Nat) : Int) - 1) = (d : Int) := by rw [wrap_id (by omega) (by omega)]; omega
    refine Evs.succ (fun k => by simp only [spec_l7Clock.l0]; rfl) ?_
    refine Evs.ite_pos (by omega) (Evs.bind hv (Evs.ite_pos (by omega) ?_))
    rw [hw]
    rw [show p + ((d + 1 : Nat) : Int) = p + 1 + (d : Int) by omega]
    exact he
theorem clock_ev {xs : List Int} {p : Int} (hb : Buf xs) (h0 : 0 ≤ p) (h1 : p ≤ 100000000000) : ∃ c p', c.length ≤ 3 ∧ p ≤ p' ∧ p' ≤ p + 10 ∧ Ev (fun k => spec_l7Clock.f k xs p) (c, p') := by
  obtain ⟨v, hv, he⟩ := num_ev (l := [3, 2, 1, 0]) hb h0 (by omega) (by simp) (by simp)
  have hv' : 0 ≤ v ∧ v ≤ 3 := by simp at hv; omega
  obtain ⟨c, hc, hl⟩ := clock_loop hb v.toNat [] (p + 1) (by omega) (by omega) (by simp; omega)
  refine ⟨c, p + 1 + v.toNat, by simp at hc; omega, by omega, by omega, ?_⟩
  unfold spec_l7Clock.f
  refine Evs.bind he ?_
  rw [show (v.toNat : Int) = v by omega] at hl
  rw [show (v.toNat : Int) = v by omega]
  exact hl
end Go.Proofs.Ytnjaimaaijbacaa.P
