/- What the reference draws as a statement has short lists, at every level; no condition beyond bytes. -/
import Derived.Test.YtnjaimaaijbacaaDraws
import Derived.Test.YtnjaimaaijbacaaLoops
import Derived.Test.YtnjaimaaijbacaaStm3
import Derived.Test.YtnjaimaaijbacaaFGSpecL2Draw
namespace Go.Proofs.Ytnjaimaaijbacaa.P
open Go.RowKit Go.Proofs.YtnjaimaaijbacaaW.PrintWords Go.Proofs.YtnjaimaaijbacaaW.PrintMore
set_option linter.unusedVariables false
set_option linter.unusedSimpArgs false
def Sm (t : S29) : Prop := ∀ d, smallS d t
theorem sm_mk {a0 a1 a2 a3 : Int} {l4 l5 : List S29} (h4 : l4.length ≤ 1048576) (g4 : ∀ t ∈ l4, Sm t) (h5 : l5.length ≤ 1048576) (g5 : ∀ t ∈ l5, Sm t) : Sm ⟨a0, a1, a2, a3, l4, l5⟩
  | 0 => trivial
  | d + 1 => ⟨⟨h4, fun t ht => g4 t ht d⟩, h5, fun t ht => g5 t ht d⟩
theorem sm_leaf (a0 a1 a2 a3 : Int) : Sm ⟨a0, a1, a2, a3, [], []⟩ := sm_mk (by simp) (fun _ h => by cases h) (by simp) (fun _ h => by cases h)
def cst (d : Nat) : Int := 100 * 10 ^ d
theorem cst_succ (d : Nat) : cst (d + 1) = 10 * cst d := by unfold cst; rw [Int.pow_succ]; omega
theorem cst_ge (d : Nat) : 100 ≤ cst d := by
  induction d with
  | zero => unfold cst; simp
  | succ d ih => rw [cst_succ]; omega
def Drawn (xs : List Int) (d : Nat) : Prop := ∀ (room p : Int), 0 ≤ p → p + cst d ≤ 6000000000 → ∃ (t : S29) (p' : Int), Sm t ∧ p ≤ p' ∧ p' ≤ p + cst d ∧ Ev (fun k => spec_l2Draw.f k xs p (d : Int) room) (t.f0, t.f1, t.f2, t.f3, t.f4, t.f5, p')
def DrawnL (xs : List Int) (d : Nat) : Prop := ∀ (room most p : Int), 0 ≤ most → most ≤ 3 → 0 ≤ p → p + 1 + 3 * cst d ≤ 6000000000 → ∃ (ts : List S29) (p' : Int), ts.length ≤ 3 ∧ (∀ t ∈ ts, Sm t) ∧ p ≤ p' ∧ p' ≤ p + 1 + 3 * cst d ∧ Ev (fun k => spec_l2Draws.f k xs p (d : Int) room most) (ts, p')
theorem draws_loop {xs : List Int} {d : Nat} (hc : cst d ≤ 100000000) (h : Drawn xs d) (room : Int) (n : Nat) : ∀ (out : List S29) (p : Int), n + out.length ≤ 3 → (∀ t ∈ out, Sm t) → 0 ≤ p → p + (n : Int) * cst d ≤ 6000000000 →
    ∃ (ts : List S29) (p' : Int), ts.length ≤ 3 ∧ (∀ t ∈ ts, Sm t) ∧ p ≤ p' ∧ p' ≤ p + (n : Int) * cst d ∧ Ev (fun k => spec_l2Draws.l0 k (d : Int) room out (n : Int) xs p) (ts, p') := by
  have hg := cst_ge d
  induction n with
  | zero =>
    intro out p hn ho h0 h1
    refine ⟨out, p, by omega, ho, by omega, by omega, ?_⟩
    refine Evs.succ (fun k => by simp only [spec_l2Draws.l0]; rfl) ?_
    exact Evs.ite_neg (by omega) (Evs.some_ _)
  | succ n ih =>
    intro out p hn ho h0 h1
    have e : ((n + 1 : Nat) : Int) * cst d = (n : Int) * cst d + cst d := by rw [Int.natCast_succ, Int.add_mul]; omega
    have hnn : 0 ≤ (n : Int) * cst d := Int.mul_nonneg (by omega) (by omega)
    obtain ⟨t, q, ht, hq0, hq1, he⟩ := h room p h0 (by omega)
    obtain ⟨ts, p', a1, a2, a3, a4, a5⟩ := ih (out ++ [t]) q (by simp; omega) (fun u hu => by
      rcases List.mem_append.1 hu with hu | hu
      · exact ho u hu
      · rw [List.mem_singleton.1 hu]
        exact ht) (by omega) (by omega)
    refine ⟨ts, p', a1, a2, by omega, by omega, ?_⟩
    refine Evs.succ (fun k => by simp only [spec_l2Draws.l0]; rfl) ?_
    refine Evs.ite_pos (by omega) (Evs.bind he (Evs.ite_pos (by omega) ?_))
    have ew : wrap64 (((n + 1 : Nat) : Int) - 1) = (n : Int) := by rw [wrap_id (by omega) (by omega)]; omega
    obtain ⟨b0, b1, b2, b3, b4, b5⟩ := t
    rw [ew]
    exact a5
theorem drawnL_of {xs : List Int} (hb : Buf xs) {d : Nat} (hc : cst d ≤ 100000000) (h : Drawn xs d) : DrawnL xs d := by
  intro room most p m0 m1 p0 p1
  have hg := cst_ge d
  obtain ⟨v, hv, hr, _⟩ := pick_ev (n := most + 1) hb p0 (by omega)
  have hv' := hr (by omega)
  obtain ⟨n, rfl⟩ := Int.eq_ofNat_of_zero_le hv'.1
  have hn3 : (n : Int) * cst d ≤ 3 * cst d := Int.mul_le_mul_of_nonneg_right (by omega) (by omega)
  obtain ⟨ts, p', a1, a2, a3, a4, a5⟩ := draws_loop hc h room n [] (p + 1) (by simp; omega) (fun _ h => by cases h) (by omega) (by omega)
  refine ⟨ts, p', a1, a2, by omega, by omega, ?_⟩
  have ew : wrap64 (most + 1) = most + 1 := wrap_id (by omega) (by omega)
  refine Evs.succ (fun k => by simp only [spec_l2Draws.f, ew]; rfl) ?_
  exact Evs.bind hv a5
end Go.Proofs.Ytnjaimaaijbacaa.P
