/- Only a choice has two branches: an if whose lists are turned round is as right, and nothing else may have a second list; for every drawn statement; no condition. -/
import Derived.Test.YtnjaimaaijbacaaFLawsFnProgElse
import Derived.Test.YtnjaimaaijbacaaStmDrawOk
namespace Go.Proofs.Ytnjaimaaijbacaa.Pure
open Go.RowKit Go.Proofs.Ytnjaimaaijbacaa.P Go.Proofs.YtnjaimaaijbacaaW.PrintWords Go.Proofs.YtnjaimaaijbacaaW.PrintLast

open Go.Proofs.Ytnjaimaaijbacaa.P Go.Proofs.YtnjaimaaijbacaaW.PrintMore
theorem okVal_parts {t : S29} {dp rm : Int} (h : okVal t dp rm = true) : 0 ≤ dp ∧ dp ≤ 3 ∧ -1 ≤ rm ∧ rm < 2 ∧ ∃ d : Nat, dp = ((d + 1 : Nat) : Int) ∧ okS (d + 1) t rm = true := by
  unfold okVal at h
  simp only [Bool.and_eq_true, decide_eq_true_eq] at h
  obtain ⟨h0, h1, h2, h3, h4⟩ := h
  refine ⟨h0, h1, h2, h3, ?_⟩
  obtain ⟨n, hn⟩ : ∃ n, n = dp.toNat := ⟨_, rfl⟩
  rw [← hn] at h4
  cases n with
  | zero => cases h4
  | succ n => exact ⟨n, by omega, h4⟩
theorem okVal_mk {t : S29} {d : Nat} {rm : Int} (h1 : ((d + 1 : Nat) : Int) ≤ 3) (h2 : -1 ≤ rm) (h3 : rm < 2) : okVal t ((d + 1 : Nat) : Int) rm = okS (d + 1) t rm := by
  unfold okVal
  rw [decide_eq_true (show ((d + 1 : Nat) : Int) ≥ 0 by omega), decide_eq_true h1, decide_eq_true (show rm ≥ -1 from h2), decide_eq_true h3]
  rfl
theorem yield_ok (d : Nat) (rm : Int) : okS d ⟨11, 0, 0, 0, [], []⟩ rm = decide (1 ≤ d) := by
  cases d with
  | zero => rfl
  | succ d =>
    rw [okS_succ]
    simp [leafOk]
theorem turned {d : Nat} {a1 a2 a3 rm : Int} {l4 l5 : List S29} (h : okS (d + 1) ⟨6, a1, a2, a3, l4, l5⟩ rm = true) : okS (d + 1) ⟨6, a1, a2, a3, l5, l4⟩ rm = true ∧ okS (d + 1) ⟨6, a1, a2, a3, l4, [⟨11, 0, 0, 0, [], []⟩]⟩ rm = decide (1 ≤ d) := by
  rw [okS_succ] at h ⊢
  rw [okS_succ]
  simp only [if_pos] at h ⊢
  simp only [Bool.and_eq_true] at h
  obtain ⟨h1, h2, h3, h4, h5⟩ := h
  simp [h1, h2, h3, h4, h5, yield_ok]
theorem one_list {d : Nat} {t : S29} {rm : Int} (h : okS (d + 1) t rm = true) (h6 : t.f0 ≠ 6) : t.f5.length = 0 := by
  rw [okS_succ, if_neg h6] at h
  by_cases c : t.f5.length = 0
  · exact c
  · rw [if_neg c] at h
    cases h
theorem two_lists {d : Nat} {a0 a1 a2 a3 rm : Int} {l4 : List S29} {y : S29} (h6 : a0 ≠ 6) : okS (d + 1) ⟨a0, a1, a2, a3, l4, [y]⟩ rm = false := by
  rw [okS_succ]
  simp [h6]
theorem FnProgElse : laws_FnProgElse.Pure := by
  intro l _ _ hw
  refine Ev.rounds (g := fun k => laws_FnProgElse.f k l) ?_
  unfold laws_FnProgElse.f
  by_cases c0 : (l.length : Int) > 1048576
  · exact Evs.ite_pos c0 (Evs.some_ _)
  obtain ⟨t, dp, rm, ht, d0, d1, r0, r1, hd⟩ := drawOk_ev hw
  have vi := okVal_impl t dp rm
  have vs := okVal_spec t ht dp rm
  refine Evs.ite_neg c0 (Evs.bind hd (Evs.bind vi (Evs.bind vs (Evs.ite_neg (by simp) ?_))))
  cases hv : okVal t dp rm with
  | false =>
    rw [hv] at vs
    refine Evs.succ (fun k => by simp only [laws_FnProgElse.j0]; rfl) ?_
    exact Evs.ite_pos (by trivial) (Evs.bind vs (Evs.some_ _))
  | true =>
    obtain ⟨_, q1, q2, q3, d, rfl, hk⟩ := okVal_parts hv
    obtain ⟨a0, a1, a2, a3, l4, l5⟩ := t
    refine Evs.succ (fun k => by simp only [laws_FnProgElse.j0]; rfl) ?_
    refine Evs.ite_neg (by simp) (Evs.bind0 rfl ?_)
    by_cases h6 : a0 = 6
    · subst h6
      obtain ⟨e1, e2⟩ := turned hk
      have v1 := okVal_impl ⟨6, a1, a2, a3, l5, l4⟩ ((d + 1 : Nat) : Int) rm
      have v2 := okVal_impl ⟨6, a1, a2, a3, l4, [⟨11, 0, 0, 0, [], []⟩]⟩ ((d + 1 : Nat) : Int) rm
      rw [okVal_mk q1 q2 q3, e1] at v1
      rw [okVal_mk q1 q2 q3, e2] at v2
      refine Evs.ite_pos rfl (Evs.bind v1 (Evs.ite_pos rfl (Evs.bind v2 ?_)))
      rw [show (decide (1 ≤ d) == decide (((d + 1 : Nat) : Int) > 1)) = true by rw [beq_iff_eq, decide_eq_decide]; omega]
      exact Evs.some_ _
    · have z := one_list hk h6
      have z : l5.length = 0 := z
      have v2 := okVal_impl ⟨a0, a1, a2, a3, l4, [⟨11, 0, 0, 0, [], []⟩]⟩ ((d + 1 : Nat) : Int) rm
      rw [okVal_mk q1 q2 q3, two_lists h6] at v2
      exact Evs.ite_neg h6 (Evs.ite_pos (by omega) (Evs.bind v2 (Evs.some_ _)))

end Go.Proofs.Ytnjaimaaijbacaa.Pure
