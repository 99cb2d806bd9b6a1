/- Nesting is counted from within: what is within a right statement is right one level less deep; for every drawn statement; no condition. -/
import Derived.Test.YtnjaimaaijbacaaFLawsFnProgDeep
import Derived.Test.YtnjaimaaijbacaaStmDrawOk
namespace Go.Proofs.Ytnjaimaaijbacaa.Pure
open Go.RowKit Go.Proofs.Ytnjaimaaijbacaa.P Go.Proofs.YtnjaimaaijbacaaW.PrintWords Go.Proofs.YtnjaimaaijbacaaW.PrintLast

open Go.Proofs.Ytnjaimaaijbacaa.P Go.Proofs.YtnjaimaaijbacaaW.PrintMore
theorem leafOk_kind {a0 a1 a2 a3 room : Int} (h : leafOk a0 a1 a2 a3 room = true) : a0 ≠ 8 := by
  intro e
  subst e
  simp [leafOk] at h
theorem okS_kids {d : Nat} {t : S29} {rm : Int} (h : okS (d + 1) t rm = true) :
    (t.f0 = 8 → 0 ≤ t.f1 ∧ t.f1 < 2) ∧ (∀ x ∈ t.f4, okS d x (if t.f0 = 8 then t.f1 else rm) = true) ∧ (∀ x ∈ t.f5, okS d x (if t.f0 = 8 then t.f1 else rm) = true) := by
  rw [okS_succ] at h
  by_cases h6 : t.f0 = 6
  · rw [if_pos h6] at h
    simp only [Bool.and_eq_true, List.all_eq_true] at h
    rw [if_neg (by omega)]
    exact ⟨fun e => absurd e (by omega), h.2.2.2.1, h.2.2.2.2⟩
  rw [if_neg h6] at h
  by_cases h5 : t.f5.length = 0
  · have n5 := List.eq_nil_of_length_eq_zero h5
    rw [if_pos h5] at h
    rw [n5]
    by_cases h7 : t.f0 = 7
    · rw [if_pos h7] at h
      simp only [Bool.and_eq_true, List.all_eq_true] at h
      rw [if_neg (by omega)]
      exact ⟨fun e => absurd e (by omega), h.2.2.2, fun _ h => by cases h⟩
    rw [if_neg h7] at h
    by_cases h8 : t.f0 = 8
    · rw [if_pos h8] at h
      unfold inR at h
      simp only [Bool.and_eq_true, List.all_eq_true, decide_eq_true_eq] at h
      rw [if_pos h8]
      exact ⟨fun _ => h.2.1, h.2.2.2.2, fun _ h => by cases h⟩
    rw [if_neg h8] at h
    simp only [Bool.and_eq_true, decide_eq_true_eq] at h
    rw [List.eq_nil_of_length_eq_zero h.1]
    exact ⟨fun e => absurd e h8, (fun _ h => by cases h), (fun _ h => by cases h)⟩
  · rw [if_neg h5] at h
    cases h
theorem okVal_kid {t x : S29} {dp rm : Int} (h : okVal t dp rm = true) (hx : x ∈ t.f4 ∨ x ∈ t.f5) : okVal x (dp - 1) (if t.f0 = 8 then t.f1 else rm) = true := by
  unfold okVal at h
  simp only [Bool.and_eq_true, decide_eq_true_eq] at h
  obtain ⟨h0, h1, h2, h3, h4⟩ := h
  obtain ⟨n, hn⟩ : ∃ n, n = dp.toNat := ⟨_, rfl⟩
  rw [← hn] at h4
  cases n with
  | zero => cases h4
  | succ n =>
    obtain ⟨k8, k4, k5⟩ := okS_kids h4
    have hk : okS n x (if t.f0 = 8 then t.f1 else rm) = true := hx.elim (k4 x) (k5 x)
    unfold okVal
    rw [show (dp - 1).toNat = n by omega, hk, decide_eq_true (by omega), decide_eq_true (by omega)]
    by_cases e : t.f0 = 8
    · have := k8 e
      rw [if_pos e, decide_eq_true (by omega), decide_eq_true (by omega)]
      rfl
    · rw [if_neg e, decide_eq_true h2, decide_eq_true h3]
      rfl
theorem okVal_deep {t : S29} {dp rm : Int} (h : okVal t dp rm = true) : dp ≥ 1 := by
  unfold okVal at h
  simp only [Bool.and_eq_true, decide_eq_true_eq] at h
  obtain ⟨h0, h1, h2, h3, h4⟩ := h
  by_cases c : dp ≥ 1
  · exact c
  · rw [show dp.toNat = 0 by omega] at h4
    cases h4
theorem FnProgDeep : laws_FnProgDeep.Pure := by
  intro l _ _ hw
  refine Ev.rounds (g := fun k => laws_FnProgDeep.f k l) ?_
  unfold laws_FnProgDeep.f
  by_cases c0 : (l.length : Int) > 1048576
  · exact Evs.ite_pos c0 (Evs.some_ _)
  obtain ⟨t, dp, rm, ht, d0, d1, r0, r1, hd⟩ := drawOk_ev hw
  have vi := okVal_impl t dp rm
  have vs := okVal_spec t ht dp rm
  have small := sm_parts ht
  have ew : wrap64 (dp - 1) = dp - 1 := wrap_id (by omega) (by omega)
  refine Evs.ite_neg c0 (Evs.bind hd (Evs.bind vi (Evs.bind vs (Evs.ite_neg (by simp) ?_))))
  cases hv : okVal t dp rm with
  | false =>
    rw [hv] at vs
    refine Evs.succ (fun k => by simp only [laws_FnProgDeep.j0]; rfl) ?_
    exact Evs.ite_pos (by trivial) (Evs.bind vs (Evs.some_ _))
  | true =>
    have hl : ∀ at_ : Int, at_ = (if t.f0 = 8 then t.f1 else rm) → Ev (fun k => laws_FnProgDeep.j1 k dp at_ t.f0 t.f1 t.f2 t.f3 t.f4 t.f5) true := by
      intro at_ ha
      have l1 : Ev (fun k => laws_FnProgDeep.l1 k dp at_ 0 t.f0 t.f1 t.f2 t.f3 t.f4 t.f5) true := by
        refine all_true_loop (fun k i => laws_FnProgDeep.l1 k dp at_ i t.f0 t.f1 t.f2 t.f3 t.f4 t.f5) t.f5.length (fun i r hi hr => ?_) ?_
        · have e := okVal_impl (rd_T29 t.f5 (i : Int)) (dp - 1) at_
          rw [ha, okVal_kid hv (.inr (rd_mem hi)), ← ha] at e
          refine Evs.succ (fun k => by simp only [laws_FnProgDeep.l1, ew]; rfl) ?_
          refine Evs.ite_pos (by omega) (Evs.ite_pos (by omega) (Evs.bind e (Evs.ite_pos rfl ?_)))
          rw [wrap_succ (by omega)]
          exact hr
        · refine Evs.succ (fun k => by simp only [laws_FnProgDeep.l1]; rfl) ?_
          refine Evs.ite_neg (by omega) ?_
          rw [decide_eq_true (okVal_deep hv)]
          exact Evs.some_ _
      refine Evs.succ (fun k => by simp only [laws_FnProgDeep.j1]; rfl) ?_
      refine all_true_loop (fun k i => laws_FnProgDeep.l0 k dp at_ i t.f0 t.f1 t.f2 t.f3 t.f4 t.f5) t.f4.length (fun i r hi hr => ?_) ?_
      · have e := okVal_impl (rd_T29 t.f4 (i : Int)) (dp - 1) at_
        rw [ha, okVal_kid hv (.inl (rd_mem hi)), ← ha] at e
        refine Evs.succ (fun k => by simp only [laws_FnProgDeep.l0, ew]; rfl) ?_
        refine Evs.ite_pos (by omega) (Evs.ite_pos (by omega) (Evs.bind e (Evs.ite_pos rfl ?_)))
        rw [wrap_succ (by omega)]
        exact hr
      · refine Evs.succ (fun k => by simp only [laws_FnProgDeep.l0]; rfl) ?_
        exact Evs.ite_neg (by omega) l1
    refine Evs.succ (fun k => by simp only [laws_FnProgDeep.j0]; rfl) ?_
    refine Evs.ite_neg (by simp) ?_
    by_cases h8 : t.f0 = 8
    · exact Evs.ite_pos h8 (hl t.f1 (by rw [if_pos h8]))
    · exact Evs.ite_neg h8 (hl rm (by rw [if_neg h8]))

end Go.Proofs.Ytnjaimaaijbacaa.Pure
