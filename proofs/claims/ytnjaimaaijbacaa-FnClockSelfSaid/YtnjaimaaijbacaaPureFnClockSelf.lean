/- Clocks join idempotently, the program's join and order being the reference's, for every drawn clock; no condition. -/
import Derived.Test.YtnjaimaaijbacaaFLawsFnClockSelf
import Derived.Test.YtnjaimaaijbacaaLoops
import Derived.Test.YtnjaimaaijbacaaClkSJoin
import Derived.Test.YtnjaimaaijbacaaClkIJoin
import Derived.Test.YtnjaimaaijbacaaClkSUnder
import Derived.Test.YtnjaimaaijbacaaClkIUnder
import Derived.Test.YtnjaimaaijbacaaClkDraw2
import Derived.Test.YtnjaimaaijbacaaIntWp
namespace Go.Proofs.Ytnjaimaaijbacaa.Pure
open Go.RowKit Go.Proofs.Ytnjaimaaijbacaa.P Go.Proofs.YtnjaimaaijbacaaW.PrintWords Go.Proofs.YtnjaimaaijbacaaW.PrintLast

open Go.Proofs.Ytnjaimaaijbacaa.P Go.Proofs.YtnjaimaaijbacaaW.PrintMore
theorem ext_getD {a b : List Int} (hl : a.length = b.length) (h : ∀ i, i < a.length → a.getD i 0 = b.getD i 0) : a = b := by
  apply List.ext_getElem hl
  intro i h1 h2
  have := h i h1
  simpa [List.getD_eq_getElem?_getD, h1, h2] using this
theorem joinC_self_of {a : List Int} (h : ∀ i, i < a.length → 0 ≤ a.getD i 0) : joinC a a = a := by
  refine ext_getD (by rw [joinC_length]; omega) fun i hi => ?_
  rw [joinC_length] at hi
  rw [joinC_getD _ _ _ (by omega)]
  have := h i (by omega)
  unfold elC
  omega
theorem joinC_nil_of {a : List Int} (h : ∀ i, i < a.length → 0 ≤ a.getD i 0) : joinC a [] = a := by
  refine ext_getD (by rw [joinC_length]; simp) fun i hi => ?_
  rw [joinC_length] at hi
  have hi : i < a.length := by simpa using hi
  rw [joinC_getD _ _ _ (by omega)]
  have h1 := h i (by omega)
  have h2 : ([] : List Int).getD i 0 = 0 := by simp
  unfold elC
  rw [h2]
  omega
theorem FnClockSelf : laws_FnClockSelf.Pure := by
  intro l0 _ _ h0
  refine Ev.rounds (g := fun k => laws_FnClockSelf.f k l0) ?_
  unfold laws_FnClockSelf.f
  by_cases c0 : (l0.length : Int) > 1048576
  · exact Evs.ite_pos c0 (Evs.some_ _)
  obtain ⟨a, b, ha, hb, hd⟩ := drawUnder_ev h0
  have hj : (joinC a a).length ≤ 3 := by rw [joinC_length]; omega
  have hz : joinC (joinC a a) [] = joinC a a := joinC_nil_of fun i hi => by
    rw [joinC_length] at hi
    rw [joinC_getD _ _ _ (by omega)]
    have := elC_nonneg a i
    omega
  have w1 := wpInts_ev (joinC a a) (joinC a a) (by omega)
  have d1 : decide (joinC a a = joinC a a) = true := decide_eq_true rfl
  refine Evs.ite_neg c0 (Evs.bind hd (Evs.bind (iJoin_ev a a (by omega) (by omega)) (Evs.bind (sJoin_ev a a (by omega) (by omega)) (Evs.bind w1 (Evs.ite_pos d1 (Evs.bind (iUnder_ev a b (by omega)) (Evs.bind (sUnder_ev a b (by omega)) ?_)))))))
  refine Evs.succ (fun k => by simp only [laws_FnClockSelf.j0]; rfl) ?_
  refine Evs.ite_neg (by simp) ?_
  have u1 : underC a a = true := underC_of_all fun i => Int.le_refl _
  have u2 : underC [] a = true := underC_of_all fun i => by
    have h1 := elC_nonneg a i
    have h2 : elC [] i = 0 := by unfold elC; simp
    omega
  have last : Ev (fun k => (impl_ClockJoin.f k (joinC a a) ([] : List Int)).bind fun t => (laws_wpInts.f k t (joinC a a)).bind fun r => some r) true := by
    refine Evs.bind (iJoin_ev (joinC a a) [] (by omega) (by simp)) ?_
    rw [hz]
    have := w1
    rw [d1] at this
    exact Evs.bind this (Evs.some_ _)
  refine fold_loop (fun k s i => laws_FnClockSelf.l0 k a (joinC a a) s i) a.length (fun i s => if s = true then decide (a.getD i 0 ≥ 0) else false)
    (fun i s => s = true → ∀ j, j < i → 0 ≤ a.getD j 0) (fun _ => true) (fun i s r hi hs h => ?_) (fun i s hi hs h j hj => ?_) (fun s hs => ?_) true (fun _ j hj => absurd hj (by omega))
  · refine Evs.succ (fun k => by simp only [laws_FnClockSelf.l0]; rfl) ?_
    refine Evs.ite_pos (by omega) ?_
    rw [wrap_succ (by omega), rd_getD]
    cases s with
    | true => exact Evs.ite_pos rfl (Evs.ite_pos (by omega) h)
    | false => exact Evs.ite_neg (by simp) h
  · cases s with
    | false => simp at h
    | true =>
      have h' : 0 ≤ a.getD i 0 := by simpa using h
      by_cases e : j = i
      · rw [e]; exact h'
      · exact hs rfl j (by omega)
  · refine Evs.succ (fun k => by simp only [laws_FnClockSelf.l0]; rfl) ?_
    refine Evs.ite_neg (by omega) (Evs.bind (iUnder_ev a a (by omega)) (Evs.ite_pos u1 (Evs.bind (iUnder_ev [] a (by simp)) (Evs.ite_pos u2 ?_))))
    cases s with
    | false => exact Evs.ite_neg (by simp) last
    | true =>
      have e := joinC_self_of (hs rfl)
      have w2 := wpInts_ev (joinC a a) a (by omega)
      rw [decide_eq_true e] at w2
      exact Evs.ite_pos rfl (Evs.bind w2 (Evs.ite_pos rfl last))

end Go.Proofs.Ytnjaimaaijbacaa.Pure
