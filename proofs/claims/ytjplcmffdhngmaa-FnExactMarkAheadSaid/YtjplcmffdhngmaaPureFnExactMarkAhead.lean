/- The program's MarkAhead is the reference's and leaves its arguments as they were, for every two marks; no condition. -/
import Derived.Test.YtjplcmffdhngmaaSFnExactMarkAhead
import Derived.Test.YtjplcmffdhngmaaIntTo
import Derived.Test.YtjplcmffdhngmaaIntEq
namespace Go.Proofs.Ytjplcmffdhngmaa.Pure
open Go.RowKit Go.Proofs.Ytjplcmffdhngmaa.P Go.Proofs.YtjplcmffdhngmaaW.PrintWords Go.Proofs.YtjplcmffdhngmaaW.PrintLast

open Go.Proofs.Ytjplcmffdhngmaa.P Go.Proofs.YtjplcmffdhngmaaW.PrintMore
/-- The order of two marks. -/
def aheadM (a : Int) (l : List Int) (b : Int) (m : List Int) : Bool := if a < 0 then false else if a ≥ (l.length : Int) then false else if a ≥ (m.length : Int) then false else if a = b then decide (rd l a < rd m a) else decide (rd l a ≤ rd m a)
theorem specAhead_eq (a0 a1 : Int) (a2 : Bool) (a3 : Int) (l : List Int) (b0 b1 : Int) (b2 : Bool) (b3 : Int) (m : List Int) : spec_MarkAhead.f a0 a1 a2 a3 l b0 b1 b2 b3 m = some (aheadM a0 l b0 m) := by
  unfold spec_MarkAhead.f aheadM
  split
  · rfl
  split
  · rfl
  split
  · rfl
  rw [if_pos (by omega), if_pos (by omega), if_pos (by omega)]
  by_cases h : rd l a0 ≤ rd m a0
  · rw [if_pos h]
    split
    · rfl
    · rw [decide_eq_true h]
  · rw [if_neg h]
    split
    · rw [decide_eq_false (by omega)]
    · rw [decide_eq_false h]
theorem implAhead_ev (a0 a1 : Int) (a2 : Bool) (a3 : Int) (l : List Int) (b0 b1 : Int) (b2 : Bool) (b3 : Int) (m : List Int) : Ev (fun k => impl_MarkAhead.f k a0 a1 a2 a3 l b0 b1 b2 b3 m) (aheadM a0 l b0 m) := by
  unfold impl_MarkAhead.f aheadM
  have gone : Ev (fun k => impl_MarkAhead.j0 k true a0 a1 a2 a3 l b0 b1 b2 b3 m) false := by
    refine Evs.succ (fun k => by simp only [impl_MarkAhead.j0]; rfl) ?_
    exact Evs.ite_pos (by trivial) (Evs.some_ _)
  by_cases c0 : a0 < 0
  · rw [if_pos c0]
    exact Evs.ite_pos c0 gone
  rw [if_neg c0]
  refine Evs.ite_neg c0 ?_
  by_cases c1 : a0 ≥ (l.length : Int)
  · rw [if_pos c1]
    exact Evs.ite_pos c1 gone
  rw [if_neg c1]
  refine Evs.ite_neg c1 ?_
  by_cases c2 : a0 ≥ (m.length : Int)
  · rw [if_pos c2, decide_eq_true c2]
    exact gone
  rw [if_neg c2, decide_eq_false c2]
  refine Evs.succ (fun k => by simp only [impl_MarkAhead.j0]; rfl) ?_
  refine Evs.ite_neg (by simp) ?_
  by_cases c3 : a0 = b0
  · simp only [if_pos c3]
    exact (Evs.ite_pos (by omega) (Evs.ite_pos (by omega) (Evs.ite_pos (by omega) (Evs.some_ _))))
  · simp only [if_neg c3]
    exact (Evs.ite_pos (by omega) (Evs.ite_pos (by omega) (Evs.ite_pos (by omega) (Evs.some_ _))))
theorem toMark_ev (a0 a1 : Int) (a2 : Bool) (a3 : Int) (l : List Int) (h : l.length ≤ 1048576) : Ev (fun k => laws_toMark.f k a0 a1 a2 a3 l) (a0, a1, a2, a3, l) := by
  unfold laws_toMark.f
  exact Evs.bind (toIntS_ev l (by omega)) (Evs.some_ _)
theorem eqMark_refl (a0 a1 : Int) (a2 : Bool) (a3 : Int) (l : List Int) (h : l.length ≤ 1048576) : Ev (fun k => laws_eqMark.f k a0 a1 a2 a3 l a0 a1 a2 a3 l) true := by
  unfold laws_eqMark.f
  have e := eqIntS_ev l l (by omega)
  rw [decide_eq_true rfl] at e
  exact Evs.ite_pos rfl (Evs.ite_pos rfl (Evs.ite_neg (by simp) (Evs.ite_pos rfl (Evs.bind e (Evs.ite_pos rfl (Evs.some_ _))))))
theorem szMark_eq (a0 a1 : Int) (a2 : Bool) (a3 : Int) (l : List Int) (m : Int) (hl : l.length ≤ 9223372036854775807) (h0 : 0 ≤ m) (h1 : m ≤ 1048576) : ∃ r, laws_szMark.f a0 a1 a2 a3 l m = some r ∧ (r < 0 ∨ (l.length ≤ 1048576 ∧ 0 ≤ r ∧ r ≤ m)) := by
  unfold laws_szMark.f laws_szIntS.f
  rw [wrap_id (by omega) (by omega)]
  by_cases h : m - (l.length : Int) < 0
  · exact ⟨-1, by rw [if_pos h]; rfl, .inl (by omega)⟩
  · exact ⟨m - l.length, by rw [if_neg h, Option.bind_some, if_neg h], .inr ⟨by omega, by omega, by omega⟩⟩
theorem FnExactMarkAhead : laws_FnExactMarkAhead.Pure := by
  intro a0 a1 a2 a3 l b0 b1 b2 b3 m hl hm
  refine Ev.rounds (g := fun k => laws_FnExactMarkAhead.f k a0 a1 a2 a3 l b0 b1 b2 b3 m) ?_
  unfold laws_FnExactMarkAhead.f
  obtain ⟨r, hr, c⟩ := szMark_eq a0 a1 a2 a3 l 1048576 hl (by omega) (by omega)
  refine Evs.bind0 hr ?_
  rcases c with c | ⟨c0, c1, c2⟩
  · exact Evs.ite_pos c (Evs.some_ _)
  obtain ⟨s, hs, e⟩ := szMark_eq b0 b1 b2 b3 m r hm (by omega) (by omega)
  refine Evs.ite_neg (by omega) (Evs.bind0 hs ?_)
  rcases e with e | ⟨e0, e1, e2⟩
  · exact Evs.ite_pos e (Evs.some_ _)
  have ta := toMark_ev a0 a1 a2 a3 l c0
  have tb := toMark_ev b0 b1 b2 b3 m e0
  exact Evs.ite_neg (by omega) (Evs.bind ta (Evs.bind tb (Evs.bind0 (specAhead_eq _ _ _ _ _ _ _ _ _ _) (Evs.bind ta (Evs.bind tb (Evs.bind (implAhead_ev _ _ _ _ _ _ _ _ _ _) (Evs.ite_neg (by simp) (Evs.bind ta (Evs.bind (eqMark_refl _ _ _ _ _ c0) (Evs.ite_pos rfl (Evs.bind tb (Evs.bind (eqMark_refl _ _ _ _ _ e0) (Evs.ite_pos rfl (Evs.some_ _))))))))))))))

end Go.Proofs.Ytjplcmffdhngmaa.Pure
