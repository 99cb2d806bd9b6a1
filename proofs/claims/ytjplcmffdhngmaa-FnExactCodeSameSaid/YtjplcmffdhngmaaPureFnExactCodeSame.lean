/- The program's CodeSame is the reference's and leaves its arguments as they were, for every two codes; no condition. -/
import Derived.Test.YtjplcmffdhngmaaSFnExactCodeSame
import Derived.Test.YtjplcmffdhngmaaLoops
namespace Go.Proofs.Ytjplcmffdhngmaa.Pure
open Go.RowKit Go.Proofs.Ytjplcmffdhngmaa.P Go.Proofs.YtjplcmffdhngmaaW.PrintWords Go.Proofs.YtjplcmffdhngmaaW.PrintLast

open Go.Proofs.Ytjplcmffdhngmaa.P Go.Proofs.YtjplcmffdhngmaaW.PrintMore
/-- A law's instruction as the program's. -/
def toI (x : S65) : S63 := ⟨x.f0, x.f1, x.f2, x.f3⟩
theorem toInsS_ev (l : List S65) (hl : l.length ≤ 1048576) : Ev (fun k => laws_toInsS.f k l) (l.map toI) := by
  unfold laws_toInsS.f
  refine Evs.ite_pos (by omega) (Evs.ite_pos (by omega) ?_)
  rw [Int.toNat_natCast]
  refine map_loop (fun k acc i => laws_toInsS.l0 k l acc i) l z65 _ toI (fun i acc r hi ha h => ?_) (fun acc ha => ?_)
  · refine Evs.succ (fun k => by simp only [laws_toInsS.l0]; rfl) ?_
    refine Evs.ite_pos (by omega) (Evs.ite_pos (by omega) (Evs.bind0 rfl (Evs.ite_pos (by omega) ?_)))
    rw [wrap_succ (by omega), Int.toNat_natCast]
    exact h
  · refine Evs.succ (fun k => by simp only [laws_toInsS.l0]; rfl) ?_
    exact Evs.ite_neg (by omega) (Evs.some_ _)
theorem eqInsS_refl (l : List S63) (hl : l.length ≤ 1048576) : Ev (fun k => laws_eqInsS.f k l l) true := by
  unfold laws_eqInsS.f
  refine Evs.ite_pos rfl ?_
  refine all_true_loop (fun k i => laws_eqInsS.l0 k l l i) l.length (fun i r hi h => ?_) ?_
  · refine Evs.succ (fun k => by simp only [laws_eqInsS.l0]; rfl) ?_
    refine Evs.ite_pos (by omega) (Evs.ite_pos (by omega) (Evs.ite_pos (by omega) (Evs.bind0 (b := true) (by simp [laws_eqIns.f]) (Evs.ite_pos rfl ?_))))
    rw [wrap_succ (by omega)]
    exact h
  · refine Evs.succ (fun k => by simp only [laws_eqInsS.l0]; rfl) ?_
    exact Evs.ite_neg (by omega) (Evs.some_ _)
/-- Whether the instructions at a place differ. -/
def offI (a b : List S63) (i : Nat) : Bool := !(((rd_T63 a (i : Int)).f0) == ((rd_T63 b (i : Int)).f0)) || (!(((rd_T63 a (i : Int)).f1) == ((rd_T63 b (i : Int)).f1)) || (!(((rd_T63 a (i : Int)).f2) == ((rd_T63 b (i : Int)).f2)) || (!(((rd_T63 a (i : Int)).f3) == ((rd_T63 b (i : Int)).f3)))))
def sameI (a b : List S63) : Bool := if a.length = b.length then (List.range a.length).all fun i => !offI a b i else false
theorem specSame_ev (a b : List S63) (ha : a.length ≤ 1048576) : Ev (fun k => spec_CodeSame.f k a b) (sameI a b) := by
  unfold spec_CodeSame.f sameI
  by_cases h : a.length = b.length
  · rw [if_pos h]
    refine Evs.ite_pos (by omega) ?_
    refine all_loop (fun k i => spec_CodeSame.l0 k a b i) a.length _ (fun i r hi hq hr => ?_) (fun i hi hq => ?_) ?_
    · refine Evs.succ (fun k => by simp only [spec_CodeSame.l0]; rfl) ?_
      refine Evs.ite_pos (by omega) (Evs.ite_pos (by omega) (Evs.ite_pos (by omega) (Evs.ite_neg (by unfold offI at hq; simpa using hq) ?_)))
      rw [wrap_succ (by omega)]
      exact hr
    · refine Evs.succ (fun k => by simp only [spec_CodeSame.l0]; rfl) ?_
      exact Evs.ite_pos (by omega) (Evs.ite_pos (by omega) (Evs.ite_pos (by omega) (Evs.ite_pos (by unfold offI at hq; grind) (Evs.some_ _))))
    · refine Evs.succ (fun k => by simp only [spec_CodeSame.l0]; rfl) ?_
      exact Evs.ite_neg (by omega) (Evs.some_ _)
  · rw [if_neg h]
    exact Evs.ite_neg (by omega) (Evs.some_ _)
theorem implSame_ev (a b : List S63) (ha : a.length ≤ 1048576) : Ev (fun k => impl_CodeSame.f k a b) (sameI a b) := by
  unfold impl_CodeSame.f
  refine Evs.bind (b := sameI a b) ?_ (Evs.some_ _)
  unfold impl_Ins.f sameI
  by_cases h : a.length = b.length
  · rw [if_pos h]
    refine Evs.ite_pos (by omega) ?_
    refine all_loop (fun k i => impl_Ins.l0 k a b a.length i) a.length _ (fun i r hi hq hr => ?_) (fun i hi hq => ?_) ?_
    · refine Evs.succ (fun k => by simp only [impl_Ins.l0]; rfl) ?_
      refine Evs.ite_pos (by omega) (Evs.ite_pos (by omega) (Evs.ite_pos (by omega) (Evs.ite_pos (by omega) (Evs.ite_neg (by unfold offI at hq; simpa using hq) ?_))))
      rw [wrap_succ (by omega)]
      exact hr
    · refine Evs.succ (fun k => by simp only [impl_Ins.l0]; rfl) ?_
      exact Evs.ite_pos (by omega) (Evs.ite_pos (by omega) (Evs.ite_pos (by omega) (Evs.ite_pos (by omega) (Evs.ite_pos (by unfold offI at hq; grind) (Evs.some_ _)))))
    · refine Evs.succ (fun k => by simp only [impl_Ins.l0]; rfl) ?_
      exact Evs.ite_neg (by omega) (Evs.some_ _)
  · rw [if_neg h]
    exact Evs.ite_neg (by omega) (Evs.some_ _)
theorem szInsS_eq (l : List S65) (m : Int) (hl : l.length ≤ 9223372036854775807) (h0 : 0 ≤ m) (h1 : m ≤ 1048576) : ∃ r, laws_szInsS.f l m = some r ∧ (r < 0 ∨ (l.length ≤ 1048576 ∧ 0 ≤ r ∧ r ≤ m)) := by
  unfold laws_szInsS.f
  rw [wrap_id (by omega) (by omega)]
  by_cases h : m - (l.length : Int) < 0
  · exact ⟨-1, by rw [if_pos h], .inl (by omega)⟩
  · exact ⟨m - l.length, by rw [if_neg h], .inr ⟨by omega, by omega, by omega⟩⟩
theorem FnExactCodeSame : laws_FnExactCodeSame.Pure := by
  intro a b ha hb
  refine Ev.rounds (g := fun k => laws_FnExactCodeSame.f k a b) ?_
  unfold laws_FnExactCodeSame.f
  obtain ⟨r, hr, c⟩ := szInsS_eq a 1048576 ha (by omega) (by omega)
  refine Evs.bind0 hr ?_
  rcases c with c | ⟨c0, c1, c2⟩
  · exact Evs.ite_pos c (Evs.some_ _)
  obtain ⟨s, hs, e⟩ := szInsS_eq b r hb (by omega) (by omega)
  refine Evs.ite_neg (by omega) (Evs.bind0 hs ?_)
  rcases e with e | ⟨e0, e1, e2⟩
  · exact Evs.ite_pos e (Evs.some_ _)
  have la : (a.map toI).length ≤ 1048576 := by simpa using c0
  have lb : (b.map toI).length ≤ 1048576 := by simpa using e0
  have ta := toInsS_ev a c0
  have tb := toInsS_ev b e0
  exact Evs.ite_neg (by omega) (Evs.bind ta (Evs.bind tb (Evs.bind (specSame_ev _ _ la) (Evs.bind ta (Evs.bind tb (Evs.bind (implSame_ev _ _ la) (Evs.ite_neg (by simp) (Evs.bind ta (Evs.bind (eqInsS_refl _ la) (Evs.ite_pos rfl (Evs.bind tb (Evs.bind (eqInsS_refl _ lb) (Evs.ite_pos rfl (Evs.some_ _))))))))))))))

end Go.Proofs.Ytjplcmffdhngmaa.Pure
