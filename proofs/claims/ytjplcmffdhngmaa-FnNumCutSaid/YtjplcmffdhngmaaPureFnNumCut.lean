/- Clamping is monotone and idempotent, the program's and the reference's being one, for every drawn pair; no condition. -/
import Derived.Test.YtjplcmffdhngmaaFLawsFnNumCut
import Derived.Test.YtjplcmffdhngmaaNumCut
import Derived.Test.YtjplcmffdhngmaaNumDraw
namespace Go.Proofs.Ytjplcmffdhngmaa.Pure
open Go.RowKit Go.Proofs.Ytjplcmffdhngmaa.P Go.Proofs.YtjplcmffdhngmaaW.PrintWords Go.Proofs.YtjplcmffdhngmaaW.PrintLast

open Go.Proofs.Ytjplcmffdhngmaa.P Go.Proofs.YtjplcmffdhngmaaW.PrintMore
theorem FnNumCut : laws_FnNumCut.Pure := by
  intro l0 l1 _ _ h0 _ _ h1
  refine Ev.rounds (g := fun k => laws_FnNumCut.f k l0 l1) ?_
  have long : Ev (fun k => laws_FnNumCut.j0 k l0 l1 true) true := by
    refine Evs.succ (fun k => by simp only [laws_FnNumCut.j0]; rfl) ?_
    exact Evs.ite_pos trivial (Evs.some_ _)
  have rest : Ev (fun k => laws_FnNumCut.j0 k l0 l1 false) true := by
    obtain ⟨a, ha⟩ := drawNumCut_ev h0
    obtain ⟨b, hb⟩ := drawNumOk_ev h1
    refine Evs.succ (fun k => by simp only [laws_FnNumCut.j0]; rfl) ?_
    refine Evs.ite_neg (by simp) (Evs.bind ha (Evs.bind hb (Evs.bind0 (iCut_eq a) (Evs.bind0 (iCut_eq b) (Evs.bind0 (sCut_eq a) (Evs.ite_pos rfl (Evs.bind0 (sCut_eq b) (Evs.ite_pos rfl (Evs.bind0 (iOk_eq b) (Evs.bind0 (sOk_eq b) ?_))))))))))
    rw [show (okN b != okN b) = false by simp]
    refine Evs.succ (fun k => by simp only [laws_FnNumCut.j1]; rfl) ?_
    refine Evs.ite_neg (by simp) (Evs.bind0 (iOk_eq _) (Evs.ite_pos (by unfold okN cutN; simp; omega) (Evs.bind0 (iCut_eq _) (Evs.ite_pos (by unfold cutN; omega) (Evs.bind0 (iOk_eq a) ?_)))))
    have tail : Ev (fun _ => if a > b then some true else some (decide (cutN a ≤ cutN b))) true := by
      by_cases h : a > b
      · exact Evs.ite_pos h (Evs.some_ _)
      · refine Evs.ite_neg h ?_
        rw [show decide (cutN a ≤ cutN b) = true by unfold cutN; simp; omega]
        exact Evs.some_ _
    by_cases h : okN a = true
    · exact Evs.ite_pos h (Evs.ite_pos (by unfold okN at h; unfold cutN; simp at h; omega) tail)
    · exact Evs.ite_neg h tail
  unfold laws_FnNumCut.f
  by_cases c0 : (l0.length : Int) > 1048576
  · exact Evs.ite_pos c0 long
  · refine Evs.ite_neg c0 ?_
    by_cases c1 : (l1.length : Int) > 1048576
    · rw [decide_eq_true c1]; exact long
    · rw [decide_eq_false c1]; exact rest

end Go.Proofs.Ytjplcmffdhngmaa.Pure
