/- The program's GapsOk is the reference's and leaves its argument as it was, for every list of ints; no condition. -/
import Derived.Test.YtjplcmffdhngmaaFLawsFnExactGapsOk
import Derived.Test.YtjplcmffdhngmaaIntTo
import Derived.Test.YtjplcmffdhngmaaIntEq
import Derived.Test.YtjplcmffdhngmaaLoops
import Derived.Test.YtjplcmffdhngmaaGapsI
namespace Go.Proofs.Ytjplcmffdhngmaa.Pure
open Go.RowKit Go.Proofs.Ytjplcmffdhngmaa.P Go.Proofs.YtjplcmffdhngmaaW.PrintWords Go.Proofs.YtjplcmffdhngmaaW.PrintLast

open Go.Proofs.Ytjplcmffdhngmaa.P Go.Proofs.YtjplcmffdhngmaaW.PrintMore
def gapsOk (l : List Int) : Bool := decide (1 ≤ (l.length : Int)) && decide ((l.length : Int) ≤ 20) && !(l.any gapOff)
theorem specGaps_loop (l : List Int) (hl : l.length ≤ 1048576) (d : Nat) : ∀ i : Nat, i + d = l.length → Ev (fun k => spec_GapsOk.l0 k l (i : Int)) (decide (1 ≤ (l.length : Int)) && decide ((l.length : Int) ≤ 20) && !((l.drop i).any gapOff)) := by
  induction d with
  | zero =>
    intro i hi
    refine Evs.succ (fun k => by simp only [spec_GapsOk.l0]; rfl) ?_
    refine Evs.ite_neg (by omega) ?_
    rw [List.drop_of_length_le (by omega)]
    by_cases h : 1 ≤ (l.length : Int)
    · refine Evs.ite_pos (by omega) ?_
      rw [decide_eq_true h]
      simp only [List.any_nil, Bool.true_and, Bool.not_false, Bool.and_true]
      exact Evs.some_ _
    · refine Evs.ite_neg (by omega) ?_
      rw [decide_eq_false h]
      exact Evs.some_ _
  | succ d ih =>
    intro i hi
    refine Evs.succ (fun k => by simp only [spec_GapsOk.l0]; rfl) ?_
    refine Evs.ite_pos (by omega) (Evs.ite_pos (by omega) ?_)
    have e : rd l (i : Int) = l[i] := by unfold rd; simp [List.getD_eq_getElem?_getD, show i < l.length by omega]
    rw [wrap_succ (by omega), e, List.drop_eq_getElem_cons (by omega), List.any_cons]
    by_cases h1 : l[i] < 1
    · rw [show gapOff l[i] = true by unfold gapOff; rw [decide_eq_true h1]; rfl, Bool.true_or, Bool.not_true, Bool.and_false]
      exact Evs.ite_pos h1 (Evs.some_ _)
    · refine Evs.ite_neg h1 ?_
      by_cases h2 : l[i] > 12
      · rw [show gapOff l[i] = true by unfold gapOff; rw [decide_eq_true (show 12 < l[i] from h2), Bool.or_true], Bool.true_or, Bool.not_true, Bool.and_false]
        exact Evs.ite_pos h2 (Evs.some_ _)
      · rw [show gapOff l[i] = false by unfold gapOff; rw [decide_eq_false h1, decide_eq_false (show ¬ 12 < l[i] from h2)]; rfl, Bool.false_or]
        exact Evs.ite_neg h2 (ih (i + 1) (by omega))
theorem FnExactGapsOk : laws_FnExactGapsOk.Pure := by
  intro l _ _ _
  refine Ev.rounds (g := fun k => laws_FnExactGapsOk.f k l) ?_
  unfold laws_FnExactGapsOk.f
  by_cases c0 : (l.length : Int) > 1048576
  · exact Evs.ite_pos c0 (Evs.some_ _)
  have ta := toIntS_ev l (by omega)
  have sp : Ev (fun k => spec_GapsOk.f k l) (gapsOk l) := specGaps_loop l (by omega) l.length 0 (Nat.zero_add _)
  have ip : impl_GapsOk.f l = some (gapsOk l) := rfl
  exact Evs.ite_neg c0 (Evs.bind ta (Evs.bind sp (Evs.bind ta (Evs.bind0 ip (Evs.ite_neg (by simp) (Evs.bind ta (Evs.bind (eqIntS_ev l l (by omega)) (Evs.ite_pos (decide_eq_true rfl) (Evs.some_ _)))))))))

end Go.Proofs.Ytjplcmffdhngmaa.Pure
