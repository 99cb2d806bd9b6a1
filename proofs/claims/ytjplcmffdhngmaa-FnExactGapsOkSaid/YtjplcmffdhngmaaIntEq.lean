/- Two lists of ints compared by the laws' comparer: true just if they are one; no condition but a length. -/
import Derived.Test.YtjplcmffdhngmaaEvs
import Derived.Test.YtjplcmffdhngmaaFLawsEqIntS
namespace Go.Proofs.Ytjplcmffdhngmaa.P
open Go.RowKit Go.Proofs.YtjplcmffdhngmaaW.PrintWords Go.Proofs.YtjplcmffdhngmaaW.PrintMore

theorem drop_eq_step (a b : List Int) (i : Nat) (ha : i < a.length) (hb : i < b.length) : decide (a.drop i = b.drop i) = (decide (rd a (i : Int) = rd b (i : Int)) && decide (a.drop (i + 1) = b.drop (i + 1))) := by
  have ea : rd a (i : Int) = a[i] := by unfold rd; simp [List.getD_eq_getElem?_getD, ha]
  have eb : rd b (i : Int) = b[i] := by unfold rd; simp [List.getD_eq_getElem?_getD, hb]
  rw [ea, eb, Bool.eq_iff_iff, decide_eq_true_eq, Bool.and_eq_true, decide_eq_true_eq, decide_eq_true_eq]
  constructor
  · intro h
    rw [List.drop_eq_getElem_cons ha, List.drop_eq_getElem_cons hb] at h
    exact List.cons.inj h
  · rintro ⟨h1, h2⟩
    rw [List.drop_eq_getElem_cons ha, List.drop_eq_getElem_cons hb, h1, h2]
theorem eqIntS_loop (a b : List Int) (hl : a.length = b.length) (hm : a.length ≤ 9000000000000000000) (d : Nat) : ∀ i : Nat, i + d = a.length → Ev (fun k => laws_eqIntS.l0 k a b (i : Int)) (decide (a.drop i = b.drop i)) := by
  induction d with
  | zero =>
    intro i hi
    refine Evs.succ (fun k => by simp only [laws_eqIntS.l0]; rfl) ?_
    refine Evs.ite_neg (by omega) ?_
    rw [List.drop_of_length_le (by omega), List.drop_of_length_le (by omega)]
    exact Evs.some_ _
  | succ d ih =>
    intro i hi
    have hw : wrap64 ((i : Int) + 1) = ((i + 1 : Nat) : Int) := by rw [wrap_id (by omega) (by omega)]; rfl
    refine Evs.succ (fun k => by simp only [laws_eqIntS.l0]; rfl) ?_
    refine Evs.ite_pos (by omega) (Evs.ite_pos (by omega) (Evs.ite_pos (by omega) ?_))
    rw [drop_eq_step a b i (by omega) (by omega)]
    by_cases h : rd a (i : Int) = rd b (i : Int)
    · rw [decide_eq_true h, Bool.true_and, hw]
      exact Evs.ite_pos h (ih (i + 1) (by omega))
    · rw [decide_eq_false h, Bool.false_and]
      exact Evs.ite_neg h (Evs.some_ _)
theorem eqIntS_ev (a b : List Int) (hm : a.length ≤ 9000000000000000000) : Ev (fun k => laws_eqIntS.f k a b) (decide (a = b)) := by
  unfold laws_eqIntS.f
  by_cases h : (a.length : Int) = (b.length : Int)
  · exact Evs.ite_pos h (eqIntS_loop a b (by omega) hm a.length 0 (Nat.zero_add _))
  · rw [decide_eq_false (fun e => h (by rw [e]))]
    exact Evs.ite_neg h (Evs.some_ _)
end Go.Proofs.Ytjplcmffdhngmaa.P
