/- A list of ints copied by the laws' copier is that list; no condition but its length. -/
import Derived.Test.YtjplcmffdhngmaaEvs
import Derived.Test.YtjplcmffdhngmaaFLawsToIntS
namespace Go.Proofs.Ytjplcmffdhngmaa.P
open Go.RowKit Go.Proofs.YtjplcmffdhngmaaW.PrintWords Go.Proofs.YtjplcmffdhngmaaW.PrintMore

theorem set_take_drop {α : Type} (xs ys : List α) (i : Nat) (h : i < xs.length) (hl : ys.length = xs.length) (d : α) : (xs.take i ++ ys.drop i).set i (xs.getD i d) = xs.take (i + 1) ++ ys.drop (i + 1) := by
  apply List.ext_getElem?
  intro j
  simp only [List.getElem?_set, List.getElem?_append, List.length_take, List.length_append, List.length_drop, List.getElem?_take, List.getElem?_drop, List.getD_eq_getElem?_getD]
  rcases Nat.lt_trichotomy j i with hj | rfl | hj
  · rw [if_neg (by omega), if_pos (by omega), if_pos (by omega), if_pos (by omega), if_pos (by omega)]
  · rw [if_pos rfl, if_pos (by omega), if_pos (by omega), if_pos (by omega), List.getElem?_eq_getElem h]
    rfl
  · rw [if_neg (by omega), if_neg (by omega), if_neg (by omega)]
    congr 1
    omega
theorem toIntS_loop (l : List Int) (hl : l.length ≤ 35184372088832) (z : List Int) (hz : z.length = l.length) (d : Nat) : ∀ i : Nat, i + d = l.length → Ev (fun k => laws_toIntS.l0 k l (l.take i ++ z.drop i) (i : Int)) l := by
  induction d with
  | zero =>
    intro i hi
    refine Evs.succ (fun k => by simp only [laws_toIntS.l0]; rfl) ?_
    refine Evs.ite_neg (by omega) ?_
    rw [List.take_of_length_le (by omega), List.drop_of_length_le (by omega), List.append_nil]
    exact Evs.some_ _
  | succ d ih =>
    intro i hi
    have hw : wrap64 ((i : Int) + 1) = ((i + 1 : Nat) : Int) := by rw [wrap_id (by omega) (by omega)]; rfl
    refine Evs.succ (fun k => by simp only [laws_toIntS.l0]; rfl) ?_
    refine Evs.ite_pos (by omega) (Evs.ite_pos (by omega) (Evs.ite_pos (by simp; omega) ?_))
    have e : rd l (i : Int) = l.getD i 0 := by unfold rd; simp
    rw [hw, e, Int.toNat_natCast, set_take_drop l z i (by omega) hz]
    exact ih (i + 1) (by omega)
theorem toIntS_ev (l : List Int) (hl : l.length ≤ 35184372088832) : Ev (fun k => laws_toIntS.f k l) l := by
  unfold laws_toIntS.f
  refine Evs.ite_pos (by omega) (Evs.ite_pos (by omega) ?_)
  rw [Int.toNat_natCast]
  have := toIntS_loop l hl (List.replicate l.length 0) (by simp) l.length 0 (Nat.zero_add _)
  simpa using this
end Go.Proofs.Ytjplcmffdhngmaa.P
