/- A list of ints that is marked with numbers in a row, and held against them; no condition but a length. -/
import Derived.Test.YtjplcmffdhngmaaEvs
import Derived.Test.YtjplcmffdhngmaaFLawsMarkIntS
import Derived.Test.YtjplcmffdhngmaaFLawsHeldIntS
namespace Go.Proofs.Ytjplcmffdhngmaa.P
open Go.RowKit Go.Proofs.YtjplcmffdhngmaaW.PrintWords Go.Proofs.YtjplcmffdhngmaaW.PrintMore

/-- n numbers in a row from m on. -/
def marksFrom (m : Int) (n : Nat) : List Int := (List.range n).map fun (i : Nat) => m + (i : Int)
theorem marksFrom_length (m : Int) (n : Nat) : (marksFrom m n).length = n := by simp [marksFrom]
theorem marksFrom_succ (m : Int) (n : Nat) : marksFrom m (n + 1) = marksFrom m n ++ [m + (n : Int)] := by simp [marksFrom, List.range_succ]
theorem marksFrom_rd (m : Int) (n i : Nat) (h : i < n) : rd (marksFrom m n) (i : Int) = m + (i : Int) := by
  unfold rd marksFrom
  simp [List.getD_eq_getElem?_getD, h]
theorem markIntS_loop (l : List Int) (m : Int) (h0 : 0 ≤ m) (h1 : m + l.length ≤ 9000000000000000000) (d : Nat) : ∀ i : Nat, i + d = l.length → Ev (fun k => laws_markIntS.l0 k (marksFrom m i ++ l.drop i) (m + (i : Int)) (i : Int)) (m + l.length, marksFrom m l.length) := by
  induction d with
  | zero =>
    intro i hi
    refine Evs.succ (fun k => by simp only [laws_markIntS.l0]; rfl) ?_
    refine Evs.ite_neg (by simp [marksFrom_length]; omega) ?_
    rw [List.drop_of_length_le (by omega), List.append_nil, show i = l.length by omega]
    exact Evs.some_ _
  | succ d ih =>
    intro i hi
    have hw : wrap64 ((i : Int) + 1) = ((i + 1 : Nat) : Int) := by rw [wrap_id (by omega) (by omega)]; rfl
    have hw2 : wrap64 (m + (i : Int) + 1) = m + ((i + 1 : Nat) : Int) := by rw [wrap_id (by omega) (by omega)]; omega
    refine Evs.succ (fun k => by simp only [laws_markIntS.l0]; rfl) ?_
    refine Evs.ite_pos (by simp [marksFrom_length]; omega) (Evs.ite_pos (by omega) ?_)
    have e : (marksFrom m i ++ l.drop i).set i (m + (i : Int)) = marksFrom m (i + 1) ++ l.drop (i + 1) := by
      rw [marksFrom_succ, List.set_append_right _ _ (by rw [marksFrom_length]; omega), marksFrom_length, Nat.sub_self, List.drop_eq_getElem_cons (by omega), List.set_cons_zero, List.append_assoc]
      rfl
    rw [Int.toNat_natCast, hw, hw2, e]
    exact ih (i + 1) (by omega)
theorem markIntS_ev (l : List Int) (m : Int) (h0 : 0 ≤ m) (h1 : m + l.length ≤ 9000000000000000000) : Ev (fun k => laws_markIntS.f k l m) (m + l.length, marksFrom m l.length) := by
  unfold laws_markIntS.f
  have := markIntS_loop l m h0 h1 l.length 0 (Nat.zero_add _)
  simpa [marksFrom] using this
theorem heldIntS_loop (m : Int) (n : Nat) (h0 : 0 ≤ m) (h1 : m + n ≤ 9000000000000000000) (d : Nat) : ∀ i : Nat, i + d = n → Ev (fun k => laws_heldIntS.l0 k (marksFrom m n) (m + (i : Int)) (i : Int)) (m + n) := by
  induction d with
  | zero =>
    intro i hi
    refine Evs.succ (fun k => by simp only [laws_heldIntS.l0]; rfl) ?_
    refine Evs.ite_neg (by rw [marksFrom_length]; omega) ?_
    rw [show i = n by omega]
    exact Evs.some_ _
  | succ d ih =>
    intro i hi
    have hw : wrap64 ((i : Int) + 1) = ((i + 1 : Nat) : Int) := by rw [wrap_id (by omega) (by omega)]; rfl
    have hw2 : wrap64 (m + (i : Int) + 1) = m + ((i + 1 : Nat) : Int) := by rw [wrap_id (by omega) (by omega)]; omega
    refine Evs.succ (fun k => by simp only [laws_heldIntS.l0]; rfl) ?_
    refine Evs.ite_pos (by rw [marksFrom_length]; omega) (Evs.ite_pos (by omega) (Evs.ite_pos (marksFrom_rd m n i (by omega)) ?_))
    rw [hw, hw2]
    exact ih (i + 1) (by omega)
theorem heldIntS_ev (m : Int) (n : Nat) (h0 : 0 ≤ m) (h1 : m + n ≤ 9000000000000000000) : Ev (fun k => laws_heldIntS.f k (marksFrom m n) m) (m + n) := by
  unfold laws_heldIntS.f
  have := heldIntS_loop m n h0 h1 n 0 (Nat.zero_add _)
  simpa using this
end Go.Proofs.Ytjplcmffdhngmaa.P
