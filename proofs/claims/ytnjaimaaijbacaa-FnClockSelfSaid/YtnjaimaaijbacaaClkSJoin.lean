/- The reference's join of two clocks is the join; no condition but lengths of ints. -/
import Derived.Test.YtnjaimaaijbacaaClkBase
import Derived.Test.YtnjaimaaijbacaaFSpecL1Max
import Derived.Test.YtnjaimaaijbacaaFSpecClockJoin
namespace Go.Proofs.Ytnjaimaaijbacaa.P
open Go.RowKit Go.Proofs.YtnjaimaaijbacaaW.PrintWords Go.Proofs.YtnjaimaaijbacaaW.PrintMore
theorem l1Max_eq (a b : Int) : spec_l1Max.f a b = some (max a b) := by
  unfold spec_l1Max.f
  by_cases h : a > b
  · rw [if_pos h]; congr 1; omega
  · rw [if_neg h]; congr 1; omega
theorem sJoin_loop (a b : List Int) (ha : a.length ≤ 1000000000000) (hb : b.length ≤ 1000000000000) (d : Nat) : ∀ i : Nat, i + d = max a.length b.length → Ev (fun k => spec_ClockJoin.l0 k a b ((List.range i).map fun j => max (elC a j) (elC b j)) (i : Int)) (joinC a b) := by
  induction d with
  | zero =>
    intro i hi
    refine Evs.succ (fun k => by simp only [spec_ClockJoin.l0]; rfl) ?_
    refine Evs.ite_neg (by omega) ?_
    refine Evs.succ (fun k => by simp only [spec_ClockJoin.j1]; rfl) ?_
    refine Evs.ite_neg (by simp; omega) ?_
    rw [show joinC a b = (List.range i).map fun j => max (elC a j) (elC b j) from by unfold joinC; rw [← hi]; rfl]
    exact Evs.some_ _
  | succ d ih =>
    intro i hi
    have hw : wrap64 ((i : Int) + 1) = ((i + 1 : Nat) : Int) := by rw [wrap_id (by omega) (by omega)]; rfl
    have next := ih (i + 1) (by omega)
    rw [range_snoc_map] at next
    have hlen : ((List.range i).map fun j => max (elC a j) (elC b j)).length < 17592186044416 := by simp; omega
    have j2 : ∀ n : Int, max n 0 = elC a i → Ev (fun k => spec_ClockJoin.j2 k a b ((List.range i).map fun j => max (elC a j) (elC b j)) (i : Int) n) (joinC a b) := by
      intro n hn
      by_cases hib : (i : Int) < (b.length : Int)
      · have e : max (max n (rd b (i : Int))) 0 = max (elC a i) (elC b i) := by rw [rd_getD, ← hn]; unfold elC; omega
        refine Evs.succ (fun k => by simp only [spec_ClockJoin.j2]; rfl) ?_
        refine Evs.ite_pos hib (Evs.ite_pos (by omega) (Evs.bind0 (l1Max_eq _ _) (Evs.bind0 (l1Max_eq _ _) (Evs.ite_pos hlen ?_))))
        rw [e, hw]
        exact next
      · have e : max n 0 = max (elC a i) (elC b i) := by
          rw [hn]; unfold elC; rw [getD_over (xs := b) (by omega)]; omega
        refine Evs.succ (fun k => by simp only [spec_ClockJoin.j2]; rfl) ?_
        refine Evs.ite_neg hib (Evs.bind0 (l1Max_eq _ _) (Evs.ite_pos hlen ?_))
        rw [e, hw]
        exact next
    have j1 : Ev (fun k => spec_ClockJoin.j1 k a b ((List.range i).map fun j => max (elC a j) (elC b j)) (i : Int) true) (joinC a b) := by
      refine Evs.succ (fun k => by simp only [spec_ClockJoin.j1]; rfl) ?_
      refine Evs.ite_pos (by trivial) ?_
      by_cases hia : (i : Int) < (a.length : Int)
      · exact Evs.ite_pos hia (Evs.ite_pos (by omega) (j2 _ (by rw [rd_getD]; rfl)))
      · exact Evs.ite_neg hia (j2 0 (by unfold elC; rw [getD_over (by omega)]))
    refine Evs.succ (fun k => by simp only [spec_ClockJoin.l0]; rfl) ?_
    by_cases hia : (i : Int) < (a.length : Int)
    · exact Evs.ite_pos hia j1
    · refine Evs.ite_neg hia ?_
      rw [show decide ((i : Int) < (b.length : Int)) = true from by simp; omega]
      exact j1
theorem sJoin_ev (a b : List Int) (ha : a.length ≤ 1000000000000) (hb : b.length ≤ 1000000000000) : Ev (fun k => spec_ClockJoin.f k a b) (joinC a b) := sJoin_loop a b ha hb _ 0 (Nat.zero_add _)
end Go.Proofs.Ytnjaimaaijbacaa.P
