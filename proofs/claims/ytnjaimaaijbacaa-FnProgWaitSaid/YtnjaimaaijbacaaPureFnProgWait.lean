/- Waiting needs a room: with a wait ahead of all, outside of every room, a list is not right; with one in a room it is, if that is not too much; for every drawn list; no condition. -/
import Derived.Test.YtnjaimaaijbacaaFLawsFnProgWait
import Derived.Test.YtnjaimaaijbacaaSome
namespace Go.Proofs.Ytnjaimaaijbacaa.Pure
open Go.RowKit Go.Proofs.Ytnjaimaaijbacaa.P Go.Proofs.YtnjaimaaijbacaaW.PrintWords Go.Proofs.YtnjaimaaijbacaaW.PrintLast
open Go.Proofs.Ytnjaimaaijbacaa.P Go.Proofs.YtnjaimaaijbacaaW.PrintMore
theorem cnt_cons (d : Nat) (x : S29) (l : List S29) : cntL (d + 1) (x :: l) = (1 + cntL d x.f4 + cntL d x.f5) + cntL (d + 1) l := by
  show (List.map _ (x :: l)).sum = _
  rw [List.map_cons, List.sum_cons]
  rfl
theorem wait_out : okS 3 ⟨9, 0, 0, 0, [], []⟩ (-1) = false := by
  rw [okS_succ]
  simp [leafOk]
theorem wait_room : okS 3 ⟨8, 0, 0, 0, [⟨9, 0, 0, 0, [], []⟩], []⟩ (-1) = true := by
  have e : okS 2 ⟨9, 0, 0, 0, [], []⟩ 0 = true := by
    rw [okS_succ]
    simp [leafOk, inR]
  rw [okS_succ]
  simp [e, inR]
theorem FnProgWait : laws_FnProgWait.Pure := by
  intro l _ _ hw
  refine Ev.rounds (g := fun k => laws_FnProgWait.f k l) ?_
  unfold laws_FnProgWait.f
  by_cases c0 : (l.length : Int) > 1048576
  · exact Evs.ite_pos c0 (Evs.some_ _)
  obtain ⟨t, ht, hd⟩ := drawList_ev hw
  have vi := implOk t
  have vs := specOk (smL_sl ht 3)
  refine Evs.ite_neg c0 (Evs.bind hd (Evs.bind vi (Evs.bind vs (Evs.ite_neg (by simp) ?_))))
  cases hv : okLst t with
  | false =>
    rw [hv] at vs
    refine Evs.succ (fun k => by simp only [laws_FnProgWait.j0]; rfl) ?_
    exact Evs.ite_pos (by trivial) (Evs.bind vs (Evs.some_ _))
  | true =>
    have hl := ht.1
    have hc := cnt3 (smL_sl ht 2) (by omega)
    have hv' := hv
    unfold okLst at hv'
    rw [Bool.and_eq_true, decide_eq_true_eq, wrap_cnt hc] at hv'
    obtain ⟨h1, h2⟩ := hv'
    have f1 : okLst ([⟨9, 0, 0, 0, [], []⟩] ++ t) = false := by
      unfold okLst okList
      rw [List.singleton_append, List.all_cons, wait_out]
      rfl
    have v1 := implOk ([⟨9, 0, 0, 0, [], []⟩] ++ t)
    rw [f1] at v1
    have vm := implMany t
    rw [manyV_ok hv, wrap_cnt hc] at vm
    have v2 := implOk ([⟨8, 0, 0, 0, [⟨9, 0, 0, 0, [], []⟩], []⟩] ++ t)
    refine Evs.succ (fun k => by simp only [laws_FnProgWait.j0]; rfl) ?_
    refine Evs.ite_neg (by simp) (Evs.bind0 rfl (Evs.ite_pos (by simp only [List.length_cons, List.length_nil]; omega) (Evs.bind0 rfl (Evs.ite_pos (by simp only [List.length_cons, List.length_nil]; omega) (Evs.bind v1 (Evs.ite_neg (by simp) (Evs.bind vm ?_)))))))
    by_cases c : (cntL 3 t : Int) > 12
    · exact Evs.ite_pos c (Evs.some_ _)
    · have f2 : okLst ([⟨8, 0, 0, 0, [⟨9, 0, 0, 0, [], []⟩], []⟩] ++ t) = true := by
        unfold okLst okList
        unfold okList at h1
        rw [List.singleton_append, List.all_cons, wait_room, h1, cnt_cons]
        have e : 1 + cntL 2 [⟨9, 0, 0, 0, [], []⟩] + cntL 2 ([] : List S29) = 2 := by simp [cntL]
        show (true && true && decide (wrap64 ((1 + cntL 2 [⟨9, 0, 0, 0, [], []⟩] + cntL 2 ([] : List S29) + cntL 3 t : Nat) : Int) ≤ 14)) = true
        rw [e, wrap_cnt (by omega)]
        simp
        omega
      rw [f2] at v2
      exact Evs.ite_neg c (Evs.bind v2 (Evs.some_ _))
end Go.Proofs.Ytnjaimaaijbacaa.Pure
