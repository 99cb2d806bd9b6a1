/- Programs are checked part by part: a right list has right statements, is not too long, and is right without its last; the counts of its parts add up; for every drawn list; no condition. -/
import Derived.Test.YtnjaimaaijbacaaFLawsFnProgParts
import Derived.Test.YtnjaimaaijbacaaSome
namespace Go.Proofs.Ytnjaimaaijbacaa.Pure
open Go.RowKit Go.Proofs.Ytnjaimaaijbacaa.P Go.Proofs.YtnjaimaaijbacaaW.PrintWords Go.Proofs.YtnjaimaaijbacaaW.PrintLast
open Go.Proofs.Ytnjaimaaijbacaa.P Go.Proofs.YtnjaimaaijbacaaW.PrintMore
theorem cnt_append (d : Nat) (a b : List S29) : cntL (d + 1) (a ++ b) = cntL (d + 1) a + cntL (d + 1) b := by
  show (List.map _ (a ++ b)).sum = _
  rw [List.map_append, List.sum_append]
  rfl
theorem cnt_len (d : Nat) : ∀ l : List S29, l.length ≤ cntL (d + 1) l
  | [] => Nat.zero_le _
  | x :: t => by
    have := cnt_len d t
    have e : cntL (d + 1) (x :: t) = (1 + cntL d x.f4 + cntL d x.f5) + cntL (d + 1) t := by
      show (List.map _ (x :: t)).sum = _
      rw [List.map_cons, List.sum_cons]
      rfl
    rw [e, List.length_cons]
    omega
theorem stm3 (x : S29) : Ev (fun k => impl_StmtOk.f k x.f0 x.f1 x.f2 x.f3 x.f4 x.f5 3 (-1)) (okS 3 x (-1)) := by
  have e := okVal_impl x 3 (-1)
  have q : okVal x 3 (-1) = okS 3 x (-1) := by
    unfold okVal
    simp
  rwa [q] at e
theorem FnProgParts : laws_FnProgParts.Pure := by
  intro l _ _ hw
  refine Ev.rounds (g := fun k => laws_FnProgParts.f k l) ?_
  unfold laws_FnProgParts.f
  by_cases c0 : (l.length : Int) > 1048576
  · exact Evs.ite_pos c0 (Evs.some_ _)
  obtain ⟨t, ht, hd⟩ := drawList_ev hw
  have vi := implOk t
  have vs := specOk (smL_sl ht 3)
  have mi := implMany t
  have ms := specMany (smL_sl ht 3)
  have hl := ht.1
  have hc := cnt3 (smL_sl ht 2) (by omega)
  refine Evs.ite_neg c0 (Evs.bind hd (Evs.bind vi (Evs.bind mi (Evs.bind vs (Evs.ite_neg (by simp) (Evs.bind ms ?_))))))
  rw [show (manyV t != manyV t) = false by simp]
  refine Evs.succ (fun k => by simp only [laws_FnProgParts.j0]; rfl) (Evs.ite_neg (by simp) ?_)
  cases hv : okLst t with
  | false =>
    have m0 : manyV t = 0 := manyV_no hv
    rw [m0]
    have key : ∀ (e i : Nat) (b : Bool), i + e = t.length → Ev (fun k => laws_FnProgParts.l0 k t false 0 b (i : Int)) true := by
      intro e
      induction e with
      | zero =>
        intro i b hi
        refine Evs.succ (fun k => by simp only [laws_FnProgParts.l0]; rfl) ?_
        exact Evs.ite_neg (by omega) (Evs.ite_neg (by simp) (Evs.some_ _))
      | succ e ih =>
        intro i b hi
        refine Evs.succ (fun k => by simp only [laws_FnProgParts.l0]; rfl) (Evs.ite_pos (by omega) ?_)
        have ew := wrap_succ (i := i) (by omega)
        cases b with
        | true =>
          refine Evs.ite_pos rfl (Evs.ite_pos (by omega) (Evs.bind (stm3 _) ?_))
          rw [ew]
          exact ih (i + 1) _ (by omega)
        | false =>
          refine Evs.ite_neg (by simp) ?_
          rw [ew]
          exact ih (i + 1) false (by omega)
    exact key t.length 0 true (by omega)
  | true =>
    have mv : manyV t = (cntL 3 t : Int) := by rw [manyV_ok hv, wrap_cnt hc]
    rw [mv]
    have hv' := hv
    unfold okLst okList at hv'
    rw [Bool.and_eq_true, decide_eq_true_eq, wrap_cnt hc, List.all_eq_true] at hv'
    obtain ⟨h1, h2⟩ := hv'
    have key : ∀ (e i : Nat), i + e = t.length → Ev (fun k => laws_FnProgParts.l0 k t true (cntL 3 t : Int) true (i : Int)) true := by
      intro e
      induction e with
      | zero =>
        intro i hi
        have hn : t.length ≤ cntL 3 t := cnt_len 2 t
        refine Evs.succ (fun k => by simp only [laws_FnProgParts.l0]; rfl) ?_
        refine Evs.ite_neg (by omega) (Evs.ite_pos (by trivial) (Evs.ite_pos (by trivial) (Evs.ite_pos (by omega) (Evs.ite_pos (by omega) ?_))))
        by_cases z : (t.length : Int) = 0
        · exact Evs.ite_pos z (Evs.some_ _)
        have ew : wrap64 ((t.length : Int) - 1) = ((t.length - 1 : Nat) : Int) := by rw [wrap_id (by omega) (by omega)]; omega
        simp only [ew, Int.toNat_natCast]
        have es : t.take (t.length - 1) ++ t.drop (t.length - 1) = t := List.take_append_drop _ _
        have ec : cntL 3 (t.take (t.length - 1) ++ t.drop (t.length - 1)) = cntL 3 (t.take (t.length - 1)) + cntL 3 (t.drop (t.length - 1)) := cnt_append 2 _ _
        rw [es] at ec
        have ot : okLst (t.take (t.length - 1)) = true := by
          unfold okLst okList
          rw [Bool.and_eq_true, decide_eq_true_eq, wrap_cnt (by omega), List.all_eq_true]
          exact ⟨fun x hx => h1 x (List.mem_of_mem_take hx), by omega⟩
        have od : okLst (t.drop (t.length - 1)) = true := by
          unfold okLst okList
          rw [Bool.and_eq_true, decide_eq_true_eq, wrap_cnt (by omega), List.all_eq_true]
          exact ⟨fun x hx => h1 x (List.mem_of_mem_drop hx), by omega⟩
        have v1 := implOk (t.take (t.length - 1))
        rw [ot] at v1
        have m1 := implMany (t.take (t.length - 1))
        rw [manyV_ok ot, wrap_cnt (by omega)] at m1
        have m2 := implMany (t.drop (t.length - 1))
        rw [manyV_ok od, wrap_cnt (by omega)] at m2
        refine Evs.ite_neg z (Evs.ite_pos (by omega) (Evs.ite_pos (by omega) (Evs.bind v1 (Evs.ite_pos rfl (Evs.bind m1 (Evs.bind m2 ?_))))))
        have eb : (wrap64 ((cntL 3 (t.take (t.length - 1)) : Int) + (cntL 3 (t.drop (t.length - 1)) : Int)) == (cntL 3 t : Int)) = true := by
          rw [wrap_id (by omega) (by omega), beq_iff_eq]
          omega
        rw [eb]
        exact Evs.some_ _
      | succ e ih =>
        intro i hi
        have hlt : i < t.length := by omega
        have s := stm3 (rd_T29 t (i : Int))
        rw [h1 _ (rd_mem hlt)] at s
        refine Evs.succ (fun k => by simp only [laws_FnProgParts.l0]; rfl) (Evs.ite_pos (by omega) (Evs.ite_pos (by trivial) (Evs.ite_pos (by omega) (Evs.bind s ?_))))
        rw [wrap_succ (by omega)]
        exact ih (i + 1) (by omega)
    exact key t.length 0 (by omega)
end Go.Proofs.Ytnjaimaaijbacaa.Pure
