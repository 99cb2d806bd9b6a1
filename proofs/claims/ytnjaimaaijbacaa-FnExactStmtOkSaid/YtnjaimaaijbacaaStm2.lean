/- Both checks of statements come to the one meaning; no condition but that lists are not over-long. -/
import Derived.Test.YtnjaimaaijbacaaStm
namespace Go.Proofs.Ytnjaimaaijbacaa.P
open Go.RowKit Go.Proofs.YtnjaimaaijbacaaW.PrintWords Go.Proofs.YtnjaimaaijbacaaW.PrintMore
set_option linter.unusedVariables false
set_option linter.unusedSimpArgs false

theorem specList_of (d : Nat) (hd : d ≤ 1000) (h : ∀ s room, -1 ≤ room → smallS d s → Ev (fun k => spec_l2Stmt.f k s.f0 s.f1 s.f2 s.f3 s.f4 s.f5 (d : Int) room) (okS d s room)) (l : List S29) (room : Int) (hr : -1 ≤ room) (hl : l.length ≤ 1048576) (hs : ∀ x ∈ l, smallS d x) :
    Ev (fun k => spec_l2List.f k l (d : Int) room) (l.all fun x => okS d x room) := by
  refine Evs.succ (fun k => by simp only [spec_l2List.f]; rfl) ?_
  rw [← all_range_rd l (fun x => okS d x room)]
  refine all_loop (fun k i => spec_l2List.l0 k l (d : Int) room i) l.length _ (fun i r hi hq hr' => ?_) (fun i hi hq => ?_) ?_
  · refine Evs.succ (fun k => by simp only [spec_l2List.l0]; rfl) ?_
    refine Evs.ite_pos (by omega) (Evs.ite_pos (by omega) (Evs.bind (h _ room hr (hs _ (rd_mem hi))) (Evs.ite_pos hq ?_)))
    rw [wrap_succ (by omega)]
    exact hr'
  · refine Evs.succ (fun k => by simp only [spec_l2List.l0]; rfl) ?_
    exact Evs.ite_pos (by omega) (Evs.ite_pos (by omega) (Evs.bind (h _ room hr (hs _ (rd_mem hi))) (Evs.ite_neg (by simpa using hq) (Evs.some_ _))))
  · refine Evs.succ (fun k => by simp only [spec_l2List.l0]; rfl) ?_
    exact Evs.ite_neg (by omega) (Evs.some_ _)
theorem specStmt_ev : ∀ (d : Nat), d ≤ 1000 → ∀ s room, -1 ≤ room → smallS d s → Ev (fun k => spec_l2Stmt.f k s.f0 s.f1 s.f2 s.f3 s.f4 s.f5 (d : Int) room) (okS d s room)
  | 0, hd, s, room, hr, hs => by
    have bad : Ev (fun k => spec_l2Stmt.j0 k ((0 : Nat) : Int) room true s.f0 s.f1 s.f2 s.f3 s.f4 s.f5) false := by
      refine Evs.succ (fun k => by simp only [spec_l2Stmt.j0]; rfl) ?_
      exact Evs.ite_pos (by trivial) (Evs.some_ _)
    have e : decide (((0 : Nat) : Int) < 1) = true := rfl
    refine Evs.succ (fun k => by simp only [spec_l2Stmt.f, e]; rfl) ?_
    by_cases h6 : s.f0 = 6
    · exact Evs.ite_pos h6 bad
    · refine Evs.ite_neg h6 ?_
      by_cases h5 : (s.f5.length : Int) > 0
      · exact Evs.ite_pos h5 bad
      · exact Evs.ite_neg h5 bad
  | d + 1, hd, s, room, hr, hs => by
    have ih := fun l m h1 h2 h3 => specList_of d (by omega) (specStmt_ev d (by omega)) l m h1 h2 h3
    obtain ⟨⟨q4, q4'⟩, q5, q5'⟩ := hs
    have ew : wrap64 (((d + 1 : Nat) : Int) - 1) = (d : Int) := by rw [wrap_id (by omega) (by omega)]; omega
    have e : decide (((d + 1 : Nat) : Int) < 1) = false := decide_eq_false (by omega)
    have bad : Ev (fun k => spec_l2Stmt.j0 k ((d + 1 : Nat) : Int) room true s.f0 s.f1 s.f2 s.f3 s.f4 s.f5) false := by
      refine Evs.succ (fun k => by simp only [spec_l2Stmt.j0]; rfl) ?_
      exact Evs.ite_pos (by trivial) (Evs.some_ _)
    have both6 : Ev (fun k => spec_l2Stmt.j1 k ((d + 1 : Nat) : Int) room s.f0 true s.f0 s.f1 s.f2 s.f3 s.f4 s.f5) (inR s.f1 3 && (decide (s.f2 = 0) && (decide (s.f3 = 0) && (s.f4.all (fun x => okS d x room) && s.f5.all (fun x => okS d x room))))) := by
      refine Evs.succ (fun k => by simp only [spec_l2Stmt.j1, ew]; rfl) ?_
      exact Evs.ite_pos (by trivial) (ev_inR fun _ _ => ev_and fun _ => ev_and fun _ => ev_last2 (ih _ _ hr q4 q4') (ih _ _ hr q5 q5'))
    unfold okS
    refine Evs.succ (fun k => by simp only [spec_l2Stmt.f, e]; rfl) ?_
    by_cases h6 : s.f0 = 6
    · simp only [if_pos h6]
      refine Evs.succ (fun k => by simp only [spec_l2Stmt.j0]; rfl) ?_
      have e6 : (s.f0 == 6) = true := by simpa using h6
      rw [e6]
      exact Evs.ite_neg (by simp) (Evs.ite_pos h6 both6)
    simp only [if_neg h6]
    by_cases h5 : s.f5.length = 0
    · have h5' : ¬ (s.f5.length : Int) > 0 := by omega
      simp only [if_pos h5, if_neg h5']
      refine Evs.succ (fun k => by simp only [spec_l2Stmt.j0]; rfl) ?_
      refine Evs.ite_neg (by simp) (Evs.ite_neg h6 ?_)
      by_cases h7 : s.f0 = 7
      · have e7 : (s.f0 == 7) = true := by simpa using h7
        simp only [if_pos h7]
        rw [e7]
        have n5 : s.f5.all (fun x => okS d x room) = true := by rw [List.eq_nil_of_length_eq_zero h5]; rfl
        rw [n5, Bool.and_true] at both6
        exact both6
      have e7 : (s.f0 == 7) = false := by simpa using h7
      simp only [if_neg h7]
      rw [e7]
      refine Evs.succ (fun k => by simp only [spec_l2Stmt.j1, ew]; rfl) ?_
      refine Evs.ite_neg (by simp) ?_
      by_cases h8 : s.f0 = 8
      · simp only [if_pos h8]
        exact ev_and fun _ => ev_inR fun h1 _ => ev_and fun _ => ev_and fun _ => ev_last (ih _ _ (by omega) q4 q4')
      simp only [if_neg h8]
      by_cases h4 : s.f4.length = 0
      · rw [decide_eq_true h4, Bool.true_and]
        exact Evs.ite_pos (by omega) (ev_last (leaf_ev _ _ _ _ _ _ _))
      · rw [decide_eq_false h4, Bool.false_and]
        exact Evs.ite_neg (by omega) (Evs.some_ _)
    · have h5' : (s.f5.length : Int) > 0 := by omega
      simp only [if_neg h5, if_pos h5']
      exact bad
theorem implList_of (d : Nat) (room : Int) (T : Nat → S29 → Int → Int → Option Bool) (dd : Int) : ∀ l : List S29, (∀ x ∈ l, Ev (fun k => T k x dd room) (okS d x room)) → Ev (fun k => listM (fun x => T k x dd room) l) (l.all fun x => okS d x room)
  | [], _ => Evs.some_ _
  | x :: t, h => by
    have ht := implList_of d room T dd t fun y hy => h y (List.mem_cons_of_mem _ hy)
    have hx := h x (List.mem_cons_self ..)
    rw [List.all_cons]
    exact Evs.bind hx (ev_band fun _ => ht)
end Go.Proofs.Ytnjaimaaijbacaa.P
