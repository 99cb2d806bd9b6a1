/- The program's check of statements comes to the one meaning; no condition but that the depth is no giant. -/
import Derived.Test.YtdjkmnkgaacmfaaZFnExactMeanOpen6
import Derived.Test.YtdjkmnkgaacmfaaZFnExactMeanOpen7
import Derived.Test.YtdjkmnkgaacmfaaZFnExactMeanOpen8
namespace Go.Proofs.Ytdjkmnkgaacmfaa.P
open Go.RowKit Go.Proofs.YtdjkmnkgaacmfaaW.PrintWords Go.Proofs.YtdjkmnkgaacmfaaW.PrintMore
def smallS : Nat → S61 → Prop
  | 0,_=>True
  | d + 1,s=>(s.f4.length ≤ 1048576 ∧ ∀ x ∈ s.f4,smallS d x) ∧ (s.f5.length ≤ 1048576 ∧ ∀ x ∈ s.f5,smallS d x)
def inR (a n : Int) : Bool:=decide (0 ≤ a) && decide (a < n)
def numR (a : Int) : Bool:=decide (-999 ≤ a) && decide (a ≤ 999)
def leafOk (a0 a1 a2 a3 room : Int) : Bool :=
  if a0 = 1 then inR a1 3 && (decide (a2 = 0) && numR a3) else if a0 = 2 then inR a1 3 && (inR a2 3 && (decide (1 ≤ a3) && decide (a3 ≤ 5))) else
  if a0 = 3 then inR a1 3 && (inR a2 3 && decide (a3 = 0)) else if a0 = 4 then inR a1 3 && (inR a2 3 && decide (a3 = 0)) else
  if a0 = 5 then inR a1 3 && (decide (a2 = 0) && decide (a3 = 0)) else if a0 = 9 then decide (0 ≤ room) && (inR a1 2 && (decide (a2 = 0) && decide (a3 = 0))) else
  if a0 = 10 then inR a1 2 && (decide (a2 = 0) && decide (a3 = 0)) else if a0 = 11 then decide (a1 = 0) && (decide (a2 = 0) && decide (a3 = 0)) else false
def okS : Nat → S61 → Int → Bool
  | 0,_,_=>false
  | d + 1,s,room =>
    if s.f0 = 6 then inR s.f1 3 && (decide (s.f2 = 0) && (decide (s.f3 = 0) && (s.f4.all (fun x=>okS d x room) && s.f5.all (fun x=>okS d x room)))) else
    if s.f5.length = 0 then
      if s.f0 = 7 then inR s.f1 3 && (decide (s.f2 = 0) && (decide (s.f3 = 0) && s.f4.all (fun x=>okS d x room))) else
      if s.f0 = 8 then decide (room < 0) && (inR s.f1 2 && (decide (s.f2 = 0) && (decide (s.f3 = 0) && s.f4.all (fun x=>okS d x s.f1)))) else
      decide (s.f4.length = 0) && leafOk s.f0 s.f1 s.f2 s.f3 room
    else false
theorem all_range_rd (l : List S61) (p : S61 → Bool) : (List.range l.length).all (fun i=>p (rd_T61 l (i : Int))) = l.all p:=by
  rw [Bool.eq_iff_iff,List.all_eq_true,List.all_eq_true]
  constructor
  · intro h x hx
    obtain ⟨i,hi,rfl⟩:=List.mem_iff_getElem.1 hx
    have:=h i (List.mem_range.2 hi)
    unfold rd_T61 at this
    rwa [Int.toNat_natCast,List.getD_eq_getElem?_getD,List.getElem?_eq_getElem hi] at this
  · intro h i hi
    have hi:=List.mem_range.1 hi
    unfold rd_T61
    rw [Int.toNat_natCast,List.getD_eq_getElem?_getD,List.getElem?_eq_getElem hi]
    exact h _ (List.getElem_mem hi)
theorem rd_mem {l : List S61} {i : Nat} (h : i < l.length) : rd_T61 l (i : Int) ∈ l:=by
  unfold rd_T61
  rw [Int.toNat_natCast,List.getD_eq_getElem?_getD,List.getElem?_eq_getElem h]
  exact List.getElem_mem h
theorem ev_and {f : Nat → Option Bool} {c : Prop} [Decidable c] {r : Bool} (h : c → Ev f r) : Ev (fun k=>if c then f k else some false) (decide c && r):=by
  by_cases hc : c
  · rw [decide_eq_true hc,Bool.true_and]
    exact Evs.ite_pos hc (h hc)
  · rw [decide_eq_false hc,Bool.false_and]
    exact Evs.ite_neg hc (Evs.some_ _)
theorem ev_band {f : Nat → Option Bool} {b r : Bool} (h : b = true → Ev f r) : Ev (fun k=>if b = true then f k else some false) (b && r):=by
  cases b with
  | false=>exact Evs.ite_neg (by simp) (Evs.some_ _)
  | true=>exact Evs.ite_pos rfl (h rfl)
theorem ev_inR {f : Nat → Option Bool} {a n : Int} {r : Bool} (h : 0 ≤ a → a < n → Ev f r) : Ev (fun k=>if a ≥ 0 then (if a < n then f k else some false) else some false) (inR a n && r):=by
  unfold inR
  rw [Bool.and_assoc]
  exact ev_and (c:=0 ≤ a) fun h1=>ev_and fun h2=>h h1 h2
theorem ev_last {f : Nat → Option Bool} {r : Bool} (h : Ev f r) : Ev (fun k=>(f k).bind fun t=>some t) r:=Evs.bind h (Evs.some_ _)
theorem ev_last2 {f g : Nat → Option Bool} {r q : Bool} (h : Ev f r) (h2 : Ev g q) : Ev (fun k=>(f k).bind fun t=>if t = true then (g k).bind fun u=>some u else some false) (r && q) :=
  Evs.bind h (ev_band fun _=>ev_last h2)
theorem numR_ev (a : Int) : spec_NumOk.f a = some (numR a):=by
  unfold spec_NumOk.f numR
  by_cases h : a ≥ -999
  · rw [if_pos h,decide_eq_true (show -999 ≤ a from h),Bool.true_and]
  · rw [if_neg h,decide_eq_false (show ¬ -999 ≤ a from h),Bool.false_and]
theorem leaf_j1 (a0 a1 a2 a3 room : Int) (l4 l5 : List S61) : Ev (fun k=>spec_l2Leaf.j1 k room (inR a1 3) (inR a2 3) a0 a1 a2 a3 l4 l5) (leafOk a0 a1 a2 a3 room):=by
  have z : Ev (fun _ : Nat=>some (a3 == 0)) (decide (a3 = 0)):=Evs.some_ _
  refine Evs.succ (fun k=>by simp only [spec_l2Leaf.j1];rfl) ?_
  unfold leafOk
  by_cases h1 : a0 = 1
  · simp only [if_pos h1]
    exact (ev_band fun _=>ev_and fun _=>Evs.bind0 (numR_ev a3) (Evs.some_ _))
  simp only [if_neg h1]
  by_cases h2 : a0 = 2
  · simp only [if_pos h2]
    exact (ev_band fun _=>ev_band fun _=>ev_and (c:=1 ≤ a3) fun _=>Evs.some_ _)
  simp only [if_neg h2]
  by_cases h3 : a0 = 3
  · simp only [if_pos h3]
    exact (ev_band fun _=>ev_inR fun _ _=>z)
  simp only [if_neg h3]
  by_cases h4 : a0 = 4
  · simp only [if_pos h4]
    exact (ev_inR fun _ _=>ev_band fun _=>z)
  simp only [if_neg h4]
  by_cases h5 : a0 = 5
  · simp only [if_pos h5]
    exact (ev_band fun _=>ev_and fun _=>z)
  simp only [if_neg h5]
  by_cases h9 : a0 = 9
  · simp only [if_pos h9]
    exact (ev_and (c:=0 ≤ room) fun _=>ev_inR fun _ _=>ev_and fun _=>z)
  simp only [if_neg h9]
  by_cases h10 : a0 = 10
  · simp only [if_pos h10]
    exact (ev_inR fun _ _=>ev_and fun _=>z)
  simp only [if_neg h10]
  by_cases h11 : a0 = 11
  · simp only [if_pos h11]
    exact (ev_and fun _=>ev_and fun _=>z)
  simp only [if_neg h11]
  exact Evs.some_ _
theorem leaf_ev (a0 a1 a2 a3 room : Int) (l4 l5 : List S61) : Ev (fun k=>spec_l2Leaf.f k a0 a1 a2 a3 l4 l5 room) (leafOk a0 a1 a2 a3 room):=by
  have j1:=leaf_j1 a0 a1 a2 a3 room l4 l5
  have j0 : Ev (fun k=>spec_l2Leaf.j0 k room (inR a1 3) a0 a1 a2 a3 l4 l5) (leafOk a0 a1 a2 a3 room):=by
    refine Evs.succ (fun k=>by simp only [spec_l2Leaf.j0];rfl) ?_
    by_cases h : a2 ≥ 0
    · have e : inR a2 3 = decide (a2 < 3):=by unfold inR;rw [decide_eq_true (show 0 ≤ a2 from h),Bool.true_and]
      rw [e] at j1
      exact Evs.ite_pos h j1
    · have e : inR a2 3 = false:=by unfold inR;rw [decide_eq_false (show ¬ 0 ≤ a2 from h),Bool.false_and]
      rw [e] at j1
      exact Evs.ite_neg h j1
  unfold spec_l2Leaf.f
  by_cases h : a1 ≥ 0
  · have e : inR a1 3 = decide (a1 < 3):=by unfold inR;rw [decide_eq_true (show 0 ≤ a1 from h),Bool.true_and]
    rw [e] at j0
    exact Evs.ite_pos h j0
  · have e : inR a1 3 = false:=by unfold inR;rw [decide_eq_false (show ¬ 0 ≤ a1 from h),Bool.false_and]
    rw [e] at j0
    exact Evs.ite_neg h j0
end Go.Proofs.Ytdjkmnkgaacmfaa.P
namespace Go.Proofs.Ytdjkmnkgaacmfaa.P
open Go.RowKit Go.Proofs.YtdjkmnkgaacmfaaW.PrintWords Go.Proofs.YtdjkmnkgaacmfaaW.PrintMore
set_option linter.unusedVariables false
set_option linter.unusedSimpArgs false
theorem specList_of (d : Nat) (hd : d ≤ 1000) (h : ∀ s room,-1 ≤ room → smallS d s → Ev (fun k=>spec_l2Stmt.f k s.f0 s.f1 s.f2 s.f3 s.f4 s.f5 (d : Int) room) (okS d s room)) (l : List S61) (room : Int) (hr : -1 ≤ room) (hl : l.length ≤ 1048576) (hs : ∀ x ∈ l,smallS d x) :
    Ev (fun k=>spec_l2List.f k l (d : Int) room) (l.all fun x=>okS d x room):=by
  refine Evs.succ (fun k=>by simp only [spec_l2List.f];rfl) ?_
  rw [← all_range_rd l (fun x=>okS d x room)]
  refine all_loop (fun k i=>spec_l2List.l0 k l (d : Int) room i) l.length _ (fun i r hi hq hr'=>?_) (fun i hi hq=>?_) ?_
  · refine Evs.succ (fun k=>by simp only [spec_l2List.l0];rfl) ?_
    refine Evs.ite_pos (by omega) (Evs.ite_pos (by omega) (Evs.bind (h _ room hr (hs _ (rd_mem hi))) (Evs.ite_pos hq ?_)))
    rw [wrap_succ (by omega)]
    exact hr'
  · refine Evs.succ (fun k=>by simp only [spec_l2List.l0];rfl) ?_
    exact Evs.ite_pos (by omega) (Evs.ite_pos (by omega) (Evs.bind (h _ room hr (hs _ (rd_mem hi))) (Evs.ite_neg (by simpa using hq) (Evs.some_ _))))
  · refine Evs.succ (fun k=>by simp only [spec_l2List.l0];rfl) ?_
    exact Evs.ite_neg (by omega) (Evs.some_ _)
theorem specStmt_ev : ∀ (d : Nat),d ≤ 1000 → ∀ s room,-1 ≤ room → smallS d s → Ev (fun k=>spec_l2Stmt.f k s.f0 s.f1 s.f2 s.f3 s.f4 s.f5 (d : Int) room) (okS d s room)
  | 0,hd,s,room,hr,hs=>by
    have bad : Ev (fun k=>spec_l2Stmt.j0 k ((0 : Nat) : Int) room true s.f0 s.f1 s.f2 s.f3 s.f4 s.f5) false:=by
      refine Evs.succ (fun k=>by simp only [spec_l2Stmt.j0];rfl) ?_
      exact Evs.ite_pos (by trivial) (Evs.some_ _)
    have e : decide (((0 : Nat) : Int) < 1) = true:=rfl
    refine Evs.succ (fun k=>by simp only [spec_l2Stmt.f,e];rfl) ?_
    by_cases h6 : s.f0 = 6
    · exact Evs.ite_pos h6 bad
    · refine Evs.ite_neg h6 ?_
      by_cases h5 : (s.f5.length : Int) > 0
      · exact Evs.ite_pos h5 bad
      · exact Evs.ite_neg h5 bad
  | d + 1,hd,s,room,hr,hs=>by
    have ih:=fun l m h1 h2 h3=>specList_of d (by omega) (specStmt_ev d (by omega)) l m h1 h2 h3
    obtain ⟨⟨q4,q4'⟩,q5,q5'⟩:=hs
    have ew : wrap64 (((d + 1 : Nat) : Int) - 1) = (d : Int):=by rw [wrap_id (by omega) (by omega)];omega
    have e : decide (((d + 1 : Nat) : Int) < 1) = false:=decide_eq_false (by omega)
    have bad : Ev (fun k=>spec_l2Stmt.j0 k ((d + 1 : Nat) : Int) room true s.f0 s.f1 s.f2 s.f3 s.f4 s.f5) false:=by
      refine Evs.succ (fun k=>by simp only [spec_l2Stmt.j0];rfl) ?_
      exact Evs.ite_pos (by trivial) (Evs.some_ _)
    have both6 : Ev (fun k=>spec_l2Stmt.j1 k ((d + 1 : Nat) : Int) room s.f0 true s.f0 s.f1 s.f2 s.f3 s.f4 s.f5) (inR s.f1 3 && (decide (s.f2 = 0) && (decide (s.f3 = 0) && (s.f4.all (fun x=>okS d x room) && s.f5.all (fun x=>okS d x room))))):=by
      refine Evs.succ (fun k=>by simp only [spec_l2Stmt.j1,ew];rfl) ?_
      exact Evs.ite_pos (by trivial) (ev_inR fun _ _=>ev_and fun _=>ev_and fun _=>ev_last2 (ih _ _ hr q4 q4') (ih _ _ hr q5 q5'))
    unfold okS
    refine Evs.succ (fun k=>by simp only [spec_l2Stmt.f,e];rfl) ?_
    by_cases h6 : s.f0 = 6
    · simp only [if_pos h6]
      refine Evs.succ (fun k=>by simp only [spec_l2Stmt.j0];rfl) ?_
      have e6 : (s.f0 == 6) = true:=by simpa using h6
      rw [e6]
      exact Evs.ite_neg (by simp) (Evs.ite_pos h6 both6)
    simp only [if_neg h6]
    by_cases h5 : s.f5.length = 0
    · have h5' : ¬ (s.f5.length : Int) > 0:=by omega
      simp only [if_pos h5,if_neg h5']
      refine Evs.succ (fun k=>by simp only [spec_l2Stmt.j0];rfl) ?_
      refine Evs.ite_neg (by simp) (Evs.ite_neg h6 ?_)
      by_cases h7 : s.f0 = 7
      · have e7 : (s.f0 == 7) = true:=by simpa using h7
        simp only [if_pos h7]
        rw [e7]
        have n5 : s.f5.all (fun x=>okS d x room) = true:=by rw [List.eq_nil_of_length_eq_zero h5];rfl
        rw [n5,Bool.and_true] at both6
        exact both6
      have e7 : (s.f0 == 7) = false:=by simpa using h7
      simp only [if_neg h7]
      rw [e7]
      refine Evs.succ (fun k=>by simp only [spec_l2Stmt.j1,ew];rfl) ?_
      refine Evs.ite_neg (by simp) ?_
      by_cases h8 : s.f0 = 8
      · simp only [if_pos h8]
        exact ev_and fun _=>ev_inR fun h1 _=>ev_and fun _=>ev_and fun _=>ev_last (ih _ _ (by omega) q4 q4')
      simp only [if_neg h8]
      by_cases h4 : s.f4.length = 0
      · rw [decide_eq_true h4,Bool.true_and]
        exact Evs.ite_pos (by omega) (ev_last (leaf_ev _ _ _ _ _ _ _))
      · rw [decide_eq_false h4,Bool.false_and]
        exact Evs.ite_neg (by omega) (Evs.some_ _)
    · have h5' : (s.f5.length : Int) > 0:=by omega
      simp only [if_neg h5,if_pos h5']
      exact bad
theorem implList_of (d : Nat) (room : Int) (T : Nat → S61 → Int → Int → Option Bool) (dd : Int) : ∀ l : List S61,(∀ x ∈ l,Ev (fun k=>T k x dd room) (okS d x room)) → Ev (fun k=>listM (fun x=>T k x dd room) l) (l.all fun x=>okS d x room)
  | [],_=>Evs.some_ _
  | x :: t,h=>by
    have ht:=implList_of d room T dd t fun y hy=>h y (List.mem_cons_of_mem _ hy)
    have hx:=h x (List.mem_cons_self ..)
    rw [List.all_cons]
    exact Evs.bind hx (ev_band fun _=>ht)
end Go.Proofs.Ytdjkmnkgaacmfaa.P
namespace Go.Proofs.Ytdjkmnkgaacmfaa.P
open Go.RowKit Go.Proofs.YtdjkmnkgaacmfaaW.PrintWords Go.Proofs.YtdjkmnkgaacmfaaW.PrintMore
set_option linter.unusedVariables false
set_option linter.unusedSimpArgs false
theorem fit_pos {n l : Int} (h : 0 < l) : fit n l = inR n l:=by
  unfold fit inR
  rw [Bool.eq_iff_iff]
  simp only [Bool.or_eq_true,Bool.and_eq_true,decide_eq_true_eq]
  omega
theorem fit_zero (n : Int) : fit n 0 = decide (n = 0):=by
  unfold fit
  rw [Bool.eq_iff_iff]
  simp only [Bool.or_eq_true,Bool.and_eq_true,decide_eq_true_eq]
  omega
def numB (a0 a3 : Int) : Bool:=if a0 = 1 then numR a3 else if a0 = 2 then decide (1 ≤ a3) && decide (a3 ≤ 5) else decide (a3 = 0)
theorem numB_eq (a0 a1 a2 a3 : Int) (l4 l5 : List S61) : impl_Stmt_numberOk.f a0 a1 a2 a3 l4 l5 = some (numB a0 a3):=by
  unfold impl_Stmt_numberOk.f numB
  by_cases h1 : a0 = 1
  · simp only [if_pos h1]
    unfold impl_NumOk.f numR
    by_cases h : a3 ≥ -999
    · rw [if_pos h,decide_eq_true (show -999 ≤ a3 from h)];rfl
    · rw [if_neg h,decide_eq_false (show ¬ -999 ≤ a3 from h)];rfl
  · simp only [if_neg h1]
    by_cases h2 : a0 = 2
    · simp only [if_pos h2]
      unfold impl_isOp.f
      by_cases h : a3 ≥ 1
      · rw [if_pos h,decide_eq_true (show 1 ≤ a3 from h)];rfl
      · rw [if_neg h,decide_eq_false (show ¬ 1 ≤ a3 from h)];rfl
    · simp only [if_neg h2]
      rfl
theorem ev_nand {f : Nat → Option Bool} {c : Prop} [Decidable c] {r : Bool} (h : ¬ c → Ev f r) : Ev (fun k=>if c then some false else f k) (!decide c && r):=by
  by_cases hc : c
  · rw [decide_eq_true hc,Bool.not_true,Bool.false_and]
    exact Evs.ite_pos hc (Evs.some_ _)
  · rw [decide_eq_false hc,Bool.not_false,Bool.true_and]
    exact Evs.ite_neg hc (h hc)
theorem both_ev {L : Nat → List S61 → Int → Int → Option Bool} {l4 l5 : List S61} {d m : Int} {r4 r5 : Bool} (h4 : Ev (fun k=>L k l4 d m) r4) (h5 : Ev (fun k=>L k l5 d m) r5) : Ev (fun k=>both (L k) l4 l5 d m) (r4 && r5):=by
  unfold both
  exact Evs.bind h4 (ev_band fun _=>h5)
def bodyB (q : Int → Bool) (a0 a1 a2 a3 : Int) (n4 n5 : Nat) (deep room : Int) : Bool :=
  fmOk a0 && (!decide (deep < 1) && (fit a1 (fmA a0) && (fit a2 (fmB a0) && (numB a0 a3 && (!decide (fmX a0 = false ∧ 0 < (n4 : Int)) && (!decide (fmY a0 = false ∧ 0 < (n5 : Int)) &&
    (if a0 = 8 then decide (room = -1) && q a1 else if a0 = 9 then !decide (room = -1) && q room else q room)))))))
theorem body_ev {L : Nat → List S61 → Int → Int → Option Bool} {a0 a1 a2 a3 : Int} {l4 l5 : List S61} {deep room : Int} {q : Int → Bool} (hr : -1 ≤ room) (h : ∀ m,-1 ≤ m → Ev (fun k=>both (L k) l4 l5 (wrap64 (deep - 1)) m) (q m)) :
    Ev (fun k=>stmtBody (L k) a0 a1 a2 a3 l4 l5 deep room) (bodyB q a0 a1 a2 a3 l4.length l5.length deep room):=by
  unfold stmtBody bodyB
  refine ev_band fun h0=>ev_nand fun h1=>ev_band fun h2=>ev_band fun h3=>Evs.bind0 (numB_eq _ _ _ _ _ _) (ev_band fun h4=>ev_nand fun h5=>ev_nand fun h6=>?_)
  by_cases h8 : a0 = 8
  · simp only [if_pos h8]
    have ha : -1 ≤ a1:=by
      subst h8
      rw [show fmA 8 = 2 from rfl,fit_pos (by omega)] at h2
      unfold inR at h2
      simp only [Bool.and_eq_true,decide_eq_true_eq] at h2
      omega
    exact ev_and fun _=>h a1 ha
  simp only [if_neg h8]
  by_cases h9 : a0 = 9
  · simp only [if_pos h9]
    exact ev_nand fun _=>h room hr
  simp only [if_neg h9]
  exact h room hr
theorem okS_succ (d : Nat) (s : S61) (room : Int) : okS (d + 1) s room =
    if s.f0 = 6 then inR s.f1 3 && (decide (s.f2 = 0) && (decide (s.f3 = 0) && (s.f4.all (fun x=>okS d x room) && s.f5.all (fun x=>okS d x room)))) else
    if s.f5.length = 0 then
      if s.f0 = 7 then inR s.f1 3 && (decide (s.f2 = 0) && (decide (s.f3 = 0) && s.f4.all (fun x=>okS d x room))) else
      if s.f0 = 8 then decide (room < 0) && (inR s.f1 2 && (decide (s.f2 = 0) && (decide (s.f3 = 0) && s.f4.all (fun x=>okS d x s.f1)))) else
      decide (s.f4.length = 0) && leafOk s.f0 s.f1 s.f2 s.f3 room
    else false:=rfl
theorem bodyB_ok (d : Nat) (s : S61) (room : Int) (hr : -1 ≤ room) : bodyB (fun m=>s.f4.all (fun x=>okS d x m) && s.f5.all (fun x=>okS d x m)) s.f0 s.f1 s.f2 s.f3 s.f4.length s.f5.length ((d + 1 : Nat) : Int) room = okS (d + 1) s room:=by
  obtain ⟨a0,a1,a2,a3,l4,l5⟩:=s
  have e : decide (((d + 1 : Nat) : Int) < 1) = false:=decide_eq_false (by omega)
  rw [okS_succ]
  unfold bodyB
  generalize okS d = p
  simp only [e,Bool.not_false,Bool.true_and]
  have eq1 : decide (room = -1) = decide (room < 0):=by rw [decide_eq_decide];omega
  have eq2 : (!decide (room = -1)) = decide (0 ≤ room):=by rw [Bool.eq_iff_iff];simp;omega
  by_cases k : fmOk a0 = true
  · have hk : 1 ≤ a0 ∧ a0 ≤ 11:=by simpa [fmOk] using k
    have z4 : l4.length = 0 → l4 = []:=List.eq_nil_of_length_eq_zero
    have z5 : l5.length = 0 → l5 = []:=List.eq_nil_of_length_eq_zero
    have hcs : a0 = 1 ∨ a0 = 2 ∨ a0 = 3 ∨ a0 = 4 ∨ a0 = 5 ∨ a0 = 6 ∨ a0 = 7 ∨ a0 = 8 ∨ a0 = 9 ∨ a0 = 10 ∨ a0 = 11:=by omega
    rw [k,Bool.true_and]
    rcases hcs with rfl | rfl | rfl | rfl | rfl | rfl | rfl | rfl | rfl | rfl | rfl
    all_goals (rcases l4 with _ | ⟨y4,t4⟩ <;> rcases l5 with _ | ⟨y5,t5⟩)
    all_goals simp [fmA,fmB,fmX,fmY,numB,leafOk,fit_zero,fit_pos,eq1,eq2]
    all_goals (try unfold inR)
    all_goals (try unfold numR)
    all_goals grind
  · have hk : ¬ (1 ≤ a0 ∧ a0 ≤ 11):=by simpa [fmOk] using k
    rw [Bool.not_eq_true] at k
    rw [k,Bool.false_and]
    have h1 : ¬ a0 = 1:=by omega
    have h2 : ¬ a0 = 2:=by omega
    have h3 : ¬ a0 = 3:=by omega
    have h4 : ¬ a0 = 4:=by omega
    have h5 : ¬ a0 = 5:=by omega
    have h6 : ¬ a0 = 6:=by omega
    have h7 : ¬ a0 = 7:=by omega
    have h8 : ¬ a0 = 8:=by omega
    have h9 : ¬ a0 = 9:=by omega
    have h10 : ¬ a0 = 10:=by omega
    have h11 : ¬ a0 = 11:=by omega
    simp [leafOk,h1,h2,h3,h4,h5,h6,h7,h8,h9,h10,h11]
theorem implStmt_ev : ∀ (d : Nat),d ≤ 1000 → ∀ s room,-1 ≤ room → Ev (fun k=>stmtOkS k s (d : Int) room) (okS d s room)
  | 0,_,s,room,_=>by
    refine Evs.succ (fun k=>rfl) ?_
    show Ev (fun k=>stmtBody (fun l d m=>listM (fun x=>stmtOkS k x d m) l) s.f0 s.f1 s.f2 s.f3 s.f4 s.f5 ((0 : Nat) : Int) room) false
    unfold stmtBody
    by_cases h : fmOk s.f0 = true
    · exact Evs.ite_pos h (Evs.ite_pos (by omega) (Evs.some_ _))
    · exact Evs.ite_neg h (Evs.some_ _)
  | d + 1,hd,s,room,hr=>by
    have ih:=implStmt_ev d (by omega)
    have ew : wrap64 (((d + 1 : Nat) : Int) - 1) = (d : Int):=by rw [wrap_id (by omega) (by omega)];omega
    refine Evs.succ (fun k=>rfl) ?_
    rw [← bodyB_ok d s room hr]
    refine body_ev (L:=fun k l d m=>listM (fun x=>stmtOkS k x d m) l) hr fun m hm=>?_
    rw [ew]
    exact both_ev (implList_of d m stmtOkS (d : Int) s.f4 fun x _=>ih x m hm) (implList_of d m stmtOkS (d : Int) s.f5 fun x _=>ih x m hm)
end Go.Proofs.Ytdjkmnkgaacmfaa.P
