/- Parts of the proof of FnProgSame: plain Lean functions of Go functions, and that the calls come to what they say; no condition beyond those that each theorem names. -/
import Derived.Test.YtnegnanlbdncmaaDoorZFnProgSame13
import Derived.Test.YtnegnanlbdncmaaDoorZFnProgSame8
import Derived.Test.YtnegnanlbdncmaaDoorZFnProgSame5
import Derived.Test.YtnegnanlbdncmaaDoorZFnProgSame15
import Derived.Test.YtnegnanlbdncmaaDoorZFnProgSame7
import Derived.Test.YtnegnanlbdncmaaDoorZFnProgSame9
namespace Go.Proofs.YtnegnanlbdncmaaDoor.P
open Go.RowKit Go.Proofs.YtnegnanlbdncmaaDoorW.PrintWords Go.Proofs.YtnegnanlbdncmaaDoorW.PrintMore
def smallS : Nat → S49 → Prop
  | 0, _ => True
  | d + 1, s => (s.f4.length ≤ 1048576 ∧ ∀ x ∈ s.f4, smallS d x) ∧ (s.f5.length ≤ 1048576 ∧ ∀ x ∈ s.f5, smallS d x)
def inR (a n : Int) : Bool := decide (0 ≤ a) && decide (a < n)
def numR (a : Int) : Bool := decide (-999 ≤ a) && decide (a ≤ 999)
def leafOk (a0 a1 a2 a3 room : Int) : Bool :=
  if a0 = 1 then inR a1 3 && (decide (a2 = 0) && numR a3) else if a0 = 2 then inR a1 3 && (inR a2 3 && (decide (1 ≤ a3) && decide (a3 ≤ 5))) else
  if a0 = 3 then inR a1 3 && (inR a2 3 && decide (a3 = 0)) else if a0 = 4 then inR a1 3 && (inR a2 3 && decide (a3 = 0)) else
  if a0 = 5 then inR a1 3 && (decide (a2 = 0) && decide (a3 = 0)) else if a0 = 9 then decide (0 ≤ room) && (inR a1 2 && (decide (a2 = 0) && decide (a3 = 0))) else
  if a0 = 10 then inR a1 2 && (decide (a2 = 0) && decide (a3 = 0)) else if a0 = 11 then decide (a1 = 0) && (decide (a2 = 0) && decide (a3 = 0)) else false
def okS : Nat → S49 → Int → Bool
  | 0, _, _ => false
  | d + 1, s, room =>
    if s.f0 = 6 then inR s.f1 3 && (decide (s.f2 = 0) && (decide (s.f3 = 0) && (s.f4.all (fun x => okS d x room) && s.f5.all (fun x => okS d x room)))) else
    if s.f5.length = 0 then
      if s.f0 = 7 then inR s.f1 3 && (decide (s.f2 = 0) && (decide (s.f3 = 0) && s.f4.all (fun x => okS d x room))) else
      if s.f0 = 8 then decide (room < 0) && (inR s.f1 2 && (decide (s.f2 = 0) && (decide (s.f3 = 0) && s.f4.all (fun x => okS d x s.f1)))) else
      decide (s.f4.length = 0) && leafOk s.f0 s.f1 s.f2 s.f3 room
    else false
theorem all_range_rd (l : List S49) (p : S49 → Bool) : (List.range l.length).all (fun i => p (rd_T49 l (i : Int))) = l.all p := by
  rw [Bool.eq_iff_iff, List.all_eq_true, List.all_eq_true]
  constructor
  · intro h x hx
    obtain ⟨i, hi, rfl⟩ := List.mem_iff_getElem.1 hx
    have := h i (List.mem_range.2 hi)
    unfold rd_T49 at this
    rwa [Int.toNat_natCast, List.getD_eq_getElem?_getD, List.getElem?_eq_getElem hi] at this
  · intro h i hi
    have hi := List.mem_range.1 hi
    unfold rd_T49
    rw [Int.toNat_natCast, List.getD_eq_getElem?_getD, List.getElem?_eq_getElem hi]
    exact h _ (List.getElem_mem hi)
theorem rd_mem {l : List S49} {i : Nat} (h : i < l.length) : rd_T49 l (i : Int) ∈ l := by
  unfold rd_T49
  rw [Int.toNat_natCast, List.getD_eq_getElem?_getD, List.getElem?_eq_getElem h]
  exact List.getElem_mem h
theorem ev_and {f : Nat → Option Bool} {c : Prop} [Decidable c] {r : Bool} (h : c → Ev f r) : Ev (fun k => if c then f k else some false) (decide c && r) := by
  by_cases hc : c
  · rw [decide_eq_true hc, Bool.true_and]
    exact Evs.ite_pos hc (h hc)
  · rw [decide_eq_false hc, Bool.false_and]
    exact Evs.ite_neg hc (Evs.some_ _)
theorem ev_band {f : Nat → Option Bool} {b r : Bool} (h : b = true → Ev f r) : Ev (fun k => if b = true then f k else some false) (b && r) := by
  cases b with
  | false => exact Evs.ite_neg (by simp) (Evs.some_ _)
  | true => exact Evs.ite_pos rfl (h rfl)
theorem ev_inR {f : Nat → Option Bool} {a n : Int} {r : Bool} (h : 0 ≤ a → a < n → Ev f r) : Ev (fun k => if a ≥ 0 then (if a < n then f k else some false) else some false) (inR a n && r) := by
  unfold inR
  rw [Bool.and_assoc]
  exact ev_and (c := 0 ≤ a) fun h1 => ev_and fun h2 => h h1 h2
theorem ev_last {f : Nat → Option Bool} {r : Bool} (h : Ev f r) : Ev (fun k => (f k).bind fun t => some t) r := Evs.bind h (Evs.some_ _)
theorem ev_last2 {f g : Nat → Option Bool} {r q : Bool} (h : Ev f r) (h2 : Ev g q) : Ev (fun k => (f k).bind fun t => if t = true then (g k).bind fun u => some u else some false) (r && q) :=
  Evs.bind h (ev_band fun _ => ev_last h2)
theorem numR_ev (a : Int) : spec_NumOk.f a = some (numR a) := by
  unfold spec_NumOk.f numR
  by_cases h : a ≥ -999
  · rw [if_pos h, decide_eq_true (show -999 ≤ a from h), Bool.true_and]
  · rw [if_neg h, decide_eq_false (show ¬ -999 ≤ a from h), Bool.false_and]
theorem leaf_j1 (a0 a1 a2 a3 room : Int) (l4 l5 : List S49) : Ev (fun k => spec_l2Leaf.j1 k room (inR a1 3) (inR a2 3) a0 a1 a2 a3 l4 l5) (leafOk a0 a1 a2 a3 room) := by
  have z : Ev (fun _ : Nat => some (a3 == 0)) (decide (a3 = 0)) := Evs.some_ _
  refine Evs.succ (fun k => by simp only [spec_l2Leaf.j1]; rfl) ?_
  unfold leafOk
  by_cases h1 : a0 = 1
  · simp only [if_pos h1]
    exact (ev_band fun _ => ev_and fun _ => Evs.bind0 (numR_ev a3) (Evs.some_ _))
  simp only [if_neg h1]
  by_cases h2 : a0 = 2
  · simp only [if_pos h2]
    exact (ev_band fun _ => ev_band fun _ => ev_and (c := 1 ≤ a3) fun _ => Evs.some_ _)
  simp only [if_neg h2]
  by_cases h3 : a0 = 3
  · simp only [if_pos h3]
    exact (ev_band fun _ => ev_inR fun _ _ => z)
  simp only [if_neg h3]
  by_cases h4 : a0 = 4
  · simp only [if_pos h4]
    exact (ev_inR fun _ _ => ev_band fun _ => z)
  simp only [if_neg h4]
  by_cases h5 : a0 = 5
  · simp only [if_pos h5]
    exact (ev_band fun _ => ev_and fun _ => z)
  simp only [if_neg h5]
  by_cases h9 : a0 = 9
  · simp only [if_pos h9]
    exact (ev_and (c := 0 ≤ room) fun _ => ev_inR fun _ _ => ev_and fun _ => z)
  simp only [if_neg h9]
  by_cases h10 : a0 = 10
  · simp only [if_pos h10]
    exact (ev_inR fun _ _ => ev_and fun _ => z)
  simp only [if_neg h10]
  by_cases h11 : a0 = 11
  · simp only [if_pos h11]
    exact (ev_and fun _ => ev_and fun _ => z)
  simp only [if_neg h11]
  exact Evs.some_ _
theorem leaf_ev (a0 a1 a2 a3 room : Int) (l4 l5 : List S49) : Ev (fun k => spec_l2Leaf.f k a0 a1 a2 a3 l4 l5 room) (leafOk a0 a1 a2 a3 room) := by
  have j1 := leaf_j1 a0 a1 a2 a3 room l4 l5
  have j0 : Ev (fun k => spec_l2Leaf.j0 k room (inR a1 3) a0 a1 a2 a3 l4 l5) (leafOk a0 a1 a2 a3 room) := by
    refine Evs.succ (fun k => by simp only [spec_l2Leaf.j0]; rfl) ?_
    by_cases h : a2 ≥ 0
    · have e : inR a2 3 = decide (a2 < 3) := by unfold inR; rw [decide_eq_true (show 0 ≤ a2 from h), Bool.true_and]
      rw [e] at j1
      exact Evs.ite_pos h j1
    · have e : inR a2 3 = false := by unfold inR; rw [decide_eq_false (show ¬ 0 ≤ a2 from h), Bool.false_and]
      rw [e] at j1
      exact Evs.ite_neg h j1
  unfold spec_l2Leaf.f
  by_cases h : a1 ≥ 0
  · have e : inR a1 3 = decide (a1 < 3) := by unfold inR; rw [decide_eq_true (show 0 ≤ a1 from h), Bool.true_and]
    rw [e] at j0
    exact Evs.ite_pos h j0
  · have e : inR a1 3 = false := by unfold inR; rw [decide_eq_false (show ¬ 0 ≤ a1 from h), Bool.false_and]
    rw [e] at j0
    exact Evs.ite_neg h j0
end Go.Proofs.YtnegnanlbdncmaaDoor.P
namespace Go.Proofs.YtnegnanlbdncmaaDoor.P
open Go.RowKit Go.Proofs.YtnegnanlbdncmaaDoorW.PrintWords Go.Proofs.YtnegnanlbdncmaaDoorW.PrintMore
set_option linter.unusedVariables false
set_option linter.unusedSimpArgs false
theorem specList_of (d : Nat) (hd : d ≤ 1000) (h : ∀ s room, -1 ≤ room → smallS d s → Ev (fun k => spec_l2Stmt.f k s.f0 s.f1 s.f2 s.f3 s.f4 s.f5 (d : Int) room) (okS d s room)) (l : List S49) (room : Int) (hr : -1 ≤ room) (hl : l.length ≤ 1048576) (hs : ∀ x ∈ l, smallS d x) :
    Ev (fun k => spec_l2List.f k l (d : Int) room) (l.all fun x => okS d x room) := by
  refine Evs.succ (fun k => by simp only [spec_l2List.f]; rfl) ?_
  rw [← all_range_rd l (fun x => okS d x room)]
  refine all_loop (fun k i => spec_l2List.l0 k l (d : Int) room i) l.length _ (fun i r hi hq hr' => ?_) (fun i hi hq => ?_) ?_
  · refine Evs.succ (fun k => by simp only [spec_l2List.l0]; rfl) ?_
    refine Evs.ite_pos (by omega) (Evs.ite_pos (by omega) (Evs.bind (h _ room hr (hs _ (rd_mem hi))) (Evs.ite_pos hq ?_)))
    rw [wrap_succ (by omega)]
    exact hr'
  · refine Evs.succ (fun k => by simp only [spec_l2List.l0]; rfl) ?_
    exact Evs.ite_pos (by omega) (Evs.ite_pos (by omega) (Evs.bind (h _ room hr (hs _ (rd_mem hi))) (Evs.ite_neg (by simpa using hq) (Evs.some_ _))))
  · refine Evs.succ (fun k => by simp only [spec_l2List.l0]; rfl) ?_
    exact Evs.ite_neg (by omega) (Evs.some_ _)
theorem specStmt_ev : ∀ (d : Nat), d ≤ 1000 → ∀ s room, -1 ≤ room → smallS d s → Ev (fun k => spec_l2Stmt.f k s.f0 s.f1 s.f2 s.f3 s.f4 s.f5 (d : Int) room) (okS d s room)
  | 0, hd, s, room, hr, hs => by
    have bad : Ev (fun k => spec_l2Stmt.j0 k ((0 : Nat) : Int) room true s.f0 s.f1 s.f2 s.f3 s.f4 s.f5) false := by
      refine Evs.succ (fun k => by simp only [spec_l2Stmt.j0]; rfl) ?_
      exact Evs.ite_pos (by trivial) (Evs.some_ _)
    have e : decide (((0 : Nat) : Int) < 1) = true := rfl
    refine Evs.succ (fun k => by simp only [spec_l2Stmt.f, e]; rfl) ?_
    by_cases h6 : s.f0 = 6
    · exact Evs.ite_pos h6 bad
    · refine Evs.ite_neg h6 ?_
      by_cases h5 : (s.f5.length : Int) > 0
      · exact Evs.ite_pos h5 bad
      · exact Evs.ite_neg h5 bad
  | d + 1, hd, s, room, hr, hs => by
    have ih := fun l m h1 h2 h3 => specList_of d (by omega) (specStmt_ev d (by omega)) l m h1 h2 h3
    obtain ⟨⟨q4, q4'⟩, q5, q5'⟩ := hs
    have ew : wrap64 (((d + 1 : Nat) : Int) - 1) = (d : Int) := by rw [wrap_id (by omega) (by omega)]; omega
    have e : decide (((d + 1 : Nat) : Int) < 1) = false := decide_eq_false (by omega)
    have bad : Ev (fun k => spec_l2Stmt.j0 k ((d + 1 : Nat) : Int) room true s.f0 s.f1 s.f2 s.f3 s.f4 s.f5) false := by
      refine Evs.succ (fun k => by simp only [spec_l2Stmt.j0]; rfl) ?_
      exact Evs.ite_pos (by trivial) (Evs.some_ _)
    have both6 : Ev (fun k => spec_l2Stmt.j1 k ((d + 1 : Nat) : Int) room s.f0 true s.f0 s.f1 s.f2 s.f3 s.f4 s.f5) (inR s.f1 3 && (decide (s.f2 = 0) && (decide (s.f3 = 0) && (s.f4.all (fun x => okS d x room) && s.f5.all (fun x => okS d x room))))) := by
      refine Evs.succ (fun k => by simp only [spec_l2Stmt.j1, ew]; rfl) ?_
      exact Evs.ite_pos (by trivial) (ev_inR fun _ _ => ev_and fun _ => ev_and fun _ => ev_last2 (ih _ _ hr q4 q4') (ih _ _ hr q5 q5'))
    unfold okS
    refine Evs.succ (fun k => by simp only [spec_l2Stmt.f, e]; rfl) ?_
    by_cases h6 : s.f0 = 6
    · simp only [if_pos h6]
      refine Evs.succ (fun k => by simp only [spec_l2Stmt.j0]; rfl) ?_
      have e6 : (s.f0 == 6) = true := by simpa using h6
      rw [e6]
      exact Evs.ite_neg (by simp) (Evs.ite_pos h6 both6)
    simp only [if_neg h6]
    by_cases h5 : s.f5.length = 0
    · have h5' : ¬ (s.f5.length : Int) > 0 := by omega
      simp only [if_pos h5, if_neg h5']
      refine Evs.succ (fun k => by simp only [spec_l2Stmt.j0]; rfl) ?_
      refine Evs.ite_neg (by simp) (Evs.ite_neg h6 ?_)
      by_cases h7 : s.f0 = 7
      · have e7 : (s.f0 == 7) = true := by simpa using h7
        simp only [if_pos h7]
        rw [e7]
        have n5 : s.f5.all (fun x => okS d x room) = true := by rw [List.eq_nil_of_length_eq_zero h5]; rfl
        rw [n5, Bool.and_true] at both6
        exact both6
      have e7 : (s.f0 == 7) = false := by simpa using h7
      simp only [if_neg h7]
      rw [e7]
      refine Evs.succ (fun k => by simp only [spec_l2Stmt.j1, ew]; rfl) ?_
      refine Evs.ite_neg (by simp) ?_
      by_cases h8 : s.f0 = 8
      · simp only [if_pos h8]
        exact ev_and fun _ => ev_inR fun h1 _ => ev_and fun _ => ev_and fun _ => ev_last (ih _ _ (by omega) q4 q4')
      simp only [if_neg h8]
      by_cases h4 : s.f4.length = 0
      · rw [decide_eq_true h4, Bool.true_and]
        exact Evs.ite_pos (by omega) (ev_last (leaf_ev _ _ _ _ _ _ _))
      · rw [decide_eq_false h4, Bool.false_and]
        exact Evs.ite_neg (by omega) (Evs.some_ _)
    · have h5' : (s.f5.length : Int) > 0 := by omega
      simp only [if_neg h5, if_pos h5']
      exact bad
theorem implList_of (d : Nat) (room : Int) (T : Nat → S49 → Int → Int → Option Bool) (dd : Int) : ∀ l : List S49, (∀ x ∈ l, Ev (fun k => T k x dd room) (okS d x room)) → Ev (fun k => listM (fun x => T k x dd room) l) (l.all fun x => okS d x room)
  | [], _ => Evs.some_ _
  | x :: t, h => by
    have ht := implList_of d room T dd t fun y hy => h y (List.mem_cons_of_mem _ hy)
    have hx := h x (List.mem_cons_self ..)
    rw [List.all_cons]
    exact Evs.bind hx (ev_band fun _ => ht)
end Go.Proofs.YtnegnanlbdncmaaDoor.P
namespace Go.Proofs.YtnegnanlbdncmaaDoor.P
open Go.RowKit Go.Proofs.YtnegnanlbdncmaaDoorW.PrintWords Go.Proofs.YtnegnanlbdncmaaDoorW.PrintMore
set_option linter.unusedVariables false
set_option linter.unusedSimpArgs false
theorem fit_pos {n l : Int} (h : 0 < l) : fit n l = inR n l := by
  unfold fit inR
  rw [Bool.eq_iff_iff]
  simp only [Bool.or_eq_true, Bool.and_eq_true, decide_eq_true_eq]
  omega
theorem fit_zero (n : Int) : fit n 0 = decide (n = 0) := by
  unfold fit
  rw [Bool.eq_iff_iff]
  simp only [Bool.or_eq_true, Bool.and_eq_true, decide_eq_true_eq]
  omega
def numB (a0 a3 : Int) : Bool := if a0 = 1 then numR a3 else if a0 = 2 then decide (1 ≤ a3) && decide (a3 ≤ 5) else decide (a3 = 0)
theorem numB_eq (a0 a1 a2 a3 : Int) (l4 l5 : List S49) : impl_Stmt_numberOk.f a0 a1 a2 a3 l4 l5 = some (numB a0 a3) := by
  unfold impl_Stmt_numberOk.f numB
  by_cases h1 : a0 = 1
  · simp only [if_pos h1]
    unfold impl_NumOk.f numR
    by_cases h : a3 ≥ -999
    · rw [if_pos h, decide_eq_true (show -999 ≤ a3 from h)]; rfl
    · rw [if_neg h, decide_eq_false (show ¬ -999 ≤ a3 from h)]; rfl
  · simp only [if_neg h1]
    by_cases h2 : a0 = 2
    · simp only [if_pos h2]
      unfold impl_isOp.f
      by_cases h : a3 ≥ 1
      · rw [if_pos h, decide_eq_true (show 1 ≤ a3 from h)]; rfl
      · rw [if_neg h, decide_eq_false (show ¬ 1 ≤ a3 from h)]; rfl
    · simp only [if_neg h2]
      rfl
theorem ev_nand {f : Nat → Option Bool} {c : Prop} [Decidable c] {r : Bool} (h : ¬ c → Ev f r) : Ev (fun k => if c then some false else f k) (!decide c && r) := by
  by_cases hc : c
  · rw [decide_eq_true hc, Bool.not_true, Bool.false_and]
    exact Evs.ite_pos hc (Evs.some_ _)
  · rw [decide_eq_false hc, Bool.not_false, Bool.true_and]
    exact Evs.ite_neg hc (h hc)
theorem both_ev {L : Nat → List S49 → Int → Int → Option Bool} {l4 l5 : List S49} {d m : Int} {r4 r5 : Bool} (h4 : Ev (fun k => L k l4 d m) r4) (h5 : Ev (fun k => L k l5 d m) r5) : Ev (fun k => both (L k) l4 l5 d m) (r4 && r5) := by
  unfold both
  exact Evs.bind h4 (ev_band fun _ => h5)
def bodyB (q : Int → Bool) (a0 a1 a2 a3 : Int) (n4 n5 : Nat) (deep room : Int) : Bool :=
  fmOk a0 && (!decide (deep < 1) && (fit a1 (fmA a0) && (fit a2 (fmB a0) && (numB a0 a3 && (!decide (fmX a0 = false ∧ 0 < (n4 : Int)) && (!decide (fmY a0 = false ∧ 0 < (n5 : Int)) &&
    (if a0 = 8 then decide (room = -1) && q a1 else if a0 = 9 then !decide (room = -1) && q room else q room)))))))
theorem body_ev {L : Nat → List S49 → Int → Int → Option Bool} {a0 a1 a2 a3 : Int} {l4 l5 : List S49} {deep room : Int} {q : Int → Bool} (hr : -1 ≤ room) (h : ∀ m, -1 ≤ m → Ev (fun k => both (L k) l4 l5 (wrap64 (deep - 1)) m) (q m)) :
    Ev (fun k => stmtBody (L k) a0 a1 a2 a3 l4 l5 deep room) (bodyB q a0 a1 a2 a3 l4.length l5.length deep room) := by
  unfold stmtBody bodyB
  refine ev_band fun h0 => ev_nand fun h1 => ev_band fun h2 => ev_band fun h3 => Evs.bind0 (numB_eq _ _ _ _ _ _) (ev_band fun h4 => ev_nand fun h5 => ev_nand fun h6 => ?_)
  by_cases h8 : a0 = 8
  · simp only [if_pos h8]
    have ha : -1 ≤ a1 := by
      subst h8
      rw [show fmA 8 = 2 from rfl, fit_pos (by omega)] at h2
      unfold inR at h2
      simp only [Bool.and_eq_true, decide_eq_true_eq] at h2
      omega
    exact ev_and fun _ => h a1 ha
  simp only [if_neg h8]
  by_cases h9 : a0 = 9
  · simp only [if_pos h9]
    exact ev_nand fun _ => h room hr
  simp only [if_neg h9]
  exact h room hr
theorem okS_succ (d : Nat) (s : S49) (room : Int) : okS (d + 1) s room =
    if s.f0 = 6 then inR s.f1 3 && (decide (s.f2 = 0) && (decide (s.f3 = 0) && (s.f4.all (fun x => okS d x room) && s.f5.all (fun x => okS d x room)))) else
    if s.f5.length = 0 then
      if s.f0 = 7 then inR s.f1 3 && (decide (s.f2 = 0) && (decide (s.f3 = 0) && s.f4.all (fun x => okS d x room))) else
      if s.f0 = 8 then decide (room < 0) && (inR s.f1 2 && (decide (s.f2 = 0) && (decide (s.f3 = 0) && s.f4.all (fun x => okS d x s.f1)))) else
      decide (s.f4.length = 0) && leafOk s.f0 s.f1 s.f2 s.f3 room
    else false := rfl
theorem bodyB_ok (d : Nat) (s : S49) (room : Int) (hr : -1 ≤ room) : bodyB (fun m => s.f4.all (fun x => okS d x m) && s.f5.all (fun x => okS d x m)) s.f0 s.f1 s.f2 s.f3 s.f4.length s.f5.length ((d + 1 : Nat) : Int) room = okS (d + 1) s room := by
  obtain ⟨a0, a1, a2, a3, l4, l5⟩ := s
  have e : decide (((d + 1 : Nat) : Int) < 1) = false := decide_eq_false (by omega)
  rw [okS_succ]
  unfold bodyB
  generalize okS d = p
  simp only [e, Bool.not_false, Bool.true_and]
  have eq1 : decide (room = -1) = decide (room < 0) := by rw [decide_eq_decide]; omega
  have eq2 : (!decide (room = -1)) = decide (0 ≤ room) := by rw [Bool.eq_iff_iff]; simp; omega
  by_cases k : fmOk a0 = true
  · have hk : 1 ≤ a0 ∧ a0 ≤ 11 := by simpa [fmOk] using k
    have z4 : l4.length = 0 → l4 = [] := List.eq_nil_of_length_eq_zero
    have z5 : l5.length = 0 → l5 = [] := List.eq_nil_of_length_eq_zero
    have hcs : a0 = 1 ∨ a0 = 2 ∨ a0 = 3 ∨ a0 = 4 ∨ a0 = 5 ∨ a0 = 6 ∨ a0 = 7 ∨ a0 = 8 ∨ a0 = 9 ∨ a0 = 10 ∨ a0 = 11 := by omega
    rw [k, Bool.true_and]
    rcases hcs with rfl | rfl | rfl | rfl | rfl | rfl | rfl | rfl | rfl | rfl | rfl
    all_goals (rcases l4 with _ | ⟨y4, t4⟩ <;> rcases l5 with _ | ⟨y5, t5⟩)
    all_goals simp [fmA, fmB, fmX, fmY, numB, leafOk, fit_zero, fit_pos, eq1, eq2]
    all_goals (try unfold inR)
    all_goals (try unfold numR)
    all_goals grind
  · have hk : ¬ (1 ≤ a0 ∧ a0 ≤ 11) := by simpa [fmOk] using k
    rw [Bool.not_eq_true] at k
    rw [k, Bool.false_and]
    have h1 : ¬ a0 = 1 := by omega
    have h2 : ¬ a0 = 2 := by omega
    have h3 : ¬ a0 = 3 := by omega
    have h4 : ¬ a0 = 4 := by omega
    have h5 : ¬ a0 = 5 := by omega
    have h6 : ¬ a0 = 6 := by omega
    have h7 : ¬ a0 = 7 := by omega
    have h8 : ¬ a0 = 8 := by omega
    have h9 : ¬ a0 = 9 := by omega
    have h10 : ¬ a0 = 10 := by omega
    have h11 : ¬ a0 = 11 := by omega
    simp [leafOk, h1, h2, h3, h4, h5, h6, h7, h8, h9, h10, h11]
theorem implStmt_ev : ∀ (d : Nat), d ≤ 1000 → ∀ s room, -1 ≤ room → Ev (fun k => stmtOkS k s (d : Int) room) (okS d s room)
  | 0, _, s, room, _ => by
    refine Evs.succ (fun k => rfl) ?_
    show Ev (fun k => stmtBody (fun l d m => listM (fun x => stmtOkS k x d m) l) s.f0 s.f1 s.f2 s.f3 s.f4 s.f5 ((0 : Nat) : Int) room) false
    unfold stmtBody
    by_cases h : fmOk s.f0 = true
    · exact Evs.ite_pos h (Evs.ite_pos (by omega) (Evs.some_ _))
    · exact Evs.ite_neg h (Evs.some_ _)
  | d + 1, hd, s, room, hr => by
    have ih := implStmt_ev d (by omega)
    have ew : wrap64 (((d + 1 : Nat) : Int) - 1) = (d : Int) := by rw [wrap_id (by omega) (by omega)]; omega
    refine Evs.succ (fun k => rfl) ?_
    rw [← bodyB_ok d s room hr]
    refine body_ev (L := fun k l d m => listM (fun x => stmtOkS k x d m) l) hr fun m hm => ?_
    rw [ew]
    exact both_ev (implList_of d m stmtOkS (d : Int) s.f4 fun x _ => ih x m hm) (implList_of d m stmtOkS (d : Int) s.f5 fun x _ => ih x m hm)
end Go.Proofs.YtnegnanlbdncmaaDoor.P

namespace Go.Proofs.YtnegnanlbdncmaaDoor.P
open Go.RowKit Go.Proofs.YtnegnanlbdncmaaDoorW.PrintWords Go.Proofs.YtnegnanlbdncmaaDoorW.PrintMore
set_option linter.unusedVariables false
set_option linter.unusedSimpArgs false
def Sm (t : S49) : Prop := ∀ d, smallS d t
theorem sm_mk {a0 a1 a2 a3 : Int} {l4 l5 : List S49} (h4 : l4.length ≤ 1048576) (g4 : ∀ t ∈ l4, Sm t) (h5 : l5.length ≤ 1048576) (g5 : ∀ t ∈ l5, Sm t) : Sm ⟨a0, a1, a2, a3, l4, l5⟩
  | 0 => trivial
  | d + 1 => ⟨⟨h4, fun t ht => g4 t ht d⟩, h5, fun t ht => g5 t ht d⟩
theorem sm_leaf (a0 a1 a2 a3 : Int) : Sm ⟨a0, a1, a2, a3, [], []⟩ := sm_mk (by simp) (fun _ h => by cases h) (by simp) (fun _ h => by cases h)
def cst (d : Nat) : Int := 100 * 10 ^ d
theorem cst_succ (d : Nat) : cst (d + 1) = 10 * cst d := by unfold cst; rw [Int.pow_succ]; omega
theorem cst_ge (d : Nat) : 100 ≤ cst d := by
  induction d with
  | zero => unfold cst; simp
  | succ d ih => rw [cst_succ]; omega
def Drawn (xs : List Int) (d : Nat) : Prop := ∀ (room p : Int), 0 ≤ p → p + cst d ≤ 6000000000 → ∃ (t : S49) (p' : Int), Sm t ∧ p ≤ p' ∧ p' ≤ p + cst d ∧ Ev (fun k => spec_l2Draw.f k xs p (d : Int) room) (t.f0, t.f1, t.f2, t.f3, t.f4, t.f5, p')
def DrawnL (xs : List Int) (d : Nat) : Prop := ∀ (room most p : Int), 0 ≤ most → most ≤ 3 → 0 ≤ p → p + 1 + 3 * cst d ≤ 6000000000 → ∃ (ts : List S49) (p' : Int), ts.length ≤ 3 ∧ (∀ t ∈ ts, Sm t) ∧ p ≤ p' ∧ p' ≤ p + 1 + 3 * cst d ∧ Ev (fun k => spec_l2Draws.f k xs p (d : Int) room most) (ts, p')
theorem draws_loop {xs : List Int} {d : Nat} (hc : cst d ≤ 100000000) (h : Drawn xs d) (room : Int) (n : Nat) : ∀ (out : List S49) (p : Int), n + out.length ≤ 3 → (∀ t ∈ out, Sm t) → 0 ≤ p → p + (n : Int) * cst d ≤ 6000000000 →
    ∃ (ts : List S49) (p' : Int), ts.length ≤ 3 ∧ (∀ t ∈ ts, Sm t) ∧ p ≤ p' ∧ p' ≤ p + (n : Int) * cst d ∧ Ev (fun k => spec_l2Draws.l0 k (d : Int) room out (n : Int) xs p) (ts, p') := by
  have hg := cst_ge d
  induction n with
  | zero =>
    intro out p hn ho h0 h1
    refine ⟨out, p, by omega, ho, by omega, by omega, ?_⟩
    refine Evs.succ (fun k => by simp only [spec_l2Draws.l0]; rfl) ?_
    exact Evs.ite_neg (by omega) (Evs.some_ _)
  | succ n ih =>
    intro out p hn ho h0 h1
    have e : ((n + 1 : Nat) : Int) * cst d = (n : Int) * cst d + cst d := by rw [Int.natCast_succ, Int.add_mul]; omega
    have hnn : 0 ≤ (n : Int) * cst d := Int.mul_nonneg (by omega) (by omega)
    obtain ⟨t, q, ht, hq0, hq1, he⟩ := h room p h0 (by omega)
    obtain ⟨ts, p', a1, a2, a3, a4, a5⟩ := ih (out ++ [t]) q (by simp; omega) (fun u hu => by
      rcases List.mem_append.1 hu with hu | hu
      · exact ho u hu
      · rw [List.mem_singleton.1 hu]
        exact ht) (by omega) (by omega)
    refine ⟨ts, p', a1, a2, by omega, by omega, ?_⟩
    refine Evs.succ (fun k => by simp only [spec_l2Draws.l0]; rfl) ?_
    refine Evs.ite_pos (by omega) (Evs.bind he (Evs.ite_pos (by omega) ?_))
    have ew : wrap64 (((n + 1 : Nat) : Int) - 1) = (n : Int) := by rw [wrap_id (by omega) (by omega)]; omega
    obtain ⟨b0, b1, b2, b3, b4, b5⟩ := t
    rw [ew]
    exact a5
theorem drawnL_of {xs : List Int} (hb : Buf xs) {d : Nat} (hc : cst d ≤ 100000000) (h : Drawn xs d) : DrawnL xs d := by
  intro room most p m0 m1 p0 p1
  have hg := cst_ge d
  obtain ⟨v, hv, hr, _⟩ := pick_ev (n := most + 1) hb p0 (by omega)
  have hv' := hr (by omega)
  obtain ⟨n, rfl⟩ := Int.eq_ofNat_of_zero_le hv'.1
  have hn3 : (n : Int) * cst d ≤ 3 * cst d := Int.mul_le_mul_of_nonneg_right (by omega) (by omega)
  obtain ⟨ts, p', a1, a2, a3, a4, a5⟩ := draws_loop hc h room n [] (p + 1) (by simp; omega) (fun _ h => by cases h) (by omega) (by omega)
  refine ⟨ts, p', a1, a2, by omega, by omega, ?_⟩
  have ew : wrap64 (most + 1) = most + 1 := wrap_id (by omega) (by omega)
  refine Evs.succ (fun k => by simp only [spec_l2Draws.f, ew]; rfl) ?_
  exact Evs.bind hv a5
def Out (p q : Int) (f : Nat → Option (Int × Int × Int × Int × List S49 × List S49 × Int)) : Prop := ∃ (t : S49) (p' : Int), Sm t ∧ p ≤ p' ∧ p' ≤ q ∧ Ev f (t.f0, t.f1, t.f2, t.f3, t.f4, t.f5, p')
theorem Out.now {p q p' : Int} {f : Nat → Option (Int × Int × Int × Int × List S49 × List S49 × Int)} (t : S49) (ht : Sm t) (h1 : p ≤ p') (h2 : p' ≤ q) (he : Ev f (t.f0, t.f1, t.f2, t.f3, t.f4, t.f5, p')) : Out p q f := ⟨t, p', ht, h1, h2, he⟩
theorem Out.of {p q p2 q2 : Int} {f g : Nat → Option (Int × Int × Int × Int × List S49 × List S49 × Int)} (h : Out p q f) (h1 : p2 ≤ p) (h2 : q ≤ q2) (hg : ∀ r, Ev f r → Ev g r) : Out p2 q2 g := by
  obtain ⟨t, p', ht, a, b, c⟩ := h
  exact ⟨t, p', ht, by omega, by omega, hg _ c⟩
theorem j2_out {xs : List Int} (hb : Buf xs) (d : Nat) (hd : d ≤ 5) (hl : 2 ≤ d → DrawnL xs (d - 1)) (room x7 x8 kind : Int) (hk : 6 ≤ kind → kind ≤ 8 → 2 ≤ d) (b : Bool) (p : Int) (p0 : 0 ≤ p) (p1 : p + 10 + 6 * cst (d - 1) ≤ 6000000000) :
    Out p (p + 10 + 6 * cst (d - 1)) (fun k => spec_l2Draw.j2 k (d : Int) room x7 x8 kind kind b xs p) := by
  have hg := cst_ge (d - 1)
  have big : cst (d - 1) ≤ 1000000 := by
    have : d - 1 = 0 ∨ d - 1 = 1 ∨ d - 1 = 2 ∨ d - 1 = 3 ∨ d - 1 = 4 := by omega
    rcases this with h | h | h | h | h <;> rw [h] <;> unfold cst <;> simp
  have ew : 2 ≤ d → wrap64 ((d : Int) - 1) = ((d - 1 : Nat) : Int) := fun h => by rw [wrap_id (by omega) (by omega)]; omega
  cases b with
  | true =>
    refine Out.now (p' := p) ⟨kind, x7, x8, 0, [], []⟩ (sm_leaf _ _ _ _) (by omega) (by omega) (Evs.succ (fun k => by simp only [spec_l2Draw.j2]; rfl) ?_)
    exact Evs.ite_pos (by trivial) (Evs.some_ _)
  | false =>
    by_cases h5 : kind = 5
    · refine Out.now (p' := p) ⟨kind, x7, 0, 0, [], []⟩ (sm_leaf _ _ _ _) (by omega) (by omega) (Evs.succ (fun k => by simp only [spec_l2Draw.j2]; rfl) ?_)
      exact Evs.ite_neg (by simp) (Evs.ite_pos h5 (Evs.some_ _))
    by_cases h6 : kind = 6
    · have h2 := hk (by omega) (by omega)
      obtain ⟨ts, q, a1, a2, a3, a4, a5⟩ := hl h2 room 2 p (by omega) (by omega) p0 (by omega)
      obtain ⟨us, q2, b1, b2, b3, b4, b5⟩ := hl h2 room 2 q (by omega) (by omega) (by omega) (by omega)
      refine Out.now (p' := q2) ⟨kind, x7, 0, 0, ts, us⟩ (sm_mk (by omega) a2 (by omega) b2) (by omega) (by omega) (Evs.succ (fun k => by simp only [spec_l2Draw.j2, ew h2]; rfl) ?_)
      exact Evs.ite_neg (by simp) (Evs.ite_neg h5 (Evs.ite_pos h6 (Evs.bind a5 (Evs.bind b5 (Evs.some_ _)))))
    by_cases h7 : kind = 7
    · have h2 := hk (by omega) (by omega)
      obtain ⟨ts, q, a1, a2, a3, a4, a5⟩ := hl h2 room 2 p (by omega) (by omega) p0 (by omega)
      obtain ⟨v, _, hv⟩ := num_ev (l := [0, 0, 0, 0, 0, 1]) hb (p := q) (by omega) (by omega) (by simp) (by simp)
      refine Out.now (p' := q + 1) ⟨kind, x7, 0, 0, ts ++ [⟨1, x7, 0, v, [], []⟩], []⟩ (sm_mk (by simp; omega) (fun t ht => by
        rcases List.mem_append.1 ht with ht | ht
        · exact a2 t ht
        · rw [List.mem_singleton.1 ht]
          exact sm_leaf _ _ _ _) (by simp) (fun _ h => by cases h)) (by omega) (by omega) (Evs.succ (fun k => by simp only [spec_l2Draw.j2, ew h2]; rfl) ?_)
      exact Evs.ite_neg (by simp) (Evs.ite_neg h5 (Evs.ite_neg h6 (Evs.ite_pos h7 (Evs.bind a5 (Evs.bind hv (Evs.ite_pos (by show ts.length < _; omega) (Evs.some_ _)))))))
    by_cases h8 : kind = 8
    · have h2 := hk (by omega) (by omega)
      obtain ⟨v, hv, _⟩ := pick_ev (n := 2) hb p0 (by omega)
      obtain ⟨ts, q, a1, a2, a3, a4, a5⟩ := hl h2 v 3 (p + 1) (by omega) (by omega) (by omega) (by omega)
      refine Out.now (p' := q) ⟨kind, v, 0, 0, ts, []⟩ (sm_mk (by omega) a2 (by simp) (fun _ h => by cases h)) (by omega) (by omega) (Evs.succ (fun k => by simp only [spec_l2Draw.j2, ew h2]; rfl) ?_)
      exact Evs.ite_neg (by simp) (Evs.ite_neg h5 (Evs.ite_neg h6 (Evs.ite_neg h7 (Evs.ite_pos h8 (Evs.bind hv (Evs.bind a5 (Evs.some_ _)))))))
    obtain ⟨v, hv, _⟩ := pick_ev (n := 2) hb p0 (by omega)
    by_cases h9 : kind = 9
    · refine Out.now (p' := p + 1) ⟨kind, v, 0, 0, [], []⟩ (sm_leaf _ _ _ _) (by omega) (by omega) (Evs.succ (fun k => by simp only [spec_l2Draw.j2]; rfl) ?_)
      exact Evs.ite_neg (by simp) (Evs.ite_neg h5 (Evs.ite_neg h6 (Evs.ite_neg h7 (Evs.ite_neg h8 (Evs.ite_pos h9 (Evs.bind hv (Evs.some_ _)))))))
    by_cases h10 : kind = 10
    · refine Out.now (p' := p + 1) ⟨kind, v, 0, 0, [], []⟩ (sm_leaf _ _ _ _) (by omega) (by omega) (Evs.succ (fun k => by simp only [spec_l2Draw.j2]; rfl) ?_)
      exact Evs.ite_neg (by simp) (Evs.ite_neg h5 (Evs.ite_neg h6 (Evs.ite_neg h7 (Evs.ite_neg h8 (Evs.ite_neg h9 (Evs.ite_pos h10 (Evs.bind hv (Evs.some_ _))))))))
    refine Out.now (p' := p) ⟨11, 0, 0, 0, [], []⟩ (sm_leaf _ _ _ _) (by omega) (by omega) (Evs.succ (fun k => by simp only [spec_l2Draw.j2]; rfl) ?_)
    exact Evs.ite_neg (by simp) (Evs.ite_neg h5 (Evs.ite_neg h6 (Evs.ite_neg h7 (Evs.ite_neg h8 (Evs.ite_neg h9 (Evs.ite_neg h10 (Evs.some_ _)))))))
theorem j1_out {xs : List Int} (hb : Buf xs) (d : Nat) (hd : d ≤ 5) (hl : 2 ≤ d → DrawnL xs (d - 1)) (room x7 x8 kind : Int) (hk : 6 ≤ kind → kind ≤ 8 → 2 ≤ d) (p : Int) (p0 : 0 ≤ p) (p1 : p + 10 + 6 * cst (d - 1) ≤ 6000000000) :
    Out p (p + 10 + 6 * cst (d - 1)) (fun k => spec_l2Draw.j1 k (d : Int) room x7 x8 kind xs p) := by
  have hg := cst_ge (d - 1)
  by_cases h1 : kind = 1
  · obtain ⟨v, _, hv⟩ := num_ev (l := [0, 1, 2, 3, -1, 5]) hb p0 (by omega) (by simp) (by simp)
    refine Out.now (p' := p + 1) ⟨kind, x7, 0, v, [], []⟩ (sm_leaf _ _ _ _) (by omega) (by omega) (Evs.succ (fun k => by simp only [spec_l2Draw.j1]; rfl) ?_)
    exact Evs.ite_pos h1 (Evs.bind hv (Evs.some_ _))
  by_cases h2 : kind = 2
  · obtain ⟨v, hv, _⟩ := pick_ev (n := 5) hb p0 (by omega)
    refine Out.now (p' := p + 1) ⟨kind, x7, x8, wrap64 (1 + v), [], []⟩ (sm_leaf _ _ _ _) (by omega) (by omega) (Evs.succ (fun k => by simp only [spec_l2Draw.j1]; rfl) ?_)
    exact Evs.ite_neg h1 (Evs.ite_pos h2 (Evs.bind hv (Evs.some_ _)))
  by_cases h3 : kind = 3
  · exact (j2_out hb d hd hl room x7 x8 kind hk (kind == 3) p p0 p1).of (Int.le_refl _) (Int.le_refl _) fun r hr => Evs.succ (fun k => by simp only [spec_l2Draw.j1]; rfl) (Evs.ite_neg h1 (Evs.ite_neg h2 (Evs.ite_pos h3 hr)))
  · exact (j2_out hb d hd hl room x7 x8 kind hk (kind == 4) p p0 p1).of (Int.le_refl _) (Int.le_refl _) fun r hr => Evs.succ (fun k => by simp only [spec_l2Draw.j1]; rfl) (Evs.ite_neg h1 (Evs.ite_neg h2 (Evs.ite_neg h3 hr)))
theorem j0_out {xs : List Int} (hb : Buf xs) (d : Nat) (hd : d ≤ 5) (hl : 2 ≤ d → DrawnL xs (d - 1)) (room x7 x8 kind : Int) (b : Bool) (hk : b = false → 6 ≤ kind → kind ≤ 8 → 2 ≤ d) (p : Int) (p0 : 0 ≤ p) (p1 : p + 11 + 6 * cst (d - 1) ≤ 6000000000) :
    Out p (p + 11 + 6 * cst (d - 1)) (fun k => spec_l2Draw.j0 k (d : Int) room x7 x8 kind b xs p) := by
  have hg := cst_ge (d - 1)
  cases b with
  | true =>
    obtain ⟨v, hm, hv⟩ := num_ev (l := [1, 2, 3, 4, 5]) hb p0 (by omega) (by simp) (by simp)
    have hv5 : v ≤ 5 := by simp at hm; omega
    exact (j1_out hb d hd hl room x7 x8 v (fun h _ => absurd h (by omega)) (p + 1) (by omega) (by omega)).of (by omega) (by omega) fun r hr => Evs.succ (fun k => by simp only [spec_l2Draw.j0]; rfl) (Evs.ite_pos (by trivial) (Evs.bind hv hr))
  | false =>
    exact (j1_out hb d hd hl room x7 x8 kind (hk rfl) p (by omega) (by omega)).of (by omega) (by omega) fun r hr => Evs.succ (fun k => by simp only [spec_l2Draw.j0]; rfl) (Evs.ite_neg (by simp) hr)
end Go.Proofs.YtnegnanlbdncmaaDoor.P
namespace Go.Proofs.YtnegnanlbdncmaaDoor.P
open Go.RowKit Go.Proofs.YtnegnanlbdncmaaDoorW.PrintWords Go.Proofs.YtnegnanlbdncmaaDoorW.PrintMore
set_option linter.unusedVariables false
set_option linter.unusedSimpArgs false
theorem inner_out {xs : List Int} (hb : Buf xs) (d : Nat) (hd : d ≤ 5) (hl : 2 ≤ d → DrawnL xs (d - 1)) (room x y kind : Int) (hk : 6 ≤ kind → kind ≤ 8 → 2 ≤ d) (p : Int) (p0 : 0 ≤ p) (p1 : p + 11 + 6 * cst (d - 1) ≤ 6000000000) :
    Out p (p + 11 + 6 * cst (d - 1)) (fun k => if kind = 8 then (if room ≥ 0 then (spec_l2Draw.j0 k (d : Int) room x y kind true xs p) else (if kind = 9 then (spec_l2Draw.j0 k (d : Int) room x y kind (decide (room < 0)) xs p) else (spec_l2Draw.j0 k (d : Int) room x y kind false xs p))) else (if kind = 9 then (spec_l2Draw.j0 k (d : Int) room x y kind (decide (room < 0)) xs p) else (spec_l2Draw.j0 k (d : Int) room x y kind false xs p))) := by
  have j := fun b (h : b = false → 6 ≤ kind → kind ≤ 8 → 2 ≤ d) => j0_out hb d hd hl room x y kind b h p p0 p1
  by_cases h8 : kind = 8
  · by_cases hr : room ≥ 0
    · exact (j true (fun h => by cases h)).of (Int.le_refl _) (Int.le_refl _) fun r h => Evs.ite_pos h8 (Evs.ite_pos hr h)
    · exact (j false (fun _ => hk)).of (Int.le_refl _) (Int.le_refl _) fun r h => Evs.ite_pos h8 (Evs.ite_neg hr (Evs.ite_neg (by omega) h))
  · by_cases h9 : kind = 9
    · exact (j (decide (room < 0)) (fun _ => hk)).of (Int.le_refl _) (Int.le_refl _) fun r h => Evs.ite_neg h8 (Evs.ite_pos h9 h)
    · exact (j false (fun _ => hk)).of (Int.le_refl _) (Int.le_refl _) fun r h => Evs.ite_neg h8 (Evs.ite_neg h9 h)
theorem drawn_step {xs : List Int} (hb : Buf xs) (d : Nat) (hd : d ≤ 5) (h1 : 1 ≤ d) (hl : 2 ≤ d → DrawnL xs (d - 1)) (room p : Int) (p0 : 0 ≤ p) (p1 : p + cst d ≤ 6000000000) : Out p (p + cst d) (fun k => spec_l2Draw.f k xs p (d : Int) room) := by
  have hg := cst_ge (d - 1)
  have e := cst_succ (d - 1)
  rw [show d - 1 + 1 = d by omega] at e
  obtain ⟨x, hx, _⟩ := pick_ev (n := 3) hb p0 (by omega)
  obtain ⟨y, hy, _⟩ := pick_ev (n := 3) hb (p := p + 1) (by omega) (by omega)
  obtain ⟨kind, hm, hv⟩ := num_ev (l := [1, 2, 3, 4, 5, 3, 4, 2, 8, 6, 7, 10, 9, 11, 8, 5]) hb (p := p + 1 + 1) (by omega) (by omega) (by simp) (by simp)
  have head : ∀ r, Ev (fun k => if (d : Int) < 2 then (if kind ≥ 6 then (if kind ≤ 8 then (spec_l2Draw.j0 k (d : Int) room x y kind true xs (p + 1 + 1 + 1)) else (if kind = 8 then (if room ≥ 0 then (spec_l2Draw.j0 k (d : Int) room x y kind true xs (p + 1 + 1 + 1)) else (if kind = 9 then (spec_l2Draw.j0 k (d : Int) room x y kind (decide (room < 0)) xs (p + 1 + 1 + 1)) else (spec_l2Draw.j0 k (d : Int) room x y kind false xs (p + 1 + 1 + 1)))) else (if kind = 9 then (spec_l2Draw.j0 k (d : Int) room x y kind (decide (room < 0)) xs (p + 1 + 1 + 1)) else (spec_l2Draw.j0 k (d : Int) room x y kind false xs (p + 1 + 1 + 1))))) else (if kind = 8 then (if room ≥ 0 then (spec_l2Draw.j0 k (d : Int) room x y kind true xs (p + 1 + 1 + 1)) else (if kind = 9 then (spec_l2Draw.j0 k (d : Int) room x y kind (decide (room < 0)) xs (p + 1 + 1 + 1)) else (spec_l2Draw.j0 k (d : Int) room x y kind false xs (p + 1 + 1 + 1)))) else (if kind = 9 then (spec_l2Draw.j0 k (d : Int) room x y kind (decide (room < 0)) xs (p + 1 + 1 + 1)) else (spec_l2Draw.j0 k (d : Int) room x y kind false xs (p + 1 + 1 + 1))))) else (if kind = 8 then (if room ≥ 0 then (spec_l2Draw.j0 k (d : Int) room x y kind true xs (p + 1 + 1 + 1)) else (if kind = 9 then (spec_l2Draw.j0 k (d : Int) room x y kind (decide (room < 0)) xs (p + 1 + 1 + 1)) else (spec_l2Draw.j0 k (d : Int) room x y kind false xs (p + 1 + 1 + 1)))) else (if kind = 9 then (spec_l2Draw.j0 k (d : Int) room x y kind (decide (room < 0)) xs (p + 1 + 1 + 1)) else (spec_l2Draw.j0 k (d : Int) room x y kind false xs (p + 1 + 1 + 1))))) r → Ev (fun k => spec_l2Draw.f k xs p (d : Int) room) r := fun r hr =>
    Evs.succ (fun k => by simp only [spec_l2Draw.f]; rfl) (Evs.bind hx (Evs.bind hy (Evs.bind hv hr)))
  by_cases c0 : (d : Int) < 2
  · by_cases c1 : kind ≥ 6
    · by_cases c2 : kind ≤ 8
      · exact (j0_out hb d hd hl room x y kind true (fun h => by cases h) (p + 1 + 1 + 1) (by omega) (by omega)).of (by omega) (by omega) fun r h => head r (Evs.ite_pos c0 (Evs.ite_pos c1 (Evs.ite_pos c2 h)))
      · exact (inner_out hb d hd hl room x y kind (fun _ h => absurd h c2) (p + 1 + 1 + 1) (by omega) (by omega)).of (by omega) (by omega) fun r h => head r (Evs.ite_pos c0 (Evs.ite_pos c1 (Evs.ite_neg c2 h)))
    · exact (inner_out hb d hd hl room x y kind (fun h => absurd h c1) (p + 1 + 1 + 1) (by omega) (by omega)).of (by omega) (by omega) fun r h => head r (Evs.ite_pos c0 (Evs.ite_neg c1 h))
  · exact (inner_out hb d hd hl room x y kind (fun _ _ => by omega) (p + 1 + 1 + 1) (by omega) (by omega)).of (by omega) (by omega) fun r h => head r (Evs.ite_neg c0 h)
theorem drawn_all {xs : List Int} (hb : Buf xs) : ∀ d : Nat, 1 ≤ d → d ≤ 5 → Drawn xs d := by
  intro d
  induction d with
  | zero => exact fun h => absurd h (by omega)
  | succ d ih =>
    intro _ hd room p p0 p1
    exact drawn_step hb (d + 1) hd (by omega) (fun h => drawnL_of hb (by
      have : d = 1 ∨ d = 2 ∨ d = 3 ∨ d = 4 := by omega
      show cst d ≤ 100000000
      rcases this with h | h | h | h <;> rw [h] <;> unfold cst <;> simp) (ih (by omega) (by omega))) room p p0 p1
end Go.Proofs.YtnegnanlbdncmaaDoor.P

namespace Go.Proofs.YtnegnanlbdncmaaDoor.P
open Go.RowKit Go.Proofs.YtnegnanlbdncmaaDoorW.PrintWords Go.Proofs.YtnegnanlbdncmaaDoorW.PrintMore
set_option linter.unusedVariables false
set_option linter.unusedSimpArgs false
def SmL (l : List S49) : Prop := l.length ≤ 100 ∧ ∀ t ∈ l, Sm t
theorem smL_set {l : List S49} (h : SmL l) (i : Nat) {t : S49} (ht : Sm t) : SmL (l.set i t) := by
  refine ⟨by rw [List.length_set]; exact h.1, fun u hu => ?_⟩
  rcases List.mem_or_eq_of_mem_set hu with hu | hu
  · exact h.2 u hu
  · rw [hu]
    exact ht
theorem smL_rd {l : List S49} (h : SmL l) {i : Int} (h0 : 0 ≤ i) (h1 : i < (l.length : Int)) : Sm (rd_T49 l i) := by
  obtain ⟨n, rfl⟩ := Int.eq_ofNat_of_zero_le h0
  exact h.2 _ (rd_mem (by omega))
theorem sm_parts {t : S49} (h : Sm t) : (t.f4.length ≤ 1048576 ∧ ∀ u ∈ t.f4, Sm u) ∧ (t.f5.length ≤ 1048576 ∧ ∀ u ∈ t.f5, Sm u) :=
  ⟨⟨(h 1).1.1, fun u hu d => (h (d + 1)).1.2 u hu⟩, (h 1).2.1, fun u hu d => (h (d + 1)).2.2 u hu⟩
theorem bent_loop {xs : List Int} (p : Int) (n : Nat) : ∀ l : List S49, SmL l → 15 ≤ l.length + n → ∃ l', SmL l' ∧ l.length ≤ l'.length ∧ Ev (fun k => spec_l2Bent.l0 k l xs p) (l', p) := by
  induction n with
  | zero =>
    intro l h hn
    refine ⟨l, h, Nat.le_refl _, Evs.succ (fun k => by simp only [spec_l2Bent.l0]; rfl) ?_⟩
    exact Evs.ite_neg (by omega) (Evs.some_ _)
  | succ n ih =>
    intro l h hn
    by_cases c : (l.length : Int) ≤ 14
    · obtain ⟨l', a, b, e⟩ := ih (l ++ [⟨11, 0, 0, 0, [], []⟩]) ⟨by simp; omega, fun t ht => by
        rcases List.mem_append.1 ht with ht | ht
        · exact h.2 t ht
        · rw [List.mem_singleton.1 ht]
          exact sm_leaf _ _ _ _⟩ (by simp; omega)
      refine ⟨l', a, by simp at b; omega, Evs.succ (fun k => by simp only [spec_l2Bent.l0]; rfl) ?_⟩
      exact Evs.ite_pos c (Evs.ite_pos (by omega) e)
    · refine ⟨l, h, Nat.le_refl _, Evs.succ (fun k => by simp only [spec_l2Bent.l0]; rfl) ?_⟩
      exact Evs.ite_neg c (Evs.some_ _)
theorem bent_ev {xs : List Int} (hb : Buf xs) (l : List S49) (h : SmL l) (p : Int) (p0 : 0 ≤ p) (p1 : p ≤ 100000000000) :
    ∃ (l' : List S49) (p' : Int), SmL l' ∧ l.length ≤ l'.length ∧ p ≤ p' ∧ p' ≤ p + 3 ∧ Ev (fun k => spec_l2Bent.f k xs p l) (l', p') := by
  have hl := h.1
  unfold spec_l2Bent.f
  by_cases hz : (l.length : Int) = 0
  · exact ⟨l, p, h, Nat.le_refl _, by omega, by omega, Evs.bind0 rfl (Evs.ite_pos (by simp only [List.length_nil]; omega) (Evs.bind0 rfl (Evs.ite_pos hz (Evs.some_ _))))⟩
  obtain ⟨i, hi, hr, _⟩ := pick_ev (n := (l.length : Int)) hb p0 (by omega)
  obtain ⟨i0, i1⟩ := hr (by omega)
  obtain ⟨c, hc, _⟩ := pick_ev (n := 56) hb (p := p + 1) (by omega) (by omega)
  have ht := smL_rd h i0 i1
  obtain ⟨⟨q4, g4⟩, q5, g5⟩ := sm_parts ht
  by_cases k0 : c = 0
  · obtain ⟨v, _, hv⟩ := num_ev (l := [0, 12, 13, -1, 9]) hb (p := p + 1 + 1) (by omega) (by omega) (by simp) (by simp)
    exact ⟨l.set i.toNat ⟨v, (rd_T49 l i).f1, (rd_T49 l i).f2, (rd_T49 l i).f3, (rd_T49 l i).f4, (rd_T49 l i).f5⟩, p + 1 + 1 + 1, smL_set h _ (sm_mk q4 g4 q5 g5), by rw [List.length_set]; omega, by omega, by omega, Evs.bind0 rfl (Evs.ite_pos (by simp only [List.length_nil]; omega) (Evs.bind0 rfl (Evs.ite_neg hz (Evs.bind hi (Evs.bind hc (Evs.ite_pos k0 (Evs.bind hv (Evs.ite_pos i0 (Evs.ite_pos i1 (Evs.some_ _))))))))))⟩
  by_cases k1 : c = 1
  · obtain ⟨v, _, hv⟩ := num_ev (l := [-1, 3, 2, 9223372036854775807]) hb (p := p + 1 + 1) (by omega) (by omega) (by simp) (by simp)
    exact ⟨l.set i.toNat ⟨(rd_T49 l i).f0, v, (rd_T49 l i).f2, (rd_T49 l i).f3, (rd_T49 l i).f4, (rd_T49 l i).f5⟩, p + 1 + 1 + 1, smL_set h _ (sm_mk q4 g4 q5 g5), by rw [List.length_set]; omega, by omega, by omega, Evs.bind0 rfl (Evs.ite_pos (by simp only [List.length_nil]; omega) (Evs.bind0 rfl (Evs.ite_neg hz (Evs.bind hi (Evs.bind hc (Evs.ite_neg k0 (Evs.ite_pos k1 (Evs.bind hv (Evs.ite_pos i0 (Evs.ite_pos i1 (Evs.some_ _)))))))))))⟩
  by_cases k2 : c = 2
  · obtain ⟨v, _, hv⟩ := num_ev (l := [-1, 3, 1]) hb (p := p + 1 + 1) (by omega) (by omega) (by simp) (by simp)
    exact ⟨l.set i.toNat ⟨(rd_T49 l i).f0, (rd_T49 l i).f1, v, (rd_T49 l i).f3, (rd_T49 l i).f4, (rd_T49 l i).f5⟩, p + 1 + 1 + 1, smL_set h _ (sm_mk q4 g4 q5 g5), by rw [List.length_set]; omega, by omega, by omega, Evs.bind0 rfl (Evs.ite_pos (by simp only [List.length_nil]; omega) (Evs.bind0 rfl (Evs.ite_neg hz (Evs.bind hi (Evs.bind hc (Evs.ite_neg k0 (Evs.ite_neg k1 (Evs.ite_pos k2 (Evs.bind hv (Evs.ite_pos i0 (Evs.ite_pos i1 (Evs.some_ _))))))))))))⟩
  by_cases k3 : c = 3
  · obtain ⟨v, _, hv⟩ := num_ev (l := [1000, 6, 1]) hb (p := p + 1 + 1) (by omega) (by omega) (by simp) (by simp)
    exact ⟨l.set i.toNat ⟨(rd_T49 l i).f0, (rd_T49 l i).f1, (rd_T49 l i).f2, v, (rd_T49 l i).f4, (rd_T49 l i).f5⟩, p + 1 + 1 + 1, smL_set h _ (sm_mk q4 g4 q5 g5), by rw [List.length_set]; omega, by omega, by omega, Evs.bind0 rfl (Evs.ite_pos (by simp only [List.length_nil]; omega) (Evs.bind0 rfl (Evs.ite_neg hz (Evs.bind hi (Evs.bind hc (Evs.ite_neg k0 (Evs.ite_neg k1 (Evs.ite_neg k2 (Evs.ite_pos k3 (Evs.bind hv (Evs.ite_pos i0 (Evs.ite_pos i1 (Evs.some_ _)))))))))))))⟩
  by_cases k4 : c = 4
  · exact ⟨l.set i.toNat ⟨(rd_T49 l i).f0, (rd_T49 l i).f1, (rd_T49 l i).f2, (rd_T49 l i).f3, (rd_T49 l i).f4, [⟨11, 0, 0, 0, [], []⟩]⟩, p + 1 + 1, smL_set h _ (sm_mk q4 g4 (by simp) (fun t ht => by rw [List.mem_singleton.1 ht]; exact sm_leaf _ _ _ _)), by rw [List.length_set]; omega, by omega, by omega, Evs.bind0 rfl (Evs.ite_pos (by simp only [List.length_nil]; omega) (Evs.bind0 rfl (Evs.ite_neg hz (Evs.bind hi (Evs.bind hc (Evs.ite_neg k0 (Evs.ite_neg k1 (Evs.ite_neg k2 (Evs.ite_neg k3 (Evs.ite_pos k4 (Evs.ite_pos i0 (Evs.ite_pos i1 (Evs.some_ _)))))))))))))⟩
  by_cases k5 : c = 5
  · exact ⟨l.set i.toNat ⟨(rd_T49 l i).f0, (rd_T49 l i).f1, (rd_T49 l i).f2, (rd_T49 l i).f3, [⟨(rd_T49 l i).f0, (rd_T49 l i).f1, (rd_T49 l i).f2, (rd_T49 l i).f3, (rd_T49 l i).f4, (rd_T49 l i).f5⟩], (rd_T49 l i).f5⟩, p + 1 + 1, smL_set h _ (sm_mk (by simp) (fun t ht => by rw [List.mem_singleton.1 ht]; exact sm_mk q4 g4 q5 g5) q5 g5), by rw [List.length_set]; omega, by omega, by omega, Evs.bind0 rfl (Evs.ite_pos (by simp only [List.length_nil]; omega) (Evs.bind0 rfl (Evs.ite_neg hz (Evs.bind hi (Evs.bind hc (Evs.ite_neg k0 (Evs.ite_neg k1 (Evs.ite_neg k2 (Evs.ite_neg k3 (Evs.ite_neg k4 (Evs.ite_pos k5 (Evs.ite_pos i0 (Evs.ite_pos i1 (Evs.some_ _))))))))))))))⟩
  by_cases k6 : c = 6
  · obtain ⟨l', a, b, e⟩ := bent_loop (xs := xs) (p + 1 + 1) 15 l h (by omega)
    exact ⟨l', p + 1 + 1, a, b, by omega, by omega, Evs.bind0 rfl (Evs.ite_pos (by simp only [List.length_nil]; omega) (Evs.bind0 rfl (Evs.ite_neg hz (Evs.bind hi (Evs.bind hc (Evs.ite_neg k0 (Evs.ite_neg k1 (Evs.ite_neg k2 (Evs.ite_neg k3 (Evs.ite_neg k4 (Evs.ite_neg k5 (Evs.ite_pos k6 e))))))))))))⟩
  exact ⟨l, p + 1 + 1, h, Nat.le_refl _, by omega, by omega, Evs.bind0 rfl (Evs.ite_pos (by simp only [List.length_nil]; omega) (Evs.bind0 rfl (Evs.ite_neg hz (Evs.bind hi (Evs.bind hc (Evs.ite_neg k0 (Evs.ite_neg k1 (Evs.ite_neg k2 (Evs.ite_neg k3 (Evs.ite_neg k4 (Evs.ite_neg k5 (Evs.ite_neg k6 (Evs.some_ _)))))))))))))⟩
end Go.Proofs.YtnegnanlbdncmaaDoor.P
