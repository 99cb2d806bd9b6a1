/- The program's check of statements comes to the one meaning; no condition but that the depth is no giant. -/
import Derived.Test.YtphbdoljkpdflaaZFnExactCodeOk12
import Derived.Test.YtphbdoljkpdflaaZFnExactCodeOk7
import Derived.Test.YtphbdoljkpdflaaZFnExactCodeOk5
namespace Go.Proofs.Ytphbdoljkpdflaa.P
open Go.RowKit Go.Proofs.YtphbdoljkpdflaaW.PrintWords Go.Proofs.YtphbdoljkpdflaaW.PrintMore
def smallS : Nat → S46 → Prop
  | 0, _ => True
  | d + 1, s => (s.f4.length ≤ 1048576 ∧ ∀ x ∈ s.f4, smallS d x) ∧ (s.f5.length ≤ 1048576 ∧ ∀ x ∈ s.f5, smallS d x)
def inR (a n : Int) : Bool := decide (0 ≤ a) && decide (a < n)
def numR (a : Int) : Bool := decide (-999 ≤ a) && decide (a ≤ 999)
def leafOk (a0 a1 a2 a3 room : Int) : Bool :=
  if a0 = 1 then inR a1 3 && (decide (a2 = 0) && numR a3) else if a0 = 2 then inR a1 3 && (inR a2 3 && (decide (1 ≤ a3) && decide (a3 ≤ 5))) else
  if a0 = 3 then inR a1 3 && (inR a2 3 && decide (a3 = 0)) else if a0 = 4 then inR a1 3 && (inR a2 3 && decide (a3 = 0)) else
  if a0 = 5 then inR a1 3 && (decide (a2 = 0) && decide (a3 = 0)) else if a0 = 9 then decide (0 ≤ room) && (inR a1 2 && (decide (a2 = 0) && decide (a3 = 0))) else
  if a0 = 10 then inR a1 2 && (decide (a2 = 0) && decide (a3 = 0)) else if a0 = 11 then decide (a1 = 0) && (decide (a2 = 0) && decide (a3 = 0)) else false
def okS : Nat → S46 → Int → Bool
  | 0, _, _ => false
  | d + 1, s, room =>
    if s.f0 = 6 then inR s.f1 3 && (decide (s.f2 = 0) && (decide (s.f3 = 0) && (s.f4.all (fun x => okS d x room) && s.f5.all (fun x => okS d x room)))) else
    if s.f5.length = 0 then
      if s.f0 = 7 then inR s.f1 3 && (decide (s.f2 = 0) && (decide (s.f3 = 0) && s.f4.all (fun x => okS d x room))) else
      if s.f0 = 8 then decide (room < 0) && (inR s.f1 2 && (decide (s.f2 = 0) && (decide (s.f3 = 0) && s.f4.all (fun x => okS d x s.f1)))) else
      decide (s.f4.length = 0) && leafOk s.f0 s.f1 s.f2 s.f3 room
    else false
theorem ev_and {f : Nat → Option Bool} {c : Prop} [Decidable c] {r : Bool} (h : c → Ev f r) : Ev (fun k => if c then f k else some false) (decide c && r) := by
  by_cases hc : c
  · rw [decide_eq_true hc, Bool.true_and]
    exact Evs.ite_pos hc (h hc)
  · rw [decide_eq_false hc, Bool.false_and]
    exact Evs.ite_neg hc (Evs.some_ _)
theorem ev_band {f : Nat → Option Bool} {b r : Bool} (h : b = true → Ev f r) : Ev (fun k => if b = true then f k else some false) (b && r) := by
  cases b with
  | false => exact Evs.ite_neg (by simp) (Evs.some_ _)
  | true => exact Evs.ite_pos rfl (h rfl)
theorem ev_inR {f : Nat → Option Bool} {a n : Int} {r : Bool} (h : 0 ≤ a → a < n → Ev f r) : Ev (fun k => if a ≥ 0 then (if a < n then f k else some false) else some false) (inR a n && r) := by
  unfold inR
  rw [Bool.and_assoc]
  exact ev_and (c := 0 ≤ a) fun h1 => ev_and fun h2 => h h1 h2
theorem numR_ev (a : Int) : spec_NumOk.f a = some (numR a) := by
  unfold spec_NumOk.f numR
  by_cases h : a ≥ -999
  · rw [if_pos h, decide_eq_true (show -999 ≤ a from h), Bool.true_and]
  · rw [if_neg h, decide_eq_false (show ¬ -999 ≤ a from h), Bool.false_and]
theorem leaf_j1 (a0 a1 a2 a3 room : Int) (l4 l5 : List S46) : Ev (fun k => spec_l2Leaf.j1 k room (inR a1 3) (inR a2 3) a0 a1 a2 a3 l4 l5) (leafOk a0 a1 a2 a3 room) := by
  have z : Ev (fun _ : Nat => some (a3 == 0)) (decide (a3 = 0)) := Evs.some_ _
  refine Evs.succ (fun k => by simp only [spec_l2Leaf.j1]; rfl) ?_
  unfold leafOk
  by_cases h1 : a0 = 1
  · simp only [if_pos h1]
    exact (ev_band fun _ => ev_and fun _ => Evs.bind0 (numR_ev a3) (Evs.some_ _))
  simp only [if_neg h1]
  by_cases h2 : a0 = 2
  · simp only [if_pos h2]
    exact (ev_band fun _ => ev_band fun _ => ev_and (c := 1 ≤ a3) fun _ => Evs.some_ _)
  simp only [if_neg h2]
  by_cases h3 : a0 = 3
  · simp only [if_pos h3]
    exact (ev_band fun _ => ev_inR fun _ _ => z)
  simp only [if_neg h3]
  by_cases h4 : a0 = 4
  · simp only [if_pos h4]
    exact (ev_inR fun _ _ => ev_band fun _ => z)
  simp only [if_neg h4]
  by_cases h5 : a0 = 5
  · simp only [if_pos h5]
    exact (ev_band fun _ => ev_and fun _ => z)
  simp only [if_neg h5]
  by_cases h9 : a0 = 9
  · simp only [if_pos h9]
    exact (ev_and (c := 0 ≤ room) fun _ => ev_inR fun _ _ => ev_and fun _ => z)
  simp only [if_neg h9]
  by_cases h10 : a0 = 10
  · simp only [if_pos h10]
    exact (ev_inR fun _ _ => ev_and fun _ => z)
  simp only [if_neg h10]
  by_cases h11 : a0 = 11
  · simp only [if_pos h11]
    exact (ev_and fun _ => ev_and fun _ => z)
  simp only [if_neg h11]
  exact Evs.some_ _
theorem leaf_ev (a0 a1 a2 a3 room : Int) (l4 l5 : List S46) : Ev (fun k => spec_l2Leaf.f k a0 a1 a2 a3 l4 l5 room) (leafOk a0 a1 a2 a3 room) := by
  have j1 := leaf_j1 a0 a1 a2 a3 room l4 l5
  have j0 : Ev (fun k => spec_l2Leaf.j0 k room (inR a1 3) a0 a1 a2 a3 l4 l5) (leafOk a0 a1 a2 a3 room) := by
    refine Evs.succ (fun k => by simp only [spec_l2Leaf.j0]; rfl) ?_
    by_cases h : a2 ≥ 0
    · have e : inR a2 3 = decide (a2 < 3) := by unfold inR; rw [decide_eq_true (show 0 ≤ a2 from h), Bool.true_and]
      rw [e] at j1
      exact Evs.ite_pos h j1
    · have e : inR a2 3 = false := by unfold inR; rw [decide_eq_false (show ¬ 0 ≤ a2 from h), Bool.false_and]
      rw [e] at j1
      exact Evs.ite_neg h j1
  unfold spec_l2Leaf.f
  by_cases h : a1 ≥ 0
  · have e : inR a1 3 = decide (a1 < 3) := by unfold inR; rw [decide_eq_true (show 0 ≤ a1 from h), Bool.true_and]
    rw [e] at j0
    exact Evs.ite_pos h j0
  · have e : inR a1 3 = false := by unfold inR; rw [decide_eq_false (show ¬ 0 ≤ a1 from h), Bool.false_and]
    rw [e] at j0
    exact Evs.ite_neg h j0
end Go.Proofs.Ytphbdoljkpdflaa.P
namespace Go.Proofs.Ytphbdoljkpdflaa.P
open Go.RowKit Go.Proofs.YtphbdoljkpdflaaW.PrintWords Go.Proofs.YtphbdoljkpdflaaW.PrintMore
set_option linter.unusedVariables false
set_option linter.unusedSimpArgs false
end Go.Proofs.Ytphbdoljkpdflaa.P
namespace Go.Proofs.Ytphbdoljkpdflaa.P
open Go.RowKit Go.Proofs.YtphbdoljkpdflaaW.PrintWords Go.Proofs.YtphbdoljkpdflaaW.PrintMore
set_option linter.unusedVariables false
set_option linter.unusedSimpArgs false
theorem fit_pos {n l : Int} (h : 0 < l) : fit n l = inR n l := by
  unfold fit inR
  rw [Bool.eq_iff_iff]
  simp only [Bool.or_eq_true, Bool.and_eq_true, decide_eq_true_eq]
  omega
def numB (a0 a3 : Int) : Bool := if a0 = 1 then numR a3 else if a0 = 2 then decide (1 ≤ a3) && decide (a3 ≤ 5) else decide (a3 = 0)
def bodyB (q : Int → Bool) (a0 a1 a2 a3 : Int) (n4 n5 : Nat) (deep room : Int) : Bool :=
  fmOk a0 && (!decide (deep < 1) && (fit a1 (fmA a0) && (fit a2 (fmB a0) && (numB a0 a3 && (!decide (fmX a0 = false ∧ 0 < (n4 : Int)) && (!decide (fmY a0 = false ∧ 0 < (n5 : Int)) &&
    (if a0 = 8 then decide (room = -1) && q a1 else if a0 = 9 then !decide (room = -1) && q room else q room)))))))
end Go.Proofs.Ytphbdoljkpdflaa.P
