/- Statements' check: one plain meaning, to which the reference's check and the program's both come; no condition but that lists are not over-long. -/
import Derived.Test.YtnjaimaaijbacaaLoops
import Derived.Test.YtnjaimaaijbacaaFGSpecL2Stmt
import Derived.Test.YtnjaimaaijbacaaListOk
namespace Go.Proofs.Ytnjaimaaijbacaa.P
open Go.RowKit Go.Proofs.YtnjaimaaijbacaaW.PrintWords Go.Proofs.YtnjaimaaijbacaaW.PrintMore

/-- Lists no longer than a million, so many levels down. -/
def smallS : Nat → S29 → Prop
  | 0, _ => True
  | d + 1, s => (s.f4.length ≤ 1048576 ∧ ∀ x ∈ s.f4, smallS d x) ∧ (s.f5.length ≤ 1048576 ∧ ∀ x ∈ s.f5, smallS d x)
def inR (a n : Int) : Bool := decide (0 ≤ a) && decide (a < n)
def numR (a : Int) : Bool := decide (-999 ≤ a) && decide (a ≤ 999)
/-- A statement with nothing within it. -/
def leafOk (a0 a1 a2 a3 room : Int) : Bool :=
  if a0 = 1 then inR a1 3 && (decide (a2 = 0) && numR a3) else if a0 = 2 then inR a1 3 && (inR a2 3 && (decide (1 ≤ a3) && decide (a3 ≤ 5))) else
  if a0 = 3 then inR a1 3 && (inR a2 3 && decide (a3 = 0)) else if a0 = 4 then inR a1 3 && (inR a2 3 && decide (a3 = 0)) else
  if a0 = 5 then inR a1 3 && (decide (a2 = 0) && decide (a3 = 0)) else if a0 = 9 then decide (0 ≤ room) && (inR a1 2 && (decide (a2 = 0) && decide (a3 = 0))) else
  if a0 = 10 then inR a1 2 && (decide (a2 = 0) && decide (a3 = 0)) else if a0 = 11 then decide (a1 = 0) && (decide (a2 = 0) && decide (a3 = 0)) else false
/-- A statement, so deep, in a room or in none. -/
def okS : Nat → S29 → Int → Bool
  | 0, _, _ => false
  | d + 1, s, room =>
    if s.f0 = 6 then inR s.f1 3 && (decide (s.f2 = 0) && (decide (s.f3 = 0) && (s.f4.all (fun x => okS d x room) && s.f5.all (fun x => okS d x room)))) else
    if s.f5.length = 0 then
      if s.f0 = 7 then inR s.f1 3 && (decide (s.f2 = 0) && (decide (s.f3 = 0) && s.f4.all (fun x => okS d x room))) else
      if s.f0 = 8 then decide (room < 0) && (inR s.f1 2 && (decide (s.f2 = 0) && (decide (s.f3 = 0) && s.f4.all (fun x => okS d x s.f1)))) else
      decide (s.f4.length = 0) && leafOk s.f0 s.f1 s.f2 s.f3 room
    else false
theorem all_range_rd (l : List S29) (p : S29 → Bool) : (List.range l.length).all (fun i => p (rd_T29 l (i : Int))) = l.all p := by
  rw [Bool.eq_iff_iff, List.all_eq_true, List.all_eq_true]
  constructor
  · intro h x hx
    obtain ⟨i, hi, rfl⟩ := List.mem_iff_getElem.1 hx
    have := h i (List.mem_range.2 hi)
    unfold rd_T29 at this
    rwa [Int.toNat_natCast, List.getD_eq_getElem?_getD, List.getElem?_eq_getElem hi] at this
  · intro h i hi
    have hi := List.mem_range.1 hi
    unfold rd_T29
    rw [Int.toNat_natCast, List.getD_eq_getElem?_getD, List.getElem?_eq_getElem hi]
    exact h _ (List.getElem_mem hi)
theorem rd_mem {l : List S29} {i : Nat} (h : i < l.length) : rd_T29 l (i : Int) ∈ l := by
  unfold rd_T29
  rw [Int.toNat_natCast, List.getD_eq_getElem?_getD, List.getElem?_eq_getElem h]
  exact List.getElem_mem h
theorem ev_and {f : Nat → Option Bool} {c : Prop} [Decidable c] {r : Bool} (h : c → Ev f r) : Ev (fun k => if c then f k else some false) (decide c && r) := by
  by_cases hc : c
  · rw [decide_eq_true hc, Bool.true_and]
    exact Evs.ite_pos hc (h hc)
  · rw [decide_eq_false hc, Bool.false_and]
    exact Evs.ite_neg hc (Evs.some_ _)
theorem ev_band {f : Nat → Option Bool} {b r : Bool} (h : b = true → Ev f r) : Ev (fun k => if b = true then f k else some false) (b && r) := by
  cases b with
  | false => exact Evs.ite_neg (by simp) (Evs.some_ _)
  | true => exact Evs.ite_pos rfl (h rfl)
theorem ev_inR {f : Nat → Option Bool} {a n : Int} {r : Bool} (h : 0 ≤ a → a < n → Ev f r) : Ev (fun k => if a ≥ 0 then (if a < n then f k else some false) else some false) (inR a n && r) := by
  unfold inR
  rw [Bool.and_assoc]
  exact ev_and (c := 0 ≤ a) fun h1 => ev_and fun h2 => h h1 h2
theorem ev_last {f : Nat → Option Bool} {r : Bool} (h : Ev f r) : Ev (fun k => (f k).bind fun t => some t) r := Evs.bind h (Evs.some_ _)
theorem ev_last2 {f g : Nat → Option Bool} {r q : Bool} (h : Ev f r) (h2 : Ev g q) : Ev (fun k => (f k).bind fun t => if t = true then (g k).bind fun u => some u else some false) (r && q) :=
  Evs.bind h (ev_band fun _ => ev_last h2)
theorem numR_ev (a : Int) : spec_NumOk.f a = some (numR a) := by
  unfold spec_NumOk.f numR
  by_cases h : a ≥ -999
  · rw [if_pos h, decide_eq_true (show -999 ≤ a from h), Bool.true_and]
  · rw [if_neg h, decide_eq_false (show ¬ -999 ≤ a from h), Bool.false_and]
theorem leaf_j1 (a0 a1 a2 a3 room : Int) (l4 l5 : List S29) : Ev (fun k => spec_l2Leaf.j1 k room (inR a1 3) (inR a2 3) a0 a1 a2 a3 l4 l5) (leafOk a0 a1 a2 a3 room) := by
  have z : Ev (fun _ : Nat => some (a3 == 0)) (decide (a3 = 0)) := Evs.some_ _
  refine Evs.succ (fun k => by simp only [spec_l2Leaf.j1]; rfl) ?_
  unfold leafOk
  by_cases h1 : a0 = 1
  · simp only [if_pos h1]
    exact (ev_band fun _ => ev_and fun _ => Evs.bind0 (numR_ev a3) (Evs.some_ _))
  simp only [if_neg h1]
  by_cases h2 : a0 = 2
  · simp only [if_pos h2]
    exact (ev_band fun _ => ev_band fun _ => ev_and (c := 1 ≤ a3) fun _ => Evs.some_ _)
  simp only [if_neg h2]
  by_cases h3 : a0 = 3
  · simp only [if_pos h3]
    exact (ev_band fun _ => ev_inR fun _ _ => z)
  simp only [if_neg h3]
  by_cases h4 : a0 = 4
  · simp only [if_pos h4]
    exact (ev_inR fun _ _ => ev_band fun _ => z)
  simp only [if_neg h4]
  by_cases h5 : a0 = 5
  · simp only [if_pos h5]
    exact (ev_band fun _ => ev_and fun _ => z)
  simp only [if_neg h5]
  by_cases h9 : a0 = 9
  · simp only [if_pos h9]
    exact (ev_and (c := 0 ≤ room) fun _ => ev_inR fun _ _ => ev_and fun _ => z)
  simp only [if_neg h9]
  by_cases h10 : a0 = 10
  · simp only [if_pos h10]
    exact (ev_inR fun _ _ => ev_and fun _ => z)
  simp only [if_neg h10]
  by_cases h11 : a0 = 11
  · simp only [if_pos h11]
    exact (ev_and fun _ => ev_and fun _ => z)
  simp only [if_neg h11]
  exact Evs.some_ _
theorem leaf_ev (a0 a1 a2 a3 room : Int) (l4 l5 : List S29) : Ev (fun k => spec_l2Leaf.f k a0 a1 a2 a3 l4 l5 room) (leafOk a0 a1 a2 a3 room) := by
  have j1 := leaf_j1 a0 a1 a2 a3 room l4 l5
  have j0 : Ev (fun k => spec_l2Leaf.j0 k room (inR a1 3) a0 a1 a2 a3 l4 l5) (leafOk a0 a1 a2 a3 room) := by
    refine Evs.succ (fun k => by simp only [spec_l2Leaf.j0]; rfl) ?_
    by_cases h : a2 ≥ 0
    · have e : inR a2 3 = decide (a2 < 3) := by unfold inR; rw [decide_eq_true (show 0 ≤ a2 from h), Bool.true_and]
      rw [e] at j1
      exact Evs.ite_pos h j1
    · have e : inR a2 3 = false := by unfold inR; rw [decide_eq_false (show ¬ 0 ≤ a2 from h), Bool.false_and]
      rw [e] at j1
      exact Evs.ite_neg h j1
  unfold spec_l2Leaf.f
  by_cases h : a1 ≥ 0
  · have e : inR a1 3 = decide (a1 < 3) := by unfold inR; rw [decide_eq_true (show 0 ≤ a1 from h), Bool.true_and]
    rw [e] at j0
    exact Evs.ite_pos h j0
  · have e : inR a1 3 = false := by unfold inR; rw [decide_eq_false (show ¬ 0 ≤ a1 from h), Bool.false_and]
    rw [e] at j0
    exact Evs.ite_neg h j0
end Go.Proofs.Ytnjaimaaijbacaa.P
