/- Loops with a counter, as plain lemmas: what a loop over i < n comes to; no condition. -/
import Derived.Test.YtnjaimaaijbacaaEvs
namespace Go.Proofs.Ytnjaimaaijbacaa.P
open Go.RowKit Go.Proofs.YtnjaimaaijbacaaW.PrintWords Go.Proofs.YtnjaimaaijbacaaW.PrintMore

theorem wrap_succ {i : Nat} (h : i < 9223372036854775807) : wrap64 ((i : Int) + 1) = ((i + 1 : Nat) : Int) := by
  rw [wrap_id (by omega) (by omega)]
  rfl

/-- A loop that carries a state through i = 0, 1, .., n - 1. -/
theorem fold_loop {σ ρ : Type} (g : Nat → σ → Int → Option ρ) (n : Nat) (step : Nat → σ → σ) (Inv : Nat → σ → Prop) (fin : σ → ρ)
    (hgo : ∀ i s r, i < n → Inv i s → Ev (fun k => g k (step i s) ((i + 1 : Nat) : Int)) r → Ev (fun k => g k s (i : Int)) r)
    (hinv : ∀ i s, i < n → Inv i s → Inv (i + 1) (step i s)) (hstop : ∀ s, Inv n s → Ev (fun k => g k s (n : Int)) (fin s)) (s : σ) (h0 : Inv 0 s) :
    Ev (fun k => g k s 0) (fin ((List.range n).foldl (fun s i => step i s) s)) := by
  have key : ∀ d i s, i + d = n → Inv i s → Ev (fun k => g k s (i : Int)) (fin ((List.range' i d).foldl (fun s i => step i s) s)) := by
    intro d
    induction d with
    | zero =>
      intro i s hi hs
      obtain rfl : i = n := by omega
      exact hstop s hs
    | succ d ih =>
      intro i s hi hs
      rw [List.range'_succ, List.foldl_cons]
      exact hgo i s _ (by omega) hs (ih (i + 1) _ (by omega) (hinv i s (by omega) hs))
  rw [List.range_eq_range']
  exact key n 0 s (by omega) h0
/-- A loop that looks at each i and leaves with 'false' at the first that does not fit. -/
theorem all_loop (g : Nat → Int → Option Bool) (n : Nat) (q : Nat → Bool)
    (hgo : ∀ i r, i < n → q i = true → Ev (fun k => g k ((i + 1 : Nat) : Int)) r → Ev (fun k => g k (i : Int)) r)
    (hno : ∀ i, i < n → q i = false → Ev (fun k => g k (i : Int)) false) (hstop : Ev (fun k => g k (n : Int)) true) : Ev (fun k => g k 0) ((List.range n).all q) := by
  have key : ∀ d i, i + d = n → Ev (fun k => g k (i : Int)) ((List.range' i d).all q) := by
    intro d
    induction d with
    | zero =>
      intro i hi
      obtain rfl : i = n := by omega
      exact hstop
    | succ d ih =>
      intro i hi
      rw [List.range'_succ, List.all_cons]
      by_cases h : q i = true
      · rw [h, Bool.true_and]
        exact hgo i _ (by omega) h (ih (i + 1) (by omega))
      · rw [Bool.eq_false_iff.2 h, Bool.false_and]
        exact hno i (by omega) (Bool.eq_false_iff.2 h)
  rw [List.range_eq_range']
  exact key n 0 (by omega)
theorem all_range_true {n : Nat} {q : Nat → Bool} (h : ∀ i, i < n → q i = true) : (List.range n).all q = true := by
  rw [List.all_eq_true]
  intro i hi
  exact h i (List.mem_range.1 hi)
/-- The loop that looks at each i, where all fit. -/
theorem all_true_loop (g : Nat → Int → Option Bool) (n : Nat)
    (hgo : ∀ i r, i < n → Ev (fun k => g k ((i + 1 : Nat) : Int)) r → Ev (fun k => g k (i : Int)) r) (hstop : Ev (fun k => g k (n : Int)) true) : Ev (fun k => g k 0) true := by
  have := all_loop g n (fun _ => true) (fun i r h _ => hgo i r h) (fun i _ h => absurd h (by simp)) hstop
  rwa [all_range_true (fun _ _ => rfl)] at this

/-! Lists by their elements -/
theorem getD_getElem {α : Type} {xs : List α} {i : Nat} (h : i < xs.length) (d : α) : xs.getD i d = xs[i] := by
  rw [List.getD_eq_getElem?_getD, List.getElem?_eq_getElem h]
  rfl
theorem take_set_getD {α β : Type} (f : α → β) (xs : List α) (ys : List β) (i : Nat) (h : i < xs.length) (hl : ys.length = xs.length) (d : α) : ((xs.take i).map f ++ ys.drop i).set i (f (xs.getD i d)) = (xs.take (i + 1)).map f ++ ys.drop (i + 1) := by
  apply List.ext_getElem?
  intro j
  simp only [List.getElem?_set, List.getElem?_append, List.length_map, List.length_take, List.length_append, List.length_drop, List.getElem?_map, List.getElem?_take, List.getElem?_drop, List.getD_eq_getElem?_getD]
  rcases Nat.lt_trichotomy j i with hj | rfl | hj
  · rw [if_neg (by omega), if_pos (by omega), if_pos (by omega), if_pos (by omega), if_pos (by omega)]
  · rw [if_pos rfl, if_pos (by omega), if_pos (by omega), if_pos (by omega), List.getElem?_eq_getElem h]
    rfl
  · rw [if_neg (by omega), if_neg (by omega), if_neg (by omega)]
    congr 1
    omega
/-- A loop that fills a row that was made, element by element. -/
theorem map_loop {α β : Type} (g : Nat → List β → Int → Option (List β)) (xs : List α) (d : α) (z : β) (f : α → β)
    (hgo : ∀ i acc r, i < xs.length → acc.length = xs.length → Ev (fun k => g k (acc.set i (f (xs.getD i d))) ((i + 1 : Nat) : Int)) r → Ev (fun k => g k acc (i : Int)) r)
    (hstop : ∀ acc, acc.length = xs.length → Ev (fun k => g k acc (xs.length : Int)) acc) : Ev (fun k => g k (List.replicate xs.length z) 0) (xs.map f) := by
  have key : ∀ e i, i + e = xs.length → Ev (fun k => g k ((xs.take i).map f ++ (List.replicate xs.length z).drop i) (i : Int)) (xs.map f) := by
    intro e
    induction e with
    | zero =>
      intro i hi
      obtain rfl : i = xs.length := by omega
      rw [List.take_of_length_le (Nat.le_refl _), List.drop_of_length_le (by simp), List.append_nil]
      exact hstop _ (by simp)
    | succ e ih =>
      intro i hi
      refine hgo i _ _ (by omega) (by simp; omega) ?_
      rw [take_set_getD f xs (List.replicate xs.length z) i (by omega) (by simp)]
      exact ih (i + 1) (by omega)
  have := key xs.length 0 (by omega)
  simpa using this
end Go.Proofs.Ytnjaimaaijbacaa.P
