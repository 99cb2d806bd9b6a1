/- Clocks as plain lists: elements, join and order; no condition. -/
import Derived.Test.YtnjaimaaijbacaaEvs
namespace Go.Proofs.Ytnjaimaaijbacaa.P
open Go.RowKit Go.Proofs.YtnjaimaaijbacaaW.PrintWords Go.Proofs.YtnjaimaaijbacaaW.PrintMore
/-- An element of a clock: 0 where it is missing or negative. -/
def elC (c : List Int) (i : Nat) : Int := max (c.getD i 0) 0
/-- The join. -/
def joinC (a b : List Int) : List Int := (List.range (max a.length b.length)).map fun i => max (elC a i) (elC b i)
/-- The order. -/
def underC (a b : List Int) : Bool := (List.range a.length).all fun i => decide (a.getD i 0 ≤ elC b i)

theorem mx_max (a b : Int) : mx a b = max a b := by unfold mx; omega
theorem rd_getD (xs : List Int) (i : Nat) : rd xs (i : Int) = xs.getD i 0 := by unfold rd; simp
theorem getD_over {xs : List Int} {i : Nat} (h : xs.length ≤ i) : xs.getD i 0 = 0 := by
  rw [List.getD_eq_getElem?_getD, List.getElem?_eq_none h]; rfl
theorem range_snoc_map {α : Type} (f : Nat → α) (n : Nat) : (List.range (n + 1)).map f = (List.range n).map f ++ [f n] := by rw [List.range_succ, List.map_append]; rfl
theorem max_two_nat (a b : Nat) : mx (a : Int) (b : Int) = ((max a b : Nat) : Int) := by unfold mx; omega


theorem joinC_length (a b : List Int) : (joinC a b).length = max a.length b.length := by unfold joinC; simp
theorem joinC_getD (a b : List Int) (i : Nat) (h : i < max a.length b.length) : (joinC a b).getD i 0 = max (elC a i) (elC b i) := by
  unfold joinC
  simp [List.getD_eq_getElem?_getD, List.getElem?_range h]
theorem elC_joinC (a b : List Int) (i : Nat) : elC (joinC a b) i = max (elC a i) (elC b i) := by
  by_cases h : i < max a.length b.length
  · show max ((joinC a b).getD i 0) 0 = _
    rw [joinC_getD a b i h]
    unfold elC
    omega
  · unfold elC
    rw [getD_over (xs := joinC a b) (by rw [joinC_length]; omega), getD_over (xs := a) (by omega), getD_over (xs := b) (by omega)]
    rfl
theorem underC_iff (a b : List Int) : underC a b = true ↔ ∀ i, i < a.length → a.getD i 0 ≤ elC b i := by
  unfold underC
  simp
theorem elC_nonneg (a : List Int) (i : Nat) : 0 ≤ elC a i := by unfold elC; omega
theorem getD_le_elC (a : List Int) (i : Nat) : a.getD i 0 ≤ elC a i := by unfold elC; omega
theorem underC_all {a b : List Int} (h : underC a b = true) (i : Nat) : elC a i ≤ elC b i := by
  by_cases hi : i < a.length
  · have h1 := (underC_iff a b).1 h i hi
    have h2 := elC_nonneg b i
    unfold elC at *
    omega
  · have h2 := elC_nonneg b i
    have : elC a i = 0 := by unfold elC; rw [getD_over (by omega)]; rfl
    omega
theorem underC_of_all {a b : List Int} (h : ∀ i, elC a i ≤ elC b i) : underC a b = true :=
  (underC_iff a b).2 fun i _ => Int.le_trans (getD_le_elC a i) (h i)
theorem underC_iff_all (a b : List Int) : underC a b = true ↔ ∀ i, elC a i ≤ elC b i := ⟨underC_all, underC_of_all⟩
theorem underC_trans {a b c : List Int} (h1 : underC a b = true) (h2 : underC b c = true) : underC a c = true :=
  underC_of_all fun i => Int.le_trans (underC_all h1 i) (underC_all h2 i)
theorem joinC_ext {a b c d : List Int} (hl : max a.length b.length = max c.length d.length) (h : ∀ i, max (elC a i) (elC b i) = max (elC c i) (elC d i)) : joinC a b = joinC c d := by
  unfold joinC
  rw [hl]
  exact List.map_congr_left fun i _ => h i
end Go.Proofs.Ytnjaimaaijbacaa.P
