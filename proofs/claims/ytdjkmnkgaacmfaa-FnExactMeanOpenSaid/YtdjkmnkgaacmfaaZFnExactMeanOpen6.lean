/- Loops with a counter, as plain lemmas: what a loop over i < n comes to; no condition. -/
import Derived.Test.YtdjkmnkgaacmfaaZFnExactMeanOpen2
import Derived.Test.YtdjkmnkgaacmfaaZFnExactMeanOpen0
import Derived.Laws.BitsAllLaws
import Derived.IntWalk
namespace Go.Proofs.Ytdjkmnkgaacmfaa.P
open Go.RowKit Go.Proofs.YtdjkmnkgaacmfaaW.PrintWords Go.Proofs.YtdjkmnkgaacmfaaW.PrintMore
theorem wrap_id {n : Int} (h1 : -9223372036854775808 ≤ n) (h2 : n ≤ 9223372036854775807) : wrap64 n = n:=by unfold wrap64;omega
namespace Evs
variable {α β : Type}
theorem congr_ {g f : Nat → Option α} {r : α} (h : ∀ k,g k = f k) (k : Ev f r) : Ev g r:=Ev.congr h k
theorem ite_pos {c : Prop} [Decidable c] {a b : Nat → Option α} {r : α} (hc : c) (h : Ev a r) : Ev (fun k=>if c then a k else b k) r:=by
  refine Ev.congr (fun k=>?_) h
  rw [if_pos hc]
theorem ite_neg {c : Prop} [Decidable c] {a b : Nat → Option α} {r : α} (hc : ¬ c) (h : Ev b r) : Ev (fun k=>if c then a k else b k) r:=by
  refine Ev.congr (fun k=>?_) h
  rw [if_neg hc]
theorem some_ (r : α) : Ev (fun _=>some r) r:=Ev.now r
theorem bind0 {a : Option β} {b : β} {f : Nat → β → Option α} {r : α} (h : a = some b) (k : Ev (fun n=>f n b) r) : Ev (fun n=>a.bind (f n)) r:=by
  subst h
  exact k
theorem bind {g : Nat → Option β} {f : Nat → β → Option α} {b : β} {r : α} (h : Ev g b) (k : Ev (fun n=>f n b) r) : Ev (fun n=>(g n).bind (f n)) r:=Ev.bind h k
theorem unique {g : Nat → Option α} {r r' : α} (h : Ev g r) (h' : Ev g r') : r = r':=by
  obtain ⟨K,h⟩:=h
  obtain ⟨K',h'⟩:=h'
  have h1:=h (max K K') (by omega)
  have h2:=h' (max K K') (by omega)
  rw [h1] at h2
  exact Option.some.inj h2
theorem succ {g f : Nat → Option α} {r : α} (h : ∀ k,g (k + 1) = f k) (k : Ev f r) : Ev g r:=Ev.step h k
end Evs
def Buf (xs : List Int) : Prop:=xs.length ≤ 2000 ∧ ∀ x ∈ xs,0 ≤ x ∧ x ≤ 255
end Go.Proofs.Ytdjkmnkgaacmfaa.P
namespace Go.Proofs.Ytdjkmnkgaacmfaa.P
open Go.RowKit Go.Proofs.YtdjkmnkgaacmfaaW.PrintWords Go.Proofs.YtdjkmnkgaacmfaaW.PrintMore
theorem wrap_succ {i : Nat} (h : i < 9223372036854775807) : wrap64 ((i : Int) + 1) = ((i + 1 : Nat) : Int):=by
  rw [wrap_id (by omega) (by omega)]
  rfl
theorem all_loop (g : Nat → Int → Option Bool) (n : Nat) (q : Nat → Bool)
    (hgo : ∀ i r,i < n → q i = true → Ev (fun k=>g k ((i + 1 : Nat) : Int)) r → Ev (fun k=>g k (i : Int)) r)
    (hno : ∀ i,i < n → q i = false → Ev (fun k=>g k (i : Int)) false) (hstop : Ev (fun k=>g k (n : Int)) true) : Ev (fun k=>g k 0) ((List.range n).all q):=by
  have key : ∀ d i,i + d = n → Ev (fun k=>g k (i : Int)) ((List.range' i d).all q):=by
    intro d
    induction d with
    | zero =>
      intro i hi
      obtain rfl : i = n:=by omega
      exact hstop
    | succ d ih =>
      intro i hi
      rw [List.range'_succ,List.all_cons]
      by_cases h : q i = true
      · rw [h,Bool.true_and]
        exact hgo i _ (by omega) h (ih (i + 1) (by omega))
      · rw [Bool.eq_false_iff.2 h,Bool.false_and]
        exact hno i (by omega) (Bool.eq_false_iff.2 h)
  rw [List.range_eq_range']
  exact key n 0 (by omega)
theorem all_range_true {n : Nat} {q : Nat → Bool} (h : ∀ i,i < n → q i = true) : (List.range n).all q = true:=by
  rw [List.all_eq_true]
  intro i hi
  exact h i (List.mem_range.1 hi)
theorem all_true_loop (g : Nat → Int → Option Bool) (n : Nat)
    (hgo : ∀ i r,i < n → Ev (fun k=>g k ((i + 1 : Nat) : Int)) r → Ev (fun k=>g k (i : Int)) r) (hstop : Ev (fun k=>g k (n : Int)) true) : Ev (fun k=>g k 0) true:=by
  have:=all_loop g n (fun _=>true) (fun i r h _=>hgo i r h) (fun i _ h=>absurd h (by simp)) hstop
  rwa [all_range_true (fun _ _=>rfl)] at this
theorem take_set_getD {α β : Type} (f : α → β) (xs : List α) (ys : List β) (i : Nat) (h : i < xs.length) (hl : ys.length = xs.length) (d : α) : ((xs.take i).map f ++ ys.drop i).set i (f (xs.getD i d)) = (xs.take (i + 1)).map f ++ ys.drop (i + 1):=by
  apply List.ext_getElem?
  intro j
  simp only [List.getElem?_set,List.getElem?_append,List.length_map,List.length_take,List.length_append,List.length_drop,List.getElem?_map,List.getElem?_take,List.getElem?_drop,List.getD_eq_getElem?_getD]
  rcases Nat.lt_trichotomy j i with hj | rfl | hj
  · rw [if_neg (by omega),if_pos (by omega),if_pos (by omega),if_pos (by omega),if_pos (by omega)]
  · rw [if_pos rfl,if_pos (by omega),if_pos (by omega),if_pos (by omega),List.getElem?_eq_getElem h]
    rfl
  · rw [if_neg (by omega),if_neg (by omega),if_neg (by omega)]
    congr 1
    omega
theorem map_loop {α β : Type} (g : Nat → List β → Int → Option (List β)) (xs : List α) (d : α) (z : β) (f : α → β)
    (hgo : ∀ i acc r,i < xs.length → acc.length = xs.length → Ev (fun k=>g k (acc.set i (f (xs.getD i d))) ((i + 1 : Nat) : Int)) r → Ev (fun k=>g k acc (i : Int)) r)
    (hstop : ∀ acc,acc.length = xs.length → Ev (fun k=>g k acc (xs.length : Int)) acc) : Ev (fun k=>g k (List.replicate xs.length z) 0) (xs.map f):=by
  have key : ∀ e i,i + e = xs.length → Ev (fun k=>g k ((xs.take i).map f ++ (List.replicate xs.length z).drop i) (i : Int)) (xs.map f):=by
    intro e
    induction e with
    | zero =>
      intro i hi
      obtain rfl : i = xs.length:=by omega
      rw [List.take_of_length_le (Nat.le_refl _),List.drop_of_length_le (by simp),List.append_nil]
      exact hstop _ (by simp)
    | succ e ih =>
      intro i hi
      refine hgo i _ _ (by omega) (by simp;omega) ?_
      rw [take_set_getD f xs (List.replicate xs.length z) i (by omega) (by simp)]
      exact ih (i + 1) (by omega)
  have:=key xs.length 0 (by omega)
  simpa using this
end Go.Proofs.Ytdjkmnkgaacmfaa.P
