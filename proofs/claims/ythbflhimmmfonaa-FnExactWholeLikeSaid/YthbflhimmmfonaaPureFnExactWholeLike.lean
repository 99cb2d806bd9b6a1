/- The program's WholeLike is the reference's and leaves its arguments as they were, for every two worlds; no condition. -/
import Derived.Test.YthbflhimmmfonaaSFnExactWholeLike
import Derived.Test.YthbflhimmmfonaaWorld
namespace Go.Proofs.Ythbflhimmmfonaa.Pure
open Go.RowKit Go.Proofs.Ythbflhimmmfonaa.P Go.Proofs.YthbflhimmmfonaaW.PrintWords Go.Proofs.YthbflhimmmfonaaW.PrintLast

open Go.Proofs.Ythbflhimmmfonaa.P Go.Proofs.YthbflhimmmfonaaW.PrintMore
/-- What one said. -/
def saidBy (l : List S74) (who : Int) (n : Nat) : List Int := (List.range n).foldl (fun acc (i : Nat) => if (rd_T74 l (i : Int)).f0 = who then acc ++ [(rd_T74 l (i : Int)).f1] else acc) []
theorem saidBy_le (l : List S74) (who : Int) (n : Nat) : (saidBy l who n).length ≤ n := by
  unfold saidBy
  induction n with
  | zero => simp
  | succ n ih =>
    rw [List.range_succ, List.foldl_append, List.foldl_cons, List.foldl_nil]
    split
    · simp; omega
    · omega
theorem specSaid_ev (l : List S74) (who : Int) (hl : l.length ≤ 1048576) : Ev (fun k => spec_SaidBy.f k l who) (saidBy l who l.length) := by
  refine fold_loop (fun k acc i => spec_SaidBy.l0 k l who acc i) l.length (fun (i : Nat) acc => if (rd_T74 l (i : Int)).f0 = who then acc ++ [(rd_T74 l (i : Int)).f1] else acc) (fun i acc => acc.length ≤ i) (fun acc => acc)
    (fun i acc r hi ha h => ?_) (fun i acc hi ha => ?_) (fun acc ha => ?_) [] (by simp)
  · refine Evs.succ (fun k => by simp only [spec_SaidBy.l0]; rfl) ?_
    refine Evs.ite_pos (by omega) (Evs.ite_pos (by omega) ?_)
    rw [wrap_succ (by omega)]
    by_cases c : (rd_T74 l (i : Int)).f0 = who
    · rw [if_pos c] at h
      exact Evs.ite_pos c (Evs.ite_pos (by omega) h)
    · rw [if_neg c] at h
      exact Evs.ite_neg c h
  · split
    · simp; omega
    · omega
  · refine Evs.succ (fun k => by simp only [spec_SaidBy.l0]; rfl) ?_
    exact Evs.ite_neg (by omega) (Evs.some_ _)
theorem implSaid_ev (l : List S74) (who : Int) (hl : l.length ≤ 1048576) : Ev (fun k => impl_SaidBy.f k l who) (saidBy l who l.length) := by
  refine fold_loop (fun k acc i => impl_SaidBy.l0 k who acc l l.length i) l.length (fun (i : Nat) acc => if (rd_T74 l (i : Int)).f0 = who then acc ++ [(rd_T74 l (i : Int)).f1] else acc) (fun i acc => acc.length ≤ i) (fun acc => acc)
    (fun i acc r hi ha h => ?_) (fun i acc hi ha => ?_) (fun acc ha => ?_) [] (by simp)
  · refine Evs.succ (fun k => by simp only [impl_SaidBy.l0]; rfl) ?_
    refine Evs.ite_pos (by omega) (Evs.ite_pos (by omega) (Evs.ite_pos (by omega) ?_))
    rw [wrap_succ (by omega)]
    by_cases c : (rd_T74 l (i : Int)).f0 = who
    · rw [if_pos c] at h
      exact Evs.ite_pos c (Evs.ite_pos (by omega) h)
    · rw [if_neg c] at h
      exact Evs.ite_neg c h
  · split
    · simp; omega
    · omega
  · refine Evs.succ (fun k => by simp only [impl_SaidBy.l0]; rfl) ?_
    exact Evs.ite_neg (by omega) (Evs.some_ _)
/-- Whether two rows of numbers are one. -/
def eqN (a b : List Int) : Bool := decide (a.length = b.length) && (List.range a.length).all fun i => decide (rd a (i : Int) = rd b (i : Int))
theorem specInts {a b : List Int} (ha : a.length ≤ 1048576) : Ev (fun k => spec_l3Ints.f k a b) (eqN a b) := by
  unfold spec_l3Ints.f eqN
  by_cases c : a.length = b.length
  · rw [decide_eq_true c, Bool.true_and]
    refine Evs.ite_pos (by omega) (all_loop (fun k i => spec_l3Ints.l0 k a b i) a.length _ (fun i r hi hq hr => ?_) (fun i hi hq => ?_) ?_)
    · refine Evs.succ (fun k => by simp only [spec_l3Ints.l0]; rfl) ?_
      refine Evs.ite_pos (by omega) (Evs.ite_pos (by omega) (Evs.ite_pos (by omega) (Evs.ite_pos (of_decide_eq_true hq) ?_)))
      rw [wrap_succ (by omega)]
      exact hr
    · refine Evs.succ (fun k => by simp only [spec_l3Ints.l0]; rfl) ?_
      exact Evs.ite_pos (by omega) (Evs.ite_pos (by omega) (Evs.ite_pos (by omega) (Evs.ite_neg (of_decide_eq_false hq) (Evs.some_ _))))
    · refine Evs.succ (fun k => by simp only [spec_l3Ints.l0]; rfl) ?_
      exact Evs.ite_neg (by omega) (Evs.some_ _)
  · rw [decide_eq_false c, Bool.false_and]
    exact Evs.ite_neg (by omega) (Evs.some_ _)
theorem implInts {a b : List Int} (ha : a.length ≤ 1048576) : Ev (fun k => slices_Equal_int_int.f k a b) (eqN a b) := by
  unfold slices_Equal_int_int.f eqN
  by_cases c : a.length = b.length
  · rw [decide_eq_true c, Bool.true_and]
    refine Evs.ite_pos (by omega) (all_loop (fun k i => slices_Equal_int_int.l0 k a b a.length i) a.length _ (fun i r hi hq hr => ?_) (fun i hi hq => ?_) ?_)
    · refine Evs.succ (fun k => by simp only [slices_Equal_int_int.l0]; rfl) ?_
      refine Evs.ite_pos (by omega) (Evs.ite_pos (by omega) (Evs.ite_pos (by omega) (Evs.ite_pos (by omega) (Evs.ite_pos (of_decide_eq_true hq) ?_))))
      rw [wrap_succ (by omega)]
      exact hr
    · refine Evs.succ (fun k => by simp only [slices_Equal_int_int.l0]; rfl) ?_
      exact Evs.ite_pos (by omega) (Evs.ite_pos (by omega) (Evs.ite_pos (by omega) (Evs.ite_pos (by omega) (Evs.ite_neg (of_decide_eq_false hq) (Evs.some_ _)))))
    · refine Evs.succ (fun k => by simp only [slices_Equal_int_int.l0]; rfl) ?_
      exact Evs.ite_neg (by omega) (Evs.some_ _)
  · rw [decide_eq_false c, Bool.false_and]
    exact Evs.ite_neg (by omega) (Evs.some_ _)
/-- Likeness. -/
def likeB (p q : List S84) (c d : List Int) (x y : List S74) : Bool :=
  eqN c d && (decide (p.length = q.length) && (List.range p.length).all fun (i : Nat) => eqN (saidBy x (i : Int) x.length) (saidBy y (i : Int) y.length))
theorem specLike (p q : List S84) (c d r r2 : List Int) (s s2 : List (List Int)) (x y : List S74) (hp : p.length ≤ 1048576) (hc : c.length ≤ 1048576) (hx : x.length ≤ 1048576) (hy : y.length ≤ 1048576) :
    Ev (fun k => spec_WholeLike.f k p c r s x q d r2 s2 y) (likeB p q c d x y) := by
  unfold spec_WholeLike.f likeB
  have no : Ev (fun k => spec_WholeLike.j0 k true p c r s x q d r2 s2 y) false := Evs.succ (fun k => by simp only [spec_WholeLike.j0]; rfl) (Evs.ite_pos (by trivial) (Evs.some_ _))
  refine Evs.bind (specInts hc) ?_
  cases eqN c d with
  | false => exact Evs.ite_neg (by simp) no
  | true =>
    refine Evs.ite_pos rfl ?_
    rw [Bool.true_and]
    by_cases e : p.length = q.length
    · rw [decide_eq_true e, Bool.true_and, show ((p.length : Int) != (q.length : Int)) = false from bne_eq_false_iff_eq.mpr (by omega)]
      refine Evs.succ (fun k => by simp only [spec_WholeLike.j0]; rfl) (Evs.ite_neg (by simp) ?_)
      refine all_loop (fun k i => spec_WholeLike.l0 k i p c r s x q d r2 s2 y) p.length _ (fun i z hi hq hr => ?_) (fun i hi hq => ?_) ?_
      · have ei := specInts (a := saidBy x (i : Int) x.length) (b := saidBy y (i : Int) y.length) (by have := saidBy_le x (i : Int) x.length; omega)
        rw [hq] at ei
        refine Evs.succ (fun k => by simp only [spec_WholeLike.l0]; rfl) ?_
        refine Evs.ite_pos (by omega) (Evs.bind (specSaid_ev x (i : Int) hx) (Evs.bind (specSaid_ev y (i : Int) hy) (Evs.bind ei (Evs.ite_pos rfl ?_))))
        rw [wrap_succ (by omega)]
        exact hr
      · have ei := specInts (a := saidBy x (i : Int) x.length) (b := saidBy y (i : Int) y.length) (by have := saidBy_le x (i : Int) x.length; omega)
        rw [hq] at ei
        refine Evs.succ (fun k => by simp only [spec_WholeLike.l0]; rfl) ?_
        exact Evs.ite_pos (by omega) (Evs.bind (specSaid_ev x (i : Int) hx) (Evs.bind (specSaid_ev y (i : Int) hy) (Evs.bind ei (Evs.ite_neg (by simp) (Evs.some_ _)))))
      · refine Evs.succ (fun k => by simp only [spec_WholeLike.l0]; rfl) ?_
        exact Evs.ite_neg (by omega) (Evs.some_ _)
    · rw [decide_eq_false e, Bool.false_and, show ((p.length : Int) != (q.length : Int)) = true from bne_iff_ne.mpr (by omega)]
      exact no
theorem implLike (p q : List S84) (c d r r2 : List Int) (s s2 : List (List Int)) (x y : List S74) (hp : p.length ≤ 1048576) (hc : c.length ≤ 1048576) (hx : x.length ≤ 1048576) (hy : y.length ≤ 1048576) :
    Ev (fun k => impl_WholeLike.f k p c r s x q d r2 s2 y) (likeB p q c d x y) := by
  unfold impl_WholeLike.f likeB
  have no : Ev (fun k => impl_WholeLike.j0 k true p c r s x q d r2 s2 y) false := Evs.succ (fun k => by simp only [impl_WholeLike.j0]; rfl) (Evs.ite_pos (by trivial) (Evs.some_ _))
  by_cases e : p.length = q.length
  · refine Evs.ite_pos (by omega) (Evs.bind (implInts hc) ?_)
    rw [decide_eq_true e, Bool.true_and]
    cases eqN c d with
    | false => exact no
    | true =>
      rw [Bool.true_and]
      refine Evs.succ (fun k => by simp only [impl_WholeLike.j0]; rfl) (Evs.ite_neg (by simp) ?_)
      refine all_loop (fun k i => impl_WholeLike.l0 k p.length i p c r s x q d r2 s2 y) p.length _ (fun i z hi hq hr => ?_) (fun i hi hq => ?_) ?_
      · have ei := implInts (a := saidBy x (i : Int) x.length) (b := saidBy y (i : Int) y.length) (by have := saidBy_le x (i : Int) x.length; omega)
        rw [hq] at ei
        refine Evs.succ (fun k => by simp only [impl_WholeLike.l0]; rfl) ?_
        refine Evs.ite_pos (by omega) (Evs.bind (implSaid_ev x (i : Int) hx) (Evs.bind (implSaid_ev y (i : Int) hy) (Evs.bind ei (Evs.ite_pos rfl ?_))))
        rw [wrap_succ (by omega)]
        exact hr
      · have ei := implInts (a := saidBy x (i : Int) x.length) (b := saidBy y (i : Int) y.length) (by have := saidBy_le x (i : Int) x.length; omega)
        rw [hq] at ei
        refine Evs.succ (fun k => by simp only [impl_WholeLike.l0]; rfl) ?_
        exact Evs.ite_pos (by omega) (Evs.bind (implSaid_ev x (i : Int) hx) (Evs.bind (implSaid_ev y (i : Int) hy) (Evs.bind ei (Evs.ite_neg (by simp) (Evs.some_ _)))))
      · refine Evs.succ (fun k => by simp only [impl_WholeLike.l0]; rfl) ?_
        exact Evs.ite_neg (by omega) (Evs.some_ _)
  · rw [decide_eq_false e, Bool.false_and, Bool.and_false]
    exact Evs.ite_neg (by omega) no
theorem FnExactWholeLike : laws_FnExactWholeLike.Pure := by
  intro p c r s d p2 c2 r2 s2 d2 hp hc hr hs hd hp2 hc2 hr2 hs2 hd2
  refine Ev.rounds (g := fun k => laws_FnExactWholeLike.f k p c r s d p2 c2 r2 s2 d2) ?_
  unfold laws_FnExactWholeLike.f
  obtain ⟨a, ea, ca⟩ := szW p c r s d hp hc hr hs hd 1048576 (by omega) (by omega)
  refine Evs.bind ea ?_
  rcases ca with ca | ⟨a0, a1, ga⟩
  · exact Evs.ite_pos ca (Evs.some_ _)
  obtain ⟨b, eb, cb⟩ := szW p2 c2 r2 s2 d2 hp2 hc2 hr2 hs2 hd2 a a0 (by omega)
  refine Evs.ite_neg (by omega) (Evs.bind eb ?_)
  rcases cb with cb | ⟨b0, b1, gb⟩
  · exact Evs.ite_pos cb (Evs.some_ _)
  have ss := specLike (p.map cpyP) (p2.map cpyP) c c2 r r2 s s2 (d.map sayOf) (d2.map sayOf) (by rw [List.length_map]; exact ga.p.1) ga.c (by rw [List.length_map]; exact ga.d) (by rw [List.length_map]; exact gb.d)
  have si := implLike (p.map cpyP) (p2.map cpyP) c c2 r r2 s s2 (d.map sayOf) (d2.map sayOf) (by rw [List.length_map]; exact ga.p.1) ga.c (by rw [List.length_map]; exact ga.d) (by rw [List.length_map]; exact gb.d)
  exact Evs.ite_neg (by omega) (Evs.bind (toW ga) (Evs.bind (toW gb) (Evs.bind ss (Evs.bind (toW ga) (Evs.bind (toW gb) (Evs.bind si (Evs.ite_neg (by simp) (Evs.bind (toW ga) (Evs.bind (eqW ga) (Evs.ite_pos rfl (Evs.bind (toW gb) (Evs.bind (eqW gb) (Evs.ite_pos rfl (Evs.some_ _))))))))))))))

end Go.Proofs.Ythbflhimmmfonaa.Pure
