/- The comparison of two lists of statements: one plain meaning for the reference and the program, where neither is deeper than three levels; no condition but that lists are not over-long. -/
import Derived.Test.YtnjaimaaijbacaaStmL
import Derived.Test.YtnjaimaaijbacaaFSpecL2Same
import Derived.Test.YtnjaimaaijbacaaFSpecStmtsSame
import Derived.Test.YtnjaimaaijbacaaFImplStmtsSame
namespace Go.Proofs.Ytnjaimaaijbacaa.P
open Go.RowKit Go.Proofs.YtnjaimaaijbacaaW.PrintWords Go.Proofs.YtnjaimaaijbacaaW.PrintMore
set_option linter.unusedVariables false
set_option linter.unusedSimpArgs false

def zipB {α : Type} (p : α → α → Bool) : List α → List α → Bool
  | [], [] => true
  | x :: t, y :: u => p x y && zipB p t u
  | _, _ => false
theorem zipB_len {α : Type} (p : α → α → Bool) : ∀ a b : List α, a.length ≠ b.length → zipB p a b = false
  | [], [], h => absurd rfl h
  | [], _ :: _, _ => rfl
  | _ :: _, [], _ => rfl
  | x :: t, y :: u, h => by
    unfold zipB
    rw [zipB_len p t u (fun e => h (by simp [e])), Bool.and_false]
def heads (x y : S29) : Bool := decide (x.f0 = y.f0) && (decide (x.f1 = y.f1) && (decide (x.f2 = y.f2) && decide (x.f3 = y.f3)))
/-- Whether two lists are one, so many levels down. -/
def eqLB : Nat → List S29 → List S29 → Bool
  | 0, _, _ => true
  | d + 1, a, b => zipB (fun x y => heads x y && (eqLB d x.f4 y.f4 && eqLB d x.f5 y.f5)) a b
theorem eqM_ev {α : Type} {T : Nat → α → α → Option Bool} {p : α → α → Bool} : ∀ a b : List α, a.length = b.length → (∀ x ∈ a, ∀ y ∈ b, Ev (fun k => T k x y) (p x y)) → Ev (fun k => eqM (T k) a b) (zipB p a b)
  | [], [], _, _ => Evs.some_ _
  | [], _ :: _, h, _ => by simp at h
  | _ :: _, [], h, _ => by simp at h
  | x :: t, y :: u, hl, h => Evs.bind (h x (List.mem_cons_self ..) y (List.mem_cons_self ..)) (ev_band fun _ => eqM_ev t u (by simpa using hl) fun v hv w hw => h v (List.mem_cons_of_mem _ hv) w (List.mem_cons_of_mem _ hw))
theorem eqL_ev {α : Type} {T : Nat → α → α → Option Bool} {p : α → α → Bool} (a b : List α) (h : ∀ x ∈ a, ∀ y ∈ b, Ev (fun k => T k x y) (p x y)) : Ev (fun k => eqL (T k) a b) (zipB p a b) := by
  unfold eqL
  by_cases c : a.length = b.length
  · exact Evs.ite_pos c (eqM_ev a b c h)
  · rw [zipB_len p a b c]
    exact Evs.ite_neg c (Evs.some_ _)
theorem sameK_ev : ∀ (d : Nat) (a b : List S29), dep d a → dep d b → Ev (fun k => sameK k a b) (eqLB d a b)
  | 0, a, b, ha, hb => by
    obtain rfl : a = [] := ha
    obtain rfl : b = [] := hb
    refine Evs.succ (fun k => rfl) ?_
    show Ev (fun k => eqL (sameH (sameK k)) [] []) true
    exact Evs.ite_pos rfl (Evs.some_ _)
  | d + 1, a, b, ha, hb => by
    refine Evs.succ (fun k => rfl) ?_
    show Ev (fun k => eqL (sameH (sameK k)) a b) (zipB (fun x y => heads x y && (eqLB d x.f4 y.f4 && eqLB d x.f5 y.f5)) a b)
    refine eqL_ev a b fun x hx y hy => ?_
    unfold sameH heads
    simp only [Bool.and_assoc]
    exact ev_and fun _ => ev_and fun _ => ev_and fun _ => ev_and fun _ => Evs.bind (sameK_ev d x.f4 y.f4 (ha x hx).1 (hb y hy).1) (ev_band fun _ => sameK_ev d x.f5 y.f5 (ha x hx).2 (hb y hy).2)
theorem l2Same_loop (d : Nat) (hd : d ≤ 1000) (a b : List S29) (hl : a.length = b.length) (hm : a.length ≤ 1048576) (p : S29 → S29 → Bool) (q : S29 → S29 → Bool)
    (h4 : ∀ x ∈ a, ∀ y ∈ b, Ev (fun k => spec_l2Same.f k x.f4 y.f4 (d : Int)) (p x y)) (h5 : ∀ x ∈ a, ∀ y ∈ b, Ev (fun k => spec_l2Same.f k x.f5 y.f5 (d : Int)) (q x y)) (e : Nat) : ∀ i : Nat, i + e = a.length →
    Ev (fun k => spec_l2Same.l0 k a b ((d + 1 : Nat) : Int) (i : Int)) (zipB (fun x y => heads x y && (p x y && q x y)) (a.drop i) (b.drop i)) := by
  have ew : wrap64 (((d + 1 : Nat) : Int) - 1) = (d : Int) := by rw [wrap_id (by omega) (by omega)]; omega
  induction e with
  | zero =>
    intro i hi
    rw [List.drop_of_length_le (by omega), List.drop_of_length_le (by omega)]
    refine Evs.succ (fun k => by simp only [spec_l2Same.l0]; rfl) ?_
    exact Evs.ite_neg (by omega) (Evs.some_ _)
  | succ e ih =>
    intro i hi
    have ha : i < a.length := by omega
    have hb : i < b.length := by omega
    rw [drop_rd a ha, drop_rd b hb]
    have e4 := h4 _ (rd_mem ha) _ (rd_mem hb)
    have e5 := h5 _ (rd_mem ha) _ (rd_mem hb)
    have hn := ih (i + 1) (by omega)
    refine Evs.succ (fun k => by simp only [spec_l2Same.l0, ew]; rfl) ?_
    refine Evs.ite_pos (by omega) (Evs.ite_pos (by omega) (Evs.ite_pos (by omega) ?_))
    show Ev _ ((heads _ _ && (p _ _ && q _ _)) && zipB (fun x y => heads x y && (p x y && q x y)) (a.drop (i + 1)) (b.drop (i + 1)))
    generalize zipB (fun x y => heads x y && (p x y && q x y)) (a.drop (i + 1)) (b.drop (i + 1)) = z at hn ⊢
    unfold heads
    simp only [Bool.and_assoc]
    refine ev_and fun _ => ev_and fun _ => ev_and fun _ => ev_and fun _ => Evs.bind e4 (ev_band fun _ => Evs.bind e5 (ev_band fun _ => ?_))
    rw [wrap_succ (by omega)]
    exact hn
theorem l2Same_ev : ∀ (d : Nat), d ≤ 1000 → ∀ (a b : List S29), SL d a → SL d b → dep d a → dep d b → Ev (fun k => spec_l2Same.f k a b ((d + 1 : Nat) : Int)) (eqLB d a b)
  | 0, _, a, b, sa, sb, ha, hb => by
    obtain rfl : a = [] := ha
    obtain rfl : b = [] := hb
    refine Evs.succ (fun k => by simp only [spec_l2Same.f]; rfl) (Evs.ite_pos (by trivial) ?_)
    refine Evs.succ (fun k => by simp only [spec_l2Same.j0]; rfl) (Evs.ite_neg (by simp) ?_)
    refine Evs.succ (fun k => by simp only [spec_l2Same.l0]; rfl) ?_
    exact Evs.ite_neg (by simp) (Evs.some_ _)
  | d + 1, hd, a, b, sa, sb, ha, hb => by
    refine Evs.succ (fun k => by simp only [spec_l2Same.f]; rfl) ?_
    by_cases c : a.length = b.length
    · refine Evs.ite_pos (by omega) ?_
      rw [decide_eq_false (show ¬ ((d + 1 + 1 : Nat) : Int) < 0 by omega)]
      refine Evs.succ (fun k => by simp only [spec_l2Same.j0]; rfl) (Evs.ite_neg (by simp) ?_)
      exact l2Same_loop (d + 1) (by omega) a b c sa.1 (fun x y => eqLB d x.f4 y.f4) (fun x y => eqLB d x.f5 y.f5)
        (fun x hx y hy => l2Same_ev d (by omega) x.f4 y.f4 (sa.kids hx).1 (sb.kids hy).1 (ha x hx).1 (hb y hy).1)
        (fun x hx y hy => l2Same_ev d (by omega) x.f5 y.f5 (sa.kids hx).2 (sb.kids hy).2 (ha x hx).2 (hb y hy).2) a.length 0 (by omega)
    · refine Evs.ite_neg (by omega) (Evs.succ (fun k => by simp only [spec_l2Same.j0]; rfl) (Evs.ite_pos (by trivial) ?_))
      show Ev _ (zipB (fun x y => heads x y && (eqLB d x.f4 y.f4 && eqLB d x.f5 y.f5)) a b)
      rw [zipB_len _ a b c]
      exact Evs.some_ _
/-- What both comparisons come to. -/
def sameV (a b : List S29) : Bool := okLst a && (okLst b && eqLB 3 a b)
theorem specSame {a b : List S29} (ha : SL 3 a) (hb : SL 3 b) : Ev (fun k => spec_StmtsSame.f k a b) (sameV a b) := by
  unfold spec_StmtsSame.f sameV
  refine Evs.bind (specOk ha) (ev_band fun h1 => Evs.bind (specOk hb) (ev_band fun h2 => ?_))
  have e := l2Same_ev 3 (by omega) a b ha hb (dep3 (okLst_list h1)) (dep3 (okLst_list h2))
  rw [show ((3 + 1 : Nat) : Int) = 4 from rfl] at e
  exact ev_last e
theorem implSame (a b : List S29) : Ev (fun k => impl_StmtsSame.f k a b) (sameV a b) := by
  unfold impl_StmtsSame.f sameV
  exact Evs.bind (implOk a) (ev_band fun h1 => Evs.bind (implOk b) (ev_band fun h2 => ev_last (sameK_ev 3 a b (dep3 (okLst_list h1)) (dep3 (okLst_list h2)))))
end Go.Proofs.Ytnjaimaaijbacaa.P
