/- Comparison of rows of numbers and of lists of statements of any depth: one plain meaning for the reference and the program; no condition but that lists are not over-long. -/
import Derived.Test.YthbflhimmmfonaaWorld
import Derived.Test.YthbflhimmmfonaaSame
import Derived.Test.YthbflhimmmfonaaFSpecL2Alike
import Derived.Test.YthbflhimmmfonaaFSpecL3Ints
import Derived.Test.YthbflhimmmfonaaFSlicesEqualIntInt
namespace Go.Proofs.Ythbflhimmmfonaa.P
open Go.RowKit Go.Proofs.YthbflhimmmfonaaW.PrintWords Go.Proofs.YthbflhimmmfonaaW.PrintMore
set_option linter.unusedVariables false
set_option linter.unusedSimpArgs false
theorem ev_and {f : Nat → Option Bool} {c : Prop} [Decidable c] {r : Bool} (h : c → Ev f r) : Ev (fun k => if c then f k else some false) (decide c && r) := by
  by_cases hc : c
  · rw [decide_eq_true hc, Bool.true_and]
    exact Evs.ite_pos hc (h hc)
  · rw [decide_eq_false hc, Bool.false_and]
    exact Evs.ite_neg hc (Evs.some_ _)
theorem ev_band {f : Nat → Option Bool} {b r : Bool} (h : b = true → Ev f r) : Ev (fun k => if b = true then f k else some false) (b && r) := by
  cases b with
  | false => exact Evs.ite_neg (by simp) (Evs.some_ _)
  | true => exact Evs.ite_pos rfl (h rfl)
theorem ev_last {f : Nat → Option Bool} {r : Bool} (h : Ev f r) : Ev (fun k => (f k).bind fun t => some t) r := Evs.bind h (Evs.some_ _)
def zipB {α β : Type} (p : α → β → Bool) : List α → List β → Bool
  | [], [] => true
  | x :: t, y :: u => p x y && zipB p t u
  | _, _ => false
theorem zipB_len {α β : Type} (p : α → β → Bool) : ∀ (a : List α) (b : List β), a.length ≠ b.length → zipB p a b = false
  | [], [], h => absurd rfl h
  | [], _ :: _, _ => rfl
  | _ :: _, [], _ => rfl
  | x :: t, y :: u, h => by
    unfold zipB
    rw [zipB_len p t u (fun e => h (by simp [e])), Bool.and_false]
theorem zip_loop {α β : Type} (g : Nat → Int → Option Bool) (p : α → β → Bool) (s : Bool) (a : List α) (b : List β) (za : α) (zb : β) (hl : a.length = b.length)
    (hgo : ∀ i r, i < a.length → p (a.getD i za) (b.getD i zb) = true → Ev (fun k => g k ((i + 1 : Nat) : Int)) r → Ev (fun k => g k (i : Int)) r)
    (hno : ∀ i, i < a.length → p (a.getD i za) (b.getD i zb) = false → Ev (fun k => g k (i : Int)) false) (hs : Ev (fun k => g k (a.length : Int)) s) : Ev (fun k => g k 0) (zipB p a b && s) := by
  have key : ∀ d i, i + d = a.length → Ev (fun k => g k (i : Int)) (zipB p (a.drop i) (b.drop i) && s) := by
    intro d
    induction d with
    | zero =>
      intro i hi
      rw [List.drop_of_length_le (by omega), List.drop_of_length_le (by omega)]
      obtain rfl : i = a.length := by omega
      rw [show zipB p ([] : List α) ([] : List β) = true from rfl, Bool.true_and]
      exact hs
    | succ d ih =>
      intro i hi
      have ha : i < a.length := by omega
      have hb : i < b.length := by omega
      have e : zipB p (a.drop i) (b.drop i) = (p (a.getD i za) (b.getD i zb) && zipB p (a.drop (i + 1)) (b.drop (i + 1))) := by
        rw [List.drop_eq_getElem_cons ha, List.drop_eq_getElem_cons hb, List.getD_eq_getElem?_getD, List.getD_eq_getElem?_getD, List.getElem?_eq_getElem ha, List.getElem?_eq_getElem hb]
        rfl
      rw [e]
      cases hp : p (a.getD i za) (b.getD i zb) with
      | false =>
        rw [Bool.false_and, Bool.false_and]
        exact hno i ha hp
      | true =>
        rw [Bool.true_and]
        exact hgo i _ ha hp (ih (i + 1) (by omega))
  have := key a.length 0 (by omega)
  rwa [List.drop_zero, List.drop_zero] at this
def eqN (a b : List Int) : Bool := zipB (fun x y => decide (x = y)) a b
theorem specInts {a b : List Int} (ha : a.length ≤ 1048576) : Ev (fun k => spec_l3Ints.f k a b) (eqN a b) := by
  unfold spec_l3Ints.f eqN
  by_cases c : a.length = b.length
  · rw [← Bool.and_true (zipB _ a b)]
    refine Evs.ite_pos (by omega) (zip_loop (fun k i => spec_l3Ints.l0 k a b i) _ true a b 0 0 c (fun i r hi hq hr => ?_) (fun i hi hq => ?_) ?_)
    · have hq := of_decide_eq_true hq
      rw [← rd_get hi, ← rd_get (by omega)] at hq
      refine Evs.succ (fun k => by simp only [spec_l3Ints.l0]; rfl) ?_
      refine Evs.ite_pos (by omega) (Evs.ite_pos (by omega) (Evs.ite_pos (by omega) (Evs.ite_pos hq ?_)))
      rw [wrap_succ (by omega)]
      exact hr
    · have hq := of_decide_eq_false hq
      rw [← rd_get hi, ← rd_get (by omega)] at hq
      refine Evs.succ (fun k => by simp only [spec_l3Ints.l0]; rfl) ?_
      exact Evs.ite_pos (by omega) (Evs.ite_pos (by omega) (Evs.ite_pos (by omega) (Evs.ite_neg hq (Evs.some_ _))))
    · refine Evs.succ (fun k => by simp only [spec_l3Ints.l0]; rfl) ?_
      exact Evs.ite_neg (by omega) (Evs.some_ _)
  · rw [zipB_len _ a b c]
    exact Evs.ite_neg (by omega) (Evs.some_ _)
theorem implInts {a b : List Int} (ha : a.length ≤ 1048576) : Ev (fun k => slices_Equal_int_int.f k a b) (eqN a b) := by
  unfold slices_Equal_int_int.f eqN
  by_cases c : a.length = b.length
  · rw [← Bool.and_true (zipB _ a b)]
    refine Evs.ite_pos (by omega) (zip_loop (fun k i => slices_Equal_int_int.l0 k a b a.length i) _ true a b 0 0 c (fun i r hi hq hr => ?_) (fun i hi hq => ?_) ?_)
    · have hq := of_decide_eq_true hq
      rw [← rd_get hi, ← rd_get (by omega)] at hq
      refine Evs.succ (fun k => by simp only [slices_Equal_int_int.l0]; rfl) ?_
      refine Evs.ite_pos (by omega) (Evs.ite_pos (by omega) (Evs.ite_pos (by omega) (Evs.ite_pos (by omega) (Evs.ite_pos hq ?_))))
      rw [wrap_succ (by omega)]
      exact hr
    · have hq := of_decide_eq_false hq
      rw [← rd_get hi, ← rd_get (by omega)] at hq
      refine Evs.succ (fun k => by simp only [slices_Equal_int_int.l0]; rfl) ?_
      exact Evs.ite_pos (by omega) (Evs.ite_pos (by omega) (Evs.ite_pos (by omega) (Evs.ite_pos (by omega) (Evs.ite_neg hq (Evs.some_ _)))))
    · refine Evs.succ (fun k => by simp only [slices_Equal_int_int.l0]; rfl) ?_
      exact Evs.ite_neg (by omega) (Evs.some_ _)
  · rw [zipB_len _ a b c]
    exact Evs.ite_neg (by omega) (Evs.some_ _)
theorem rd_mem {l : List S104} {i : Nat} (h : i < l.length) : rd_T104 l (i : Int) ∈ l := by
  unfold rd_T104
  rw [Int.toNat_natCast, List.getD_eq_getElem?_getD, List.getElem?_eq_getElem h]
  exact List.getElem_mem h
def SL (d : Nat) (l : List S104) : Prop := l.length ≤ 1048576 ∧ ∀ x ∈ l, smallS d x
theorem SL.kids {d : Nat} {l : List S104} (h : SL (d + 1) l) {x : S104} (hx : x ∈ l) : SL d x.f4 ∧ SL d x.f5 := h.2 x hx
def dep : Nat → List S104 → Prop
  | 0, l => l = []
  | d + 1, l => ∀ x ∈ l, dep d x.f4 ∧ dep d x.f5
theorem dep_size : ∀ (d : Nat) (l : List S104), SizeOf.sizeOf l ≤ d → dep d l
  | 0, [], _ => rfl
  | 0, x :: t, h => by simp at h
  | d + 1, l, h => fun x hx => by
    have h1 := List.sizeOf_lt_of_mem hx
    have h2 : SizeOf.sizeOf x.f4 < SizeOf.sizeOf x ∧ SizeOf.sizeOf x.f5 < SizeOf.sizeOf x := by
      cases x
      constructor <;> simp <;> omega
    exact ⟨dep_size d x.f4 (by omega), dep_size d x.f5 (by omega)⟩
def heads (x y : S104) : Bool := decide (x.f0 = y.f0) && (decide (x.f1 = y.f1) && (decide (x.f2 = y.f2) && decide (x.f3 = y.f3)))
def eqLB : Nat → List S104 → List S104 → Bool
  | 0, _, _ => true
  | d + 1, a, b => zipB (fun x y => heads x y && (eqLB d x.f4 y.f4 && eqLB d x.f5 y.f5)) a b
theorem eqM_ev {α : Type} {T : Nat → α → α → Option Bool} {p : α → α → Bool} : ∀ a b : List α, a.length = b.length → (∀ x ∈ a, ∀ y ∈ b, Ev (fun k => T k x y) (p x y)) → Ev (fun k => eqM (T k) a b) (zipB p a b)
  | [], [], _, _ => Evs.some_ _
  | [], _ :: _, h, _ => by simp at h
  | _ :: _, [], h, _ => by simp at h
  | x :: t, y :: u, hl, h => Evs.bind (h x (List.mem_cons_self ..) y (List.mem_cons_self ..)) (ev_band fun _ => eqM_ev t u (by simpa using hl) fun v hv w hw => h v (List.mem_cons_of_mem _ hv) w (List.mem_cons_of_mem _ hw))
theorem eqL_ev {α : Type} {T : Nat → α → α → Option Bool} {p : α → α → Bool} (a b : List α) (h : ∀ x ∈ a, ∀ y ∈ b, Ev (fun k => T k x y) (p x y)) : Ev (fun k => eqL (T k) a b) (zipB p a b) := by
  unfold eqL
  by_cases c : a.length = b.length
  · exact Evs.ite_pos c (eqM_ev a b c h)
  · rw [zipB_len p a b c]
    exact Evs.ite_neg c (Evs.some_ _)
theorem sameK_ev : ∀ (d : Nat) (a b : List S104), dep d a → dep d b → Ev (fun k => sameK k a b) (eqLB d a b)
  | 0, a, b, ha, hb => by
    obtain rfl : a = [] := ha
    obtain rfl : b = [] := hb
    refine Evs.succ (fun k => rfl) ?_
    show Ev (fun k => eqL (sameH (sameK k)) [] []) true
    exact Evs.ite_pos rfl (Evs.some_ _)
  | d + 1, a, b, ha, hb => by
    refine Evs.succ (fun k => rfl) ?_
    show Ev (fun k => eqL (sameH (sameK k)) a b) (zipB (fun x y => heads x y && (eqLB d x.f4 y.f4 && eqLB d x.f5 y.f5)) a b)
    refine eqL_ev a b fun x hx y hy => ?_
    unfold sameH heads
    simp only [Bool.and_assoc]
    exact ev_and fun _ => ev_and fun _ => ev_and fun _ => ev_and fun _ => Evs.bind (sameK_ev d x.f4 y.f4 (ha x hx).1 (hb y hy).1) (ev_band fun _ => sameK_ev d x.f5 y.f5 (ha x hx).2 (hb y hy).2)
theorem alike_loop (a b : List S104) (hl : a.length = b.length) (hm : a.length ≤ 1048576) (p q : S104 → S104 → Bool)
    (h4 : ∀ x ∈ a, ∀ y ∈ b, Ev (fun k => spec_l2Alike.f k x.f4 y.f4) (p x y)) (h5 : ∀ x ∈ a, ∀ y ∈ b, Ev (fun k => spec_l2Alike.f k x.f5 y.f5) (q x y)) (e : Nat) : ∀ i : Nat, i + e = a.length →
    Ev (fun k => spec_l2Alike.l0 k a b (i : Int)) (zipB (fun x y => heads x y && (p x y && q x y)) (a.drop i) (b.drop i)) := by
  induction e with
  | zero =>
    intro i hi
    rw [List.drop_of_length_le (by omega), List.drop_of_length_le (by omega)]
    refine Evs.succ (fun k => by simp only [spec_l2Alike.l0]; rfl) ?_
    exact Evs.ite_neg (by omega) (Evs.some_ _)
  | succ e ih =>
    intro i hi
    have ha : i < a.length := by omega
    have hb : i < b.length := by omega
    rw [drop_rd a ha, drop_rd b hb]
    have e4 := h4 _ (rd_mem ha) _ (rd_mem hb)
    have e5 := h5 _ (rd_mem ha) _ (rd_mem hb)
    have hn := ih (i + 1) (by omega)
    refine Evs.succ (fun k => by simp only [spec_l2Alike.l0]; rfl) ?_
    refine Evs.ite_pos (by omega) (Evs.ite_pos (by omega) (Evs.ite_pos (by omega) ?_))
    show Ev _ ((heads _ _ && (p _ _ && q _ _)) && zipB (fun x y => heads x y && (p x y && q x y)) (a.drop (i + 1)) (b.drop (i + 1)))
    generalize zipB (fun x y => heads x y && (p x y && q x y)) (a.drop (i + 1)) (b.drop (i + 1)) = z at hn ⊢
    unfold heads
    simp only [Bool.and_assoc]
    refine ev_and fun _ => ev_and fun _ => ev_and fun _ => ev_and fun _ => Evs.bind e4 (ev_band fun _ => Evs.bind e5 (ev_band fun _ => ?_))
    rw [wrap_succ (by omega)]
    exact hn
theorem alike_ev : ∀ (d : Nat) (a b : List S104), SL d a → SL d b → dep d a → dep d b → Ev (fun k => spec_l2Alike.f k a b) (eqLB d a b)
  | 0, a, b, sa, sb, ha, hb => by
    obtain rfl : a = [] := ha
    obtain rfl : b = [] := hb
    refine Evs.succ (fun k => by simp only [spec_l2Alike.f]; rfl) (Evs.ite_pos (by trivial) ?_)
    refine Evs.succ (fun k => by simp only [spec_l2Alike.l0]; rfl) ?_
    exact Evs.ite_neg (by simp) (Evs.some_ _)
  | d + 1, a, b, sa, sb, ha, hb => by
    refine Evs.succ (fun k => by simp only [spec_l2Alike.f]; rfl) ?_
    by_cases c : a.length = b.length
    · refine Evs.ite_pos (by omega) ?_
      exact alike_loop a b c sa.1 (fun x y => eqLB d x.f4 y.f4) (fun x y => eqLB d x.f5 y.f5)
        (fun x hx y hy => alike_ev d x.f4 y.f4 (sa.kids hx).1 (sb.kids hy).1 (ha x hx).1 (hb y hy).1)
        (fun x hx y hy => alike_ev d x.f5 y.f5 (sa.kids hx).2 (sb.kids hy).2 (ha x hx).2 (hb y hy).2) a.length 0 (by omega)
    · refine Evs.ite_neg (by omega) ?_
      show Ev _ (zipB (fun x y => heads x y && (eqLB d x.f4 y.f4 && eqLB d x.f5 y.f5)) a b)
      rw [zipB_len _ a b c]
      exact Evs.some_ _
noncomputable def alB (a b : List S104) : Bool := eqLB (SizeOf.sizeOf a + SizeOf.sizeOf b) a b
def Sm (a : List S104) : Prop := a.length ≤ 1048576 ∧ ∀ t ∈ a, ∀ d, smallS d t
theorem specAlike {a b : List S104} (ha : Sm a) (hb : Sm b) : Ev (fun k => spec_l2Alike.f k a b) (alB a b) :=
  alike_ev _ a b ⟨ha.1, fun x hx => ha.2 x hx _⟩ ⟨hb.1, fun x hx => hb.2 x hx _⟩ (dep_size _ a (by omega)) (dep_size _ b (by omega))
theorem implAlike (a b : List S104) : Ev (fun k => impl_sameStmts.f k a b) (alB a b) := sameK_ev _ a b (dep_size _ a (by omega)) (dep_size _ b (by omega))
end Go.Proofs.Ythbflhimmmfonaa.P
