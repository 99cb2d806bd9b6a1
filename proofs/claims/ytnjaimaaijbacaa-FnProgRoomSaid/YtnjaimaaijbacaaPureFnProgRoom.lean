/- Rooms do not nest, and waiting needs one: what is right in no room is right in one just if it enters none, and is right one level deeper; for every drawn statement; no condition. -/
import Derived.Test.YtnjaimaaijbacaaFLawsFnProgRoom
import Derived.Test.YtnjaimaaijbacaaStmDrawOk
namespace Go.Proofs.Ytnjaimaaijbacaa.Pure
open Go.RowKit Go.Proofs.Ytnjaimaaijbacaa.P Go.Proofs.YtnjaimaaijbacaaW.PrintWords Go.Proofs.YtnjaimaaijbacaaW.PrintLast

open Go.Proofs.Ytnjaimaaijbacaa.P Go.Proofs.YtnjaimaaijbacaaW.PrintMore
theorem okVal_parts {t : S29} {dp rm : Int} (h : okVal t dp rm = true) : 0 ≤ dp ∧ dp ≤ 3 ∧ -1 ≤ rm ∧ rm < 2 ∧ ∃ d : Nat, dp = ((d + 1 : Nat) : Int) ∧ okS (d + 1) t rm = true := by
  unfold okVal at h
  simp only [Bool.and_eq_true, decide_eq_true_eq] at h
  obtain ⟨h0, h1, h2, h3, h4⟩ := h
  refine ⟨h0, h1, h2, h3, ?_⟩
  obtain ⟨n, hn⟩ : ∃ n, n = dp.toNat := ⟨_, rfl⟩
  rw [← hn] at h4
  cases n with
  | zero => cases h4
  | succ n => exact ⟨n, by omega, h4⟩
theorem okVal_mk {t : S29} {d : Nat} {rm : Int} (h1 : ((d + 1 : Nat) : Int) ≤ 3) (h2 : -1 ≤ rm) (h3 : rm < 2) : okVal t ((d + 1 : Nat) : Int) rm = okS (d + 1) t rm := by
  unfold okVal
  rw [decide_eq_true (show ((d + 1 : Nat) : Int) ≥ 0 by omega), decide_eq_true h1, decide_eq_true (show rm ≥ -1 from h2), decide_eq_true h3]
  rfl
/-- Whether a list enters a room, so many levels down. -/
def entB : Nat → List S29 → Bool
  | 0, _ => false
  | d + 1, l => l.any fun x => decide (x.f0 = 8) || (entB d x.f4 || entB d x.f5)
theorem entB_nil (d : Nat) : entB d [] = false := by cases d <;> rfl
theorem enters_ev : ∀ (d : Nat), d ≤ 1000 → ∀ l : List S29, l.length ≤ 1048576 → (∀ x ∈ l, smallS d x) → Ev (fun k => laws_wpEnters.f k l (d : Int)) (entB d l)
  | 0, _, l, hl, hs => by
    refine Evs.succ (fun k => by simp only [laws_wpEnters.f]; rfl) (Evs.succ (fun k => by simp only [laws_wpEnters.l0]; rfl) ?_)
    have j : Ev (fun k => laws_wpEnters.j1 k l ((0 : Nat) : Int) 0 false) false := Evs.succ (fun k => by simp only [laws_wpEnters.j1]; rfl) (Evs.ite_neg (by simp) (Evs.some_ _))
    by_cases c : (0 : Int) < (l.length : Int)
    · exact Evs.ite_pos c j
    · exact Evs.ite_neg c j
  | d + 1, hd, l, hl, hs => by
    have ew : wrap64 (((d + 1 : Nat) : Int) - 1) = (d : Int) := by rw [wrap_id (by omega) (by omega)]; omega
    refine Evs.succ (fun k => by simp only [laws_wpEnters.f]; rfl) ?_
    have key : ∀ e i : Nat, i + e = l.length → Ev (fun k => laws_wpEnters.l0 k l ((d + 1 : Nat) : Int) (i : Int)) (entB (d + 1) (l.drop i)) := by
      intro e
      induction e with
      | zero =>
        intro i hi
        rw [List.drop_of_length_le (by omega)]
        refine Evs.succ (fun k => by simp only [laws_wpEnters.l0]; rfl) ?_
        exact Evs.ite_neg (by omega) (Evs.succ (fun k => by simp only [laws_wpEnters.j1]; rfl) (Evs.ite_neg (by simp) (Evs.some_ _)))
      | succ e ih =>
        intro i hi
        have hlt : i < l.length := by omega
        have hx := hs _ (rd_mem hlt)
        obtain ⟨⟨q4, g4⟩, q5, g5⟩ := hx
        have e4 := enters_ev d (by omega) _ q4 g4
        have e5 := enters_ev d (by omega) _ q5 g5
        have ex : l.drop i = rd_T29 l (i : Int) :: l.drop (i + 1) := by
          rw [List.drop_eq_getElem_cons hlt]
          unfold rd_T29
          rw [Int.toNat_natCast, List.getD_eq_getElem?_getD, List.getElem?_eq_getElem hlt]
          rfl
        rw [ex]
        have ec : entB (d + 1) (rd_T29 l (i : Int) :: l.drop (i + 1)) = ((decide ((rd_T29 l (i : Int)).f0 = 8) || (entB d (rd_T29 l (i : Int)).f4 || entB d (rd_T29 l (i : Int)).f5)) || entB (d + 1) (l.drop (i + 1))) := rfl
        rw [ec]
        refine Evs.succ (fun k => by simp only [laws_wpEnters.l0]; rfl) (Evs.ite_pos (by omega) ?_)
        rw [decide_eq_true (show ((d + 1 : Nat) : Int) > 0 by omega)]
        refine Evs.succ (fun k => by simp only [laws_wpEnters.j1, ew]; rfl) (Evs.ite_pos (by trivial) (Evs.ite_pos (by omega) (Evs.ite_pos (by omega) ?_)))
        by_cases h8 : (rd_T29 l (i : Int)).f0 = 8
        · rw [decide_eq_true h8, Bool.true_or, Bool.true_or]
          exact Evs.ite_pos h8 (Evs.some_ _)
        · rw [decide_eq_false h8, Bool.false_or]
          refine Evs.ite_neg h8 (Evs.bind e4 ?_)
          cases entB d (rd_T29 l (i : Int)).f4 with
          | true => exact Evs.ite_pos rfl (Evs.some_ _)
          | false =>
            rw [Bool.false_or]
            refine Evs.ite_neg (by simp) (Evs.bind e5 ?_)
            cases entB d (rd_T29 l (i : Int)).f5 with
            | true => exact Evs.ite_pos rfl (Evs.some_ _)
            | false =>
              rw [Bool.false_or]
              refine Evs.ite_neg (by simp) ?_
              rw [wrap_succ (by omega)]
              exact ih (i + 1) (by omega)
    exact key l.length 0 (by omega)
theorem leaf_room {a0 a1 a2 a3 : Int} (h : leafOk a0 a1 a2 a3 (-1) = true) : a0 ≠ 8 ∧ leafOk a0 a1 a2 a3 0 = true := by
  refine ⟨fun e => by subst e; simp [leafOk] at h, ?_⟩
  have h9 : a0 ≠ 9 := fun e => by subst e; simp [leafOk] at h
  unfold leafOk at h ⊢
  simp only [if_neg h9] at h ⊢
  exact h
theorem room_ok : ∀ (n d : Nat) (l : List S29), n ≤ d → (∀ x ∈ l, okS n x (-1) = true) → (l.all fun x => okS n x 0) = !entB d l
  | 0, d, [], _, _ => by rw [entB_nil]; rfl
  | 0, d, x :: t, _, h => by cases h x (List.mem_cons_self ..)
  | n + 1, 0, l, hn, _ => by omega
  | n + 1, d + 1, l, hn, h => by
    have key : ∀ x ∈ l, okS (n + 1) x 0 = !(decide (x.f0 = 8) || (entB d x.f4 || entB d x.f5)) := by
      intro x hx
      have hk := h x hx
      obtain ⟨a0, a1, a2, a3, l4, l5⟩ := x
      rw [okS_succ] at hk ⊢
      simp only at hk ⊢
      by_cases h6 : a0 = 6
      · simp only [if_pos h6] at hk ⊢
        simp only [Bool.and_eq_true, List.all_eq_true] at hk
        obtain ⟨k1, k2, k3, k4, k5⟩ := hk
        rw [room_ok n d l4 (by omega) k4, room_ok n d l5 (by omega) k5, k1, k2, k3, decide_eq_false (by omega)]
        cases entB d l4 <;> cases entB d l5 <;> rfl
      simp only [if_neg h6] at hk ⊢
      by_cases h5 : l5.length = 0
      · have n5 := List.eq_nil_of_length_eq_zero h5
        simp only [if_pos h5] at hk ⊢
        rw [n5, entB_nil, Bool.or_false]
        by_cases h7 : a0 = 7
        · simp only [if_pos h7] at hk ⊢
          simp only [Bool.and_eq_true, List.all_eq_true] at hk
          obtain ⟨k1, k2, k3, k4⟩ := hk
          rw [room_ok n d l4 (by omega) k4, k1, k2, k3, decide_eq_false (by omega)]
          cases entB d l4 <;> rfl
        simp only [if_neg h7] at hk ⊢
        by_cases h8 : a0 = 8
        · simp only [if_pos h8]
          rw [decide_eq_true h8]
          rfl
        simp only [if_neg h8] at hk ⊢
        rw [Bool.and_eq_true, decide_eq_true_eq] at hk
        obtain ⟨k1, k2⟩ := hk
        rw [List.eq_nil_of_length_eq_zero k1, entB_nil, (leaf_room k2).2, decide_eq_false h8]
        rfl
      · simp only [if_neg h5] at hk
        cases hk
    rw [Bool.eq_iff_iff, List.all_eq_true]
    unfold entB
    rw [Bool.not_eq_true', ← Bool.not_eq_true, List.any_eq_true]
    constructor
    · rintro q ⟨x, hx, hy⟩
      have := q x hx
      rw [key x hx, hy] at this
      cases this
    · intro q x hx
      rw [key x hx]
      cases c : (decide (x.f0 = 8) || (entB d x.f4 || entB d x.f5)) with
      | false => rfl
      | true => exact absurd ⟨x, hx, c⟩ q
theorem ok_deeper : ∀ (d : Nat) (t : S29) (rm : Int), okS d t rm = true → okS (d + 1) t rm = true
  | 0, t, rm, h => by cases h
  | d + 1, t, rm, h => by
    have all : ∀ (l : List S29) (m : Int), (l.all fun x => okS d x m) = true → (l.all fun x => okS (d + 1) x m) = true := by
      intro l m h
      rw [List.all_eq_true] at h ⊢
      exact fun x hx => ok_deeper d x m (h x hx)
    obtain ⟨a0, a1, a2, a3, l4, l5⟩ := t
    rw [okS_succ] at h ⊢
    simp only at h ⊢
    by_cases h6 : a0 = 6
    · simp only [if_pos h6, Bool.and_eq_true] at h ⊢
      exact ⟨h.1, h.2.1, h.2.2.1, all _ _ h.2.2.2.1, all _ _ h.2.2.2.2⟩
    simp only [if_neg h6] at h ⊢
    by_cases h5 : l5.length = 0
    · simp only [if_pos h5] at h ⊢
      by_cases h7 : a0 = 7
      · simp only [if_pos h7, Bool.and_eq_true] at h ⊢
        exact ⟨h.1, h.2.1, h.2.2.1, all _ _ h.2.2.2⟩
      simp only [if_neg h7] at h ⊢
      by_cases h8 : a0 = 8
      · simp only [if_pos h8, Bool.and_eq_true] at h ⊢
        exact ⟨h.1, h.2.1, h.2.2.1, h.2.2.2.1, all _ _ h.2.2.2.2⟩
      simp only [if_neg h8] at h ⊢
      exact h
    · simp only [if_neg h5] at h
      cases h
theorem in_free {d : Nat} {t : S29} {rm : Int} (h : okS (d + 1) t rm = true) (h8 : t.f0 = 8) : rm < 0 := by
  obtain ⟨a0, a1, a2, a3, l4, l5⟩ := t
  rw [okS_succ] at h
  simp only at h h8
  subst h8
  by_cases h5 : l5.length = 0
  · simp only [if_pos h5] at h
    simp at h
    exact h.1
  · simp [h5] at h
theorem wait_in {d : Nat} {t : S29} {rm : Int} (h : okS (d + 1) t rm = true) (h9 : t.f0 = 9) : 0 ≤ rm := by
  obtain ⟨a0, a1, a2, a3, l4, l5⟩ := t
  rw [okS_succ] at h
  simp only at h h9
  subst h9
  by_cases h5 : l5.length = 0
  · simp only [if_pos h5] at h
    simp [leafOk] at h
    exact h.2.1
  · simp [h5] at h
theorem FnProgRoom : laws_FnProgRoom.Pure := by
  intro l _ _ hw
  refine Ev.rounds (g := fun k => laws_FnProgRoom.f k l) ?_
  unfold laws_FnProgRoom.f
  by_cases c0 : (l.length : Int) > 1048576
  · exact Evs.ite_pos c0 (Evs.some_ _)
  obtain ⟨t, dp, rm, ht, d0, d1, r0, r1, hd⟩ := drawOk_ev hw
  have vi := okVal_impl t dp rm
  have vs := okVal_spec t ht dp rm
  refine Evs.ite_neg c0 (Evs.bind hd (Evs.bind vi (Evs.bind vs (Evs.ite_neg (by simp) ?_))))
  cases hv : okVal t dp rm with
  | false =>
    rw [hv] at vs
    refine Evs.succ (fun k => by simp only [laws_FnProgRoom.j0]; rfl) ?_
    exact Evs.ite_pos (by trivial) (Evs.bind vs (Evs.some_ _))
  | true =>
    obtain ⟨_, q1, q2, q3, d, rfl, hk⟩ := okVal_parts hv
    have ew : wrap64 (((d + 1 : Nat) : Int) + 1) = ((d + 1 + 1 : Nat) : Int) := by rw [wrap_id (by omega) (by omega)]; omega
    have v0 := okVal_impl t 0 rm
    have e0 : okVal t 0 rm = false := by unfold okVal; simp [okS]
    rw [e0] at v0
    have v4 := okVal_impl t 4 rm
    have e4 : okVal t 4 rm = false := by unfold okVal; simp
    rw [e4] at v4
    have j2 : Ev (fun k => laws_FnProgRoom.j2 k ((d + 1 : Nat) : Int) rm false t.f0 t.f1 t.f2 t.f3 t.f4 t.f5) true := by
      refine Evs.succ (fun k => by simp only [laws_FnProgRoom.j2]; rfl) (Evs.ite_neg (by simp) ?_)
      by_cases h8 : t.f0 = 8
      · have hr := in_free hk h8
        have vz := okVal_impl t ((d + 1 : Nat) : Int) 0
        have ez : okVal t ((d + 1 : Nat) : Int) 0 = false := by
          cases c : okVal t ((d + 1 : Nat) : Int) 0 with
          | false => rfl
          | true =>
            rw [okVal_mk q1 (by omega) (by omega)] at c
            have := in_free c h8
            omega
        rw [ez] at vz
        have vn := okVal_impl ⟨8, 0, 0, 0, [t], []⟩ 3 (-1)
        have en : okVal ⟨8, 0, 0, 0, [t], []⟩ 3 (-1) = false := by
          have e : okVal ⟨8, 0, 0, 0, [t], []⟩ ((2 + 1 : Nat) : Int) (-1) = okS (2 + 1) ⟨8, 0, 0, 0, [t], []⟩ (-1) := okVal_mk (by omega) (by omega) (by omega)
          have e2 : okS (1 + 1) t 0 = false := by
            cases c : okS (1 + 1) t 0 with
            | false => rfl
            | true =>
              have := in_free c h8
              omega
          refine e.trans ?_
          rw [okS_succ]
          simp [e2]
        rw [en] at vn
        obtain ⟨a0, a1, a2, a3, l4, l5⟩ := t
        exact Evs.ite_pos h8 (Evs.ite_pos (by omega) (Evs.bind vz (Evs.ite_neg (by simp) (Evs.bind vn (Evs.some_ _)))))
      · refine Evs.ite_neg h8 ?_
        by_cases h9 : t.f0 = 9
        · have hr := wait_in hk h9
          have vn := okVal_impl t ((d + 1 : Nat) : Int) (-1)
          have en : okVal t ((d + 1 : Nat) : Int) (-1) = false := by
            cases c : okVal t ((d + 1 : Nat) : Int) (-1) with
            | false => rfl
            | true =>
              rw [okVal_mk q1 (by omega) (by omega)] at c
              have := wait_in c h9
              omega
          rw [en] at vn
          exact Evs.ite_pos h9 (Evs.ite_pos hr (Evs.bind vn (Evs.some_ _)))
        · exact Evs.ite_neg h9 (Evs.some_ _)
    have j1 : Ev (fun k => laws_FnProgRoom.j1 k ((d + 1 : Nat) : Int) rm false t.f0 t.f1 t.f2 t.f3 t.f4 t.f5) true := by
      refine Evs.succ (fun k => by simp only [laws_FnProgRoom.j1]; rfl) (Evs.ite_neg (by simp) ?_)
      by_cases hr : rm < 0
      · obtain rfl : rm = -1 := by omega
        have ve := enters_ev 3 (by omega) [t] (by simp) (fun x hx => by rw [List.mem_singleton.1 hx]; exact ht 3)
        have vz := okVal_impl t ((d + 1 : Nat) : Int) 0
        have er := room_ok (d + 1) 3 [t] (by omega) (fun x hx => by rw [List.mem_singleton.1 hx]; exact hk)
        rw [List.all_cons, List.all_nil, Bool.and_true] at er
        rw [okVal_mk q1 (by omega) (by omega), er] at vz
        obtain ⟨a0, a1, a2, a3, l4, l5⟩ := t
        refine Evs.ite_pos hr (Evs.bind ve (Evs.bind vz ?_))
        have eb : (entB 3 [⟨a0, a1, a2, a3, l4, l5⟩] == !entB 3 [⟨a0, a1, a2, a3, l4, l5⟩]) = false := by cases entB 3 [⟨a0, a1, a2, a3, l4, l5⟩] <;> rfl
        rw [eb]
        exact j2
      · exact Evs.ite_neg hr j2
    refine Evs.succ (fun k => by simp only [laws_FnProgRoom.j0, ew]; rfl) (Evs.ite_neg (by simp) ?_)
    by_cases h3 : ((d + 1 : Nat) : Int) < 3
    · have vd := okVal_impl t ((d + 1 + 1 : Nat) : Int) rm
      rw [okVal_mk (by omega) q2 q3, ok_deeper _ _ _ hk] at vd
      exact Evs.ite_pos h3 (Evs.bind vd (Evs.ite_pos rfl (Evs.bind v0 (Evs.ite_neg (by simp) (Evs.bind v4 j1)))))
    · exact Evs.ite_neg h3 (Evs.bind v0 (Evs.ite_neg (by simp) (Evs.bind v4 j1)))

end Go.Proofs.Ytnjaimaaijbacaa.Pure
