/- A law's list of lists of statements that is not too large is copied; the copy's lists are not over-long; the copy is equal to itself; the check of programs: one plain meaning; no condition but that it can be read from memory. -/
import Derived.Test.YtnjaimaaijbacaaTreeL
import Derived.Test.YtnjaimaaijbacaaFLawsStmSS
import Derived.Test.YtnjaimaaijbacaaFSpecLst
namespace Go.Proofs.Ytnjaimaaijbacaa.P
open Go.RowKit Go.Proofs.YtnjaimaaijbacaaW.PrintWords Go.Proofs.YtnjaimaaijbacaaW.PrintMore
set_option linter.unusedVariables false
set_option linter.unusedSimpArgs false

/-- The check of a program. -/
def progB (p : List (List S29)) : Bool := p.all okLst && (decide (1 ≤ (p.length : Int)) && decide ((p.length : Int) ≤ 3))
theorem rdl {α : Type} {l : List (List α)} {i : Nat} (h : i < l.length) : l.getD (i : Int).toNat [] ∈ l := by
  rw [Int.toNat_natCast, List.getD_eq_getElem?_getD, List.getElem?_eq_getElem h]
  exact List.getElem_mem h
theorem dropl {α : Type} (l : List (List α)) {i : Nat} (h : i < l.length) : l.drop i = l.getD (i : Int).toNat [] :: l.drop (i + 1) := by
  rw [List.drop_eq_getElem_cons h, Int.toNat_natCast, List.getD_eq_getElem?_getD, List.getElem?_eq_getElem h]
  rfl
theorem specProg {p : List (List S29)} (hl : p.length ≤ 1048576) (h : ∀ l ∈ p, SL 3 l) : Ev (fun k => spec_ProgOk.f k p) (progB p) := by
  unfold spec_ProgOk.f
  have key : ∀ e i : Nat, i + e = p.length → Ev (fun k => spec_ProgOk.l0 k p (i : Int)) ((p.drop i).all okLst && (decide (1 ≤ (p.length : Int)) && decide ((p.length : Int) ≤ 3))) := by
    intro e
    induction e with
    | zero =>
      intro i hi
      rw [List.drop_of_length_le (by omega)]
      refine Evs.succ (fun k => by simp only [spec_ProgOk.l0]; rfl) (Evs.ite_neg (by omega) ?_)
      rw [List.all_nil, Bool.true_and]
      exact ev_and (c := 1 ≤ (p.length : Int)) fun _ => Evs.some_ _
    | succ e ih =>
      intro i hi
      have hlt : i < p.length := by omega
      rw [dropl p hlt, List.all_cons, Bool.and_assoc]
      refine Evs.succ (fun k => by simp only [spec_ProgOk.l0]; rfl) (Evs.ite_pos (by omega) (Evs.ite_pos (by omega) (Evs.bind (specOk (h _ (rdl hlt))) (ev_band fun _ => ?_))))
      rw [wrap_succ (by omega)]
      exact ih (i + 1) (by omega)
  exact key p.length 0 (by omega)
theorem listG_ev : ∀ p : List (List S29), Ev (fun k => listG (impl_StmtsOk.f k) p) (p.all okLst)
  | [] => Evs.some_ _
  | x :: t => by
    rw [List.all_cons]
    exact Evs.bind (implOk x) (ev_band fun _ => listG_ev t)
theorem implProg (p : List (List S29)) : Ev (fun k => impl_ProgOk.f k p) (progB p) := by
  unfold impl_ProgOk.f progB
  rw [Bool.and_comm, Bool.and_assoc]
  exact ev_and (c := 1 ≤ (p.length : Int)) fun _ => ev_and (c := (p.length : Int) ≤ 3) fun _ => listG_ev p
/-- A copy of a list of lists. -/
def CopyLL (l : List (List S24)) (ts : List (List S29)) : Prop := Ev (fun k => laws_toStmtSS.f k l) ts ∧ ts.length ≤ 1048576 ∧ (∀ t ∈ ts, SL 3 t) ∧ Ev (fun k => laws_eqStmtSS.f k ts ts) true
def BdLL (l : List (List S24)) : Prop := ∃ (w : World) (A : Option Addr), Kd.C (Kd.slice 24 k24) w A l.length l
theorem bdLL_elem {l : List (List S24)} (h : BdLL l) {i : Nat} (hi : i < l.length) : BdL (l.getD (i : Int).toNat []) := by
  obtain ⟨w, A, h⟩ := h
  obtain ⟨ad, c, e, _, hK, _⟩ := Kd.C_get h ([] : List S24) (i : Int) (by omega) (by omega)
  obtain ⟨A0, c0, _, _, g⟩ := hK
  exact ⟨w, A0, g⟩
open Classical in
noncomputable def cpyL (x : List S24) : List S29 := if h : ∃ t, CopyL x t then h.choose else []
theorem cpyL_of {x : List S24} (h : ∃ t, CopyL x t) : CopyL x (cpyL x) := by
  unfold cpyL
  rw [dif_pos h]
  exact h.choose_spec
theorem szLL_loop (l : List (List S24)) (hl : l.length ≤ 1048576) (hb : BdLL l) (d : Nat) : ∀ (i : Nat) (m : Int), i + d = l.length → 0 ≤ m → m ≤ 1048576 →
    ∃ r : Int, Ev (fun k => laws_szStmtSS.l0 k l m (i : Int)) r ∧ (r < 0 ∨ (0 ≤ r ∧ r ≤ m ∧ ∀ j : Nat, i ≤ j → j < l.length → ∃ t, CopyL (l.getD (j : Int).toNat []) t)) := by
  induction d with
  | zero =>
    intro i m hi h0 h1
    refine ⟨m, ?_, .inr ⟨h0, Int.le_refl _, fun j h1 h2 => absurd h2 (by omega)⟩⟩
    refine Evs.succ (fun k => by simp only [laws_szStmtSS.l0]; rfl) ?_
    exact Evs.ite_neg (by omega) (Evs.some_ _)
  | succ d ih =>
    intro i m hi h0 h1
    obtain ⟨r, hr, c⟩ := lawL _ (bdLL_elem hb (i := i) (by omega)) m h0 h1
    rcases c with c | ⟨c0, c1, c2⟩
    · refine ⟨-1, ?_, .inl (by omega)⟩
      refine Evs.succ (fun k => by simp only [laws_szStmtSS.l0]; rfl) ?_
      exact Evs.ite_pos (by omega) (Evs.ite_pos (by omega) (Evs.bind hr (Evs.ite_pos c (Evs.some_ _))))
    · obtain ⟨q, hq, e⟩ := ih (i + 1) r (by omega) c0 (by omega)
      refine ⟨q, ?_, ?_⟩
      · refine Evs.succ (fun k => by simp only [laws_szStmtSS.l0]; rfl) ?_
        refine Evs.ite_pos (by omega) (Evs.ite_pos (by omega) (Evs.bind hr (Evs.ite_neg (by omega) ?_)))
        rw [wrap_succ (by omega)]
        exact hq
      · rcases e with e | ⟨e0, e1, e2⟩
        · exact .inl e
        · refine .inr ⟨e0, by omega, fun j h1 h2 => ?_⟩
          by_cases hj : j = i
          · rw [hj]
            exact c2
          · exact e2 j (by omega) h2
theorem copyLL_of (l : List (List S24)) (hl : l.length ≤ 1048576) (h : ∀ j : Nat, j < l.length → ∃ t, CopyL (l.getD (j : Int).toNat []) t) : CopyLL l (l.map cpyL) := by
  have hx : ∀ x ∈ l, CopyL x (cpyL x) := by
    intro x hx
    obtain ⟨i, hi, rfl⟩ := List.mem_iff_getElem.1 hx
    have := h i hi
    rw [Int.toNat_natCast, List.getD_eq_getElem?_getD, List.getElem?_eq_getElem hi] at this
    exact cpyL_of this
  have hi' : ∀ i : Nat, i < l.length → CopyL (l.getD (i : Int).toNat []) (cpyL (l.getD i [])) := by
    intro i hi
    have e := hx _ (rdl hi)
    rwa [Int.toNat_natCast] at e ⊢
  refine ⟨?_, by simpa using hl, fun t ht => ?_, ?_⟩
  · unfold laws_toStmtSS.f
    refine Evs.ite_pos (by omega) (Evs.ite_pos (by omega) ?_)
    rw [Int.toNat_natCast]
    refine map_loop (fun k acc i => laws_toStmtSS.l0 k l acc i) l [] _ cpyL (fun i acc r hi ha hr => ?_) (fun acc ha => ?_)
    · have hc := (hi' i hi).1
      refine Evs.succ (fun k => by simp only [laws_toStmtSS.l0]; rfl) ?_
      refine Evs.ite_pos (by omega) (Evs.ite_pos (by omega) (Evs.bind hc (Evs.ite_pos (by omega) ?_)))
      rw [wrap_succ (by omega), Int.toNat_natCast]
      exact hr
    · refine Evs.succ (fun k => by simp only [laws_toStmtSS.l0]; rfl) ?_
      exact Evs.ite_neg (by omega) (Evs.some_ _)
  · obtain ⟨x, hx1, rfl⟩ := List.mem_map.1 ht
    exact (hx x hx1).sl 3
  · unfold laws_eqStmtSS.f
    refine Evs.ite_pos (by trivial) ?_
    refine all_true_loop (fun k i => laws_eqStmtSS.l0 k (l.map cpyL) (l.map cpyL) i) (l.map cpyL).length (fun i r hi hr => ?_) ?_
    · have hi2 : i < l.length := by simpa using hi
      have e : (l.map cpyL).getD (i : Int).toNat [] = cpyL (l.getD i []) := by
        rw [Int.toNat_natCast, List.getD_eq_getElem?_getD, List.getElem?_map, List.getElem?_eq_getElem hi2, List.getD_eq_getElem?_getD, List.getElem?_eq_getElem hi2]
        rfl
      have q := (hi' i hi2).eq
      rw [← e] at q
      refine Evs.succ (fun k => by simp only [laws_eqStmtSS.l0]; rfl) ?_
      refine Evs.ite_pos (by omega) (Evs.ite_pos (by omega) (Evs.ite_pos (by omega) (Evs.bind q (Evs.ite_pos rfl ?_))))
      rw [wrap_succ (by rw [List.length_map] at hi; omega)]
      exact hr
    · refine Evs.succ (fun k => by simp only [laws_eqStmtSS.l0]; rfl) ?_
      exact Evs.ite_neg (by omega) (Evs.some_ _)
theorem lawLL (l : List (List S24)) (hb : BdLL l) (m : Int) (h0 : 0 ≤ m) (h1 : m ≤ 1048576) : ∃ r : Int, Ev (fun k => laws_szStmtSS.f k l m) r ∧ (r < 0 ∨ (0 ≤ r ∧ r ≤ m ∧ ∃ ts, CopyLL l ts)) := by
  have hl : l.length ≤ 9223372036854775807 := by
    obtain ⟨w, A, h⟩ := hb
    exact h.2.1
  have ew : wrap64 (m - (l.length : Int)) = m - (l.length : Int) := wrap_id (by omega) (by omega)
  unfold laws_szStmtSS.f
  simp only [ew]
  by_cases c : m - (l.length : Int) < 0
  · exact ⟨-1, Evs.ite_pos c (Evs.some_ _), .inl (by omega)⟩
  · obtain ⟨r, hr, e⟩ := szLL_loop l (by omega) hb l.length 0 (m - (l.length : Int)) (by omega) (by omega) (by omega)
    refine ⟨r, Evs.ite_neg c hr, ?_⟩
    rcases e with e | ⟨e0, e1, e2⟩
    · exact .inl e
    · exact .inr ⟨e0, by omega, _, copyLL_of l (by omega) fun j hj => e2 j (by omega) hj⟩
end Go.Proofs.Ytnjaimaaijbacaa.P
