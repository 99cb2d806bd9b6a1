/- A law's statement that is not too large is copied; the copy's lists are not over-long; the copy is equal to itself; no condition but that it can be read from memory. -/
import Derived.Test.YthbflhimmmfonaaLoops
import Derived.Test.YthbflhimmmfonaaFLawsStm
namespace Go.Proofs.Ythbflhimmmfonaa.P
open Go.RowKit Go.Proofs.YthbflhimmmfonaaW.PrintWords Go.Proofs.YthbflhimmmfonaaW.PrintMore
set_option linter.unusedVariables false
set_option linter.unusedSimpArgs false
def smallS : Nat → S104 → Prop
  | 0, _ => True
  | d + 1, s => (s.f4.length ≤ 1048576 ∧ ∀ x ∈ s.f4, smallS d x) ∧ (s.f5.length ≤ 1048576 ∧ ∀ x ∈ s.f5, smallS d x)
def BdS (x : S122) : Prop := ∃ (w : World) (cs : List Value), k122.K w x cs
def BdL (l : List S122) : Prop := ∃ (w : World) (A : Option Addr), Kd.C (k122) w A l.length l
theorem bdL_len {l : List S122} (h : BdL l) : l.length ≤ 9223372036854775807 := by
  obtain ⟨w, A, h⟩ := h
  exact h.2.1
theorem bdL_elem {l : List S122} (h : BdL l) (i : Nat) (hi : i < l.length) : BdS (rd_T122 l (i : Int)) := by
  obtain ⟨w, A, h⟩ := h
  obtain ⟨ad, c, e, _, hK, _⟩ := Kd.C_get h z122 (i : Int) (by omega) (by omega)
  exact ⟨w, c, hK⟩
theorem bdS_lists {x : S122} (h : BdS x) : BdL x.f4 ∧ BdL x.f5 := by
  obtain ⟨w, cs, h⟩ := h
  obtain ⟨A4, c4, A5, c5, _, _, g4, _, g5⟩ := k122_open h
  exact ⟨⟨w, A4, g4⟩, ⟨w, A5, g5⟩⟩
def CopyOf (x : S122) (t : S104) : Prop := Ev (fun k => laws_toStmt.f k x.f0 x.f1 x.f2 x.f3 x.f4 x.f5) (t.f0, t.f1, t.f2, t.f3, t.f4, t.f5) ∧ (∀ d, smallS d t) ∧ Ev (fun k => laws_eqStmt.f k t.f0 t.f1 t.f2 t.f3 t.f4 t.f5 t.f0 t.f1 t.f2 t.f3 t.f4 t.f5) true
def CopyL (l : List S122) (ts : List S104) : Prop := Ev (fun k => laws_toStmtS.f k l) ts ∧ ts.length ≤ 1048576 ∧ (∀ t ∈ ts, ∀ d, smallS d t) ∧ Ev (fun k => laws_eqStmtS.f k ts ts) true
def Goes (x : S122) : Prop := ∀ m : Int, 0 ≤ m → m ≤ 1048576 → ∃ r : Int, Ev (fun k => laws_szStmt.f k x.f0 x.f1 x.f2 x.f3 x.f4 x.f5 m) r ∧ (r < 0 ∨ (0 ≤ r ∧ r ≤ m ∧ ∃ t, CopyOf x t))
theorem sz_loop (l : List S122) (hl : l.length ≤ 1048576) (h : ∀ i : Nat, i < l.length → Goes (rd_T122 l (i : Int))) (d : Nat) : ∀ (i : Nat) (m : Int), i + d = l.length → 0 ≤ m → m ≤ 1048576 →
    ∃ r : Int, Ev (fun k => laws_szStmtS.l0 k l m (i : Int)) r ∧ (r < 0 ∨ (0 ≤ r ∧ r ≤ m ∧ ∀ j : Nat, i ≤ j → j < l.length → ∃ t, CopyOf (rd_T122 l (j : Int)) t)) := by
  induction d with
  | zero =>
    intro i m hi h0 h1
    refine ⟨m, ?_, .inr ⟨h0, Int.le_refl _, fun j h1 h2 => absurd h2 (by omega)⟩⟩
    refine Evs.succ (fun k => by simp only [laws_szStmtS.l0]; rfl) ?_
    exact Evs.ite_neg (by omega) (Evs.some_ _)
  | succ d ih =>
    intro i m hi h0 h1
    obtain ⟨r, hr, c⟩ := h i (by omega) m h0 h1
    rcases c with c | ⟨c0, c1, c2⟩
    · refine ⟨-1, ?_, .inl (by omega)⟩
      refine Evs.succ (fun k => by simp only [laws_szStmtS.l0]; rfl) ?_
      exact Evs.ite_pos (by omega) (Evs.ite_pos (by omega) (Evs.bind hr (Evs.ite_pos c (Evs.some_ _))))
    · obtain ⟨q, hq, e⟩ := ih (i + 1) r (by omega) c0 (by omega)
      refine ⟨q, ?_, ?_⟩
      · refine Evs.succ (fun k => by simp only [laws_szStmtS.l0]; rfl) ?_
        refine Evs.ite_pos (by omega) (Evs.ite_pos (by omega) (Evs.bind hr (Evs.ite_neg (by omega) ?_)))
        rw [wrap_succ (by omega)]
        exact hq
      · rcases e with e | ⟨e0, e1, e2⟩
        · exact .inl e
        · refine .inr ⟨e0, by omega, fun j h1 h2 => ?_⟩
          by_cases hj : j = i
          · rw [hj]
            exact c2
          · exact e2 j (by omega) h2
open Classical in
noncomputable def cpy (x : S122) : S104 := if h : ∃ t, CopyOf x t then h.choose else z104
theorem cpy_of {x : S122} (h : ∃ t, CopyOf x t) : CopyOf x (cpy x) := by
  unfold cpy
  rw [dif_pos h]
  exact h.choose_spec
theorem copyL_of (l : List S122) (hl : l.length ≤ 1048576) (h : ∀ j : Nat, j < l.length → ∃ t, CopyOf (rd_T122 l (j : Int)) t) : CopyL l (l.map cpy) := by
  have hx : ∀ x ∈ l, CopyOf x (cpy x) := by
    intro x hx
    obtain ⟨i, hi, rfl⟩ := List.mem_iff_getElem.1 hx
    have := h i hi
    unfold rd_T122 at this
    rw [Int.toNat_natCast, List.getD_eq_getElem?_getD, List.getElem?_eq_getElem hi] at this
    exact cpy_of this
  have hi' : ∀ i : Nat, i < l.length → CopyOf (rd_T122 l (i : Int)) (cpy (l.getD i z122)) := by
    intro i hi
    have e : rd_T122 l (i : Int) = l.getD i z122 := by unfold rd_T122; rw [Int.toNat_natCast]
    rw [e]
    refine hx _ ?_
    rw [List.getD_eq_getElem?_getD, List.getElem?_eq_getElem hi]
    exact List.getElem_mem hi
  refine ⟨?_, by simpa using hl, fun t ht d => ?_, ?_⟩
  · refine Evs.succ (fun k => by simp only [laws_toStmtS.f]; rfl) ?_
    refine Evs.ite_pos (by omega) (Evs.ite_pos (by omega) ?_)
    rw [Int.toNat_natCast]
    refine map_loop (fun k acc i => laws_toStmtS.l0 k l acc i) l z122 _ cpy (fun i acc r hi ha hr => ?_) (fun acc ha => ?_)
    · have hc := (hi' i hi).1
      revert hr
      generalize cpy (l.getD i z122) = t at hc ⊢
      obtain ⟨b0, b1, b2, b3, b4, b5⟩ := t
      intro hr
      refine Evs.succ (fun k => by simp only [laws_toStmtS.l0]; rfl) ?_
      refine Evs.ite_pos (by omega) (Evs.ite_pos (by omega) (Evs.bind hc (Evs.ite_pos (by omega) ?_)))
      rw [wrap_succ (by omega), Int.toNat_natCast]
      exact hr
    · refine Evs.succ (fun k => by simp only [laws_toStmtS.l0]; rfl) ?_
      exact Evs.ite_neg (by omega) (Evs.some_ _)
  · obtain ⟨x, hx1, rfl⟩ := List.mem_map.1 ht
    exact (hx x hx1).2.1 d
  · refine Evs.succ (fun k => by simp only [laws_eqStmtS.f]; rfl) ?_
    refine Evs.ite_pos (by trivial) ?_
    refine all_true_loop (fun k i => laws_eqStmtS.l0 k (l.map cpy) (l.map cpy) i) (l.map cpy).length (fun i r hi hr => ?_) ?_
    · have hi2 : i < l.length := by simpa using hi
      have e : rd_T104 (l.map cpy) (i : Int) = cpy (l.getD i z122) := by
        unfold rd_T104
        rw [Int.toNat_natCast, List.getD_eq_getElem?_getD, List.getElem?_map, List.getElem?_eq_getElem hi2, List.getD_eq_getElem?_getD, List.getElem?_eq_getElem hi2]
        rfl
      refine Evs.succ (fun k => by simp only [laws_eqStmtS.l0, e]; rfl) ?_
      refine Evs.ite_pos (by omega) (Evs.ite_pos (by omega) (Evs.ite_pos (by omega) (Evs.bind (hi' i hi2).2.2 (Evs.ite_pos rfl ?_))))
      rw [wrap_succ (by rw [List.length_map] at hi; omega)]
      exact hr
    · refine Evs.succ (fun k => by simp only [laws_eqStmtS.l0]; rfl) ?_
      exact Evs.ite_neg (by omega) (Evs.some_ _)
theorem szL (l : List S122) (hb : BdL l) (h : ∀ i : Nat, i < l.length → Goes (rd_T122 l (i : Int))) (m : Int) (h0 : 0 ≤ m) (h1 : m ≤ 1048576) : ∃ r : Int, Ev (fun k => laws_szStmtS.f k l m) r ∧ (r < 0 ∨ (0 ≤ r ∧ r ≤ m ∧ ∃ ts, CopyL l ts)) := by
  have hl := bdL_len hb
  have ew : wrap64 (m - (l.length : Int)) = m - (l.length : Int) := wrap_id (by omega) (by omega)
  by_cases c : m - (l.length : Int) < 0
  · refine ⟨-1, ?_, .inl (by omega)⟩
    refine Evs.succ (fun k => by simp only [laws_szStmtS.f, ew]; rfl) ?_
    exact Evs.ite_pos c (Evs.some_ _)
  · obtain ⟨r, hr, e⟩ := sz_loop l (by omega) h l.length 0 (m - (l.length : Int)) (by omega) (by omega) (by omega)
    refine ⟨r, ?_, ?_⟩
    · refine Evs.succ (fun k => by simp only [laws_szStmtS.f, ew]; rfl) ?_
      exact Evs.ite_neg c hr
    · rcases e with e | ⟨e0, e1, e2⟩
      · exact .inl e
      · exact .inr ⟨e0, by omega, _, copyL_of l (by omega) fun j hj => e2 j (by omega) hj⟩
theorem rd_sizeOf {l : List S122} {i : Nat} (h : i < l.length) : SizeOf.sizeOf (rd_T122 l (i : Int)) < SizeOf.sizeOf l := by
  unfold rd_T122
  rw [Int.toNat_natCast, List.getD_eq_getElem?_getD, List.getElem?_eq_getElem h]
  exact List.sizeOf_lt_of_mem (List.getElem_mem h)
theorem goes_all : ∀ (n : Nat) (x : S122), SizeOf.sizeOf x ≤ n → BdL x.f4 → BdL x.f5 → Goes x
  | 0, ⟨a0, a1, a2, a3, l4, l5⟩, hn, _, _ => by simp at hn
  | n + 1, ⟨a0, a1, a2, a3, l4, l5⟩, hn, b4, b5 => by
    have b4 : BdL l4 := b4
    have b5 : BdL l5 := b5
    have z : SizeOf.sizeOf l4 + SizeOf.sizeOf l5 ≤ n := by simp at hn; omega
    have g4 : ∀ i : Nat, i < l4.length → Goes (rd_T122 l4 (i : Int)) := fun i hi => goes_all n _ (by have := rd_sizeOf hi; omega) (bdS_lists (bdL_elem b4 i hi)).1 (bdS_lists (bdL_elem b4 i hi)).2
    have g5 : ∀ i : Nat, i < l5.length → Goes (rd_T122 l5 (i : Int)) := fun i hi => goes_all n _ (by have := rd_sizeOf hi; omega) (bdS_lists (bdL_elem b5 i hi)).1 (bdS_lists (bdL_elem b5 i hi)).2
    intro m h0 h1
    obtain ⟨r, hr, c⟩ := szL l4 b4 g4 m h0 h1
    rcases c with c | ⟨c0, c1, ts4, c2⟩
    · refine ⟨-1, ?_, .inl (by omega)⟩
      refine Evs.succ (fun k => by simp only [laws_szStmt.f]; rfl) ?_
      exact Evs.bind hr (Evs.ite_pos c (Evs.some_ _))
    obtain ⟨q, hq, e⟩ := szL l5 b5 g5 r c0 (by omega)
    rcases e with e | ⟨e0, e1, ts5, e2⟩
    · refine ⟨-1, ?_, .inl (by omega)⟩
      refine Evs.succ (fun k => by simp only [laws_szStmt.f]; rfl) ?_
      exact Evs.bind hr (Evs.ite_neg (by omega) (Evs.bind hq (Evs.ite_pos e (Evs.some_ _))))
    refine ⟨q, ?_, .inr ⟨e0, by omega, ⟨a0, a1, a2, a3, ts4, ts5⟩, ?_, fun d => ?_, ?_⟩⟩
    · refine Evs.succ (fun k => by simp only [laws_szStmt.f]; rfl) ?_
      exact Evs.bind hr (Evs.ite_neg (by omega) (Evs.bind hq (Evs.ite_neg (by omega) (Evs.some_ _))))
    · refine Evs.succ (fun k => by simp only [laws_toStmt.f]; rfl) ?_
      exact Evs.bind c2.1 (Evs.bind e2.1 (Evs.some_ _))
    · cases d with
      | zero => trivial
      | succ d => exact ⟨⟨c2.2.1, fun t ht => c2.2.2.1 t ht d⟩, e2.2.1, fun t ht => e2.2.2.1 t ht d⟩
    · refine Evs.succ (fun k => by simp only [laws_eqStmt.f]; rfl) ?_
      exact Evs.ite_pos (by trivial) (Evs.ite_pos (by trivial) (Evs.ite_pos (by trivial) (Evs.ite_pos (by trivial) (Evs.bind c2.2.2.2 (Evs.ite_pos rfl (Evs.bind e2.2.2.2 (Evs.ite_pos rfl (Evs.some_ _))))))))
theorem lawL (l : List S122) (hb : BdL l) (m : Int) (h0 : 0 ≤ m) (h1 : m ≤ 1048576) : ∃ r : Int, Ev (fun k => laws_szStmtS.f k l m) r ∧ (r < 0 ∨ (0 ≤ r ∧ r ≤ m ∧ ∃ ts, CopyL l ts)) :=
  szL l hb (fun i hi => goes_all _ _ (Nat.le_refl _) (bdS_lists (bdL_elem hb i hi)).1 (bdS_lists (bdL_elem hb i hi)).2) m h0 h1
theorem CopyL.eq {l : List S122} {ts : List S104} (c : CopyL l ts) : Ev (fun k => laws_eqStmtS.f k ts ts) true := c.2.2.2
end Go.Proofs.Ythbflhimmmfonaa.P
