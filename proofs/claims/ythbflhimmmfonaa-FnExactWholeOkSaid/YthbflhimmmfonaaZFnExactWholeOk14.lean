/- Parts of the proof of FnExactWholeOk: plain Lean functions of Go functions, and that the calls come to what they say; no condition beyond those that each theorem names. -/
import Derived.Test.YthbflhimmmfonaaZFnExactWholeOk13
import Derived.Test.YthbflhimmmfonaaZFnExactWholeOk10
import Derived.Test.YthbflhimmmfonaaZFnExactWholeOk8
import Derived.Test.YthbflhimmmfonaaZFnExactWholeOk7
import Derived.Test.YthbflhimmmfonaaZFnExactWholeOk12
import Derived.Test.YthbflhimmmfonaaZFnExactWholeOk5
namespace Go.Proofs.Ythbflhimmmfonaa.P
open Go.RowKit Go.Proofs.YthbflhimmmfonaaW.PrintWords Go.Proofs.YthbflhimmmfonaaW.PrintMore
set_option linter.unusedVariables false
set_option linter.unusedSimpArgs false
def SL (d : Nat) (l : List S104) : Prop := l.length ≤ 1048576 ∧ ∀ x ∈ l, smallS d x
theorem SL.kids {d : Nat} {l : List S104} (h : SL (d + 1) l) {x : S104} (hx : x ∈ l) : SL d x.f4 ∧ SL d x.f5 := h.2 x hx
def dep : Nat → List S104 → Prop
  | 0, l => l = []
  | d + 1, l => ∀ x ∈ l, dep d x.f4 ∧ dep d x.f5
def cntL : Nat → List S104 → Nat
  | 0, _ => 0
  | d + 1, l => (l.map fun x => 1 + cntL d x.f4 + cntL d x.f5).sum
def flatL : Nat → List S104 → Int → List I5
  | 0, _, _ => []
  | d + 1, l, rm => l.flatMap fun x => (x.f0, x.f1, x.f2, x.f3, rm) :: (flatL d x.f4 (innR x rm) ++ flatL d x.f5 (innR x rm))
theorem flat_len : ∀ (d : Nat) (l : List S104) (rm : Int), (flatL d l rm).length = cntL d l
  | 0, _, _ => rfl
  | d + 1, l, rm => by
    unfold flatL cntL
    rw [List.length_flatMap]
    congr 1
    refine List.map_congr_left fun x _ => ?_
    simp only [List.length_cons, List.length_append, flat_len d]
    omega
theorem all_ev : ∀ (d : Nat) (l : List S104) (rm : Int), dep d l → Ev (fun k => allK k l rm) (flatL d l rm)
  | 0, l, rm, h => by
    obtain rfl : l = [] := h
    exact Evs.succ (fun k => rfl) (Evs.some_ _)
  | d + 1, l, rm, h => by
    refine Evs.succ (fun k => rfl) ?_
    show Ev (fun k => allL (allT (allK k)) rm l) (flatL (d + 1) l rm)
    have h' : ∀ x ∈ l, dep d x.f4 ∧ dep d x.f5 := h
    clear h
    unfold flatL
    induction l with
    | nil => exact Evs.some_ _
    | cons x t ih =>
      have hx := h' x (List.mem_cons_self ..)
      rw [List.flatMap_cons]
      exact Evs.bind (Evs.bind (all_ev d x.f4 (innR x rm) hx.1) (Evs.bind (all_ev d x.f5 (innR x rm) hx.2) (Evs.some_ _))) (Evs.bind (ih fun y hy => h' y (List.mem_cons_of_mem _ hy)) (Evs.some_ _))
theorem okS_kids2 {d : Nat} {t : S104} {rm : Int} (h : okS (d + 1) t rm = true) : ∃ m : Int, (∀ x ∈ t.f4, okS d x m = true) ∧ (∀ x ∈ t.f5, okS d x m = true) := by
  rw [okS_succ] at h
  by_cases h6 : t.f0 = 6
  · rw [if_pos h6] at h
    simp only [Bool.and_eq_true, List.all_eq_true] at h
    exact ⟨rm, h.2.2.2.1, h.2.2.2.2⟩
  rw [if_neg h6] at h
  by_cases h5 : t.f5.length = 0
  · have n5 := List.eq_nil_of_length_eq_zero h5
    rw [if_pos h5] at h
    rw [n5]
    by_cases h7 : t.f0 = 7
    · rw [if_pos h7] at h
      simp only [Bool.and_eq_true, List.all_eq_true] at h
      exact ⟨rm, h.2.2.2, fun _ h => by cases h⟩
    rw [if_neg h7] at h
    by_cases h8 : t.f0 = 8
    · rw [if_pos h8] at h
      simp only [Bool.and_eq_true, List.all_eq_true, decide_eq_true_eq] at h
      exact ⟨t.f1, h.2.2.2.2, fun _ h => by cases h⟩
    rw [if_neg h8] at h
    simp only [Bool.and_eq_true, decide_eq_true_eq] at h
    rw [List.eq_nil_of_length_eq_zero h.1]
    exact ⟨rm, (fun _ h => by cases h), (fun _ h => by cases h)⟩
  · rw [if_neg h5] at h
    cases h
theorem dep_of : ∀ (d : Nat) (l : List S104) (rm : Int), (∀ x ∈ l, okS d x rm = true) → dep d l
  | 0, [], _, _ => rfl
  | 0, x :: t, rm, h => by cases h x (List.mem_cons_self ..)
  | d + 1, l, rm, h => fun x hx => by
    obtain ⟨m, h4, h5⟩ := okS_kids2 (h x hx)
    exact ⟨dep_of d x.f4 m h4, dep_of d x.f5 m h5⟩
theorem wrap_l (a b : Int) : wrap64 (wrap64 a + b) = wrap64 (a + b) := by unfold wrap64; omega
theorem wrap_r (a b : Int) : wrap64 (a + wrap64 b) = wrap64 (a + b) := by unfold wrap64; omega
theorem many_loop (d : Nat) (l : List S104) (hl : l.length ≤ 1048576) (hd : d ≤ 1000) (h : ∀ x ∈ l, Ev (fun k => spec_l2Many.f k x.f4 (d : Int)) (wrap64 (cntL d x.f4)) ∧ Ev (fun k => spec_l2Many.f k x.f5 (d : Int)) (wrap64 (cntL d x.f5))) (e : Nat) : ∀ (i n : Nat), i + e = l.length →
    Ev (fun k => spec_l2Many.l0 k l ((d + 1 : Nat) : Int) (wrap64 (n : Int)) (i : Int)) (wrap64 ((n + ((l.drop i).map fun x => 1 + cntL d x.f4 + cntL d x.f5).sum : Nat) : Int)) := by
  have ew : wrap64 (((d + 1 : Nat) : Int) - 1) = (d : Int) := by rw [wrap_id (by omega) (by omega)]; omega
  induction e with
  | zero =>
    intro i n hi
    rw [List.drop_of_length_le (by omega)]
    refine Evs.succ (fun k => by simp only [spec_l2Many.l0]; rfl) ?_
    refine Evs.ite_neg (by omega) (Evs.succ (fun k => by simp only [spec_l2Many.j1]; rfl) (Evs.ite_neg (by simp) ?_))
    simpa using Evs.some_ _
  | succ e ih =>
    intro i n hi
    have hlt : i < l.length := by omega
    obtain ⟨h4, h5⟩ := h _ (rd_mem hlt)
    rw [drop_rd l hlt]
    rw [List.map_cons, List.sum_cons]
    refine Evs.succ (fun k => by simp only [spec_l2Many.l0]; rfl) ?_
    refine Evs.ite_pos (by omega) ?_
    rw [decide_eq_true (show ((d + 1 : Nat) : Int) > 0 by omega)]
    refine Evs.succ (fun k => by simp only [spec_l2Many.j1, ew]; rfl) ?_
    refine Evs.ite_pos (by trivial) (Evs.ite_pos (by omega) (Evs.ite_pos (by omega) (Evs.bind h4 (Evs.bind h5 ?_))))
    rw [wrap_succ (by omega)]
    have q := ih (i + 1) (n + (1 + cntL d (rd_T104 l (i : Int)).f4 + cntL d (rd_T104 l (i : Int)).f5)) (by omega)
    have e1 : wrap64 (wrap64 (wrap64 (wrap64 (n : Int) + 1) + wrap64 (cntL d (rd_T104 l (i : Int)).f4)) + wrap64 (cntL d (rd_T104 l (i : Int)).f5)) = wrap64 ((n + (1 + cntL d (rd_T104 l (i : Int)).f4 + cntL d (rd_T104 l (i : Int)).f5) : Nat) : Int) := by
      generalize cntL d (rd_T104 l (i : Int)).f4 = a
      generalize cntL d (rd_T104 l (i : Int)).f5 = b
      have s1 : wrap64 (wrap64 (n : Int) + 1) = wrap64 ((n : Int) + 1) := wrap_l _ _
      have s2 : wrap64 (wrap64 ((n : Int) + 1) + wrap64 (a : Int)) = wrap64 ((n : Int) + 1 + a) := (wrap_l _ _).trans (wrap_r _ _)
      have s3 : wrap64 (wrap64 ((n : Int) + 1 + a) + wrap64 (b : Int)) = wrap64 ((n : Int) + 1 + a + b) := (wrap_l _ _).trans (wrap_r _ _)
      rw [s1, s2, s3]
      congr 1
      push_cast
      omega
    rw [e1, show n + (1 + cntL d (rd_T104 l (i : Int)).f4 + cntL d (rd_T104 l (i : Int)).f5 + (List.map (fun x => 1 + cntL d x.f4 + cntL d x.f5) (List.drop (i + 1) l)).sum) = n + (1 + cntL d (rd_T104 l (i : Int)).f4 + cntL d (rd_T104 l (i : Int)).f5) + (List.map (fun x => 1 + cntL d x.f4 + cntL d x.f5) (List.drop (i + 1) l)).sum by omega]
    exact q
theorem many_ev : ∀ (d : Nat), d ≤ 1000 → ∀ l, SL d l → Ev (fun k => spec_l2Many.f k l (d : Int)) (wrap64 (cntL d l))
  | 0, _, l, h => by
    refine Evs.succ (fun k => by simp only [spec_l2Many.f]; rfl) (Evs.succ (fun k => by simp only [spec_l2Many.l0]; rfl) ?_)
    have e : wrap64 ((cntL 0 l : Nat) : Int) = 0 := by simp [cntL, wrap64]
    rw [e]
    have j : Ev (fun k => spec_l2Many.j1 k l ((0 : Nat) : Int) 0 0 false) 0 := Evs.succ (fun k => by simp only [spec_l2Many.j1]; rfl) (Evs.ite_neg (by simp) (Evs.some_ _))
    by_cases c : (0 : Int) < (l.length : Int)
    · exact Evs.ite_pos c j
    · exact Evs.ite_neg c j
  | d + 1, hd, l, h => by
    refine Evs.succ (fun k => by simp only [spec_l2Many.f]; rfl) ?_
    have q := many_loop d l h.1 (by omega) (fun x hx => ⟨many_ev d (by omega) x.f4 (h.kids hx).1, many_ev d (by omega) x.f5 (h.kids hx).2⟩) l.length 0 0 (by omega)
    have e : wrap64 ((0 : Nat) : Int) = 0 := by simp [wrap64]
    rw [e] at q
    simpa [cntL] using q
def okList (l : List S104) : Bool := l.all fun x => okS 3 x (-1)
def okLst (l : List S104) : Bool := okList l && decide (wrap64 (cntL 3 l) ≤ 14)
def manyV (l : List S104) : Int := if okLst l = true then wrap64 (cntL 3 l) else 0
theorem dep3 {l : List S104} (h : okList l = true) : dep 3 l := dep_of 3 l (-1) (by unfold okList at h; rwa [List.all_eq_true] at h)
theorem specList3 {l : List S104} (h : SL 3 l) : Ev (fun k => spec_l2List.f k l 3 (-1)) (okList l) := by
  have e := specList_of 3 (by omega) (specStmt_ev 3 (by omega)) l (-1) (by omega) h.1 h.2
  rwa [show ((3 : Nat) : Int) = 3 from rfl] at e
theorem many3 {l : List S104} (h : SL 3 l) : Ev (fun k => spec_l2Many.f k l 3) (wrap64 (cntL 3 l)) := by
  have e := many_ev 3 (by omega) l h
  rwa [show ((3 : Nat) : Int) = 3 from rfl] at e
theorem specOk {l : List S104} (h : SL 3 l) : Ev (fun k => spec_StmtsOk.f k l) (okLst l) := by
  unfold spec_StmtsOk.f okLst
  exact Evs.bind (specList3 h) (ev_band fun _ => Evs.bind (many3 h) (Evs.some_ _))
theorem implList3 (l : List S104) : Ev (fun k => impl_listOk.f k l 3 (-1)) (okList l) := by
  refine implList_of 3 (-1) stmtOkS 3 l fun x _ => ?_
  have e := implStmt_ev 3 (by omega) x (-1) (by omega)
  rwa [show ((3 : Nat) : Int) = 3 from rfl] at e
theorem implOk (l : List S104) : Ev (fun k => impl_StmtsOk.f k l) (okLst l) := by
  unfold impl_StmtsOk.f okLst
  refine Evs.bind (implList3 l) (ev_band fun h => ?_)
  refine Evs.bind (all_ev 3 l (-1) (dep3 h)) ?_
  rw [flat_len]
  exact Evs.some_ _
theorem okLst_list {l : List S104} (h : okLst l = true) : okList l = true := by
  unfold okLst at h
  rw [Bool.and_eq_true] at h
  exact h.1
def BdS (x : S122) : Prop := ∃ (w : World) (cs : List Value), k122.K w x cs
def BdL (l : List S122) : Prop := ∃ (w : World) (A : Option Addr), Kd.C (k122) w A l.length l
theorem bdL_len {l : List S122} (h : BdL l) : l.length ≤ 9223372036854775807 := by
  obtain ⟨w, A, h⟩ := h
  exact h.2.1
theorem bdL_elem {l : List S122} (h : BdL l) (i : Nat) (hi : i < l.length) : BdS (rd_T122 l (i : Int)) := by
  obtain ⟨w, A, h⟩ := h
  obtain ⟨ad, c, e, _, hK, _⟩ := Kd.C_get h z122 (i : Int) (by omega) (by omega)
  exact ⟨w, c, hK⟩
theorem bdS_lists {x : S122} (h : BdS x) : BdL x.f4 ∧ BdL x.f5 := by
  obtain ⟨w, cs, h⟩ := h
  obtain ⟨A4, c4, A5, c5, _, _, g4, _, g5⟩ := k122_open h
  exact ⟨⟨w, A4, g4⟩, ⟨w, A5, g5⟩⟩
def CopyOf (x : S122) (t : S104) : Prop := Ev (fun k => laws_toStmt.f k x.f0 x.f1 x.f2 x.f3 x.f4 x.f5) (t.f0, t.f1, t.f2, t.f3, t.f4, t.f5) ∧ (∀ d, smallS d t) ∧ Ev (fun k => laws_eqStmt.f k t.f0 t.f1 t.f2 t.f3 t.f4 t.f5 t.f0 t.f1 t.f2 t.f3 t.f4 t.f5) true
def CopyL (l : List S122) (ts : List S104) : Prop := Ev (fun k => laws_toStmtS.f k l) ts ∧ ts.length ≤ 1048576 ∧ (∀ t ∈ ts, ∀ d, smallS d t) ∧ Ev (fun k => laws_eqStmtS.f k ts ts) true
def Goes (x : S122) : Prop := ∀ m : Int, 0 ≤ m → m ≤ 1048576 → ∃ r : Int, Ev (fun k => laws_szStmt.f k x.f0 x.f1 x.f2 x.f3 x.f4 x.f5 m) r ∧ (r < 0 ∨ (0 ≤ r ∧ r ≤ m ∧ ∃ t, CopyOf x t))
theorem sz_loop (l : List S122) (hl : l.length ≤ 1048576) (h : ∀ i : Nat, i < l.length → Goes (rd_T122 l (i : Int))) (d : Nat) : ∀ (i : Nat) (m : Int), i + d = l.length → 0 ≤ m → m ≤ 1048576 →
    ∃ r : Int, Ev (fun k => laws_szStmtS.l0 k l m (i : Int)) r ∧ (r < 0 ∨ (0 ≤ r ∧ r ≤ m ∧ ∀ j : Nat, i ≤ j → j < l.length → ∃ t, CopyOf (rd_T122 l (j : Int)) t)) := by
  induction d with
  | zero =>
    intro i m hi h0 h1
    refine ⟨m, ?_, .inr ⟨h0, Int.le_refl _, fun j h1 h2 => absurd h2 (by omega)⟩⟩
    refine Evs.succ (fun k => by simp only [laws_szStmtS.l0]; rfl) ?_
    exact Evs.ite_neg (by omega) (Evs.some_ _)
  | succ d ih =>
    intro i m hi h0 h1
    obtain ⟨r, hr, c⟩ := h i (by omega) m h0 h1
    rcases c with c | ⟨c0, c1, c2⟩
    · refine ⟨-1, ?_, .inl (by omega)⟩
      refine Evs.succ (fun k => by simp only [laws_szStmtS.l0]; rfl) ?_
      exact Evs.ite_pos (by omega) (Evs.ite_pos (by omega) (Evs.bind hr (Evs.ite_pos c (Evs.some_ _))))
    · obtain ⟨q, hq, e⟩ := ih (i + 1) r (by omega) c0 (by omega)
      refine ⟨q, ?_, ?_⟩
      · refine Evs.succ (fun k => by simp only [laws_szStmtS.l0]; rfl) ?_
        refine Evs.ite_pos (by omega) (Evs.ite_pos (by omega) (Evs.bind hr (Evs.ite_neg (by omega) ?_)))
        rw [wrap_succ (by omega)]
        exact hq
      · rcases e with e | ⟨e0, e1, e2⟩
        · exact .inl e
        · refine .inr ⟨e0, by omega, fun j h1 h2 => ?_⟩
          by_cases hj : j = i
          · rw [hj]
            exact c2
          · exact e2 j (by omega) h2
open Classical in
noncomputable def cpy (x : S122) : S104 := if h : ∃ t, CopyOf x t then h.choose else z104
theorem cpy_of {x : S122} (h : ∃ t, CopyOf x t) : CopyOf x (cpy x) := by
  unfold cpy
  rw [dif_pos h]
  exact h.choose_spec
theorem copyL_of (l : List S122) (hl : l.length ≤ 1048576) (h : ∀ j : Nat, j < l.length → ∃ t, CopyOf (rd_T122 l (j : Int)) t) : CopyL l (l.map cpy) := by
  have hx : ∀ x ∈ l, CopyOf x (cpy x) := by
    intro x hx
    obtain ⟨i, hi, rfl⟩ := List.mem_iff_getElem.1 hx
    have := h i hi
    unfold rd_T122 at this
    rw [Int.toNat_natCast, List.getD_eq_getElem?_getD, List.getElem?_eq_getElem hi] at this
    exact cpy_of this
  have hi' : ∀ i : Nat, i < l.length → CopyOf (rd_T122 l (i : Int)) (cpy (l.getD i z122)) := by
    intro i hi
    have e : rd_T122 l (i : Int) = l.getD i z122 := by unfold rd_T122; rw [Int.toNat_natCast]
    rw [e]
    refine hx _ ?_
    rw [List.getD_eq_getElem?_getD, List.getElem?_eq_getElem hi]
    exact List.getElem_mem hi
  refine ⟨?_, by simpa using hl, fun t ht d => ?_, ?_⟩
  · refine Evs.succ (fun k => by simp only [laws_toStmtS.f]; rfl) ?_
    refine Evs.ite_pos (by omega) (Evs.ite_pos (by omega) ?_)
    rw [Int.toNat_natCast]
    refine map_loop (fun k acc i => laws_toStmtS.l0 k l acc i) l z122 _ cpy (fun i acc r hi ha hr => ?_) (fun acc ha => ?_)
    · have hc := (hi' i hi).1
      revert hr
      generalize cpy (l.getD i z122) = t at hc ⊢
      obtain ⟨b0, b1, b2, b3, b4, b5⟩ := t
      intro hr
      refine Evs.succ (fun k => by simp only [laws_toStmtS.l0]; rfl) ?_
      refine Evs.ite_pos (by omega) (Evs.ite_pos (by omega) (Evs.bind hc (Evs.ite_pos (by omega) ?_)))
      rw [wrap_succ (by omega), Int.toNat_natCast]
      exact hr
    · refine Evs.succ (fun k => by simp only [laws_toStmtS.l0]; rfl) ?_
      exact Evs.ite_neg (by omega) (Evs.some_ _)
  · obtain ⟨x, hx1, rfl⟩ := List.mem_map.1 ht
    exact (hx x hx1).2.1 d
  · refine Evs.succ (fun k => by simp only [laws_eqStmtS.f]; rfl) ?_
    refine Evs.ite_pos (by trivial) ?_
    refine all_true_loop (fun k i => laws_eqStmtS.l0 k (l.map cpy) (l.map cpy) i) (l.map cpy).length (fun i r hi hr => ?_) ?_
    · have hi2 : i < l.length := by simpa using hi
      have e : rd_T104 (l.map cpy) (i : Int) = cpy (l.getD i z122) := by
        unfold rd_T104
        rw [Int.toNat_natCast, List.getD_eq_getElem?_getD, List.getElem?_map, List.getElem?_eq_getElem hi2, List.getD_eq_getElem?_getD, List.getElem?_eq_getElem hi2]
        rfl
      refine Evs.succ (fun k => by simp only [laws_eqStmtS.l0, e]; rfl) ?_
      refine Evs.ite_pos (by omega) (Evs.ite_pos (by omega) (Evs.ite_pos (by omega) (Evs.bind (hi' i hi2).2.2 (Evs.ite_pos rfl ?_))))
      rw [wrap_succ (by rw [List.length_map] at hi; omega)]
      exact hr
    · refine Evs.succ (fun k => by simp only [laws_eqStmtS.l0]; rfl) ?_
      exact Evs.ite_neg (by omega) (Evs.some_ _)
theorem szL (l : List S122) (hb : BdL l) (h : ∀ i : Nat, i < l.length → Goes (rd_T122 l (i : Int))) (m : Int) (h0 : 0 ≤ m) (h1 : m ≤ 1048576) : ∃ r : Int, Ev (fun k => laws_szStmtS.f k l m) r ∧ (r < 0 ∨ (0 ≤ r ∧ r ≤ m ∧ ∃ ts, CopyL l ts)) := by
  have hl := bdL_len hb
  have ew : wrap64 (m - (l.length : Int)) = m - (l.length : Int) := wrap_id (by omega) (by omega)
  by_cases c : m - (l.length : Int) < 0
  · refine ⟨-1, ?_, .inl (by omega)⟩
    refine Evs.succ (fun k => by simp only [laws_szStmtS.f, ew]; rfl) ?_
    exact Evs.ite_pos c (Evs.some_ _)
  · obtain ⟨r, hr, e⟩ := sz_loop l (by omega) h l.length 0 (m - (l.length : Int)) (by omega) (by omega) (by omega)
    refine ⟨r, ?_, ?_⟩
    · refine Evs.succ (fun k => by simp only [laws_szStmtS.f, ew]; rfl) ?_
      exact Evs.ite_neg c hr
    · rcases e with e | ⟨e0, e1, e2⟩
      · exact .inl e
      · exact .inr ⟨e0, by omega, _, copyL_of l (by omega) fun j hj => e2 j (by omega) hj⟩
theorem rd_sizeOf {l : List S122} {i : Nat} (h : i < l.length) : SizeOf.sizeOf (rd_T122 l (i : Int)) < SizeOf.sizeOf l := by
  unfold rd_T122
  rw [Int.toNat_natCast, List.getD_eq_getElem?_getD, List.getElem?_eq_getElem h]
  exact List.sizeOf_lt_of_mem (List.getElem_mem h)
theorem goes_all : ∀ (n : Nat) (x : S122), SizeOf.sizeOf x ≤ n → BdL x.f4 → BdL x.f5 → Goes x
  | 0, ⟨a0, a1, a2, a3, l4, l5⟩, hn, _, _ => by simp at hn
  | n + 1, ⟨a0, a1, a2, a3, l4, l5⟩, hn, b4, b5 => by
    have b4 : BdL l4 := b4
    have b5 : BdL l5 := b5
    have z : SizeOf.sizeOf l4 + SizeOf.sizeOf l5 ≤ n := by simp at hn; omega
    have g4 : ∀ i : Nat, i < l4.length → Goes (rd_T122 l4 (i : Int)) := fun i hi => goes_all n _ (by have := rd_sizeOf hi; omega) (bdS_lists (bdL_elem b4 i hi)).1 (bdS_lists (bdL_elem b4 i hi)).2
    have g5 : ∀ i : Nat, i < l5.length → Goes (rd_T122 l5 (i : Int)) := fun i hi => goes_all n _ (by have := rd_sizeOf hi; omega) (bdS_lists (bdL_elem b5 i hi)).1 (bdS_lists (bdL_elem b5 i hi)).2
    intro m h0 h1
    obtain ⟨r, hr, c⟩ := szL l4 b4 g4 m h0 h1
    rcases c with c | ⟨c0, c1, ts4, c2⟩
    · refine ⟨-1, ?_, .inl (by omega)⟩
      refine Evs.succ (fun k => by simp only [laws_szStmt.f]; rfl) ?_
      exact Evs.bind hr (Evs.ite_pos c (Evs.some_ _))
    obtain ⟨q, hq, e⟩ := szL l5 b5 g5 r c0 (by omega)
    rcases e with e | ⟨e0, e1, ts5, e2⟩
    · refine ⟨-1, ?_, .inl (by omega)⟩
      refine Evs.succ (fun k => by simp only [laws_szStmt.f]; rfl) ?_
      exact Evs.bind hr (Evs.ite_neg (by omega) (Evs.bind hq (Evs.ite_pos e (Evs.some_ _))))
    refine ⟨q, ?_, .inr ⟨e0, by omega, ⟨a0, a1, a2, a3, ts4, ts5⟩, ?_, fun d => ?_, ?_⟩⟩
    · refine Evs.succ (fun k => by simp only [laws_szStmt.f]; rfl) ?_
      exact Evs.bind hr (Evs.ite_neg (by omega) (Evs.bind hq (Evs.ite_neg (by omega) (Evs.some_ _))))
    · refine Evs.succ (fun k => by simp only [laws_toStmt.f]; rfl) ?_
      exact Evs.bind c2.1 (Evs.bind e2.1 (Evs.some_ _))
    · cases d with
      | zero => trivial
      | succ d => exact ⟨⟨c2.2.1, fun t ht => c2.2.2.1 t ht d⟩, e2.2.1, fun t ht => e2.2.2.1 t ht d⟩
    · refine Evs.succ (fun k => by simp only [laws_eqStmt.f]; rfl) ?_
      exact Evs.ite_pos (by trivial) (Evs.ite_pos (by trivial) (Evs.ite_pos (by trivial) (Evs.ite_pos (by trivial) (Evs.bind c2.2.2.2 (Evs.ite_pos rfl (Evs.bind e2.2.2.2 (Evs.ite_pos rfl (Evs.some_ _))))))))
end Go.Proofs.Ythbflhimmmfonaa.P
namespace Go.Proofs.Ythbflhimmmfonaa.P
open Go.RowKit Go.Proofs.YthbflhimmmfonaaW.PrintWords Go.Proofs.YthbflhimmmfonaaW.PrintMore
set_option linter.unusedVariables false
set_option linter.unusedSimpArgs false
theorem lawL (l : List S122) (hb : BdL l) (m : Int) (h0 : 0 ≤ m) (h1 : m ≤ 1048576) : ∃ r : Int, Ev (fun k => laws_szStmtS.f k l m) r ∧ (r < 0 ∨ (0 ≤ r ∧ r ≤ m ∧ ∃ ts, CopyL l ts)) :=
  szL l hb (fun i hi => goes_all _ _ (Nat.le_refl _) (bdS_lists (bdL_elem hb i hi)).1 (bdS_lists (bdL_elem hb i hi)).2) m h0 h1
theorem CopyL.sl {l : List S122} {ts : List S104} (c : CopyL l ts) (d : Nat) : SL d ts := ⟨c.2.1, fun t ht => c.2.2.1 t ht d⟩
theorem CopyL.eq {l : List S122} {ts : List S104} (c : CopyL l ts) : Ev (fun k => laws_eqStmtS.f k ts ts) true := c.2.2.2
end Go.Proofs.Ythbflhimmmfonaa.P

namespace Go.Proofs.Ythbflhimmmfonaa.P
open Go.RowKit Go.Proofs.YthbflhimmmfonaaW.PrintWords Go.Proofs.YthbflhimmmfonaaW.PrintMore
set_option linter.unusedVariables false
set_option linter.unusedSimpArgs false
def progB (p : List (List S104)) : Bool := p.all okLst && (decide (1 ≤ (p.length : Int)) && decide ((p.length : Int) ≤ 3))
theorem rdl {α : Type} {l : List (List α)} {i : Nat} (h : i < l.length) : l.getD (i : Int).toNat [] ∈ l := by
  rw [Int.toNat_natCast, List.getD_eq_getElem?_getD, List.getElem?_eq_getElem h]
  exact List.getElem_mem h
theorem dropl {α : Type} (l : List (List α)) {i : Nat} (h : i < l.length) : l.drop i = l.getD (i : Int).toNat [] :: l.drop (i + 1) := by
  rw [List.drop_eq_getElem_cons h, Int.toNat_natCast, List.getD_eq_getElem?_getD, List.getElem?_eq_getElem h]
  rfl
theorem specProg {p : List (List S104)} (hl : p.length ≤ 1048576) (h : ∀ l ∈ p, SL 3 l) : Ev (fun k => spec_ProgOk.f k p) (progB p) := by
  unfold spec_ProgOk.f
  have key : ∀ e i : Nat, i + e = p.length → Ev (fun k => spec_ProgOk.l0 k p (i : Int)) ((p.drop i).all okLst && (decide (1 ≤ (p.length : Int)) && decide ((p.length : Int) ≤ 3))) := by
    intro e
    induction e with
    | zero =>
      intro i hi
      rw [List.drop_of_length_le (by omega)]
      refine Evs.succ (fun k => by simp only [spec_ProgOk.l0]; rfl) (Evs.ite_neg (by omega) ?_)
      rw [List.all_nil, Bool.true_and]
      exact ev_and (c := 1 ≤ (p.length : Int)) fun _ => Evs.some_ _
    | succ e ih =>
      intro i hi
      have hlt : i < p.length := by omega
      rw [dropl p hlt, List.all_cons, Bool.and_assoc]
      refine Evs.succ (fun k => by simp only [spec_ProgOk.l0]; rfl) (Evs.ite_pos (by omega) (Evs.ite_pos (by omega) (Evs.bind (specOk (h _ (rdl hlt))) (ev_band fun _ => ?_))))
      rw [wrap_succ (by omega)]
      exact ih (i + 1) (by omega)
  exact key p.length 0 (by omega)
theorem listG_ev : ∀ p : List (List S104), Ev (fun k => listG (impl_StmtsOk.f k) p) (p.all okLst)
  | [] => Evs.some_ _
  | x :: t => by
    rw [List.all_cons]
    exact Evs.bind (implOk x) (ev_band fun _ => listG_ev t)
theorem implProg (p : List (List S104)) : Ev (fun k => impl_ProgOk.f k p) (progB p) := by
  unfold impl_ProgOk.f progB
  rw [Bool.and_comm, Bool.and_assoc]
  exact ev_and (c := 1 ≤ (p.length : Int)) fun _ => ev_and (c := (p.length : Int) ≤ 3) fun _ => listG_ev p
def CopyLL (l : List (List S122)) (ts : List (List S104)) : Prop := Ev (fun k => laws_toStmtSS.f k l) ts ∧ ts.length ≤ 1048576 ∧ (∀ t ∈ ts, SL 3 t) ∧ Ev (fun k => laws_eqStmtSS.f k ts ts) true
def BdLL (l : List (List S122)) : Prop := ∃ (w : World) (A : Option Addr), Kd.C (Kd.slice 122 k122) w A l.length l
theorem bdLL_elem {l : List (List S122)} (h : BdLL l) {i : Nat} (hi : i < l.length) : BdL (l.getD (i : Int).toNat []) := by
  obtain ⟨w, A, h⟩ := h
  obtain ⟨ad, c, e, _, hK, _⟩ := Kd.C_get h ([] : List S122) (i : Int) (by omega) (by omega)
  obtain ⟨A0, c0, _, _, g⟩ := hK
  exact ⟨w, A0, g⟩
open Classical in
noncomputable def cpyL (x : List S122) : List S104 := if h : ∃ t, CopyL x t then h.choose else []
theorem cpyL_of {x : List S122} (h : ∃ t, CopyL x t) : CopyL x (cpyL x) := by
  unfold cpyL
  rw [dif_pos h]
  exact h.choose_spec
theorem szLL_loop (l : List (List S122)) (hl : l.length ≤ 1048576) (hb : BdLL l) (d : Nat) : ∀ (i : Nat) (m : Int), i + d = l.length → 0 ≤ m → m ≤ 1048576 →
    ∃ r : Int, Ev (fun k => laws_szStmtSS.l0 k l m (i : Int)) r ∧ (r < 0 ∨ (0 ≤ r ∧ r ≤ m ∧ ∀ j : Nat, i ≤ j → j < l.length → ∃ t, CopyL (l.getD (j : Int).toNat []) t)) := by
  induction d with
  | zero =>
    intro i m hi h0 h1
    refine ⟨m, ?_, .inr ⟨h0, Int.le_refl _, fun j h1 h2 => absurd h2 (by omega)⟩⟩
    refine Evs.succ (fun k => by simp only [laws_szStmtSS.l0]; rfl) ?_
    exact Evs.ite_neg (by omega) (Evs.some_ _)
  | succ d ih =>
    intro i m hi h0 h1
    obtain ⟨r, hr, c⟩ := lawL _ (bdLL_elem hb (i := i) (by omega)) m h0 h1
    rcases c with c | ⟨c0, c1, c2⟩
    · refine ⟨-1, ?_, .inl (by omega)⟩
      refine Evs.succ (fun k => by simp only [laws_szStmtSS.l0]; rfl) ?_
      exact Evs.ite_pos (by omega) (Evs.ite_pos (by omega) (Evs.bind hr (Evs.ite_pos c (Evs.some_ _))))
    · obtain ⟨q, hq, e⟩ := ih (i + 1) r (by omega) c0 (by omega)
      refine ⟨q, ?_, ?_⟩
      · refine Evs.succ (fun k => by simp only [laws_szStmtSS.l0]; rfl) ?_
        refine Evs.ite_pos (by omega) (Evs.ite_pos (by omega) (Evs.bind hr (Evs.ite_neg (by omega) ?_)))
        rw [wrap_succ (by omega)]
        exact hq
      · rcases e with e | ⟨e0, e1, e2⟩
        · exact .inl e
        · refine .inr ⟨e0, by omega, fun j h1 h2 => ?_⟩
          by_cases hj : j = i
          · rw [hj]
            exact c2
          · exact e2 j (by omega) h2
theorem copyLL_of (l : List (List S122)) (hl : l.length ≤ 1048576) (h : ∀ j : Nat, j < l.length → ∃ t, CopyL (l.getD (j : Int).toNat []) t) : CopyLL l (l.map cpyL) := by
  have hx : ∀ x ∈ l, CopyL x (cpyL x) := by
    intro x hx
    obtain ⟨i, hi, rfl⟩ := List.mem_iff_getElem.1 hx
    have := h i hi
    rw [Int.toNat_natCast, List.getD_eq_getElem?_getD, List.getElem?_eq_getElem hi] at this
    exact cpyL_of this
  have hi' : ∀ i : Nat, i < l.length → CopyL (l.getD (i : Int).toNat []) (cpyL (l.getD i [])) := by
    intro i hi
    have e := hx _ (rdl hi)
    rwa [Int.toNat_natCast] at e ⊢
  refine ⟨?_, by simpa using hl, fun t ht => ?_, ?_⟩
  · unfold laws_toStmtSS.f
    refine Evs.ite_pos (by omega) (Evs.ite_pos (by omega) ?_)
    rw [Int.toNat_natCast]
    refine map_loop (fun k acc i => laws_toStmtSS.l0 k l acc i) l [] _ cpyL (fun i acc r hi ha hr => ?_) (fun acc ha => ?_)
    · have hc := (hi' i hi).1
      refine Evs.succ (fun k => by simp only [laws_toStmtSS.l0]; rfl) ?_
      refine Evs.ite_pos (by omega) (Evs.ite_pos (by omega) (Evs.bind hc (Evs.ite_pos (by omega) ?_)))
      rw [wrap_succ (by omega), Int.toNat_natCast]
      exact hr
    · refine Evs.succ (fun k => by simp only [laws_toStmtSS.l0]; rfl) ?_
      exact Evs.ite_neg (by omega) (Evs.some_ _)
  · obtain ⟨x, hx1, rfl⟩ := List.mem_map.1 ht
    exact (hx x hx1).sl 3
  · unfold laws_eqStmtSS.f
    refine Evs.ite_pos (by trivial) ?_
    refine all_true_loop (fun k i => laws_eqStmtSS.l0 k (l.map cpyL) (l.map cpyL) i) (l.map cpyL).length (fun i r hi hr => ?_) ?_
    · have hi2 : i < l.length := by simpa using hi
      have e : (l.map cpyL).getD (i : Int).toNat [] = cpyL (l.getD i []) := by
        rw [Int.toNat_natCast, List.getD_eq_getElem?_getD, List.getElem?_map, List.getElem?_eq_getElem hi2, List.getD_eq_getElem?_getD, List.getElem?_eq_getElem hi2]
        rfl
      have q := (hi' i hi2).eq
      rw [← e] at q
      refine Evs.succ (fun k => by simp only [laws_eqStmtSS.l0]; rfl) ?_
      refine Evs.ite_pos (by omega) (Evs.ite_pos (by omega) (Evs.ite_pos (by omega) (Evs.bind q (Evs.ite_pos rfl ?_))))
      rw [wrap_succ (by rw [List.length_map] at hi; omega)]
      exact hr
    · refine Evs.succ (fun k => by simp only [laws_eqStmtSS.l0]; rfl) ?_
      exact Evs.ite_neg (by omega) (Evs.some_ _)
theorem lawLL (l : List (List S122)) (hb : BdLL l) (m : Int) (h0 : 0 ≤ m) (h1 : m ≤ 1048576) : ∃ r : Int, Ev (fun k => laws_szStmtSS.f k l m) r ∧ (r < 0 ∨ (0 ≤ r ∧ r ≤ m ∧ ∃ ts, CopyLL l ts)) := by
  have hl : l.length ≤ 9223372036854775807 := by
    obtain ⟨w, A, h⟩ := hb
    exact h.2.1
  have ew : wrap64 (m - (l.length : Int)) = m - (l.length : Int) := wrap_id (by omega) (by omega)
  unfold laws_szStmtSS.f
  simp only [ew]
  by_cases c : m - (l.length : Int) < 0
  · exact ⟨-1, Evs.ite_pos c (Evs.some_ _), .inl (by omega)⟩
  · obtain ⟨r, hr, e⟩ := szLL_loop l (by omega) hb l.length 0 (m - (l.length : Int)) (by omega) (by omega) (by omega)
    refine ⟨r, Evs.ite_neg c hr, ?_⟩
    rcases e with e | ⟨e0, e1, e2⟩
    · exact .inl e
    · exact .inr ⟨e0, by omega, _, copyLL_of l (by omega) fun j hj => e2 j (by omega) hj⟩
end Go.Proofs.Ythbflhimmmfonaa.P

namespace Go.Proofs.Ythbflhimmmfonaa.P
open Go.RowKit Go.Proofs.YthbflhimmmfonaaW.PrintWords Go.Proofs.YthbflhimmmfonaaW.PrintMore
abbrev TSt := S104
def ownV (own : List Int) (x : I5) : Bool :=
  if x.1 = 3 then x.2.2.2.2 == rd own x.2.2.1 else if x.1 = 4 then x.2.2.2.2 == rd own x.2.1 else if x.1 = 9 ∨ x.1 = 10 then x.2.2.2.2 == rd own (3 + x.2.1) else true
def fitI (a0 a1 a2 : Int) : Prop := (a0 = 3 → 0 ≤ a2 ∧ a2 < 3) ∧ (a0 = 4 → 0 ≤ a1 ∧ a1 < 3) ∧ (a0 = 9 ∨ a0 = 10 → 0 ≤ a1 ∧ a1 < 2)
def fitD : Nat → List TSt → Prop
  | 0, _ => True
  | d + 1, l => ∀ x ∈ l, fitI x.f0 x.f1 x.f2 ∧ fitD d x.f4 ∧ fitD d x.f5
def owD (own : List Int) : Nat → List TSt → Int → Bool
  | 0, _, _ => true
  | d + 1, l, rm => l.all fun x => ownV own (x.f0, x.f1, x.f2, x.f3, rm) && (owD own d x.f4 (innR x rm) && owD own d x.f5 (innR x rm))
theorem ownB_V {own : List Int} (h5 : own.length = 5) {x : I5} (h : fitI x.1 x.2.1 x.2.2.1) : ownB x own = some (ownV own x) := by
  obtain ⟨a0, a1, a2, a3, rm⟩ := x
  obtain ⟨p, q, r⟩ := h
  simp only at p q r
  unfold ownB ownV
  simp only [h5]
  by_cases h3 : a0 = 3
  · have := p h3
    rw [if_pos h3, if_pos h3, if_pos (by omega)]
  rw [if_neg h3, if_neg h3]
  by_cases h4 : a0 = 4
  · have := q h4
    rw [if_pos h4, if_pos h4, if_pos (by omega)]
  rw [if_neg h4, if_neg h4]
  by_cases h9 : a0 = 9 ∨ a0 = 10
  · have := r h9
    rw [if_pos h9, if_pos h9, if_pos (by omega)]
  rw [if_neg h9, if_neg h9]
theorem ownL_V {own : List Int} (h5 : own.length = 5) : ∀ {xs : List I5}, (∀ x ∈ xs, fitI x.1 x.2.1 x.2.2.1) → ownL own xs = some (xs.all (ownV own))
  | [], _ => rfl
  | y :: t, h => by
    unfold ownL
    rw [ownB_V h5 (h y (List.mem_cons_self ..)), ownL_V h5 fun x hx => h x (List.mem_cons_of_mem _ hx)]
    rfl
theorem leaf_fit {a0 a1 a2 a3 room : Int} (h : leafOk a0 a1 a2 a3 room = true) : fitI a0 a1 a2 := by
  refine ⟨?_, ?_, ?_⟩
  · rintro rfl
    simp [leafOk, inR] at h
    exact h.2.1
  · rintro rfl
    simp [leafOk, inR] at h
    exact h.1
  · rintro (rfl | rfl)
    · simp [leafOk, inR] at h
      exact h.2.1
    · simp [leafOk, inR] at h
      exact h.1
theorem okS_fit {d : Nat} {s : TSt} {rm : Int} (h : okS (d + 1) s rm = true) : fitI s.f0 s.f1 s.f2 := by
  rw [okS_succ] at h
  by_cases h6 : s.f0 = 6
  · exact ⟨fun e => by omega, fun e => by omega, fun e => by omega⟩
  rw [if_neg h6] at h
  by_cases h5 : s.f5.length = 0
  · rw [if_pos h5] at h
    by_cases h7 : s.f0 = 7
    · exact ⟨fun e => by omega, fun e => by omega, fun e => by omega⟩
    rw [if_neg h7] at h
    by_cases h8 : s.f0 = 8
    · exact ⟨fun e => by omega, fun e => by omega, fun e => by omega⟩
    rw [if_neg h8, Bool.and_eq_true] at h
    exact leaf_fit h.2
  · rw [if_neg h5] at h
    cases h
theorem fit_of : ∀ (d : Nat) (l : List TSt) (rm : Int), (∀ x ∈ l, okS d x rm = true) → fitD d l
  | 0, _, _, _ => trivial
  | d + 1, l, rm, h => fun x hx => by
    obtain ⟨m, h4, h5⟩ := okS_kids2 (h x hx)
    exact ⟨okS_fit (h x hx), fit_of d x.f4 m h4, fit_of d x.f5 m h5⟩
theorem flat_fit : ∀ (d : Nat) (l : List TSt) (rm : Int), fitD d l → ∀ y ∈ flatL d l rm, fitI y.1 y.2.1 y.2.2.1
  | 0, _, _, _, y, hy => by cases hy
  | d + 1, l, rm, h, y, hy => by
    unfold flatL at hy
    obtain ⟨x, hx, hy⟩ := List.mem_flatMap.1 hy
    obtain ⟨a, b, c⟩ := h x hx
    rcases List.mem_cons.1 hy with e | hy
    · rw [e]; exact a
    rcases List.mem_append.1 hy with hy | hy
    · exact flat_fit d _ _ b y hy
    · exact flat_fit d _ _ c y hy
theorem flat_all (own : List Int) : ∀ (d : Nat) (l : List TSt) (rm : Int), (flatL d l rm).all (ownV own) = owD own d l rm
  | 0, _, _ => rfl
  | d + 1, l, rm => by
    unfold flatL owD
    rw [List.all_flatMap]
    congr 1
    funext x
    rw [List.all_cons, List.all_append, flat_all own d, flat_all own d]
theorem owns_loop (own : List Int) (h5 : own.length = 5) (d : Nat) (hd : d + 1 ≤ 1000) (l : List TSt) (rm : Int) (hl : l.length ≤ 1048576) (hf : ∀ x ∈ l, fitI x.f0 x.f1 x.f2)
    (h : ∀ x ∈ l, ∀ m, Ev (fun k => spec_l6Owns.f k x.f4 own m (d : Int)) (owD own d x.f4 m) ∧ Ev (fun k => spec_l6Owns.f k x.f5 own m (d : Int)) (owD own d x.f5 m)) (e : Nat) :
    ∀ i : Nat, i + e = l.length → Ev (fun k => spec_l6Owns.l0 k l own rm ((d + 1 : Nat) : Int) (i : Int)) ((l.drop i).all fun x => ownV own (x.f0, x.f1, x.f2, x.f3, rm) && (owD own d x.f4 (innR x rm) && owD own d x.f5 (innR x rm))) := by
  induction e with
  | zero =>
    intro i hi
    refine Evs.succ (fun k => by simp only [spec_l6Owns.l0]; rfl) (Evs.ite_neg (by omega) ?_)
    rw [List.drop_of_length_le (by omega)]
    exact Evs.succ (fun k => by simp only [spec_l6Owns.j1]; rfl) (Evs.ite_neg (by simp) (Evs.some_ _))
  | succ e ih =>
    intro i hi
    have hi' : i < l.length := by omega
    refine Evs.succ (fun k => by simp only [spec_l6Owns.l0]; rfl) (Evs.ite_pos (by omega) ?_)
    rw [decide_eq_true (show ((d + 1 : Nat) : Int) > 0 by omega)]
    refine Evs.succ (fun k => by simp only [spec_l6Owns.j1]; rfl) (Evs.ite_pos (by simp) (Evs.ite_pos (by omega) (Evs.ite_pos (by omega) ?_)))
    have er : rd_T104 l (i : Int) = l[i] := by
      have := rd_mem hi'
      unfold rd_T104
      simp [List.getD_eq_getElem?_getD, hi']
    have hx : l[i] ∈ l := List.getElem_mem hi'
    rw [er, List.drop_eq_getElem_cons hi', List.all_cons]
    have hn := ih (i + 1) (by omega)
    generalize (l.drop (i + 1)).all (fun x => ownV own (x.f0, x.f1, x.f2, x.f3, rm) && (owD own d x.f4 (innR x rm) && owD own d x.f5 (innR x rm))) = q at *
    have hfx := hf _ hx
    have hk := h _ hx
    generalize l[i] = x at *
    have hw : wrap64 (((d + 1 : Nat) : Int) - 1) = (d : Int) := by unfold wrap64; omega
    have j3 : ∀ (b : Bool) (m : Int) (a b' c' d' : Int), m = innR x rm → Ev (fun k => spec_l6Owns.j3 k l own rm ((d + 1 : Nat) : Int) (i : Int) m b a b' c' d' x.f4 x.f5) ((!b) && (owD own d x.f4 (innR x rm) && owD own d x.f5 (innR x rm)) && q) := by
      intro b m a b' c' d' hm
      refine Evs.succ (fun k => by simp only [spec_l6Owns.j3]; rfl) ?_
      rw [hw, hm]
      cases b with
      | true => exact Evs.ite_pos rfl (Evs.some_ _)
      | false =>
        refine Evs.ite_neg (by simp) ?_
        rw [Bool.not_false, Bool.true_and, Bool.and_assoc]
        refine Evs.bind (hk _).1 (ev_band fun _ => Evs.bind (hk _).2 (ev_band fun _ => ?_))
        rw [wrap_succ (by omega)]
        exact hn
    have j2 : ∀ (t m : Int) (a b' c' d' : Int), m = innR x rm → (0 ≤ t → t < 5) → Ev (fun k => spec_l6Owns.j2 k l own rm ((d + 1 : Nat) : Int) (i : Int) m t a b' c' d' x.f4 x.f5) ((if 0 ≤ t then rm == rd own t else true) && (owD own d x.f4 (innR x rm) && owD own d x.f5 (innR x rm)) && q) := by
      intro t m a b' c' d' hm ht
      refine Evs.succ (fun k => by simp only [spec_l6Owns.j2]; rfl) ?_
      by_cases h0 : 0 ≤ t
      · rw [if_pos h0]
        have e : (rm == rd own t) = !(rd own t != rm) := by
          rw [Bool.eq_iff_iff]
          simp only [beq_iff_eq, Bool.not_eq_true', bne_eq_false_iff_eq]
          exact ⟨Eq.symm, Eq.symm⟩
        rw [e]
        exact Evs.ite_pos h0 (Evs.ite_pos h0 (Evs.ite_pos (by have := ht h0; omega) (j3 _ _ _ _ _ _ hm)))
      · rw [if_neg h0]
        exact Evs.ite_neg h0 (j3 false _ _ _ _ _ hm)
    obtain ⟨p3, p4, p9⟩ := hfx
    have w3 : ∀ a : Int, 0 ≤ a → a < 2 → wrap64 (3 + a) = 3 + a := fun a _ _ => by unfold wrap64; omega
    have ew : ∀ t : Int, 0 ≤ t → (if 0 ≤ t then rm == rd own t else true) = (rm == rd own t) := fun t h => if_pos h
    by_cases h8 : x.f0 = 8
    · refine Evs.ite_pos h8 ?_
      have := j2 (-1) x.f1 x.f0 x.f1 x.f2 x.f3 (by unfold innR; rw [if_pos h8]) (by omega)
      rw [if_neg (by omega)] at this
      rwa [show ownV own (x.f0, x.f1, x.f2, x.f3, rm) = true by unfold ownV; simp [h8]]
    have hin : rm = innR x rm := by unfold innR; rw [if_neg h8]
    refine Evs.ite_neg h8 ?_
    by_cases h3 : x.f0 = 3
    · refine Evs.ite_pos h3 ?_
      have := j2 x.f2 rm x.f0 x.f1 x.f2 x.f3 hin (by have := p3 h3; omega)
      rw [ew _ (p3 h3).1] at this
      rwa [show ownV own (x.f0, x.f1, x.f2, x.f3, rm) = (rm == rd own x.f2) by unfold ownV; simp [h3]]
    refine Evs.ite_neg h3 ?_
    by_cases h4 : x.f0 = 4
    · refine Evs.ite_pos h4 ?_
      have := j2 x.f1 rm x.f0 x.f1 x.f2 x.f3 hin (by have := p4 h4; omega)
      rw [ew _ (p4 h4).1] at this
      rwa [show ownV own (x.f0, x.f1, x.f2, x.f3, rm) = (rm == rd own x.f1) by unfold ownV; simp [h4]]
    refine Evs.ite_neg h4 ?_
    by_cases h9 : x.f0 = 9
    · have hp := p9 (.inl h9)
      refine Evs.ite_pos h9 ?_
      rw [w3 _ hp.1 hp.2]
      have := j2 (3 + x.f1) rm x.f0 x.f1 x.f2 x.f3 hin (by omega)
      rw [ew _ (by omega)] at this
      rwa [show ownV own (x.f0, x.f1, x.f2, x.f3, rm) = (rm == rd own (3 + x.f1)) by unfold ownV; simp [h9]]
    refine Evs.ite_neg h9 ?_
    by_cases h10 : x.f0 = 10
    · have hp := p9 (.inr h10)
      refine Evs.ite_pos h10 ?_
      rw [w3 _ hp.1 hp.2]
      have := j2 (3 + x.f1) rm x.f0 x.f1 x.f2 x.f3 hin (by omega)
      rw [ew _ (by omega)] at this
      rwa [show ownV own (x.f0, x.f1, x.f2, x.f3, rm) = (rm == rd own (3 + x.f1)) by unfold ownV; simp [h10]]
    refine Evs.ite_neg h10 ?_
    have := j2 (-1) rm x.f0 x.f1 x.f2 x.f3 hin (by omega)
    rw [if_neg (by omega)] at this
    rwa [show ownV own (x.f0, x.f1, x.f2, x.f3, rm) = true by unfold ownV; simp [h3, h4, h9, h10]]
theorem owns_ev (own : List Int) (h5 : own.length = 5) : ∀ (d : Nat), d ≤ 1000 → ∀ (l : List TSt) (rm : Int), SL d l → fitD d l → Ev (fun k => spec_l6Owns.f k l own rm (d : Int)) (owD own d l rm)
  | 0, _, l, rm, h, _ => by
    refine Evs.succ (fun k => by simp only [spec_l6Owns.f]; rfl) (Evs.succ (fun k => by simp only [spec_l6Owns.l0]; rfl) ?_)
    have j : Ev (fun k => spec_l6Owns.j1 k l own rm ((0 : Nat) : Int) 0 false) true := Evs.succ (fun k => by simp only [spec_l6Owns.j1]; rfl) (Evs.ite_neg (by simp) (Evs.some_ _))
    by_cases c : (0 : Int) < (l.length : Int)
    · exact Evs.ite_pos c j
    · exact Evs.ite_neg c j
  | d + 1, hd, l, rm, h, hf => by
    refine Evs.succ (fun k => by simp only [spec_l6Owns.f]; rfl) ?_
    have q := owns_loop own h5 d hd l rm h.1 (fun x hx => (hf x hx).1) (fun x hx m => ⟨owns_ev own h5 d (by omega) x.f4 m (h.kids hx).1 (hf x hx).2.1, owns_ev own h5 d (by omega) x.f5 m (h.kids hx).2 (hf x hx).2.2⟩) l.length 0 (by omega)
    exact q
def wholeV (b : Bool) (p : List (List TSt)) (own : List Int) : Bool := b && (decide (own.length = 5) && (!(own.any ownOff) && p.all fun l => owD own 3 l (-1)))
theorem specOwn_loop (p : List (List TSt)) (own : List Int) (hl : own.length ≤ 1048576) (q : Bool) (h : Ev (fun k => spec_WholeOk.l1 k p own 0) q) (e : Nat) : ∀ i : Nat, i + e = own.length → Ev (fun k => spec_WholeOk.l0 k p own (i : Int)) (!((own.drop i).any ownOff) && q) := by
  induction e with
  | zero =>
    intro i hi
    refine Evs.succ (fun k => by simp only [spec_WholeOk.l0]; rfl) (Evs.ite_neg (by omega) ?_)
    rw [List.drop_of_length_le (by omega), List.any_nil, Bool.not_false, Bool.true_and]
    exact h
  | succ e ih =>
    intro i hi
    refine Evs.succ (fun k => by simp only [spec_WholeOk.l0]; rfl) (Evs.ite_pos (by omega) (Evs.ite_pos (by omega) ?_))
    have er : rd own (i : Int) = own[i] := by unfold rd; simp [List.getD_eq_getElem?_getD, show i < own.length by omega]
    rw [wrap_succ (by omega), er, List.drop_eq_getElem_cons (by omega), List.any_cons]
    by_cases h1 : own[i] < 0
    · rw [show ownOff own[i] = true by unfold ownOff; rw [decide_eq_true h1]; rfl, Bool.true_or, Bool.not_true, Bool.false_and]
      exact Evs.ite_pos h1 (Evs.some_ _)
    · refine Evs.ite_neg h1 ?_
      by_cases h2 : own[i] ≥ 2
      · rw [show ownOff own[i] = true by unfold ownOff; rw [decide_eq_true h2, Bool.or_true], Bool.true_or, Bool.not_true, Bool.false_and]
        exact Evs.ite_pos h2 (Evs.some_ _)
      · rw [show ownOff own[i] = false by unfold ownOff; rw [decide_eq_false h1, decide_eq_false h2]; rfl, Bool.false_or]
        exact Evs.ite_neg h2 (ih (i + 1) (by omega))
theorem rdlo {α : Type} {l : List (List α)} {i : Nat} (h : i < l.length) : l.getD (i : Int).toNat [] ∈ l := by
  rw [Int.toNat_natCast, List.getD_eq_getElem?_getD, List.getElem?_eq_getElem h]
  exact List.getElem_mem h
theorem droplo {α : Type} (l : List (List α)) {i : Nat} (h : i < l.length) : l.drop i = l.getD (i : Int).toNat [] :: l.drop (i + 1) := by
  rw [Int.toNat_natCast, List.getD_eq_getElem?_getD, List.getElem?_eq_getElem h, List.drop_eq_getElem_cons h]
  rfl
theorem specList_loop (p : List (List TSt)) (own : List Int) (hl : p.length ≤ 1048576) (h : ∀ l ∈ p, Ev (fun k => spec_l6Owns.f k l own (-1) 3) (owD own 3 l (-1))) (e : Nat) : ∀ i : Nat, i + e = p.length → Ev (fun k => spec_WholeOk.l1 k p own (i : Int)) ((p.drop i).all fun l => owD own 3 l (-1)) := by
  induction e with
  | zero =>
    intro i hi
    refine Evs.succ (fun k => by simp only [spec_WholeOk.l1]; rfl) (Evs.ite_neg (by omega) ?_)
    rw [List.drop_of_length_le (by omega)]
    exact Evs.some_ _
  | succ e ih =>
    intro i hi
    refine Evs.succ (fun k => by simp only [spec_WholeOk.l1]; rfl) (Evs.ite_pos (by omega) (Evs.ite_pos (by omega) ?_))
    rw [wrap_succ (by omega), droplo p (by omega), List.all_cons]
    exact Evs.bind (h _ (rdlo (by omega))) (ev_band fun _ => ih (i + 1) (by omega))
theorem specWhole {b : Bool} {p : List (List TSt)} {own : List Int} (hl : p.length ≤ 1048576) (hs : ∀ l ∈ p, SL 3 l) (hk : b = true → ∀ l ∈ p, okList l = true) (h : Ev (fun k => spec_ProgOk.f k p) b) : Ev (fun k => spec_WholeOk.f k p own) (wholeV b p own) := by
  unfold spec_WholeOk.f wholeV
  have e5 : ((own.length : Int) != 5) = !decide (own.length = 5) := by
    by_cases h : own.length = 5
    · rw [decide_eq_true h, bne_eq_false_iff_eq.mpr (by omega)]; rfl
    · rw [decide_eq_false h, bne_iff_ne.mpr (by omega)]; rfl
  refine Evs.bind h ?_
  cases b with
  | false => exact Evs.ite_neg (by simp) (Evs.succ (fun k => by simp only [spec_WholeOk.j0]; rfl) (Evs.ite_pos (by simp) (Evs.some_ _)))
  | true =>
    refine Evs.ite_pos rfl (Evs.succ (fun k => by simp only [spec_WholeOk.j0]; rfl) ?_)
    rw [e5]
    by_cases h5 : own.length = 5
    · rw [decide_eq_true h5]
      refine Evs.ite_neg (by simp) ?_
      rw [Bool.true_and, Bool.true_and]
      refine specOwn_loop p own (by omega) _ ?_ own.length 0 (Nat.zero_add _)
      refine specList_loop p own hl (fun l hx => ?_) p.length 0 (Nat.zero_add _)
      have q := owns_ev own h5 3 (by omega) l (-1) (hs l hx) (fit_of 3 l (-1) (by have := hk rfl l hx; unfold okList at this; rwa [List.all_eq_true] at this))
      rwa [show ((3 : Nat) : Int) = 3 from rfl] at q
    · rw [decide_eq_false h5]
      exact Evs.ite_pos rfl (Evs.some_ _)
theorem wholeL_ev (own : List Int) (h5 : own.length = 5) : ∀ p : List (List TSt), (∀ l ∈ p, okList l = true) → Ev (fun k => wholeL k own p) (p.all fun l => owD own 3 l (-1))
  | [], _ => Evs.some_ _
  | l :: t, h => by
    have hl := h l (List.mem_cons_self ..)
    have hf := fit_of 3 l (-1) (by unfold okList at hl; rwa [List.all_eq_true] at hl)
    rw [List.all_cons, ← flat_all]
    exact Evs.bind (all_ev 3 l (-1) (dep3 hl)) (Evs.bind0 (ownL_V h5 (flat_fit 3 l (-1) hf)) (ev_band fun _ => wholeL_ev own h5 t fun x hx => h x (List.mem_cons_of_mem _ hx)))
theorem implWhole {b : Bool} {p : List (List TSt)} {own : List Int} (hk : b = true → ∀ l ∈ p, okList l = true) (h : Ev (fun k => impl_ProgOk.f k p) b) : Ev (fun k => impl_WholeOk.f k p own) (wholeV b p own) := by
  unfold impl_WholeOk.f wholeV
  refine Evs.bind h (ev_band fun hb => ?_)
  by_cases h5 : own.length = 5
  · rw [decide_eq_true h5, Bool.true_and]
    refine Evs.ite_pos h5 ?_
    cases ha : own.any ownOff with
    | true => exact Evs.ite_pos rfl (Evs.some_ _)
    | false => exact Evs.ite_neg (by simp) (wholeL_ev own h5 p (hk hb))
  · rw [decide_eq_false h5]
    exact Evs.ite_neg h5 (Evs.some_ _)
end Go.Proofs.Ythbflhimmmfonaa.P

namespace Go.Proofs.Ythbflhimmmfonaa.Pure
open Go.RowKit Go.Proofs.Ythbflhimmmfonaa.P Go.Proofs.YthbflhimmmfonaaW.PrintWords Go.Proofs.YthbflhimmmfonaaW.PrintLast
open Go.Proofs.Ythbflhimmmfonaa.P Go.Proofs.YthbflhimmmfonaaW.PrintMore
set_option linter.unusedVariables false
theorem rd_geto {l : List Int} {i : Nat} (h : i < l.length) : rd l (i : Int) = l.getD i 0 := by
  unfold rd
  rw [Int.toNat_natCast]
def Left (m : Int) (p : Prop) (r : Int) : Prop := r < 0 ∨ (0 ≤ r ∧ r ≤ m ∧ p)
theorem toIo (l : List Int) (hl : l.length ≤ 1048576) : Ev (fun k => laws_toIntS.f k l) l := by
  unfold laws_toIntS.f
  refine Evs.ite_pos (by omega) (Evs.ite_pos (by omega) ?_)
  rw [Int.toNat_natCast]
  have q := map_loop (fun k acc i => laws_toIntS.l0 k l acc i) l 0 0 id (fun i acc r hi ha hr => ?_) (fun acc ha => ?_)
  · rwa [List.map_id] at q
  · refine Evs.succ (fun k => by simp only [laws_toIntS.l0]; rfl) ?_
    refine Evs.ite_pos (by omega) (Evs.ite_pos (by omega) (Evs.ite_pos (by omega) ?_))
    rw [wrap_succ (by omega), rd_geto hi, Int.toNat_natCast]
    exact hr
  · refine Evs.succ (fun k => by simp only [laws_toIntS.l0]; rfl) ?_
    exact Evs.ite_neg (by omega) (Evs.some_ _)
theorem eqIo (l : List Int) (hl : l.length ≤ 1048576) : Ev (fun k => laws_eqIntS.f k l l) true := by
  unfold laws_eqIntS.f
  refine Evs.ite_pos (by trivial) (all_true_loop (fun k i => laws_eqIntS.l0 k l l i) l.length (fun i r hi hr => ?_) ?_)
  · refine Evs.succ (fun k => by simp only [laws_eqIntS.l0]; rfl) ?_
    refine Evs.ite_pos (by omega) (Evs.ite_pos (by omega) (Evs.ite_pos (by omega) (Evs.ite_pos (by trivial) ?_)))
    rw [wrap_succ (by omega)]
    exact hr
  · refine Evs.succ (fun k => by simp only [laws_eqIntS.l0]; rfl) ?_
    exact Evs.ite_neg (by omega) (Evs.some_ _)
theorem progB_ok {p : List (List TSt)} (h : progB p = true) : ∀ l ∈ p, okList l = true := fun l hl => by
  unfold progB at h
  rw [Bool.and_eq_true, List.all_eq_true] at h
  exact okLst_list (h.1 l hl)
theorem FnExactWholeOk : laws_FnExactWholeOk.Pure := by
  intro l own hb _
  refine Ev.rounds (g := fun k => laws_FnExactWholeOk.f k l own) ?_
  unfold laws_FnExactWholeOk.f
  by_cases c0 : (own.length : Int) > 1048576
  · exact Evs.ite_pos c0 (Evs.some_ _)
  refine Evs.ite_neg c0 ?_
  have ti := toIo own (by omega)
  have ei := eqIo own (by omega)
  obtain ⟨r, hr, c⟩ := lawLL l hb 1048576 (by omega) (by omega)
  refine Evs.bind hr ?_
  rcases c with c | ⟨c0, c1, ts, ht⟩
  · exact Evs.ite_pos c (Evs.some_ _)
  exact Evs.ite_neg (by omega) (Evs.bind ht.1 (Evs.bind ti (Evs.bind (specWhole ht.2.1 ht.2.2.1 progB_ok (specProg ht.2.1 ht.2.2.1)) (Evs.bind ht.1 (Evs.bind ti (Evs.bind (implWhole progB_ok (implProg ts)) (Evs.ite_neg (by simp) (Evs.bind ht.1 (Evs.bind ht.2.2.2 (Evs.ite_pos rfl (Evs.bind ti (Evs.bind ei (Evs.ite_pos rfl (Evs.some_ _))))))))))))))
end Go.Proofs.Ythbflhimmmfonaa.Pure
