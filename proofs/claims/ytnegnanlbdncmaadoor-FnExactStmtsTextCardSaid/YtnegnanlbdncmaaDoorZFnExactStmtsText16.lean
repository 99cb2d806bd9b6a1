/- Parts of the proof of FnExactStmtsText: plain Lean functions of Go functions, and that the calls come to what they say; no condition beyond those that each theorem names. -/
import Derived.Test.YtnegnanlbdncmaaDoorZFnExactStmtsText15
import Derived.Test.YtnegnanlbdncmaaDoorZFnExactStmtsText10
import Derived.Test.YtnegnanlbdncmaaDoorZFnExactStmtsText8
import Derived.Test.YtnegnanlbdncmaaDoorZFnExactStmtsText12
import Derived.Test.YtnegnanlbdncmaaDoorZFnExactStmtsText5
namespace Go.Proofs.YtnegnanlbdncmaaDoor.P
open Go.RowKit Go.Proofs.YtnegnanlbdncmaaDoorW.PrintWords Go.Proofs.YtnegnanlbdncmaaDoorW.PrintMore
set_option linter.unusedVariables false
set_option linter.unusedSimpArgs false
def SL (d : Nat) (l : List S49) : Prop := l.length ≤ 1048576 ∧ ∀ x ∈ l, smallS d x
theorem SL.kids {d : Nat} {l : List S49} (h : SL (d + 1) l) {x : S49} (hx : x ∈ l) : SL d x.f4 ∧ SL d x.f5 := h.2 x hx
def dep : Nat → List S49 → Prop
  | 0, l => l = []
  | d + 1, l => ∀ x ∈ l, dep d x.f4 ∧ dep d x.f5
def cntL : Nat → List S49 → Nat
  | 0, _ => 0
  | d + 1, l => (l.map fun x => 1 + cntL d x.f4 + cntL d x.f5).sum
def flatL : Nat → List S49 → Int → List I5
  | 0, _, _ => []
  | d + 1, l, rm => l.flatMap fun x => (x.f0, x.f1, x.f2, x.f3, rm) :: (flatL d x.f4 (innR x rm) ++ flatL d x.f5 (innR x rm))
theorem flat_len : ∀ (d : Nat) (l : List S49) (rm : Int), (flatL d l rm).length = cntL d l
  | 0, _, _ => rfl
  | d + 1, l, rm => by
    unfold flatL cntL
    rw [List.length_flatMap]
    congr 1
    refine List.map_congr_left fun x _ => ?_
    simp only [List.length_cons, List.length_append, flat_len d]
    omega
theorem all_ev : ∀ (d : Nat) (l : List S49) (rm : Int), dep d l → Ev (fun k => allK k l rm) (flatL d l rm)
  | 0, l, rm, h => by
    obtain rfl : l = [] := h
    exact Evs.succ (fun k => rfl) (Evs.some_ _)
  | d + 1, l, rm, h => by
    refine Evs.succ (fun k => rfl) ?_
    show Ev (fun k => allL (allT (allK k)) rm l) (flatL (d + 1) l rm)
    have h' : ∀ x ∈ l, dep d x.f4 ∧ dep d x.f5 := h
    clear h
    unfold flatL
    induction l with
    | nil => exact Evs.some_ _
    | cons x t ih =>
      have hx := h' x (List.mem_cons_self ..)
      rw [List.flatMap_cons]
      exact Evs.bind (Evs.bind (all_ev d x.f4 (innR x rm) hx.1) (Evs.bind (all_ev d x.f5 (innR x rm) hx.2) (Evs.some_ _))) (Evs.bind (ih fun y hy => h' y (List.mem_cons_of_mem _ hy)) (Evs.some_ _))
theorem okS_kids2 {d : Nat} {t : S49} {rm : Int} (h : okS (d + 1) t rm = true) : ∃ m : Int, (∀ x ∈ t.f4, okS d x m = true) ∧ (∀ x ∈ t.f5, okS d x m = true) := by
  rw [okS_succ] at h
  by_cases h6 : t.f0 = 6
  · rw [if_pos h6] at h
    simp only [Bool.and_eq_true, List.all_eq_true] at h
    exact ⟨rm, h.2.2.2.1, h.2.2.2.2⟩
  rw [if_neg h6] at h
  by_cases h5 : t.f5.length = 0
  · have n5 := List.eq_nil_of_length_eq_zero h5
    rw [if_pos h5] at h
    rw [n5]
    by_cases h7 : t.f0 = 7
    · rw [if_pos h7] at h
      simp only [Bool.and_eq_true, List.all_eq_true] at h
      exact ⟨rm, h.2.2.2, fun _ h => by cases h⟩
    rw [if_neg h7] at h
    by_cases h8 : t.f0 = 8
    · rw [if_pos h8] at h
      simp only [Bool.and_eq_true, List.all_eq_true, decide_eq_true_eq] at h
      exact ⟨t.f1, h.2.2.2.2, fun _ h => by cases h⟩
    rw [if_neg h8] at h
    simp only [Bool.and_eq_true, decide_eq_true_eq] at h
    rw [List.eq_nil_of_length_eq_zero h.1]
    exact ⟨rm, (fun _ h => by cases h), (fun _ h => by cases h)⟩
  · rw [if_neg h5] at h
    cases h
theorem dep_of : ∀ (d : Nat) (l : List S49) (rm : Int), (∀ x ∈ l, okS d x rm = true) → dep d l
  | 0, [], _, _ => rfl
  | 0, x :: t, rm, h => by cases h x (List.mem_cons_self ..)
  | d + 1, l, rm, h => fun x hx => by
    obtain ⟨m, h4, h5⟩ := okS_kids2 (h x hx)
    exact ⟨dep_of d x.f4 m h4, dep_of d x.f5 m h5⟩
theorem wrap_l (a b : Int) : wrap64 (wrap64 a + b) = wrap64 (a + b) := by unfold wrap64; omega
theorem wrap_r (a b : Int) : wrap64 (a + wrap64 b) = wrap64 (a + b) := by unfold wrap64; omega
theorem many_loop (d : Nat) (l : List S49) (hl : l.length ≤ 1048576) (hd : d ≤ 1000) (h : ∀ x ∈ l, Ev (fun k => spec_l2Many.f k x.f4 (d : Int)) (wrap64 (cntL d x.f4)) ∧ Ev (fun k => spec_l2Many.f k x.f5 (d : Int)) (wrap64 (cntL d x.f5))) (e : Nat) : ∀ (i n : Nat), i + e = l.length →
    Ev (fun k => spec_l2Many.l0 k l ((d + 1 : Nat) : Int) (wrap64 (n : Int)) (i : Int)) (wrap64 ((n + ((l.drop i).map fun x => 1 + cntL d x.f4 + cntL d x.f5).sum : Nat) : Int)) := by
  have ew : wrap64 (((d + 1 : Nat) : Int) - 1) = (d : Int) := by rw [wrap_id (by omega) (by omega)]; omega
  induction e with
  | zero =>
    intro i n hi
    rw [List.drop_of_length_le (by omega)]
    refine Evs.succ (fun k => by simp only [spec_l2Many.l0]; rfl) ?_
    refine Evs.ite_neg (by omega) (Evs.succ (fun k => by simp only [spec_l2Many.j1]; rfl) (Evs.ite_neg (by simp) ?_))
    simpa using Evs.some_ _
  | succ e ih =>
    intro i n hi
    have hlt : i < l.length := by omega
    obtain ⟨h4, h5⟩ := h _ (rd_mem hlt)
    rw [drop_rd l hlt]
    rw [List.map_cons, List.sum_cons]
    refine Evs.succ (fun k => by simp only [spec_l2Many.l0]; rfl) ?_
    refine Evs.ite_pos (by omega) ?_
    rw [decide_eq_true (show ((d + 1 : Nat) : Int) > 0 by omega)]
    refine Evs.succ (fun k => by simp only [spec_l2Many.j1, ew]; rfl) ?_
    refine Evs.ite_pos (by trivial) (Evs.ite_pos (by omega) (Evs.ite_pos (by omega) (Evs.bind h4 (Evs.bind h5 ?_))))
    rw [wrap_succ (by omega)]
    have q := ih (i + 1) (n + (1 + cntL d (rd_T49 l (i : Int)).f4 + cntL d (rd_T49 l (i : Int)).f5)) (by omega)
    have e1 : wrap64 (wrap64 (wrap64 (wrap64 (n : Int) + 1) + wrap64 (cntL d (rd_T49 l (i : Int)).f4)) + wrap64 (cntL d (rd_T49 l (i : Int)).f5)) = wrap64 ((n + (1 + cntL d (rd_T49 l (i : Int)).f4 + cntL d (rd_T49 l (i : Int)).f5) : Nat) : Int) := by
      generalize cntL d (rd_T49 l (i : Int)).f4 = a
      generalize cntL d (rd_T49 l (i : Int)).f5 = b
      have s1 : wrap64 (wrap64 (n : Int) + 1) = wrap64 ((n : Int) + 1) := wrap_l _ _
      have s2 : wrap64 (wrap64 ((n : Int) + 1) + wrap64 (a : Int)) = wrap64 ((n : Int) + 1 + a) := (wrap_l _ _).trans (wrap_r _ _)
      have s3 : wrap64 (wrap64 ((n : Int) + 1 + a) + wrap64 (b : Int)) = wrap64 ((n : Int) + 1 + a + b) := (wrap_l _ _).trans (wrap_r _ _)
      rw [s1, s2, s3]
      congr 1
      push_cast
      omega
    rw [e1, show n + (1 + cntL d (rd_T49 l (i : Int)).f4 + cntL d (rd_T49 l (i : Int)).f5 + (List.map (fun x => 1 + cntL d x.f4 + cntL d x.f5) (List.drop (i + 1) l)).sum) = n + (1 + cntL d (rd_T49 l (i : Int)).f4 + cntL d (rd_T49 l (i : Int)).f5) + (List.map (fun x => 1 + cntL d x.f4 + cntL d x.f5) (List.drop (i + 1) l)).sum by omega]
    exact q
theorem many_ev : ∀ (d : Nat), d ≤ 1000 → ∀ l, SL d l → Ev (fun k => spec_l2Many.f k l (d : Int)) (wrap64 (cntL d l))
  | 0, _, l, h => by
    refine Evs.succ (fun k => by simp only [spec_l2Many.f]; rfl) (Evs.succ (fun k => by simp only [spec_l2Many.l0]; rfl) ?_)
    have e : wrap64 ((cntL 0 l : Nat) : Int) = 0 := by simp [cntL, wrap64]
    rw [e]
    have j : Ev (fun k => spec_l2Many.j1 k l ((0 : Nat) : Int) 0 0 false) 0 := Evs.succ (fun k => by simp only [spec_l2Many.j1]; rfl) (Evs.ite_neg (by simp) (Evs.some_ _))
    by_cases c : (0 : Int) < (l.length : Int)
    · exact Evs.ite_pos c j
    · exact Evs.ite_neg c j
  | d + 1, hd, l, h => by
    refine Evs.succ (fun k => by simp only [spec_l2Many.f]; rfl) ?_
    have q := many_loop d l h.1 (by omega) (fun x hx => ⟨many_ev d (by omega) x.f4 (h.kids hx).1, many_ev d (by omega) x.f5 (h.kids hx).2⟩) l.length 0 0 (by omega)
    have e : wrap64 ((0 : Nat) : Int) = 0 := by simp [wrap64]
    rw [e] at q
    simpa [cntL] using q
def okList (l : List S49) : Bool := l.all fun x => okS 3 x (-1)
def okLst (l : List S49) : Bool := okList l && decide (wrap64 (cntL 3 l) ≤ 14)
def manyV (l : List S49) : Int := if okLst l = true then wrap64 (cntL 3 l) else 0
theorem dep3 {l : List S49} (h : okList l = true) : dep 3 l := dep_of 3 l (-1) (by unfold okList at h; rwa [List.all_eq_true] at h)
theorem specList3 {l : List S49} (h : SL 3 l) : Ev (fun k => spec_l2List.f k l 3 (-1)) (okList l) := by
  have e := specList_of 3 (by omega) (specStmt_ev 3 (by omega)) l (-1) (by omega) h.1 h.2
  rwa [show ((3 : Nat) : Int) = 3 from rfl] at e
theorem many3 {l : List S49} (h : SL 3 l) : Ev (fun k => spec_l2Many.f k l 3) (wrap64 (cntL 3 l)) := by
  have e := many_ev 3 (by omega) l h
  rwa [show ((3 : Nat) : Int) = 3 from rfl] at e
theorem specOk {l : List S49} (h : SL 3 l) : Ev (fun k => spec_StmtsOk.f k l) (okLst l) := by
  unfold spec_StmtsOk.f okLst
  exact Evs.bind (specList3 h) (ev_band fun _ => Evs.bind (many3 h) (Evs.some_ _))
theorem implList3 (l : List S49) : Ev (fun k => impl_listOk.f k l 3 (-1)) (okList l) := by
  refine implList_of 3 (-1) stmtOkS 3 l fun x _ => ?_
  have e := implStmt_ev 3 (by omega) x (-1) (by omega)
  rwa [show ((3 : Nat) : Int) = 3 from rfl] at e
theorem implOk (l : List S49) : Ev (fun k => impl_StmtsOk.f k l) (okLst l) := by
  unfold impl_StmtsOk.f okLst
  refine Evs.bind (implList3 l) (ev_band fun h => ?_)
  refine Evs.bind (all_ev 3 l (-1) (dep3 h)) ?_
  rw [flat_len]
  exact Evs.some_ _
theorem okLst_list {l : List S49} (h : okLst l = true) : okList l = true := by
  unfold okLst at h
  rw [Bool.and_eq_true] at h
  exact h.1
def BdS (x : S47) : Prop := ∃ (w : World) (cs : List Value), k47.K w x cs
def BdL (l : List S47) : Prop := ∃ (w : World) (A : Option Addr), Kd.C (k47) w A l.length l
theorem bdL_len {l : List S47} (h : BdL l) : l.length ≤ 9223372036854775807 := by
  obtain ⟨w, A, h⟩ := h
  exact h.2.1
theorem bdL_elem {l : List S47} (h : BdL l) (i : Nat) (hi : i < l.length) : BdS (rd_T47 l (i : Int)) := by
  obtain ⟨w, A, h⟩ := h
  obtain ⟨ad, c, e, _, hK, _⟩ := Kd.C_get h z47 (i : Int) (by omega) (by omega)
  exact ⟨w, c, hK⟩
theorem bdS_lists {x : S47} (h : BdS x) : BdL x.f4 ∧ BdL x.f5 := by
  obtain ⟨w, cs, h⟩ := h
  obtain ⟨A4, c4, A5, c5, _, _, g4, _, g5⟩ := k47_open h
  exact ⟨⟨w, A4, g4⟩, ⟨w, A5, g5⟩⟩
def CopyOf (x : S47) (t : S49) : Prop := Ev (fun k => laws_toStmt.f k x.f0 x.f1 x.f2 x.f3 x.f4 x.f5) (t.f0, t.f1, t.f2, t.f3, t.f4, t.f5) ∧ (∀ d, smallS d t) ∧ Ev (fun k => laws_eqStmt.f k t.f0 t.f1 t.f2 t.f3 t.f4 t.f5 t.f0 t.f1 t.f2 t.f3 t.f4 t.f5) true
def CopyL (l : List S47) (ts : List S49) : Prop := Ev (fun k => laws_toStmtS.f k l) ts ∧ ts.length ≤ 1048576 ∧ (∀ t ∈ ts, ∀ d, smallS d t) ∧ Ev (fun k => laws_eqStmtS.f k ts ts) true
def Goes (x : S47) : Prop := ∀ m : Int, 0 ≤ m → m ≤ 1048576 → ∃ r : Int, Ev (fun k => laws_szStmt.f k x.f0 x.f1 x.f2 x.f3 x.f4 x.f5 m) r ∧ (r < 0 ∨ (0 ≤ r ∧ r ≤ m ∧ ∃ t, CopyOf x t))
theorem sz_loop (l : List S47) (hl : l.length ≤ 1048576) (h : ∀ i : Nat, i < l.length → Goes (rd_T47 l (i : Int))) (d : Nat) : ∀ (i : Nat) (m : Int), i + d = l.length → 0 ≤ m → m ≤ 1048576 →
    ∃ r : Int, Ev (fun k => laws_szStmtS.l0 k l m (i : Int)) r ∧ (r < 0 ∨ (0 ≤ r ∧ r ≤ m ∧ ∀ j : Nat, i ≤ j → j < l.length → ∃ t, CopyOf (rd_T47 l (j : Int)) t)) := by
  induction d with
  | zero =>
    intro i m hi h0 h1
    refine ⟨m, ?_, .inr ⟨h0, Int.le_refl _, fun j h1 h2 => absurd h2 (by omega)⟩⟩
    refine Evs.succ (fun k => by simp only [laws_szStmtS.l0]; rfl) ?_
    exact Evs.ite_neg (by omega) (Evs.some_ _)
  | succ d ih =>
    intro i m hi h0 h1
    obtain ⟨r, hr, c⟩ := h i (by omega) m h0 h1
    rcases c with c | ⟨c0, c1, c2⟩
    · refine ⟨-1, ?_, .inl (by omega)⟩
      refine Evs.succ (fun k => by simp only [laws_szStmtS.l0]; rfl) ?_
      exact Evs.ite_pos (by omega) (Evs.ite_pos (by omega) (Evs.bind hr (Evs.ite_pos c (Evs.some_ _))))
    · obtain ⟨q, hq, e⟩ := ih (i + 1) r (by omega) c0 (by omega)
      refine ⟨q, ?_, ?_⟩
      · refine Evs.succ (fun k => by simp only [laws_szStmtS.l0]; rfl) ?_
        refine Evs.ite_pos (by omega) (Evs.ite_pos (by omega) (Evs.bind hr (Evs.ite_neg (by omega) ?_)))
        rw [wrap_succ (by omega)]
        exact hq
      · rcases e with e | ⟨e0, e1, e2⟩
        · exact .inl e
        · refine .inr ⟨e0, by omega, fun j h1 h2 => ?_⟩
          by_cases hj : j = i
          · rw [hj]
            exact c2
          · exact e2 j (by omega) h2
open Classical in
noncomputable def cpy (x : S47) : S49 := if h : ∃ t, CopyOf x t then h.choose else z49
theorem cpy_of {x : S47} (h : ∃ t, CopyOf x t) : CopyOf x (cpy x) := by
  unfold cpy
  rw [dif_pos h]
  exact h.choose_spec
theorem copyL_of (l : List S47) (hl : l.length ≤ 1048576) (h : ∀ j : Nat, j < l.length → ∃ t, CopyOf (rd_T47 l (j : Int)) t) : CopyL l (l.map cpy) := by
  have hx : ∀ x ∈ l, CopyOf x (cpy x) := by
    intro x hx
    obtain ⟨i, hi, rfl⟩ := List.mem_iff_getElem.1 hx
    have := h i hi
    unfold rd_T47 at this
    rw [Int.toNat_natCast, List.getD_eq_getElem?_getD, List.getElem?_eq_getElem hi] at this
    exact cpy_of this
  have hi' : ∀ i : Nat, i < l.length → CopyOf (rd_T47 l (i : Int)) (cpy (l.getD i z47)) := by
    intro i hi
    have e : rd_T47 l (i : Int) = l.getD i z47 := by unfold rd_T47; rw [Int.toNat_natCast]
    rw [e]
    refine hx _ ?_
    rw [List.getD_eq_getElem?_getD, List.getElem?_eq_getElem hi]
    exact List.getElem_mem hi
  refine ⟨?_, by simpa using hl, fun t ht d => ?_, ?_⟩
  · refine Evs.succ (fun k => by simp only [laws_toStmtS.f]; rfl) ?_
    refine Evs.ite_pos (by omega) (Evs.ite_pos (by omega) ?_)
    rw [Int.toNat_natCast]
    refine map_loop (fun k acc i => laws_toStmtS.l0 k l acc i) l z47 _ cpy (fun i acc r hi ha hr => ?_) (fun acc ha => ?_)
    · have hc := (hi' i hi).1
      revert hr
      generalize cpy (l.getD i z47) = t at hc ⊢
      obtain ⟨b0, b1, b2, b3, b4, b5⟩ := t
      intro hr
      refine Evs.succ (fun k => by simp only [laws_toStmtS.l0]; rfl) ?_
      refine Evs.ite_pos (by omega) (Evs.ite_pos (by omega) (Evs.bind hc (Evs.ite_pos (by omega) ?_)))
      rw [wrap_succ (by omega), Int.toNat_natCast]
      exact hr
    · refine Evs.succ (fun k => by simp only [laws_toStmtS.l0]; rfl) ?_
      exact Evs.ite_neg (by omega) (Evs.some_ _)
  · obtain ⟨x, hx1, rfl⟩ := List.mem_map.1 ht
    exact (hx x hx1).2.1 d
  · refine Evs.succ (fun k => by simp only [laws_eqStmtS.f]; rfl) ?_
    refine Evs.ite_pos (by trivial) ?_
    refine all_true_loop (fun k i => laws_eqStmtS.l0 k (l.map cpy) (l.map cpy) i) (l.map cpy).length (fun i r hi hr => ?_) ?_
    · have hi2 : i < l.length := by simpa using hi
      have e : rd_T49 (l.map cpy) (i : Int) = cpy (l.getD i z47) := by
        unfold rd_T49
        rw [Int.toNat_natCast, List.getD_eq_getElem?_getD, List.getElem?_map, List.getElem?_eq_getElem hi2, List.getD_eq_getElem?_getD, List.getElem?_eq_getElem hi2]
        rfl
      refine Evs.succ (fun k => by simp only [laws_eqStmtS.l0, e]; rfl) ?_
      refine Evs.ite_pos (by omega) (Evs.ite_pos (by omega) (Evs.ite_pos (by omega) (Evs.bind (hi' i hi2).2.2 (Evs.ite_pos rfl ?_))))
      rw [wrap_succ (by rw [List.length_map] at hi; omega)]
      exact hr
    · refine Evs.succ (fun k => by simp only [laws_eqStmtS.l0]; rfl) ?_
      exact Evs.ite_neg (by omega) (Evs.some_ _)
theorem szL (l : List S47) (hb : BdL l) (h : ∀ i : Nat, i < l.length → Goes (rd_T47 l (i : Int))) (m : Int) (h0 : 0 ≤ m) (h1 : m ≤ 1048576) : ∃ r : Int, Ev (fun k => laws_szStmtS.f k l m) r ∧ (r < 0 ∨ (0 ≤ r ∧ r ≤ m ∧ ∃ ts, CopyL l ts)) := by
  have hl := bdL_len hb
  have ew : wrap64 (m - (l.length : Int)) = m - (l.length : Int) := wrap_id (by omega) (by omega)
  by_cases c : m - (l.length : Int) < 0
  · refine ⟨-1, ?_, .inl (by omega)⟩
    refine Evs.succ (fun k => by simp only [laws_szStmtS.f, ew]; rfl) ?_
    exact Evs.ite_pos c (Evs.some_ _)
  · obtain ⟨r, hr, e⟩ := sz_loop l (by omega) h l.length 0 (m - (l.length : Int)) (by omega) (by omega) (by omega)
    refine ⟨r, ?_, ?_⟩
    · refine Evs.succ (fun k => by simp only [laws_szStmtS.f, ew]; rfl) ?_
      exact Evs.ite_neg c hr
    · rcases e with e | ⟨e0, e1, e2⟩
      · exact .inl e
      · exact .inr ⟨e0, by omega, _, copyL_of l (by omega) fun j hj => e2 j (by omega) hj⟩
theorem rd_sizeOf {l : List S47} {i : Nat} (h : i < l.length) : SizeOf.sizeOf (rd_T47 l (i : Int)) < SizeOf.sizeOf l := by
  unfold rd_T47
  rw [Int.toNat_natCast, List.getD_eq_getElem?_getD, List.getElem?_eq_getElem h]
  exact List.sizeOf_lt_of_mem (List.getElem_mem h)
theorem goes_all : ∀ (n : Nat) (x : S47), SizeOf.sizeOf x ≤ n → BdL x.f4 → BdL x.f5 → Goes x
  | 0, ⟨a0, a1, a2, a3, l4, l5⟩, hn, _, _ => by simp at hn
  | n + 1, ⟨a0, a1, a2, a3, l4, l5⟩, hn, b4, b5 => by
    have b4 : BdL l4 := b4
    have b5 : BdL l5 := b5
    have z : SizeOf.sizeOf l4 + SizeOf.sizeOf l5 ≤ n := by simp at hn; omega
    have g4 : ∀ i : Nat, i < l4.length → Goes (rd_T47 l4 (i : Int)) := fun i hi => goes_all n _ (by have := rd_sizeOf hi; omega) (bdS_lists (bdL_elem b4 i hi)).1 (bdS_lists (bdL_elem b4 i hi)).2
    have g5 : ∀ i : Nat, i < l5.length → Goes (rd_T47 l5 (i : Int)) := fun i hi => goes_all n _ (by have := rd_sizeOf hi; omega) (bdS_lists (bdL_elem b5 i hi)).1 (bdS_lists (bdL_elem b5 i hi)).2
    intro m h0 h1
    obtain ⟨r, hr, c⟩ := szL l4 b4 g4 m h0 h1
    rcases c with c | ⟨c0, c1, ts4, c2⟩
    · refine ⟨-1, ?_, .inl (by omega)⟩
      refine Evs.succ (fun k => by simp only [laws_szStmt.f]; rfl) ?_
      exact Evs.bind hr (Evs.ite_pos c (Evs.some_ _))
    obtain ⟨q, hq, e⟩ := szL l5 b5 g5 r c0 (by omega)
    rcases e with e | ⟨e0, e1, ts5, e2⟩
    · refine ⟨-1, ?_, .inl (by omega)⟩
      refine Evs.succ (fun k => by simp only [laws_szStmt.f]; rfl) ?_
      exact Evs.bind hr (Evs.ite_neg (by omega) (Evs.bind hq (Evs.ite_pos e (Evs.some_ _))))
    refine ⟨q, ?_, .inr ⟨e0, by omega, ⟨a0, a1, a2, a3, ts4, ts5⟩, ?_, fun d => ?_, ?_⟩⟩
    · refine Evs.succ (fun k => by simp only [laws_szStmt.f]; rfl) ?_
      exact Evs.bind hr (Evs.ite_neg (by omega) (Evs.bind hq (Evs.ite_neg (by omega) (Evs.some_ _))))
    · refine Evs.succ (fun k => by simp only [laws_toStmt.f]; rfl) ?_
      exact Evs.bind c2.1 (Evs.bind e2.1 (Evs.some_ _))
    · cases d with
      | zero => trivial
      | succ d => exact ⟨⟨c2.2.1, fun t ht => c2.2.2.1 t ht d⟩, e2.2.1, fun t ht => e2.2.2.1 t ht d⟩
    · refine Evs.succ (fun k => by simp only [laws_eqStmt.f]; rfl) ?_
      exact Evs.ite_pos (by trivial) (Evs.ite_pos (by trivial) (Evs.ite_pos (by trivial) (Evs.ite_pos (by trivial) (Evs.bind c2.2.2.2 (Evs.ite_pos rfl (Evs.bind e2.2.2.2 (Evs.ite_pos rfl (Evs.some_ _))))))))
end Go.Proofs.YtnegnanlbdncmaaDoor.P
namespace Go.Proofs.YtnegnanlbdncmaaDoor.P
open Go.RowKit Go.Proofs.YtnegnanlbdncmaaDoorW.PrintWords Go.Proofs.YtnegnanlbdncmaaDoorW.PrintMore
set_option linter.unusedVariables false
set_option linter.unusedSimpArgs false
theorem lawL (l : List S47) (hb : BdL l) (m : Int) (h0 : 0 ≤ m) (h1 : m ≤ 1048576) : ∃ r : Int, Ev (fun k => laws_szStmtS.f k l m) r ∧ (r < 0 ∨ (0 ≤ r ∧ r ≤ m ∧ ∃ ts, CopyL l ts)) :=
  szL l hb (fun i hi => goes_all _ _ (Nat.le_refl _) (bdS_lists (bdL_elem hb i hi)).1 (bdS_lists (bdL_elem hb i hi)).2) m h0 h1
theorem CopyL.sl {l : List S47} {ts : List S49} (c : CopyL l ts) (d : Nat) : SL d ts := ⟨c.2.1, fun t ht => c.2.2.1 t ht d⟩
theorem CopyL.eq {l : List S47} {ts : List S49} (c : CopyL l ts) : Ev (fun k => laws_eqStmtS.f k ts ts) true := c.2.2.2
end Go.Proofs.YtnegnanlbdncmaaDoor.P

namespace Go.Proofs.YtnegnanlbdncmaaDoor.P
open Go.RowKit Go.Proofs.YtnegnanlbdncmaaDoorW.PrintWords Go.Proofs.YtnegnanlbdncmaaDoorW.PrintMore
set_option linter.unusedVariables false
set_option linter.unusedSimpArgs false
theorem cnt_bound {d B : Nat} : ∀ l : List S49, (∀ x ∈ l, cntL d x.f4 ≤ B ∧ cntL d x.f5 ≤ B) → cntL (d + 1) l ≤ l.length * (1 + 2 * B)
  | [], _ => by simp [cntL]
  | x :: t, h => by
    have hx := h x (List.mem_cons_self ..)
    have ht := cnt_bound t fun y hy => h y (List.mem_cons_of_mem _ hy)
    have e : cntL (d + 1) (x :: t) = (1 + cntL d x.f4 + cntL d x.f5) + cntL (d + 1) t := by
      show (List.map _ (x :: t)).sum = _
      rw [List.map_cons, List.sum_cons]
      rfl
    rw [e, List.length_cons, Nat.succ_mul]
    omega
theorem cnt1 {l : List S49} (h : l.length ≤ 1048576) : cntL 1 l ≤ 1048576 := by
  have := cnt_bound (d := 0) (B := 0) l fun x _ => ⟨Nat.le_refl _, Nat.le_refl _⟩
  change cntL 1 l ≤ _ at this
  omega
theorem cnt2 {l : List S49} (h : SL 1 l) : cntL 2 l ≤ 2199024304128 := by
  have := cnt_bound (d := 1) (B := 1048576) l fun x hx => ⟨cnt1 (h.kids hx).1.1, cnt1 (h.kids hx).2.1⟩
  change cntL 2 l ≤ _ at this
  have h1 := h.1
  have : l.length * (1 + 2 * 1048576) ≤ 1048576 * (1 + 2 * 1048576) := Nat.mul_le_mul_right _ h1
  omega
end Go.Proofs.YtnegnanlbdncmaaDoor.P
