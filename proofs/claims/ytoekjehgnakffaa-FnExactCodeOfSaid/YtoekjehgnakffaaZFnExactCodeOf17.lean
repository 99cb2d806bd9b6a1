/- Parts of the proof of FnExactCodeOf: plain Lean functions of Go functions, and that the calls come to what they say; no condition beyond those that each theorem names. -/
import Derived.Test.YtoekjehgnakffaaZFnExactCodeOf16
import Derived.Test.YtoekjehgnakffaaZFnExactCodeOf6
import Derived.Test.YtoekjehgnakffaaZFnExactCodeOf4
import Derived.Test.YtoekjehgnakffaaZFnExactCodeOf12
import Derived.Test.YtoekjehgnakffaaZFnExactCodeOf14
import Derived.Test.YtoekjehgnakffaaZFnExactCodeOf13
import Derived.Test.YtoekjehgnakffaaZFnExactCodeOf15
namespace Go.Proofs.Ytoekjehgnakffaa.P
open Go.RowKit Go.Proofs.YtoekjehgnakffaaW.PrintWords Go.Proofs.YtoekjehgnakffaaW.PrintMore
set_option linter.unusedVariables false
set_option linter.unusedSimpArgs false
def SL (d : Nat) (l : List S41) : Prop := l.length ≤ 1048576 ∧ ∀ x ∈ l, smallS d x
theorem SL.kids {d : Nat} {l : List S41} (h : SL (d + 1) l) {x : S41} (hx : x ∈ l) : SL d x.f4 ∧ SL d x.f5 := h.2 x hx
def dep : Nat → List S41 → Prop
  | 0, l => l = []
  | d + 1, l => ∀ x ∈ l, dep d x.f4 ∧ dep d x.f5
def cntL : Nat → List S41 → Nat
  | 0, _ => 0
  | d + 1, l => (l.map fun x => 1 + cntL d x.f4 + cntL d x.f5).sum
def flatL : Nat → List S41 → Int → List I5
  | 0, _, _ => []
  | d + 1, l, rm => l.flatMap fun x => (x.f0, x.f1, x.f2, x.f3, rm) :: (flatL d x.f4 (innR x rm) ++ flatL d x.f5 (innR x rm))
theorem flat_len : ∀ (d : Nat) (l : List S41) (rm : Int), (flatL d l rm).length = cntL d l
  | 0, _, _ => rfl
  | d + 1, l, rm => by
    unfold flatL cntL
    rw [List.length_flatMap]
    congr 1
    refine List.map_congr_left fun x _ => ?_
    simp only [List.length_cons, List.length_append, flat_len d]
    omega
theorem all_ev : ∀ (d : Nat) (l : List S41) (rm : Int), dep d l → Ev (fun k => allK k l rm) (flatL d l rm)
  | 0, l, rm, h => by
    obtain rfl : l = [] := h
    exact Evs.succ (fun k => rfl) (Evs.some_ _)
  | d + 1, l, rm, h => by
    refine Evs.succ (fun k => rfl) ?_
    show Ev (fun k => allL (allT (allK k)) rm l) (flatL (d + 1) l rm)
    have h' : ∀ x ∈ l, dep d x.f4 ∧ dep d x.f5 := h
    clear h
    unfold flatL
    induction l with
    | nil => exact Evs.some_ _
    | cons x t ih =>
      have hx := h' x (List.mem_cons_self ..)
      rw [List.flatMap_cons]
      exact Evs.bind (Evs.bind (all_ev d x.f4 (innR x rm) hx.1) (Evs.bind (all_ev d x.f5 (innR x rm) hx.2) (Evs.some_ _))) (Evs.bind (ih fun y hy => h' y (List.mem_cons_of_mem _ hy)) (Evs.some_ _))
theorem okS_kids2 {d : Nat} {t : S41} {rm : Int} (h : okS (d + 1) t rm = true) : ∃ m : Int, (∀ x ∈ t.f4, okS d x m = true) ∧ (∀ x ∈ t.f5, okS d x m = true) := by
  rw [okS_succ] at h
  by_cases h6 : t.f0 = 6
  · rw [if_pos h6] at h
    simp only [Bool.and_eq_true, List.all_eq_true] at h
    exact ⟨rm, h.2.2.2.1, h.2.2.2.2⟩
  rw [if_neg h6] at h
  by_cases h5 : t.f5.length = 0
  · have n5 := List.eq_nil_of_length_eq_zero h5
    rw [if_pos h5] at h
    rw [n5]
    by_cases h7 : t.f0 = 7
    · rw [if_pos h7] at h
      simp only [Bool.and_eq_true, List.all_eq_true] at h
      exact ⟨rm, h.2.2.2, fun _ h => by cases h⟩
    rw [if_neg h7] at h
    by_cases h8 : t.f0 = 8
    · rw [if_pos h8] at h
      simp only [Bool.and_eq_true, List.all_eq_true, decide_eq_true_eq] at h
      exact ⟨t.f1, h.2.2.2.2, fun _ h => by cases h⟩
    rw [if_neg h8] at h
    simp only [Bool.and_eq_true, decide_eq_true_eq] at h
    rw [List.eq_nil_of_length_eq_zero h.1]
    exact ⟨rm, (fun _ h => by cases h), (fun _ h => by cases h)⟩
  · rw [if_neg h5] at h
    cases h
theorem dep_of : ∀ (d : Nat) (l : List S41) (rm : Int), (∀ x ∈ l, okS d x rm = true) → dep d l
  | 0, [], _, _ => rfl
  | 0, x :: t, rm, h => by cases h x (List.mem_cons_self ..)
  | d + 1, l, rm, h => fun x hx => by
    obtain ⟨m, h4, h5⟩ := okS_kids2 (h x hx)
    exact ⟨dep_of d x.f4 m h4, dep_of d x.f5 m h5⟩
theorem wrap_l (a b : Int) : wrap64 (wrap64 a + b) = wrap64 (a + b) := by unfold wrap64; omega
theorem wrap_r (a b : Int) : wrap64 (a + wrap64 b) = wrap64 (a + b) := by unfold wrap64; omega
theorem many_loop (d : Nat) (l : List S41) (hl : l.length ≤ 1048576) (hd : d ≤ 1000) (h : ∀ x ∈ l, Ev (fun k => spec_l2Many.f k x.f4 (d : Int)) (wrap64 (cntL d x.f4)) ∧ Ev (fun k => spec_l2Many.f k x.f5 (d : Int)) (wrap64 (cntL d x.f5))) (e : Nat) : ∀ (i n : Nat), i + e = l.length →
    Ev (fun k => spec_l2Many.l0 k l ((d + 1 : Nat) : Int) (wrap64 (n : Int)) (i : Int)) (wrap64 ((n + ((l.drop i).map fun x => 1 + cntL d x.f4 + cntL d x.f5).sum : Nat) : Int)) := by
  have ew : wrap64 (((d + 1 : Nat) : Int) - 1) = (d : Int) := by rw [wrap_id (by omega) (by omega)]; omega
  induction e with
  | zero =>
    intro i n hi
    rw [List.drop_of_length_le (by omega)]
    refine Evs.succ (fun k => by simp only [spec_l2Many.l0]; rfl) ?_
    refine Evs.ite_neg (by omega) (Evs.succ (fun k => by simp only [spec_l2Many.j1]; rfl) (Evs.ite_neg (by simp) ?_))
    simpa using Evs.some_ _
  | succ e ih =>
    intro i n hi
    have hlt : i < l.length := by omega
    obtain ⟨h4, h5⟩ := h _ (rd_mem hlt)
    rw [drop_rd l hlt]
    rw [List.map_cons, List.sum_cons]
    refine Evs.succ (fun k => by simp only [spec_l2Many.l0]; rfl) ?_
    refine Evs.ite_pos (by omega) ?_
    rw [decide_eq_true (show ((d + 1 : Nat) : Int) > 0 by omega)]
    refine Evs.succ (fun k => by simp only [spec_l2Many.j1, ew]; rfl) ?_
    refine Evs.ite_pos (by trivial) (Evs.ite_pos (by omega) (Evs.ite_pos (by omega) (Evs.bind h4 (Evs.bind h5 ?_))))
    rw [wrap_succ (by omega)]
    have q := ih (i + 1) (n + (1 + cntL d (rd_T41 l (i : Int)).f4 + cntL d (rd_T41 l (i : Int)).f5)) (by omega)
    have e1 : wrap64 (wrap64 (wrap64 (wrap64 (n : Int) + 1) + wrap64 (cntL d (rd_T41 l (i : Int)).f4)) + wrap64 (cntL d (rd_T41 l (i : Int)).f5)) = wrap64 ((n + (1 + cntL d (rd_T41 l (i : Int)).f4 + cntL d (rd_T41 l (i : Int)).f5) : Nat) : Int) := by
      generalize cntL d (rd_T41 l (i : Int)).f4 = a
      generalize cntL d (rd_T41 l (i : Int)).f5 = b
      have s1 : wrap64 (wrap64 (n : Int) + 1) = wrap64 ((n : Int) + 1) := wrap_l _ _
      have s2 : wrap64 (wrap64 ((n : Int) + 1) + wrap64 (a : Int)) = wrap64 ((n : Int) + 1 + a) := (wrap_l _ _).trans (wrap_r _ _)
      have s3 : wrap64 (wrap64 ((n : Int) + 1 + a) + wrap64 (b : Int)) = wrap64 ((n : Int) + 1 + a + b) := (wrap_l _ _).trans (wrap_r _ _)
      rw [s1, s2, s3]
      congr 1
      push_cast
      omega
    rw [e1, show n + (1 + cntL d (rd_T41 l (i : Int)).f4 + cntL d (rd_T41 l (i : Int)).f5 + (List.map (fun x => 1 + cntL d x.f4 + cntL d x.f5) (List.drop (i + 1) l)).sum) = n + (1 + cntL d (rd_T41 l (i : Int)).f4 + cntL d (rd_T41 l (i : Int)).f5) + (List.map (fun x => 1 + cntL d x.f4 + cntL d x.f5) (List.drop (i + 1) l)).sum by omega]
    exact q
theorem many_ev : ∀ (d : Nat), d ≤ 1000 → ∀ l, SL d l → Ev (fun k => spec_l2Many.f k l (d : Int)) (wrap64 (cntL d l))
  | 0, _, l, h => by
    refine Evs.succ (fun k => by simp only [spec_l2Many.f]; rfl) (Evs.succ (fun k => by simp only [spec_l2Many.l0]; rfl) ?_)
    have e : wrap64 ((cntL 0 l : Nat) : Int) = 0 := by simp [cntL, wrap64]
    rw [e]
    have j : Ev (fun k => spec_l2Many.j1 k l ((0 : Nat) : Int) 0 0 false) 0 := Evs.succ (fun k => by simp only [spec_l2Many.j1]; rfl) (Evs.ite_neg (by simp) (Evs.some_ _))
    by_cases c : (0 : Int) < (l.length : Int)
    · exact Evs.ite_pos c j
    · exact Evs.ite_neg c j
  | d + 1, hd, l, h => by
    refine Evs.succ (fun k => by simp only [spec_l2Many.f]; rfl) ?_
    have q := many_loop d l h.1 (by omega) (fun x hx => ⟨many_ev d (by omega) x.f4 (h.kids hx).1, many_ev d (by omega) x.f5 (h.kids hx).2⟩) l.length 0 0 (by omega)
    have e : wrap64 ((0 : Nat) : Int) = 0 := by simp [wrap64]
    rw [e] at q
    simpa [cntL] using q
def okList (l : List S41) : Bool := l.all fun x => okS 3 x (-1)
def okLst (l : List S41) : Bool := okList l && decide (wrap64 (cntL 3 l) ≤ 14)
def manyV (l : List S41) : Int := if okLst l = true then wrap64 (cntL 3 l) else 0
theorem dep3 {l : List S41} (h : okList l = true) : dep 3 l := dep_of 3 l (-1) (by unfold okList at h; rwa [List.all_eq_true] at h)
theorem specList3 {l : List S41} (h : SL 3 l) : Ev (fun k => spec_l2List.f k l 3 (-1)) (okList l) := by
  have e := specList_of 3 (by omega) (specStmt_ev 3 (by omega)) l (-1) (by omega) h.1 h.2
  rwa [show ((3 : Nat) : Int) = 3 from rfl] at e
theorem many3 {l : List S41} (h : SL 3 l) : Ev (fun k => spec_l2Many.f k l 3) (wrap64 (cntL 3 l)) := by
  have e := many_ev 3 (by omega) l h
  rwa [show ((3 : Nat) : Int) = 3 from rfl] at e
theorem specOk {l : List S41} (h : SL 3 l) : Ev (fun k => spec_StmtsOk.f k l) (okLst l) := by
  unfold spec_StmtsOk.f okLst
  exact Evs.bind (specList3 h) (ev_band fun _ => Evs.bind (many3 h) (Evs.some_ _))
theorem implList3 (l : List S41) : Ev (fun k => impl_listOk.f k l 3 (-1)) (okList l) := by
  refine implList_of 3 (-1) stmtOkS 3 l fun x _ => ?_
  have e := implStmt_ev 3 (by omega) x (-1) (by omega)
  rwa [show ((3 : Nat) : Int) = 3 from rfl] at e
theorem implOk (l : List S41) : Ev (fun k => impl_StmtsOk.f k l) (okLst l) := by
  unfold impl_StmtsOk.f okLst
  refine Evs.bind (implList3 l) (ev_band fun h => ?_)
  refine Evs.bind (all_ev 3 l (-1) (dep3 h)) ?_
  rw [flat_len]
  exact Evs.some_ _
theorem okLst_list {l : List S41} (h : okLst l = true) : okList l = true := by
  unfold okLst at h
  rw [Bool.and_eq_true] at h
  exact h.1
def BdS (x : S35) : Prop := ∃ (w : World) (cs : List Value), k35.K w x cs
def BdL (l : List S35) : Prop := ∃ (w : World) (A : Option Addr), Kd.C (k35) w A l.length l
theorem bdL_len {l : List S35} (h : BdL l) : l.length ≤ 9223372036854775807 := by
  obtain ⟨w, A, h⟩ := h
  exact h.2.1
theorem bdL_elem {l : List S35} (h : BdL l) (i : Nat) (hi : i < l.length) : BdS (rd_T35 l (i : Int)) := by
  obtain ⟨w, A, h⟩ := h
  obtain ⟨ad, c, e, _, hK, _⟩ := Kd.C_get h z35 (i : Int) (by omega) (by omega)
  exact ⟨w, c, hK⟩
theorem bdS_lists {x : S35} (h : BdS x) : BdL x.f4 ∧ BdL x.f5 := by
  obtain ⟨w, cs, h⟩ := h
  obtain ⟨A4, c4, A5, c5, _, _, g4, _, g5⟩ := k35_open h
  exact ⟨⟨w, A4, g4⟩, ⟨w, A5, g5⟩⟩
def CopyOf (x : S35) (t : S41) : Prop := Ev (fun k => laws_toStmt.f k x.f0 x.f1 x.f2 x.f3 x.f4 x.f5) (t.f0, t.f1, t.f2, t.f3, t.f4, t.f5) ∧ (∀ d, smallS d t) ∧ Ev (fun k => laws_eqStmt.f k t.f0 t.f1 t.f2 t.f3 t.f4 t.f5 t.f0 t.f1 t.f2 t.f3 t.f4 t.f5) true
def CopyL (l : List S35) (ts : List S41) : Prop := Ev (fun k => laws_toStmtS.f k l) ts ∧ ts.length ≤ 1048576 ∧ (∀ t ∈ ts, ∀ d, smallS d t) ∧ Ev (fun k => laws_eqStmtS.f k ts ts) true
def MkV (F : Nat → Int → Option Int) (c : Int) : Prop := ∀ a : Int, 0 ≤ a → a + 4 * c ≤ 9000000000000000000 → ∃ b, Ev (fun k => F k a) b ∧ a ≤ b ∧ b ≤ a + 4 * c
def Kids (t : S41) (k : Nat) (a : Int) : Option Int := (mkF k t.f4 a).bind fun b => mkF k t.f5 b
theorem copy_unique {x : S35} {t u : S41} (h : CopyOf x t) (k : CopyOf x u) : t = u := by
  have e := Evs.unique h.1 k.1
  obtain ⟨a0, a1, a2, a3, a4, a5⟩ := t
  obtain ⟨b0, b1, b2, b3, b4, b5⟩ := u
  simp only [Prod.mk.injEq] at e
  obtain ⟨rfl, rfl, rfl, rfl, rfl, rfl⟩ := e
  rfl
open Classical in
noncomputable def cpy (x : S35) : S41 := if h : ∃ t, CopyOf x t then h.choose else z41
theorem cpy_of {x : S35} (h : ∃ t, CopyOf x t) : CopyOf x (cpy x) := by
  unfold cpy
  rw [dif_pos h]
  exact h.choose_spec
def Goes (x : S35) : Prop := ∀ m : Int, 0 ≤ m → m ≤ 1048576 → ∃ r : Int, Ev (fun k => laws_szStmt.f k x.f0 x.f1 x.f2 x.f3 x.f4 x.f5 m) r ∧ (r < 0 ∨ (0 ≤ r ∧ r ≤ m ∧ ∃ t, CopyOf x t ∧ MkV (Kids t) (m - r)))
theorem sz_loop (l : List S35) (hl : l.length ≤ 1048576) (h : ∀ i : Nat, i < l.length → Goes (rd_T35 l (i : Int))) (d : Nat) : ∀ (i : Nat) (m : Int), i + d = l.length → 0 ≤ m → m ≤ 1048576 →
    ∃ r : Int, Ev (fun k => laws_szStmtS.l0 k l m (i : Int)) r ∧ (r < 0 ∨ (0 ≤ r ∧ r ≤ m ∧ (∀ j : Nat, i ≤ j → j < l.length → ∃ t, CopyOf (rd_T35 l (j : Int)) t) ∧ MkV (fun k a => mkL (mkF k) ((l.drop i).map cpy) a) (((l.length : Int) - (i : Int)) + (m - r)))) := by
  induction d with
  | zero =>
    intro i m hi h0 h1
    refine ⟨m, ?_, .inr ⟨h0, Int.le_refl _, fun j h1 h2 => absurd h2 (by omega), fun a a0 a1 => ⟨a, by rw [List.drop_of_length_le (by omega)]; exact Evs.some_ _, Int.le_refl _, by omega⟩⟩⟩
    refine Evs.succ (fun k => by simp only [laws_szStmtS.l0]; rfl) ?_
    exact Evs.ite_neg (by omega) (Evs.some_ _)
  | succ d ih =>
    intro i m hi h0 h1
    obtain ⟨r, hr, c⟩ := h i (by omega) m h0 h1
    rcases c with c | ⟨c0, c1, t, c2, c3⟩
    · refine ⟨-1, ?_, .inl (by omega)⟩
      refine Evs.succ (fun k => by simp only [laws_szStmtS.l0]; rfl) ?_
      exact Evs.ite_pos (by omega) (Evs.ite_pos (by omega) (Evs.bind hr (Evs.ite_pos c (Evs.some_ _))))
    · obtain ⟨q, hq, e⟩ := ih (i + 1) r (by omega) c0 (by omega)
      refine ⟨q, ?_, ?_⟩
      · refine Evs.succ (fun k => by simp only [laws_szStmtS.l0]; rfl) ?_
        refine Evs.ite_pos (by omega) (Evs.ite_pos (by omega) (Evs.bind hr (Evs.ite_neg (by omega) ?_)))
        rw [wrap_succ (by omega)]
        exact hq
      · rcases e with e | ⟨e0, e1, e2, e3⟩
        · exact .inl e
        · refine .inr ⟨e0, by omega, fun j h1 h2 => ?_, ?_⟩
          · by_cases hj : j = i
            · rw [hj]
              exact ⟨t, c2⟩
            · exact e2 j (by omega) h2
          · have hi' : i < l.length := by omega
            have ed : (l.drop i).map cpy = t :: (l.drop (i + 1)).map cpy := by
              have er : rd_T35 l (i : Int) = l[i] := by
                unfold rd_T35
                rw [Int.toNat_natCast, List.getD_eq_getElem?_getD, List.getElem?_eq_getElem hi']
                rfl
              rw [List.drop_eq_getElem_cons hi', List.map_cons, ← er, copy_unique (cpy_of ⟨t, c2⟩) c2]
            rw [ed]
            intro a a0 a1
            have ew : wrap64 (wrap64 (wrap64 (wrap64 (a + 1) + 1) + 1) + 1) = a + 4 := by unfold wrap64; omega
            obtain ⟨b, hb, b0, b1⟩ := c3 (a + 4) (by omega) (by omega)
            obtain ⟨c, hc, d0, d1⟩ := e3 b (by omega) (by omega)
            refine ⟨c, ?_, by omega, by omega⟩
            refine Evs.congr_ (f := fun k => (Kids t k (a + 4)).bind fun b => mkL (mkF k) ((l.drop (i + 1)).map cpy) b) (fun k => ?_) (Evs.bind hb hc)
            unfold Kids
            rw [Option.bind_assoc]
            show ((mkF k t.f4 (wrap64 (wrap64 (wrap64 (wrap64 (a + 1) + 1) + 1) + 1))).bind fun b => (mkF k t.f5 b).bind fun c => mkL (mkF k) _ c) = _
            rw [ew]
theorem copyL_of (l : List S35) (hl : l.length ≤ 1048576) (h : ∀ j : Nat, j < l.length → ∃ t, CopyOf (rd_T35 l (j : Int)) t) : CopyL l (l.map cpy) := by
  have hx : ∀ x ∈ l, CopyOf x (cpy x) := by
    intro x hx
    obtain ⟨i, hi, rfl⟩ := List.mem_iff_getElem.1 hx
    have := h i hi
    unfold rd_T35 at this
    rw [Int.toNat_natCast, List.getD_eq_getElem?_getD, List.getElem?_eq_getElem hi] at this
    exact cpy_of this
  have hi' : ∀ i : Nat, i < l.length → CopyOf (rd_T35 l (i : Int)) (cpy (l.getD i z35)) := by
    intro i hi
    have e : rd_T35 l (i : Int) = l.getD i z35 := by unfold rd_T35; rw [Int.toNat_natCast]
    rw [e]
    refine hx _ ?_
    rw [List.getD_eq_getElem?_getD, List.getElem?_eq_getElem hi]
    exact List.getElem_mem hi
  refine ⟨?_, by simpa using hl, fun t ht d => ?_, ?_⟩
  · refine Evs.succ (fun k => by simp only [laws_toStmtS.f]; rfl) ?_
    refine Evs.ite_pos (by omega) (Evs.ite_pos (by omega) ?_)
    rw [Int.toNat_natCast]
    refine map_loop (fun k acc i => laws_toStmtS.l0 k l acc i) l z35 _ cpy (fun i acc r hi ha hr => ?_) (fun acc ha => ?_)
    · have hc := (hi' i hi).1
      revert hr
      generalize cpy (l.getD i z35) = t at hc ⊢
      obtain ⟨b0, b1, b2, b3, b4, b5⟩ := t
      intro hr
      refine Evs.succ (fun k => by simp only [laws_toStmtS.l0]; rfl) ?_
      refine Evs.ite_pos (by omega) (Evs.ite_pos (by omega) (Evs.bind hc (Evs.ite_pos (by omega) ?_)))
      rw [wrap_succ (by omega), Int.toNat_natCast]
      exact hr
    · refine Evs.succ (fun k => by simp only [laws_toStmtS.l0]; rfl) ?_
      exact Evs.ite_neg (by omega) (Evs.some_ _)
  · obtain ⟨x, hx1, rfl⟩ := List.mem_map.1 ht
    exact (hx x hx1).2.1 d
  · refine Evs.succ (fun k => by simp only [laws_eqStmtS.f]; rfl) ?_
    refine Evs.ite_pos (by trivial) ?_
    refine all_true_loop (fun k i => laws_eqStmtS.l0 k (l.map cpy) (l.map cpy) i) (l.map cpy).length (fun i r hi hr => ?_) ?_
    · have hi2 : i < l.length := by simpa using hi
      have e : rd_T41 (l.map cpy) (i : Int) = cpy (l.getD i z35) := by
        unfold rd_T41
        rw [Int.toNat_natCast, List.getD_eq_getElem?_getD, List.getElem?_map, List.getElem?_eq_getElem hi2, List.getD_eq_getElem?_getD, List.getElem?_eq_getElem hi2]
        rfl
      refine Evs.succ (fun k => by simp only [laws_eqStmtS.l0, e]; rfl) ?_
      refine Evs.ite_pos (by omega) (Evs.ite_pos (by omega) (Evs.ite_pos (by omega) (Evs.bind (hi' i hi2).2.2 (Evs.ite_pos rfl ?_))))
      rw [wrap_succ (by rw [List.length_map] at hi; omega)]
      exact hr
    · refine Evs.succ (fun k => by simp only [laws_eqStmtS.l0]; rfl) ?_
      exact Evs.ite_neg (by omega) (Evs.some_ _)
theorem szL (l : List S35) (hb : BdL l) (h : ∀ i : Nat, i < l.length → Goes (rd_T35 l (i : Int))) (m : Int) (h0 : 0 ≤ m) (h1 : m ≤ 1048576) : ∃ r : Int, Ev (fun k => laws_szStmtS.f k l m) r ∧ (r < 0 ∨ (0 ≤ r ∧ r ≤ m ∧ ∃ ts, CopyL l ts ∧ MkV (fun k a => mkF k ts a) (m - r))) := by
  have hl := bdL_len hb
  have ew : wrap64 (m - (l.length : Int)) = m - (l.length : Int) := wrap_id (by omega) (by omega)
  by_cases c : m - (l.length : Int) < 0
  · refine ⟨-1, ?_, .inl (by omega)⟩
    refine Evs.succ (fun k => by simp only [laws_szStmtS.f, ew]; rfl) ?_
    exact Evs.ite_pos c (Evs.some_ _)
  · obtain ⟨r, hr, e⟩ := sz_loop l (by omega) h l.length 0 (m - (l.length : Int)) (by omega) (by omega) (by omega)
    refine ⟨r, ?_, ?_⟩
    · refine Evs.succ (fun k => by simp only [laws_szStmtS.f, ew]; rfl) ?_
      exact Evs.ite_neg c hr
    · rcases e with e | ⟨e0, e1, e2, e3⟩
      · exact .inl e
      · refine .inr ⟨e0, by omega, _, copyL_of l (by omega) fun j hj => e2 j (by omega) hj, fun a a0 a1 => ?_⟩
        obtain ⟨b, hb, b0, b1⟩ := e3 a a0 (by omega)
        exact ⟨b, Evs.succ (fun k => rfl) hb, b0, by omega⟩
theorem rd_sizeOf {l : List S35} {i : Nat} (h : i < l.length) : SizeOf.sizeOf (rd_T35 l (i : Int)) < SizeOf.sizeOf l := by
  unfold rd_T35
  rw [Int.toNat_natCast, List.getD_eq_getElem?_getD, List.getElem?_eq_getElem h]
  exact List.sizeOf_lt_of_mem (List.getElem_mem h)
theorem goes_all : ∀ (n : Nat) (x : S35), SizeOf.sizeOf x ≤ n → BdL x.f4 → BdL x.f5 → Goes x
  | 0, ⟨a0, a1, a2, a3, l4, l5⟩, hn, _, _ => by simp at hn
  | n + 1, ⟨a0, a1, a2, a3, l4, l5⟩, hn, b4, b5 => by
    have b4 : BdL l4 := b4
    have b5 : BdL l5 := b5
    have z : SizeOf.sizeOf l4 + SizeOf.sizeOf l5 ≤ n := by simp at hn; omega
    have g4 : ∀ i : Nat, i < l4.length → Goes (rd_T35 l4 (i : Int)) := fun i hi => goes_all n _ (by have := rd_sizeOf hi; omega) (bdS_lists (bdL_elem b4 i hi)).1 (bdS_lists (bdL_elem b4 i hi)).2
    have g5 : ∀ i : Nat, i < l5.length → Goes (rd_T35 l5 (i : Int)) := fun i hi => goes_all n _ (by have := rd_sizeOf hi; omega) (bdS_lists (bdL_elem b5 i hi)).1 (bdS_lists (bdL_elem b5 i hi)).2
    intro m h0 h1
    obtain ⟨r, hr, c⟩ := szL l4 b4 g4 m h0 h1
    rcases c with c | ⟨c0, c1, ts4, c2, k4⟩
    · refine ⟨-1, ?_, .inl (by omega)⟩
      refine Evs.succ (fun k => by simp only [laws_szStmt.f]; rfl) ?_
      exact Evs.bind hr (Evs.ite_pos c (Evs.some_ _))
    obtain ⟨q, hq, e⟩ := szL l5 b5 g5 r c0 (by omega)
    rcases e with e | ⟨e0, e1, ts5, e2, k5⟩
    · refine ⟨-1, ?_, .inl (by omega)⟩
      refine Evs.succ (fun k => by simp only [laws_szStmt.f]; rfl) ?_
      exact Evs.bind hr (Evs.ite_neg (by omega) (Evs.bind hq (Evs.ite_pos e (Evs.some_ _))))
    refine ⟨q, ?_, .inr ⟨e0, by omega, ⟨a0, a1, a2, a3, ts4, ts5⟩, ⟨?_, fun d => ?_, ?_⟩, fun a p0 p1 => ?_⟩⟩
    · refine Evs.succ (fun k => by simp only [laws_szStmt.f]; rfl) ?_
      exact Evs.bind hr (Evs.ite_neg (by omega) (Evs.bind hq (Evs.ite_neg (by omega) (Evs.some_ _))))
    · refine Evs.succ (fun k => by simp only [laws_toStmt.f]; rfl) ?_
      exact Evs.bind c2.1 (Evs.bind e2.1 (Evs.some_ _))
    · cases d with
      | zero => trivial
      | succ d => exact ⟨⟨c2.2.1, fun t ht => c2.2.2.1 t ht d⟩, e2.2.1, fun t ht => e2.2.2.1 t ht d⟩
    · refine Evs.succ (fun k => by simp only [laws_eqStmt.f]; rfl) ?_
      exact Evs.ite_pos (by trivial) (Evs.ite_pos (by trivial) (Evs.ite_pos (by trivial) (Evs.ite_pos (by trivial) (Evs.bind c2.2.2.2 (Evs.ite_pos rfl (Evs.bind e2.2.2.2 (Evs.ite_pos rfl (Evs.some_ _))))))))
    · obtain ⟨b, hb, b0, b1⟩ := k4 a p0 (by omega)
      obtain ⟨c, hc, d0, d1⟩ := k5 b (by omega) (by omega)
      exact ⟨c, Evs.bind hb hc, by omega, by omega⟩
end Go.Proofs.Ytoekjehgnakffaa.P
namespace Go.Proofs.Ytoekjehgnakffaa.P
open Go.RowKit Go.Proofs.YtoekjehgnakffaaW.PrintWords Go.Proofs.YtoekjehgnakffaaW.PrintMore
set_option linter.unusedVariables false
set_option linter.unusedSimpArgs false
theorem lawL (l : List S35) (hb : BdL l) (m : Int) (h0 : 0 ≤ m) (h1 : m ≤ 1048576) : ∃ r : Int, Ev (fun k => laws_szStmtS.f k l m) r ∧ (r < 0 ∨ (0 ≤ r ∧ r ≤ m ∧ ∃ ts, CopyL l ts ∧ MkV (fun k a => mkF k ts a) (m - r))) :=
  szL l hb (fun i hi => goes_all _ _ (Nat.le_refl _) (bdS_lists (bdL_elem hb i hi)).1 (bdS_lists (bdL_elem hb i hi)).2) m h0 h1
theorem CopyL.sl {l : List S35} {ts : List S41} (c : CopyL l ts) (d : Nat) : SL d ts := ⟨c.2.1, fun t ht => c.2.2.1 t ht d⟩
theorem CopyL.eq {l : List S35} {ts : List S41} (c : CopyL l ts) : Ev (fun k => laws_eqStmtS.f k ts ts) true := c.2.2.2
end Go.Proofs.Ytoekjehgnakffaa.P

namespace Go.Proofs.Ytoekjehgnakffaa.P
set_option linter.unusedVariables false
set_option linter.unusedSimpArgs false
def LeafI (i : S39) (rm : Int) : Prop :=
  (i.f0 = 1 ∧ 0 ≤ i.f1 ∧ i.f1 < 3 ∧ i.f2 = 0 ∧ -999 ≤ i.f3 ∧ i.f3 ≤ 999) ∨ (i.f0 = 2 ∧ 0 ≤ i.f1 ∧ i.f1 < 3 ∧ 0 ≤ i.f2 ∧ i.f2 < 3 ∧ 1 ≤ i.f3 ∧ i.f3 ≤ 5) ∨
  ((i.f0 = 3 ∨ i.f0 = 4) ∧ 0 ≤ i.f1 ∧ i.f1 < 3 ∧ 0 ≤ i.f2 ∧ i.f2 < 3 ∧ i.f3 = 0) ∨ (i.f0 = 5 ∧ 0 ≤ i.f1 ∧ i.f1 < 3 ∧ i.f2 = 0 ∧ i.f3 = 0) ∨
  (i.f0 = 10 ∧ 0 ≤ rm ∧ 0 ≤ i.f1 ∧ i.f1 < 2 ∧ i.f2 = 0 ∧ i.f3 = 0) ∨ (i.f0 = 11 ∧ 0 ≤ i.f1 ∧ i.f1 < 2 ∧ i.f2 = 0 ∧ i.f3 = 0) ∨ (i.f0 = 12 ∧ i.f1 = 0 ∧ i.f2 = 0 ∧ i.f3 = 0)
inductive Blk (c : List S39) : Int → Nat → Nat → Prop
  | nil (rm : Int) (p : Nat) : Blk c rm p p
  | app {rm : Int} {p q r : Nat} : Blk c rm p q → Blk c rm q r → Blk c rm p r
  | leaf {rm : Int} {p : Nat} {i : S39} : c[p]? = some i → LeafI i rm → Blk c rm p (p + 1)
  | cond {rm a : Int} {p q r : Nat} : c[p]? = some ⟨6, a, 0, ((q + 1 : Nat) : Int)⟩ → 0 ≤ a → a < 3 → Blk c rm (p + 1) q → c[q]? = some ⟨7, 0, 0, (r : Int)⟩ → Blk c rm (q + 1) r → Blk c rm p r
  | loop {rm a : Int} {p q : Nat} : c[p]? = some ⟨6, a, 0, ((q + 1 : Nat) : Int)⟩ → 0 ≤ a → a < 3 → Blk c rm (p + 1) q → c[q]? = some ⟨7, 0, 0, (p : Int)⟩ → Blk c rm p (q + 1)
  | room {a : Int} {p q : Nat} : c[p]? = some ⟨8, a, 0, 0⟩ → 0 ≤ a → a < 2 → Blk c a (p + 1) q → c[q]? = some ⟨9, a, 0, 0⟩ → Blk c (-1) p (q + 1)
theorem Blk.le {c : List S39} {rm : Int} {p q : Nat} (h : Blk c rm p q) : p ≤ q := by
  induction h <;> omega
def labI (c : List S39) : Nat → Int
  | 0 => -1
  | j + 1 => match c[j]? with
    | none => labI c j
    | some i => if i.f0 = 8 then i.f1 else if i.f0 = 9 then -1 else labI c j
theorem lab_step {c : List S39} {j : Nat} {i : S39} (h : c[j]? = some i) : labI c (j + 1) = if i.f0 = 8 then i.f1 else if i.f0 = 9 then -1 else labI c j := by
  rw [labI, h]
def movI (i : S39) (rm : Int) : Int × Bool :=
  if i.f0 = 8 then (i.f1, decide (rm = -1)) else if i.f0 = 9 then (-1, decide (rm = i.f1)) else if i.f0 = 10 then (rm, decide (rm ≠ -1)) else if i.f0 = 13 then (rm, decide (rm = -1)) else (rm, true)
def sucI (i : S39) (j : Nat) : List Int :=
  if i.f0 = 13 then [] else if i.f0 = 7 then [i.f3] else if i.f0 = 6 then [((j + 1 : Nat) : Int), i.f3] else [((j + 1 : Nat) : Int)]
def FitI (c : List S39) (p q j : Nat) : Prop := ∃ i, c[j]? = some i ∧ (movI i (labI c j)).2 = true ∧ ∀ t ∈ sucI i j, ∃ n : Nat, t = (n : Int) ∧ p ≤ n ∧ n ≤ q ∧ labI c n = (movI i (labI c j)).1
theorem FitI.mono {c : List S39} {p q p' q' j : Nat} (h : FitI c p q j) (hp : p' ≤ p) (hq : q ≤ q') : FitI c p' q' j := by
  obtain ⟨i, h1, h2, h3⟩ := h
  exact ⟨i, h1, h2, fun t ht => by obtain ⟨n, e, a, b, l⟩ := h3 t ht; exact ⟨n, e, by omega, by omega, l⟩⟩
theorem Blk.fit {c : List S39} {rm : Int} {p q : Nat} (h : Blk c rm p q) : labI c p = rm → labI c q = rm ∧ ∀ j, p ≤ j → j < q → FitI c p q j := by
  induction h with
  | nil => exact fun h => ⟨h, fun j _ _ => by omega⟩
  | @app rm p q r h1 h2 ih1 ih2 =>
    intro h
    have := h1.le
    have := h2.le
    obtain ⟨e1, f1⟩ := ih1 h
    obtain ⟨e2, f2⟩ := ih2 e1
    refine ⟨e2, fun j a b => ?_⟩
    rcases Nat.lt_or_ge j q with hj | hj
    · exact (f1 j a hj).mono (by omega) (by omega)
    · exact (f2 j hj b).mono (by omega) (by omega)
  | @leaf rm p i hc hl =>
    intro h
    have e := lab_step hc
    have n8 : ¬ i.f0 = 8 := by unfold LeafI at hl; omega
    have n9 : ¬ i.f0 = 9 := by unfold LeafI at hl; omega
    have n13 : ¬ i.f0 = 13 := by unfold LeafI at hl; omega
    have n6 : ¬ i.f0 = 6 := by unfold LeafI at hl; omega
    have n7 : ¬ i.f0 = 7 := by unfold LeafI at hl; omega
    rw [if_neg n8, if_neg n9, h] at e
    refine ⟨e, fun j a b => ?_⟩
    obtain rfl : j = p := by omega
    have hm : movI i (labI c j) = (rm, true) := by
      unfold movI
      rw [if_neg n8, if_neg n9, if_neg n13, h]
      by_cases n10 : i.f0 = 10
      · rw [if_pos n10]
        have : rm ≠ -1 := by unfold LeafI at hl; omega
        rw [decide_eq_true this]
      · rw [if_neg n10]
    refine ⟨i, hc, by rw [hm], fun t ht => ?_⟩
    unfold sucI at ht
    rw [if_neg n13, if_neg n7, if_neg n6] at ht
    obtain rfl := List.mem_singleton.1 ht
    exact ⟨j + 1, rfl, by omega, by omega, by rw [hm, e]⟩
  | @cond rm a p q r hc ha hb h1 hd h2 ih1 ih2 =>
    intro h
    have l1 := h1.le
    have l2 := h2.le
    have e1 : labI c (p + 1) = rm := (lab_step hc).trans (by simpa using h)
    obtain ⟨e2, f2⟩ := ih1 e1
    have e3 : labI c (q + 1) = rm := (lab_step hd).trans (by simpa using e2)
    obtain ⟨e4, f4⟩ := ih2 e3
    refine ⟨e4, fun j a b => ?_⟩
    rcases Nat.lt_trichotomy j q with hj | rfl | hj
    · by_cases hp : j = p
      · subst hp
        refine ⟨_, hc, by simp [movI], fun t ht => ?_⟩
        have hm : movI ⟨6, ‹Int›, 0, ((q + 1 : Nat) : Int)⟩ (labI c j) = (rm, true) := by simp [movI, h]
        simp only [sucI] at ht
        simp at ht
        rcases ht with rfl | rfl
        · exact ⟨j + 1, by simp, by omega, by omega, by simp [movI, h, e1]⟩
        · exact ⟨q + 1, by simp, by omega, by omega, by simp [movI, h, e3]⟩
      · exact (f2 j (by omega) hj).mono (by omega) (by omega)
    · refine ⟨_, hd, by simp [movI], fun t ht => ?_⟩
      simp [sucI] at ht
      subst ht
      exact ⟨r, rfl, by omega, by omega, by simp [movI, e2, e4]⟩
    · exact (f4 j (by omega) b).mono (by omega) (by omega)
  | @loop rm a p q hc ha hb h1 hd ih1 =>
    intro h
    have l1 := h1.le
    have e1 : labI c (p + 1) = rm := (lab_step hc).trans (by simpa using h)
    obtain ⟨e2, f2⟩ := ih1 e1
    have e3 : labI c (q + 1) = rm := (lab_step hd).trans (by simpa using e2)
    refine ⟨e3, fun j a b => ?_⟩
    rcases Nat.lt_trichotomy j q with hj | rfl | hj
    · by_cases hp : j = p
      · subst hp
        refine ⟨_, hc, by simp [movI], fun t ht => ?_⟩
        simp [sucI] at ht
        rcases ht with rfl | rfl
        · exact ⟨j + 1, by simp, by omega, by omega, by simp [movI, h, e1]⟩
        · exact ⟨q + 1, by simp, by omega, by omega, by simp [movI, h, e3]⟩
      · exact (f2 j (by omega) hj).mono (by omega) (by omega)
    · refine ⟨_, hd, by simp [movI], fun t ht => ?_⟩
      simp [sucI] at ht
      subst ht
      exact ⟨p, rfl, by omega, by omega, by simp [movI, e2, h]⟩
    · omega
  | @room a p q hc ha hb h1 hd ih1 =>
    intro h
    have l1 := h1.le
    have e1 : labI c (p + 1) = a := (lab_step hc).trans (by simp)
    obtain ⟨e2, f2⟩ := ih1 e1
    have e3 : labI c (q + 1) = -1 := (lab_step hd).trans (by simp)
    refine ⟨e3, fun j a b => ?_⟩
    rcases Nat.lt_trichotomy j q with hj | rfl | hj
    · by_cases hp : j = p
      · subst hp
        refine ⟨_, hc, by simp [movI, h], fun t ht => ?_⟩
        simp [sucI] at ht
        subst ht
        exact ⟨j + 1, by simp, by omega, by omega, by simp [movI, e1]⟩
      · exact (f2 j (by omega) hj).mono (by omega) (by omega)
    · refine ⟨_, hd, by simp [movI, e2], fun t ht => ?_⟩
      simp [sucI] at ht
      subst ht
      exact ⟨j + 1, by simp, by omega, by omega, by simp [movI, e3]⟩
    · omega
def InsI (i : S39) (n : Nat) : Prop :=
  LeafI i 0 ∨ (i.f0 = 6 ∧ 0 ≤ i.f1 ∧ i.f1 < 3 ∧ i.f2 = 0 ∧ 0 ≤ i.f3 ∧ i.f3 < n) ∨ (i.f0 = 7 ∧ i.f1 = 0 ∧ i.f2 = 0 ∧ 0 ≤ i.f3 ∧ i.f3 < n) ∨
  ((i.f0 = 8 ∨ i.f0 = 9) ∧ 0 ≤ i.f1 ∧ i.f1 < 2 ∧ i.f2 = 0 ∧ i.f3 = 0) ∨ (i.f0 = 13 ∧ i.f1 = 0 ∧ i.f2 = 0 ∧ i.f3 = 0)
def JmpI (c : List S39) (p q j : Nat) : Prop := ∃ i, c[j]? = some i ∧ (i.f0 = 6 → ∃ t : Nat, i.f3 = (t : Int) ∧ j < t ∧ t ≤ q ∧ ∃ i', c[t - 1]? = some i' ∧ i'.f0 = 7) ∧
  (i.f0 = 7 → ∃ t : Nat, i.f3 = (t : Int) ∧ p ≤ t ∧ ((j < t ∧ t ≤ q) ∨ (t < j ∧ ∃ i', c[t]? = some i' ∧ i'.f0 = 6)))
theorem JmpI.mono {c : List S39} {p q p' q' j : Nat} (h : JmpI c p q j) (hp : p' ≤ p) (hq : q ≤ q') : JmpI c p' q' j := by
  obtain ⟨i, h1, h2, h3⟩ := h
  refine ⟨i, h1, fun e => ?_, fun e => ?_⟩
  · obtain ⟨t, a, b, c, d⟩ := h2 e
    exact ⟨t, a, b, by omega, d⟩
  · obtain ⟨t, a, b, c⟩ := h3 e
    exact ⟨t, a, by omega, c.imp (fun c => ⟨c.1, by omega⟩) id⟩
def balI (c : List S39) (p : Nat) : Nat → Int
  | 0 => 0
  | n + 1 => balI c p n + match c[p + n]? with
    | none => 0
    | some i => if i.f0 = 6 then 1 else if i.f0 = 7 then -1 else 0
def scanI (c : List S39) (m : Int) (p : Nat) (s : Bool) : Nat → Option Bool
  | 0 => some s
  | n + 1 => (scanI c m p s n).bind fun b => match c[p + n]? with
    | none => none
    | some i => if i.f1 = m then if i.f0 = 8 then if b = true then none else some true else if i.f0 = 9 then if b = true then some false else none else some b else some b
def seqC (f : S41 → Nat → List S39) : List S41 → Nat → List S39
  | [], _ => []
  | x :: t, p => f x p ++ seqC f t (p + (f x p).length)
def leafC (s : S41) : S39 := if s.f0 = 9 then ⟨10, s.f1, 0, 0⟩ else if s.f0 = 10 then ⟨11, s.f1, 0, 0⟩ else if s.f0 = 1 ∨ s.f0 = 2 ∨ s.f0 = 3 ∨ s.f0 = 4 ∨ s.f0 = 5 then ⟨s.f0, s.f1, s.f2, s.f3⟩ else ⟨12, 0, 0, 0⟩
def oneC (g : List S41 → Nat → List S39) (s : S41) (p : Nat) : List S39 :=
  if s.f0 = 6 then ⟨6, s.f1, 0, ((p + 2 + (g s.f4 (p + 1)).length : Nat) : Int)⟩ :: (g s.f4 (p + 1) ++ ⟨7, 0, 0, ((p + 2 + (g s.f4 (p + 1)).length + (g s.f5 (p + 2 + (g s.f4 (p + 1)).length)).length : Nat) : Int)⟩ :: g s.f5 (p + 2 + (g s.f4 (p + 1)).length))
  else if s.f0 = 7 then ⟨6, s.f1, 0, ((p + 2 + (g s.f4 (p + 1)).length : Nat) : Int)⟩ :: (g s.f4 (p + 1) ++ [⟨7, 0, 0, (p : Int)⟩])
  else if s.f0 = 8 then ⟨8, s.f1, 0, 0⟩ :: (g s.f4 (p + 1) ++ [⟨9, s.f1, 0, 0⟩])
  else [leafC s]
def codL : Nat → List S41 → Nat → List S39
  | 0 => fun _ _ => []
  | d + 1 => seqC (oneC (codL d))
def Emb (c : List S39) (p : Nat) (s : List S39) : Prop := ∃ a b, c = a ++ (s ++ b) ∧ a.length = p
theorem Emb.app {c : List S39} {p : Nat} {s t : List S39} (h : Emb c p (s ++ t)) : Emb c p s ∧ Emb c (p + s.length) t := by
  obtain ⟨a, b, e, l⟩ := h
  exact ⟨⟨a, t ++ b, by rw [e, List.append_assoc], l⟩, ⟨a ++ s, b, by rw [e]; simp, by simp [l]⟩⟩
theorem Emb.cons {c : List S39} {p : Nat} {i : S39} {t : List S39} (h : Emb c p (i :: t)) : c[p]? = some i ∧ Emb c (p + 1) t := by
  obtain ⟨a, b, e, l⟩ := h
  refine ⟨?_, a ++ [i], b, by rw [e]; simp, by simp [l]⟩
  rw [e, List.getElem?_append_right (by omega), l]
  simp
theorem Emb.all (c : List S39) : Emb c 0 c := ⟨[], [], by simp, rfl⟩
def codF (l : List S41) : List S39 := codL 3 l 0 ++ [⟨13, 0, 0, 0⟩]
theorem codF_len (l : List S41) : (codF l).length = (codL 3 l 0).length + 1 := by simp [codF]
def shfI (n : Nat) (i : S39) : S39 := if i.f0 = 6 ∨ i.f0 = 7 then ⟨i.f0, i.f1, i.f2, i.f3 + n⟩ else i
end Go.Proofs.Ytoekjehgnakffaa.P
