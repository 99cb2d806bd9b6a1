/- Parts of the proof of FnProgSame: plain Lean functions of Go functions, and that the calls come to what they say; no condition beyond those that each theorem names. -/
import Derived.Test.YtnegnanlbdncmaaDoorZFnProgSame16
import Derived.Test.YtnegnanlbdncmaaDoorZFnProgSame6
import Derived.Test.YtnegnanlbdncmaaDoorZFnProgSame4
import Derived.Test.YtnegnanlbdncmaaDoorZFnProgSame10
import Derived.Test.YtnegnanlbdncmaaDoorZFnProgSame11
namespace Go.Proofs.YtnegnanlbdncmaaDoor.P
open Go.RowKit Go.Proofs.YtnegnanlbdncmaaDoorW.PrintWords Go.Proofs.YtnegnanlbdncmaaDoorW.PrintMore
set_option linter.unusedVariables false
set_option linter.unusedSimpArgs false
def SL (d : Nat) (l : List S49) : Prop := l.length ≤ 1048576 ∧ ∀ x ∈ l, smallS d x
theorem SL.kids {d : Nat} {l : List S49} (h : SL (d + 1) l) {x : S49} (hx : x ∈ l) : SL d x.f4 ∧ SL d x.f5 := h.2 x hx
def dep : Nat → List S49 → Prop
  | 0, l => l = []
  | d + 1, l => ∀ x ∈ l, dep d x.f4 ∧ dep d x.f5
def cntL : Nat → List S49 → Nat
  | 0, _ => 0
  | d + 1, l => (l.map fun x => 1 + cntL d x.f4 + cntL d x.f5).sum
def flatL : Nat → List S49 → Int → List I5
  | 0, _, _ => []
  | d + 1, l, rm => l.flatMap fun x => (x.f0, x.f1, x.f2, x.f3, rm) :: (flatL d x.f4 (innR x rm) ++ flatL d x.f5 (innR x rm))
theorem flat_len : ∀ (d : Nat) (l : List S49) (rm : Int), (flatL d l rm).length = cntL d l
  | 0, _, _ => rfl
  | d + 1, l, rm => by
    unfold flatL cntL
    rw [List.length_flatMap]
    congr 1
    refine List.map_congr_left fun x _ => ?_
    simp only [List.length_cons, List.length_append, flat_len d]
    omega
theorem all_ev : ∀ (d : Nat) (l : List S49) (rm : Int), dep d l → Ev (fun k => allK k l rm) (flatL d l rm)
  | 0, l, rm, h => by
    obtain rfl : l = [] := h
    exact Evs.succ (fun k => rfl) (Evs.some_ _)
  | d + 1, l, rm, h => by
    refine Evs.succ (fun k => rfl) ?_
    show Ev (fun k => allL (allT (allK k)) rm l) (flatL (d + 1) l rm)
    have h' : ∀ x ∈ l, dep d x.f4 ∧ dep d x.f5 := h
    clear h
    unfold flatL
    induction l with
    | nil => exact Evs.some_ _
    | cons x t ih =>
      have hx := h' x (List.mem_cons_self ..)
      rw [List.flatMap_cons]
      exact Evs.bind (Evs.bind (all_ev d x.f4 (innR x rm) hx.1) (Evs.bind (all_ev d x.f5 (innR x rm) hx.2) (Evs.some_ _))) (Evs.bind (ih fun y hy => h' y (List.mem_cons_of_mem _ hy)) (Evs.some_ _))
theorem okS_kids2 {d : Nat} {t : S49} {rm : Int} (h : okS (d + 1) t rm = true) : ∃ m : Int, (∀ x ∈ t.f4, okS d x m = true) ∧ (∀ x ∈ t.f5, okS d x m = true) := by
  rw [okS_succ] at h
  by_cases h6 : t.f0 = 6
  · rw [if_pos h6] at h
    simp only [Bool.and_eq_true, List.all_eq_true] at h
    exact ⟨rm, h.2.2.2.1, h.2.2.2.2⟩
  rw [if_neg h6] at h
  by_cases h5 : t.f5.length = 0
  · have n5 := List.eq_nil_of_length_eq_zero h5
    rw [if_pos h5] at h
    rw [n5]
    by_cases h7 : t.f0 = 7
    · rw [if_pos h7] at h
      simp only [Bool.and_eq_true, List.all_eq_true] at h
      exact ⟨rm, h.2.2.2, fun _ h => by cases h⟩
    rw [if_neg h7] at h
    by_cases h8 : t.f0 = 8
    · rw [if_pos h8] at h
      simp only [Bool.and_eq_true, List.all_eq_true, decide_eq_true_eq] at h
      exact ⟨t.f1, h.2.2.2.2, fun _ h => by cases h⟩
    rw [if_neg h8] at h
    simp only [Bool.and_eq_true, decide_eq_true_eq] at h
    rw [List.eq_nil_of_length_eq_zero h.1]
    exact ⟨rm, (fun _ h => by cases h), (fun _ h => by cases h)⟩
  · rw [if_neg h5] at h
    cases h
theorem dep_of : ∀ (d : Nat) (l : List S49) (rm : Int), (∀ x ∈ l, okS d x rm = true) → dep d l
  | 0, [], _, _ => rfl
  | 0, x :: t, rm, h => by cases h x (List.mem_cons_self ..)
  | d + 1, l, rm, h => fun x hx => by
    obtain ⟨m, h4, h5⟩ := okS_kids2 (h x hx)
    exact ⟨dep_of d x.f4 m h4, dep_of d x.f5 m h5⟩
theorem wrap_l (a b : Int) : wrap64 (wrap64 a + b) = wrap64 (a + b) := by unfold wrap64; omega
theorem wrap_r (a b : Int) : wrap64 (a + wrap64 b) = wrap64 (a + b) := by unfold wrap64; omega
theorem many_loop (d : Nat) (l : List S49) (hl : l.length ≤ 1048576) (hd : d ≤ 1000) (h : ∀ x ∈ l, Ev (fun k => spec_l2Many.f k x.f4 (d : Int)) (wrap64 (cntL d x.f4)) ∧ Ev (fun k => spec_l2Many.f k x.f5 (d : Int)) (wrap64 (cntL d x.f5))) (e : Nat) : ∀ (i n : Nat), i + e = l.length →
    Ev (fun k => spec_l2Many.l0 k l ((d + 1 : Nat) : Int) (wrap64 (n : Int)) (i : Int)) (wrap64 ((n + ((l.drop i).map fun x => 1 + cntL d x.f4 + cntL d x.f5).sum : Nat) : Int)) := by
  have ew : wrap64 (((d + 1 : Nat) : Int) - 1) = (d : Int) := by rw [wrap_id (by omega) (by omega)]; omega
  induction e with
  | zero =>
    intro i n hi
    rw [List.drop_of_length_le (by omega)]
    refine Evs.succ (fun k => by simp only [spec_l2Many.l0]; rfl) ?_
    refine Evs.ite_neg (by omega) (Evs.succ (fun k => by simp only [spec_l2Many.j1]; rfl) (Evs.ite_neg (by simp) ?_))
    simpa using Evs.some_ _
  | succ e ih =>
    intro i n hi
    have hlt : i < l.length := by omega
    obtain ⟨h4, h5⟩ := h _ (rd_mem hlt)
    rw [drop_rd l hlt]
    rw [List.map_cons, List.sum_cons]
    refine Evs.succ (fun k => by simp only [spec_l2Many.l0]; rfl) ?_
    refine Evs.ite_pos (by omega) ?_
    rw [decide_eq_true (show ((d + 1 : Nat) : Int) > 0 by omega)]
    refine Evs.succ (fun k => by simp only [spec_l2Many.j1, ew]; rfl) ?_
    refine Evs.ite_pos (by trivial) (Evs.ite_pos (by omega) (Evs.ite_pos (by omega) (Evs.bind h4 (Evs.bind h5 ?_))))
    rw [wrap_succ (by omega)]
    have q := ih (i + 1) (n + (1 + cntL d (rd_T49 l (i : Int)).f4 + cntL d (rd_T49 l (i : Int)).f5)) (by omega)
    have e1 : wrap64 (wrap64 (wrap64 (wrap64 (n : Int) + 1) + wrap64 (cntL d (rd_T49 l (i : Int)).f4)) + wrap64 (cntL d (rd_T49 l (i : Int)).f5)) = wrap64 ((n + (1 + cntL d (rd_T49 l (i : Int)).f4 + cntL d (rd_T49 l (i : Int)).f5) : Nat) : Int) := by
      generalize cntL d (rd_T49 l (i : Int)).f4 = a
      generalize cntL d (rd_T49 l (i : Int)).f5 = b
      have s1 : wrap64 (wrap64 (n : Int) + 1) = wrap64 ((n : Int) + 1) := wrap_l _ _
      have s2 : wrap64 (wrap64 ((n : Int) + 1) + wrap64 (a : Int)) = wrap64 ((n : Int) + 1 + a) := (wrap_l _ _).trans (wrap_r _ _)
      have s3 : wrap64 (wrap64 ((n : Int) + 1 + a) + wrap64 (b : Int)) = wrap64 ((n : Int) + 1 + a + b) := (wrap_l _ _).trans (wrap_r _ _)
      rw [s1, s2, s3]
      congr 1
      push_cast
      omega
    rw [e1, show n + (1 + cntL d (rd_T49 l (i : Int)).f4 + cntL d (rd_T49 l (i : Int)).f5 + (List.map (fun x => 1 + cntL d x.f4 + cntL d x.f5) (List.drop (i + 1) l)).sum) = n + (1 + cntL d (rd_T49 l (i : Int)).f4 + cntL d (rd_T49 l (i : Int)).f5) + (List.map (fun x => 1 + cntL d x.f4 + cntL d x.f5) (List.drop (i + 1) l)).sum by omega]
    exact q
theorem many_ev : ∀ (d : Nat), d ≤ 1000 → ∀ l, SL d l → Ev (fun k => spec_l2Many.f k l (d : Int)) (wrap64 (cntL d l))
  | 0, _, l, h => by
    refine Evs.succ (fun k => by simp only [spec_l2Many.f]; rfl) (Evs.succ (fun k => by simp only [spec_l2Many.l0]; rfl) ?_)
    have e : wrap64 ((cntL 0 l : Nat) : Int) = 0 := by simp [cntL, wrap64]
    rw [e]
    have j : Ev (fun k => spec_l2Many.j1 k l ((0 : Nat) : Int) 0 0 false) 0 := Evs.succ (fun k => by simp only [spec_l2Many.j1]; rfl) (Evs.ite_neg (by simp) (Evs.some_ _))
    by_cases c : (0 : Int) < (l.length : Int)
    · exact Evs.ite_pos c j
    · exact Evs.ite_neg c j
  | d + 1, hd, l, h => by
    refine Evs.succ (fun k => by simp only [spec_l2Many.f]; rfl) ?_
    have q := many_loop d l h.1 (by omega) (fun x hx => ⟨many_ev d (by omega) x.f4 (h.kids hx).1, many_ev d (by omega) x.f5 (h.kids hx).2⟩) l.length 0 0 (by omega)
    have e : wrap64 ((0 : Nat) : Int) = 0 := by simp [wrap64]
    rw [e] at q
    simpa [cntL] using q
def okList (l : List S49) : Bool := l.all fun x => okS 3 x (-1)
def okLst (l : List S49) : Bool := okList l && decide (wrap64 (cntL 3 l) ≤ 14)
def manyV (l : List S49) : Int := if okLst l = true then wrap64 (cntL 3 l) else 0
theorem dep3 {l : List S49} (h : okList l = true) : dep 3 l := dep_of 3 l (-1) (by unfold okList at h; rwa [List.all_eq_true] at h)
theorem specList3 {l : List S49} (h : SL 3 l) : Ev (fun k => spec_l2List.f k l 3 (-1)) (okList l) := by
  have e := specList_of 3 (by omega) (specStmt_ev 3 (by omega)) l (-1) (by omega) h.1 h.2
  rwa [show ((3 : Nat) : Int) = 3 from rfl] at e
theorem many3 {l : List S49} (h : SL 3 l) : Ev (fun k => spec_l2Many.f k l 3) (wrap64 (cntL 3 l)) := by
  have e := many_ev 3 (by omega) l h
  rwa [show ((3 : Nat) : Int) = 3 from rfl] at e
theorem specOk {l : List S49} (h : SL 3 l) : Ev (fun k => spec_StmtsOk.f k l) (okLst l) := by
  unfold spec_StmtsOk.f okLst
  exact Evs.bind (specList3 h) (ev_band fun _ => Evs.bind (many3 h) (Evs.some_ _))
theorem implList3 (l : List S49) : Ev (fun k => impl_listOk.f k l 3 (-1)) (okList l) := by
  refine implList_of 3 (-1) stmtOkS 3 l fun x _ => ?_
  have e := implStmt_ev 3 (by omega) x (-1) (by omega)
  rwa [show ((3 : Nat) : Int) = 3 from rfl] at e
theorem implOk (l : List S49) : Ev (fun k => impl_StmtsOk.f k l) (okLst l) := by
  unfold impl_StmtsOk.f okLst
  refine Evs.bind (implList3 l) (ev_band fun h => ?_)
  refine Evs.bind (all_ev 3 l (-1) (dep3 h)) ?_
  rw [flat_len]
  exact Evs.some_ _
theorem okLst_list {l : List S49} (h : okLst l = true) : okList l = true := by
  unfold okLst at h
  rw [Bool.and_eq_true] at h
  exact h.1
theorem smL_sl {l : List S49} (h : SmL l) (d : Nat) : SL d l := ⟨by have := h.1; omega, fun t ht => h.2 t ht d⟩
theorem cnt_bound {d B : Nat} : ∀ l : List S49, (∀ x ∈ l, cntL d x.f4 ≤ B ∧ cntL d x.f5 ≤ B) → cntL (d + 1) l ≤ l.length * (1 + 2 * B)
  | [], _ => by simp [cntL]
  | x :: t, h => by
    have hx := h x (List.mem_cons_self ..)
    have ht := cnt_bound t fun y hy => h y (List.mem_cons_of_mem _ hy)
    have e : cntL (d + 1) (x :: t) = (1 + cntL d x.f4 + cntL d x.f5) + cntL (d + 1) t := by
      show (List.map _ (x :: t)).sum = _
      rw [List.map_cons, List.sum_cons]
      rfl
    rw [e, List.length_cons, Nat.succ_mul]
    omega
theorem cnt1 {l : List S49} (h : l.length ≤ 1048576) : cntL 1 l ≤ 1048576 := by
  have := cnt_bound (d := 0) (B := 0) l fun x _ => ⟨Nat.le_refl _, Nat.le_refl _⟩
  change cntL 1 l ≤ _ at this
  omega
theorem cnt2 {l : List S49} (h : SL 1 l) : cntL 2 l ≤ 2199024304128 := by
  have := cnt_bound (d := 1) (B := 1048576) l fun x hx => ⟨cnt1 (h.kids hx).1.1, cnt1 (h.kids hx).2.1⟩
  change cntL 2 l ≤ _ at this
  have h1 := h.1
  have : l.length * (1 + 2 * 1048576) ≤ 1048576 * (1 + 2 * 1048576) := Nat.mul_le_mul_right _ h1
  omega
theorem cnt3 {l : List S49} (h : SL 2 l) (hl : l.length ≤ 1000) : cntL 3 l ≤ 5000000000000000 := by
  have := cnt_bound (d := 2) (B := 2199024304128) l fun x hx => ⟨cnt2 (h.kids hx).1, cnt2 (h.kids hx).2⟩
  change cntL 3 l ≤ _ at this
  have : l.length * (1 + 2 * 2199024304128) ≤ 1000 * (1 + 2 * 2199024304128) := Nat.mul_le_mul_right _ hl
  omega
theorem wrap_cnt {n : Nat} (h : n ≤ 5000000000000000) : wrap64 (n : Int) = n := wrap_id (by omega) (by omega)
theorem some_loop {xs : List Int} (hb : Buf xs) (n : Nat) : ∀ (out : List S49) (p : Int), out.length + n ≤ 6 → (∀ t ∈ out, Sm t) → okLst out = true → 0 ≤ p → p + (n : Int) * 100000 ≤ 1000000000 →
    ∃ (l : List S49) (p' : Int), l.length ≤ 6 ∧ (∀ t ∈ l, Sm t) ∧ okLst l = true ∧ p ≤ p' ∧ p' ≤ p + (n : Int) * 100000 ∧ Ev (fun k => spec_l2Some.l0 k out (n : Int) xs p) (l, p') := by
  induction n with
  | zero =>
    intro out p hn ho hk h0 h1
    refine ⟨out, p, by omega, ho, hk, by omega, by omega, ?_⟩
    refine Evs.succ (fun k => by simp only [spec_l2Some.l0]; rfl) ?_
    exact Evs.ite_neg (by omega) (Evs.some_ _)
  | succ n ih =>
    intro out p hn ho hk h0 h1
    have c3 : cst 3 = 100000 := by unfold cst; simp
    obtain ⟨t, q, ht, q0, q1, he⟩ := drawn_all hb 3 (by omega) (by omega) (-1) p h0 (by omega)
    have ew : wrap64 (((n + 1 : Nat) : Int) - 1) = (n : Int) := by rw [wrap_id (by omega) (by omega)]; omega
    have hs : ∀ u ∈ out ++ [t], Sm u := fun u hu => by
      rcases List.mem_append.1 hu with hu | hu
      · exact ho u hu
      · rw [List.mem_singleton.1 hu]
        exact ht
    have ok := specOk (l := out ++ [t]) ⟨by simp; omega, fun u hu => hs u hu 3⟩
    obtain ⟨b0, b1, b2, b3, b4, b5⟩ := t
    have hgo : ∀ r, Ev (fun k => if okLst (out ++ [⟨b0, b1, b2, b3, b4, b5⟩]) = true then spec_l2Some.l0 k (out ++ [⟨b0, b1, b2, b3, b4, b5⟩]) (n : Int) xs q else spec_l2Some.l0 k out (n : Int) xs q) r → Ev (fun k => spec_l2Some.l0 k out ((n + 1 : Nat) : Int) xs p) r := by
      intro r hr
      refine Evs.succ (fun k => by simp only [spec_l2Some.l0, ew]; rfl) ?_
      refine Evs.ite_pos (by omega) (Evs.bind0 rfl (Evs.ite_pos (by simp only [List.length_nil]; omega) (Evs.bind0 rfl (Evs.bind he (Evs.ite_pos (by simp only [List.nil_append]; omega) (Evs.bind0 rfl ?_))))))
      exact Evs.bind ok hr
    cases c : okLst (out ++ [⟨b0, b1, b2, b3, b4, b5⟩]) with
    | true =>
      obtain ⟨l, p', a1, a2, a3, a4, a5, a6⟩ := ih (out ++ [⟨b0, b1, b2, b3, b4, b5⟩]) q (by simp; omega) hs c (by omega) (by omega)
      exact ⟨l, p', a1, a2, a3, by omega, by omega, hgo _ (Evs.ite_pos c a6)⟩
    | false =>
      obtain ⟨l, p', a1, a2, a3, a4, a5, a6⟩ := ih out q (by omega) ho hk (by omega) (by omega)
      exact ⟨l, p', a1, a2, a3, by omega, by omega, hgo _ (Evs.ite_neg (by rw [c]; simp) a6)⟩
theorem okLst_nil : okLst [] = true := by simp [okLst, okList, cntL, wrap64]
theorem some_ev {xs : List Int} (hb : Buf xs) (p : Int) (p0 : 0 ≤ p) (p1 : p ≤ 900000000) : ∃ (l : List S49) (p' : Int), l.length ≤ 6 ∧ (∀ t ∈ l, Sm t) ∧ okLst l = true ∧ p ≤ p' ∧ p' ≤ p + 700000 ∧ Ev (fun k => spec_l2Some.f k xs p) (l, p') := by
  obtain ⟨v, hm, hv⟩ := num_ev (l := [3, 4, 5, 6, 2, 0]) hb p0 (by omega) (by simp) (by simp)
  have hv6 : 0 ≤ v ∧ v ≤ 6 := by simp at hm; omega
  obtain ⟨n, rfl⟩ := Int.eq_ofNat_of_zero_le hv6.1
  obtain ⟨l, p', a1, a2, a3, a4, a5, a6⟩ := some_loop hb n [] (p + 1) (by simp; omega) (fun _ h => by cases h) okLst_nil (by omega) (by omega)
  exact ⟨l, p', a1, a2, a3, by omega, by omega, Evs.bind hv a6⟩
def zipB {α : Type} (p : α → α → Bool) : List α → List α → Bool
  | [], [] => true
  | x :: t, y :: u => p x y && zipB p t u
  | _, _ => false
theorem zipB_len {α : Type} (p : α → α → Bool) : ∀ a b : List α, a.length ≠ b.length → zipB p a b = false
  | [], [], h => absurd rfl h
  | [], _ :: _, _ => rfl
  | _ :: _, [], _ => rfl
  | x :: t, y :: u, h => by
    unfold zipB
    rw [zipB_len p t u (fun e => h (by simp [e])), Bool.and_false]
def heads (x y : S49) : Bool := decide (x.f0 = y.f0) && (decide (x.f1 = y.f1) && (decide (x.f2 = y.f2) && decide (x.f3 = y.f3)))
def eqLB : Nat → List S49 → List S49 → Bool
  | 0, _, _ => true
  | d + 1, a, b => zipB (fun x y => heads x y && (eqLB d x.f4 y.f4 && eqLB d x.f5 y.f5)) a b
theorem eqM_ev {α : Type} {T : Nat → α → α → Option Bool} {p : α → α → Bool} : ∀ a b : List α, a.length = b.length → (∀ x ∈ a, ∀ y ∈ b, Ev (fun k => T k x y) (p x y)) → Ev (fun k => eqM (T k) a b) (zipB p a b)
  | [], [], _, _ => Evs.some_ _
  | [], _ :: _, h, _ => by simp at h
  | _ :: _, [], h, _ => by simp at h
  | x :: t, y :: u, hl, h => Evs.bind (h x (List.mem_cons_self ..) y (List.mem_cons_self ..)) (ev_band fun _ => eqM_ev t u (by simpa using hl) fun v hv w hw => h v (List.mem_cons_of_mem _ hv) w (List.mem_cons_of_mem _ hw))
theorem eqL_ev {α : Type} {T : Nat → α → α → Option Bool} {p : α → α → Bool} (a b : List α) (h : ∀ x ∈ a, ∀ y ∈ b, Ev (fun k => T k x y) (p x y)) : Ev (fun k => eqL (T k) a b) (zipB p a b) := by
  unfold eqL
  by_cases c : a.length = b.length
  · exact Evs.ite_pos c (eqM_ev a b c h)
  · rw [zipB_len p a b c]
    exact Evs.ite_neg c (Evs.some_ _)
theorem sameK_ev : ∀ (d : Nat) (a b : List S49), dep d a → dep d b → Ev (fun k => sameK k a b) (eqLB d a b)
  | 0, a, b, ha, hb => by
    obtain rfl : a = [] := ha
    obtain rfl : b = [] := hb
    refine Evs.succ (fun k => rfl) ?_
    show Ev (fun k => eqL (sameH (sameK k)) [] []) true
    exact Evs.ite_pos rfl (Evs.some_ _)
  | d + 1, a, b, ha, hb => by
    refine Evs.succ (fun k => rfl) ?_
    show Ev (fun k => eqL (sameH (sameK k)) a b) (zipB (fun x y => heads x y && (eqLB d x.f4 y.f4 && eqLB d x.f5 y.f5)) a b)
    refine eqL_ev a b fun x hx y hy => ?_
    unfold sameH heads
    simp only [Bool.and_assoc]
    exact ev_and fun _ => ev_and fun _ => ev_and fun _ => ev_and fun _ => Evs.bind (sameK_ev d x.f4 y.f4 (ha x hx).1 (hb y hy).1) (ev_band fun _ => sameK_ev d x.f5 y.f5 (ha x hx).2 (hb y hy).2)
theorem l2Same_loop (d : Nat) (hd : d ≤ 1000) (a b : List S49) (hl : a.length = b.length) (hm : a.length ≤ 1048576) (p : S49 → S49 → Bool) (q : S49 → S49 → Bool)
    (h4 : ∀ x ∈ a, ∀ y ∈ b, Ev (fun k => spec_l2Same.f k x.f4 y.f4 (d : Int)) (p x y)) (h5 : ∀ x ∈ a, ∀ y ∈ b, Ev (fun k => spec_l2Same.f k x.f5 y.f5 (d : Int)) (q x y)) (e : Nat) : ∀ i : Nat, i + e = a.length →
    Ev (fun k => spec_l2Same.l0 k a b ((d + 1 : Nat) : Int) (i : Int)) (zipB (fun x y => heads x y && (p x y && q x y)) (a.drop i) (b.drop i)) := by
  have ew : wrap64 (((d + 1 : Nat) : Int) - 1) = (d : Int) := by rw [wrap_id (by omega) (by omega)]; omega
  induction e with
  | zero =>
    intro i hi
    rw [List.drop_of_length_le (by omega), List.drop_of_length_le (by omega)]
    refine Evs.succ (fun k => by simp only [spec_l2Same.l0]; rfl) ?_
    exact Evs.ite_neg (by omega) (Evs.some_ _)
  | succ e ih =>
    intro i hi
    have ha : i < a.length := by omega
    have hb : i < b.length := by omega
    rw [drop_rd a ha, drop_rd b hb]
    have e4 := h4 _ (rd_mem ha) _ (rd_mem hb)
    have e5 := h5 _ (rd_mem ha) _ (rd_mem hb)
    have hn := ih (i + 1) (by omega)
    refine Evs.succ (fun k => by simp only [spec_l2Same.l0, ew]; rfl) ?_
    refine Evs.ite_pos (by omega) (Evs.ite_pos (by omega) (Evs.ite_pos (by omega) ?_))
    show Ev _ ((heads _ _ && (p _ _ && q _ _)) && zipB (fun x y => heads x y && (p x y && q x y)) (a.drop (i + 1)) (b.drop (i + 1)))
    generalize zipB (fun x y => heads x y && (p x y && q x y)) (a.drop (i + 1)) (b.drop (i + 1)) = z at hn ⊢
    unfold heads
    simp only [Bool.and_assoc]
    refine ev_and fun _ => ev_and fun _ => ev_and fun _ => ev_and fun _ => Evs.bind e4 (ev_band fun _ => Evs.bind e5 (ev_band fun _ => ?_))
    rw [wrap_succ (by omega)]
    exact hn
theorem l2Same_ev : ∀ (d : Nat), d ≤ 1000 → ∀ (a b : List S49), SL d a → SL d b → dep d a → dep d b → Ev (fun k => spec_l2Same.f k a b ((d + 1 : Nat) : Int)) (eqLB d a b)
  | 0, _, a, b, sa, sb, ha, hb => by
    obtain rfl : a = [] := ha
    obtain rfl : b = [] := hb
    refine Evs.succ (fun k => by simp only [spec_l2Same.f]; rfl) (Evs.ite_pos (by trivial) ?_)
    refine Evs.succ (fun k => by simp only [spec_l2Same.j0]; rfl) (Evs.ite_neg (by simp) ?_)
    refine Evs.succ (fun k => by simp only [spec_l2Same.l0]; rfl) ?_
    exact Evs.ite_neg (by simp) (Evs.some_ _)
  | d + 1, hd, a, b, sa, sb, ha, hb => by
    refine Evs.succ (fun k => by simp only [spec_l2Same.f]; rfl) ?_
    by_cases c : a.length = b.length
    · refine Evs.ite_pos (by omega) ?_
      rw [decide_eq_false (show ¬ ((d + 1 + 1 : Nat) : Int) < 0 by omega)]
      refine Evs.succ (fun k => by simp only [spec_l2Same.j0]; rfl) (Evs.ite_neg (by simp) ?_)
      exact l2Same_loop (d + 1) (by omega) a b c sa.1 (fun x y => eqLB d x.f4 y.f4) (fun x y => eqLB d x.f5 y.f5)
        (fun x hx y hy => l2Same_ev d (by omega) x.f4 y.f4 (sa.kids hx).1 (sb.kids hy).1 (ha x hx).1 (hb y hy).1)
        (fun x hx y hy => l2Same_ev d (by omega) x.f5 y.f5 (sa.kids hx).2 (sb.kids hy).2 (ha x hx).2 (hb y hy).2) a.length 0 (by omega)
    · refine Evs.ite_neg (by omega) (Evs.succ (fun k => by simp only [spec_l2Same.j0]; rfl) (Evs.ite_pos (by trivial) ?_))
      show Ev _ (zipB (fun x y => heads x y && (eqLB d x.f4 y.f4 && eqLB d x.f5 y.f5)) a b)
      rw [zipB_len _ a b c]
      exact Evs.some_ _
def sameV (a b : List S49) : Bool := okLst a && (okLst b && eqLB 3 a b)
theorem specSame {a b : List S49} (ha : SL 3 a) (hb : SL 3 b) : Ev (fun k => spec_StmtsSame.f k a b) (sameV a b) := by
  unfold spec_StmtsSame.f sameV
  refine Evs.bind (specOk ha) (ev_band fun h1 => Evs.bind (specOk hb) (ev_band fun h2 => ?_))
  have e := l2Same_ev 3 (by omega) a b ha hb (dep3 (okLst_list h1)) (dep3 (okLst_list h2))
  rw [show ((3 + 1 : Nat) : Int) = 4 from rfl] at e
  exact ev_last e
theorem implSame (a b : List S49) : Ev (fun k => impl_StmtsSame.f k a b) (sameV a b) := by
  unfold impl_StmtsSame.f sameV
  exact Evs.bind (implOk a) (ev_band fun h1 => Evs.bind (implOk b) (ev_band fun h2 => ev_last (sameK_ev 3 a b (dep3 (okLst_list h1)) (dep3 (okLst_list h2)))))
def Rt (l : List S49) : Prop := l.length ≤ 6 ∧ (∀ t ∈ l, Sm t) ∧ okLst l = true
theorem prog_loop {xs : List Int} (hb : Buf xs) (n : Nat) : ∀ (out : List (List S49)) (p : Int), out.length + n ≤ 3 → (∀ l ∈ out, Rt l) → 0 ≤ p → p + (n : Int) * 700000 ≤ 900000000 →
    ∃ (q : List (List S49)) (p' : Int), q.length = out.length + n ∧ (∀ l ∈ q, Rt l) ∧ p ≤ p' ∧ p' ≤ p + (n : Int) * 700000 ∧ Ev (fun k => spec_l2Prog.l0 k out (n : Int) xs p) (q, p') := by
  induction n with
  | zero =>
    intro out p hn ho h0 h1
    refine ⟨out, p, by omega, ho, by omega, by omega, ?_⟩
    refine Evs.succ (fun k => by simp only [spec_l2Prog.l0]; rfl) ?_
    exact Evs.ite_neg (by omega) (Evs.some_ _)
  | succ n ih =>
    intro out p hn ho h0 h1
    obtain ⟨l, p1, a1, a2, a3, a4, a5, a6⟩ := some_ev hb p h0 (by omega)
    obtain ⟨q, p', b1, b2, b3, b4, b5⟩ := ih (out ++ [l]) p1 (by simp; omega) (fun u hu => by
      rcases List.mem_append.1 hu with hu | hu
      · exact ho u hu
      · rw [List.mem_singleton.1 hu]
        exact ⟨a1, a2, a3⟩) (by omega) (by omega)
    have ew : wrap64 (((n + 1 : Nat) : Int) - 1) = (n : Int) := by rw [wrap_id (by omega) (by omega)]; omega
    refine ⟨q, p', by rw [b1, List.length_append, List.length_singleton]; omega, b2, by omega, by omega, ?_⟩
    refine Evs.succ (fun k => by simp only [spec_l2Prog.l0, ew]; rfl) ?_
    exact Evs.ite_pos (by omega) (Evs.bind a6 (Evs.ite_pos (by omega) b5))
theorem prog_ev {xs : List Int} (hb : Buf xs) (p : Int) (p0 : 0 ≤ p) (p1 : p ≤ 800000000) :
    ∃ (q : List (List S49)) (p' : Int), 1 ≤ q.length ∧ q.length ≤ 3 ∧ (∀ l ∈ q, Rt l) ∧ p ≤ p' ∧ p' ≤ p + 2100001 ∧ Ev (fun k => spec_l2Prog.f k xs p) (q, p') := by
  obtain ⟨i, hi, hr, _⟩ := pick_ev (n := 3) hb p0 (by omega)
  obtain ⟨i0, i1⟩ := hr (by omega)
  obtain ⟨n, rfl⟩ := Int.eq_ofNat_of_zero_le i0
  have ew : wrap64 (1 + (n : Int)) = ((n + 1 : Nat) : Int) := by rw [wrap_id (by omega) (by omega)]; omega
  obtain ⟨q, p', b1, b2, b3, b4, b5⟩ := prog_loop hb (n + 1) [] (p + 1) (by simp; omega) (fun _ h => by cases h) (by omega) (by omega)
  refine ⟨q, p', by simp at b1; omega, by simp at b1; omega, b2, by omega, by omega, ?_⟩
  unfold spec_l2Prog.f
  refine Evs.bind hi ?_
  show Ev (fun k => spec_l2Prog.l0 k [] (wrap64 (1 + (n : Int))) xs (p + 1)) _
  rw [ew]
  exact b5
theorem rt_sm {l : List S49} (h : Rt l) : SmL l := ⟨by have := h.1; omega, h.2.1⟩
theorem progs_ev {xs : List Int} (hb : Buf xs) (p : Int) (p0 : 0 ≤ p) (p1 : p ≤ 800000000) :
    ∃ (q : List (List S49)) (p' : Int), q.length ≤ 9 ∧ (∀ l ∈ q, SmL l) ∧ p ≤ p' ∧ p' ≤ p + 2100014 ∧ Ev (fun k => spec_l2Progs.f k xs p) (q, p') := by
  obtain ⟨q, p2, a1, a2, a3, a4, a5, a6⟩ := prog_ev hb p p0 p1
  obtain ⟨i, hi, hr, _⟩ := pick_ev (n := 30) hb (p := p2) (by omega) (by omega)
  have hs : ∀ l ∈ q, SmL l := fun l hl => rt_sm (a3 l hl)
  have hgo : ∀ r, Ev (fun k => if i = 0 then (if q.length ≤ 1000 then some (q ++ q ++ q, p2 + 1) else none) else if i = 1 then some ([], p2 + 1) else if i = 2 then (if 0 < q.length then (spec_l2Bent.f k xs (p2 + 1) (q.getD 0 [])).bind fun c => (spec_l2Bent.f k xs c.2 c.1).bind fun d => (spec_l2Bent.f k xs d.2 d.1).bind fun e => (spec_l2Bent.f k xs e.2 e.1).bind fun f => some (q.set 0 f.1, f.2) else none) else some (q, p2 + 1)) r → Ev (fun k => spec_l2Progs.f k xs p) r := by
    intro r h
    unfold spec_l2Progs.f
    exact Evs.bind a6 (Evs.bind hi h)
  by_cases k0 : i = 0
  · refine ⟨q ++ q ++ q, p2 + 1, by simp; omega, fun l hl => ?_, by omega, by omega, hgo _ (Evs.ite_pos k0 (Evs.ite_pos (by omega) (Evs.some_ _)))⟩
    simp only [List.mem_append] at hl
    rcases hl with (hl | hl) | hl <;> exact hs l hl
  by_cases k1 : i = 1
  · exact ⟨[], p2 + 1, by simp, (fun _ h => by cases h), by omega, by omega, hgo _ (Evs.ite_neg k0 (Evs.ite_pos k1 (Evs.some_ _)))⟩
  by_cases k2 : i = 2
  · have h0 : SmL (q.getD 0 []) := by
      rw [List.getD_eq_getElem?_getD, List.getElem?_eq_getElem (by omega : 0 < q.length)]
      exact hs _ (List.getElem_mem _)
    obtain ⟨l1, t1, m1, n1, q3, q4, e1⟩ := bent_ev hb _ h0 (p2 + 1) (by omega) (by omega)
    obtain ⟨l2, t2, m2, n2, q5, q6, e2⟩ := bent_ev hb l1 m1 t1 (by omega) (by omega)
    obtain ⟨l3, t3, m3, n3, q7, q8, e3⟩ := bent_ev hb l2 m2 t2 (by omega) (by omega)
    obtain ⟨l4, t4, m4, n4, q9, q10, e4⟩ := bent_ev hb l3 m3 t3 (by omega) (by omega)
    refine ⟨q.set 0 l4, t4, by rw [List.length_set]; omega, fun l hl => ?_, by omega, by omega, hgo _ (Evs.ite_neg k0 (Evs.ite_neg k1 (Evs.ite_pos k2 (Evs.ite_pos (by omega) (Evs.bind e1 (Evs.bind e2 (Evs.bind e3 (Evs.bind e4 (Evs.some_ _)))))))))⟩
    rcases List.mem_or_eq_of_mem_set hl with hl | hl
    · exact hs l hl
    · rw [hl]
      exact m4
  · exact ⟨q, p2 + 1, by omega, hs, by omega, by omega, hgo _ (Evs.ite_neg k0 (Evs.ite_neg k1 (Evs.ite_neg k2 (Evs.some_ _))))⟩
def progB (p : List (List S49)) : Bool := p.all okLst && (decide (1 ≤ (p.length : Int)) && decide ((p.length : Int) ≤ 3))
theorem rdl {α : Type} {l : List (List α)} {i : Nat} (h : i < l.length) : l.getD (i : Int).toNat [] ∈ l := by
  rw [Int.toNat_natCast, List.getD_eq_getElem?_getD, List.getElem?_eq_getElem h]
  exact List.getElem_mem h
theorem dropl {α : Type} (l : List (List α)) {i : Nat} (h : i < l.length) : l.drop i = l.getD (i : Int).toNat [] :: l.drop (i + 1) := by
  rw [List.drop_eq_getElem_cons h, Int.toNat_natCast, List.getD_eq_getElem?_getD, List.getElem?_eq_getElem h]
  rfl
theorem specProg {p : List (List S49)} (hl : p.length ≤ 1048576) (h : ∀ l ∈ p, SL 3 l) : Ev (fun k => spec_ProgOk.f k p) (progB p) := by
  unfold spec_ProgOk.f
  have key : ∀ e i : Nat, i + e = p.length → Ev (fun k => spec_ProgOk.l0 k p (i : Int)) ((p.drop i).all okLst && (decide (1 ≤ (p.length : Int)) && decide ((p.length : Int) ≤ 3))) := by
    intro e
    induction e with
    | zero =>
      intro i hi
      rw [List.drop_of_length_le (by omega)]
      refine Evs.succ (fun k => by simp only [spec_ProgOk.l0]; rfl) (Evs.ite_neg (by omega) ?_)
      rw [List.all_nil, Bool.true_and]
      exact ev_and (c := 1 ≤ (p.length : Int)) fun _ => Evs.some_ _
    | succ e ih =>
      intro i hi
      have hlt : i < p.length := by omega
      rw [dropl p hlt, List.all_cons, Bool.and_assoc]
      refine Evs.succ (fun k => by simp only [spec_ProgOk.l0]; rfl) (Evs.ite_pos (by omega) (Evs.ite_pos (by omega) (Evs.bind (specOk (h _ (rdl hlt))) (ev_band fun _ => ?_))))
      rw [wrap_succ (by omega)]
      exact ih (i + 1) (by omega)
  exact key p.length 0 (by omega)
theorem listG_ev : ∀ p : List (List S49), Ev (fun k => listG (impl_StmtsOk.f k) p) (p.all okLst)
  | [] => Evs.some_ _
  | x :: t => by
    rw [List.all_cons]
    exact Evs.bind (implOk x) (ev_band fun _ => listG_ev t)
theorem implProg (p : List (List S49)) : Ev (fun k => impl_ProgOk.f k p) (progB p) := by
  unfold impl_ProgOk.f progB
  rw [Bool.and_comm, Bool.and_assoc]
  exact ev_and (c := 1 ≤ (p.length : Int)) fun _ => ev_and (c := (p.length : Int) ≤ 3) fun _ => listG_ev p
end Go.Proofs.YtnegnanlbdncmaaDoor.P
