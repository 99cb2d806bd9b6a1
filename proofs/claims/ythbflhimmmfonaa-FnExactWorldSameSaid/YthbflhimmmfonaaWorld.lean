/- A law's world that is not too large: sized, copied, equal to itself; no condition but that it can be read from memory. -/
import Derived.Test.YthbflhimmmfonaaWTo
namespace Go.Proofs.Ythbflhimmmfonaa.P
open Go.RowKit Go.Proofs.YthbflhimmmfonaaW.PrintWords Go.Proofs.YthbflhimmmfonaaW.PrintMore
set_option linter.unusedVariables false
set_option linter.unusedSimpArgs false
def BdP (x : S117) : Prop := x.f0.length ≤ 9223372036854775807 ∧ BdL x.f1
def BdPs (l : List S117) : Prop := ∃ (w : World) (A : Option Addr), Kd.C k117 w A l.length l
theorem bdPs_elem {l : List S117} (h : BdPs l) {i : Nat} (hi : i < l.length) : BdP (rd_T117 l (i : Int)) := by
  obtain ⟨w, A, h⟩ := h
  obtain ⟨ad, c, e, _, hK, _⟩ := Kd.C_get h z117 (i : Int) (by omega) (by omega)
  obtain ⟨A0, c0, A1, c1, _, _, g0, _, g1⟩ := k117_open hK
  exact ⟨g0.2.1, w, A1, g1⟩
def GoodP (x : S117) : Prop := x.f0.length ≤ 1048576 ∧ ∃ ts, CopyL x.f1 ts
open Classical in
noncomputable def cpyP (x : S117) : S84 := ⟨x.f0, if h : ∃ ts, CopyL x.f1 ts then h.choose else [], x.f2, x.f3, x.f4⟩
theorem cpyP_of {x : S117} (h : GoodP x) : CopyL x.f1 (cpyP x).f1 := by
  unfold cpyP
  simp only [dif_pos h.2]
  exact h.2.choose_spec
theorem szP (x : S117) (hb : BdP x) (m : Int) (h0 : 0 ≤ m) (h1 : m ≤ 1048576) : ∃ r : Int, Ev (fun k => laws_szProc.f k x.f0 x.f1 x.f2 x.f3 x.f4 m) r ∧ Left m (GoodP x) r := by
  unfold laws_szProc.f
  obtain ⟨r, hr, c⟩ := szI x.f0 hb.1 m h0 h1
  rcases c with c | ⟨c0, c1, c2⟩
  · exact ⟨-1, Evs.bind0 hr (Evs.ite_pos c (Evs.some_ _)), .inl (by omega)⟩
  obtain ⟨q, hq, c⟩ := lawL x.f1 hb.2 r c0 (by omega)
  rcases c with c | ⟨d0, d1, d2⟩
  · exact ⟨-1, Evs.bind0 hr (Evs.ite_neg (by omega) (Evs.bind hq (Evs.ite_pos c (Evs.some_ _)))), .inl (by omega)⟩
  · exact ⟨q, Evs.bind0 hr (Evs.ite_neg (by omega) (Evs.bind hq (Evs.ite_neg (by omega) (Evs.some_ _)))), .inr ⟨d0, by omega, c2, d2⟩⟩
theorem szPs_loop (l : List S117) (hl : l.length ≤ 1048576) (hb : BdPs l) (d : Nat) : ∀ (i : Nat) (m : Int), i + d = l.length → 0 ≤ m → m ≤ 1048576 →
    ∃ r : Int, Ev (fun k => laws_szProcS.l0 k l m (i : Int)) r ∧ Left m (∀ j : Nat, i ≤ j → j < l.length → GoodP (rd_T117 l (j : Int))) r := by
  induction d with
  | zero =>
    intro i m hi h0 h1
    refine ⟨m, ?_, .inr ⟨h0, Int.le_refl _, fun j h1 h2 => absurd h2 (by omega)⟩⟩
    refine Evs.succ (fun k => by simp only [laws_szProcS.l0]; rfl) ?_
    exact Evs.ite_neg (by omega) (Evs.some_ _)
  | succ d ih =>
    intro i m hi h0 h1
    obtain ⟨r, hr, c⟩ := szP _ (bdPs_elem hb (i := i) (by omega)) m h0 h1
    rcases c with c | ⟨c0, c1, c2⟩
    · refine ⟨-1, ?_, .inl (by omega)⟩
      refine Evs.succ (fun k => by simp only [laws_szProcS.l0]; rfl) ?_
      exact Evs.ite_pos (by omega) (Evs.ite_pos (by omega) (Evs.bind hr (Evs.ite_pos c (Evs.some_ _))))
    · obtain ⟨q, hq, e⟩ := ih (i + 1) r (by omega) c0 (by omega)
      refine ⟨q, ?_, ?_⟩
      · refine Evs.succ (fun k => by simp only [laws_szProcS.l0]; rfl) ?_
        refine Evs.ite_pos (by omega) (Evs.ite_pos (by omega) (Evs.bind hr (Evs.ite_neg (by omega) ?_)))
        rw [wrap_succ (by omega)]
        exact hq
      · rcases e with e | ⟨e0, e1, e2⟩
        · exact .inl e
        · refine .inr ⟨e0, by omega, fun j h1 h2 => ?_⟩
          by_cases hj : j = i
          · rw [hj]
            exact c2
          · exact e2 j (by omega) h2
def GoodPs (l : List S117) : Prop := l.length ≤ 1048576 ∧ ∀ x ∈ l, GoodP x
theorem szPs (l : List S117) (hb : BdPs l) (m : Int) (h0 : 0 ≤ m) (h1 : m ≤ 1048576) : ∃ r : Int, Ev (fun k => laws_szProcS.f k l m) r ∧ Left m (GoodPs l) r := by
  have hl : l.length ≤ 9223372036854775807 := by
    obtain ⟨w, A, h⟩ := hb
    exact h.2.1
  have ew : wrap64 (m - (l.length : Int)) = m - (l.length : Int) := wrap_id (by omega) (by omega)
  unfold laws_szProcS.f
  rw [ew]
  by_cases c : m - (l.length : Int) < 0
  · exact ⟨-1, Evs.ite_pos c (Evs.some_ _), .inl (by omega)⟩
  · obtain ⟨r, hr, e⟩ := szPs_loop l (by omega) hb l.length 0 (m - (l.length : Int)) (by omega) (by omega) (by omega)
    refine ⟨r, Evs.ite_neg c hr, ?_⟩
    rcases e with e | ⟨e0, e1, e2⟩
    · exact .inl e
    · refine .inr ⟨e0, by omega, by omega, fun x hx => ?_⟩
      obtain ⟨i, hi, rfl⟩ := List.mem_iff_getElem.1 hx
      have := e2 i (by omega) hi
      unfold rd_T117 at this
      rwa [Int.toNat_natCast, List.getD_eq_getElem?_getD, List.getElem?_eq_getElem hi] at this
theorem getP {l : List S117} {i : Nat} (h : i < l.length) : l.getD i z117 ∈ l := by
  rw [List.getD_eq_getElem?_getD, List.getElem?_eq_getElem h]
  exact List.getElem_mem h
theorem toPs (l : List S117) (h : GoodPs l) : Ev (fun k => laws_toProcS.f k l) (l.map cpyP) := by
  have hl := h.1
  unfold laws_toProcS.f
  refine Evs.ite_pos (by omega) (Evs.ite_pos (by omega) ?_)
  rw [Int.toNat_natCast]
  refine map_loop (fun k acc i => laws_toProcS.l0 k l acc i) l z117 _ cpyP (fun i acc r hi ha hr => ?_) (fun acc ha => ?_)
  · have g := h.2 _ (getP hi)
    have t : Ev (fun k => laws_toProc.f k (l.getD i z117).f0 (l.getD i z117).f1 (l.getD i z117).f2 (l.getD i z117).f3 (l.getD i z117).f4) ((l.getD i z117).f0, (cpyP (l.getD i z117)).f1, (l.getD i z117).f2, (l.getD i z117).f3, (l.getD i z117).f4) := by
      unfold laws_toProc.f
      exact Evs.bind (toI _ g.1) (Evs.bind (cpyP_of g).1 (Evs.some_ _))
    have e : rd_T117 l (i : Int) = l.getD i z117 := by unfold rd_T117; rw [Int.toNat_natCast]
    refine Evs.succ (fun k => by simp only [laws_toProcS.l0, e]; rfl) ?_
    refine Evs.ite_pos (by omega) (Evs.ite_pos (by omega) (Evs.bind t (Evs.ite_pos (by omega) ?_)))
    rw [wrap_succ (by omega), Int.toNat_natCast]
    exact hr
  · refine Evs.succ (fun k => by simp only [laws_toProcS.l0]; rfl) ?_
    exact Evs.ite_neg (by omega) (Evs.some_ _)
theorem eqPs (l : List S117) (h : GoodPs l) : Ev (fun k => laws_eqProcS.f k (l.map cpyP) (l.map cpyP)) true := by
  have hl := h.1
  unfold laws_eqProcS.f
  refine Evs.ite_pos (by trivial) (all_true_loop (fun k i => laws_eqProcS.l0 k (l.map cpyP) (l.map cpyP) i) (l.map cpyP).length (fun i r hi hr => ?_) ?_)
  · have hi2 : i < l.length := by simpa using hi
    have g := h.2 _ (getP hi2)
    have e : rd_T84 (l.map cpyP) (i : Int) = cpyP (l.getD i z117) := by
      unfold rd_T84
      rw [Int.toNat_natCast, List.getD_eq_getElem?_getD, List.getElem?_map, List.getElem?_eq_getElem hi2, List.getD_eq_getElem?_getD, List.getElem?_eq_getElem hi2]
      rfl
    have t : Ev (fun k => laws_eqProc.f k (cpyP (l.getD i z117)).f0 (cpyP (l.getD i z117)).f1 (cpyP (l.getD i z117)).f2 (cpyP (l.getD i z117)).f3 (cpyP (l.getD i z117)).f4 (cpyP (l.getD i z117)).f0 (cpyP (l.getD i z117)).f1 (cpyP (l.getD i z117)).f2 (cpyP (l.getD i z117)).f3 (cpyP (l.getD i z117)).f4) true := by
      unfold laws_eqProc.f
      exact Evs.bind (eqI _ g.1) (Evs.ite_pos rfl (Evs.bind (cpyP_of g).eq (Evs.ite_pos rfl (Evs.ite_pos (by trivial) (Evs.ite_pos (by trivial) (Evs.ite_pos (by trivial) (Evs.some_ _)))))))
    refine Evs.succ (fun k => by simp only [laws_eqProcS.l0, e]; rfl) ?_
    refine Evs.ite_pos (by omega) (Evs.ite_pos (by omega) (Evs.ite_pos (by omega) (Evs.bind t (Evs.ite_pos rfl ?_))))
    rw [wrap_succ (by rw [List.length_map] at hi; omega)]
    exact hr
  · refine Evs.succ (fun k => by simp only [laws_eqProcS.l0]; rfl) ?_
    exact Evs.ite_neg (by omega) (Evs.some_ _)
structure GoodW (p : List S117) (c r : List Int) (s : List (List Int)) (d : List S112) : Prop where
  p : GoodPs p
  c : c.length ≤ 1048576
  r : r.length ≤ 1048576
  s : Rows1 s
  d : d.length ≤ 1048576
def BdII (l : List (List Int)) : Prop := ∃ (w : World) (A : Option Addr), Kd.C (Kd.slice 3 (Kd.int .i64)) w A l.length l
theorem bdII {l : List (List Int)} (h : BdII l) : l.length ≤ 9223372036854775807 ∧ ∀ x ∈ l, x.length ≤ 9223372036854775807 := by
  obtain ⟨w, A, h⟩ := h
  refine ⟨h.2.1, fun x hx => ?_⟩
  obtain ⟨i, hi, rfl⟩ := List.mem_iff_getElem.1 hx
  obtain ⟨ad, c, e, _, hK, _⟩ := Kd.C_get h ([] : List Int) (i : Int) (by omega) (by omega)
  obtain ⟨A0, c0, _, _, g⟩ := hK
  have := g.2.1
  rwa [Int.toNat_natCast, List.getD_eq_getElem?_getD, List.getElem?_eq_getElem hi] at this
theorem szW (p : List S117) (c r : List Int) (s : List (List Int)) (d : List S112) (hp : BdPs p) (hc : c.length ≤ 9223372036854775807) (hr : r.length ≤ 9223372036854775807) (hs : BdII s) (hd : d.length ≤ 9223372036854775807) (m : Int) (h0 : 0 ≤ m) (h1 : m ≤ 1048576) :
    ∃ q : Int, Ev (fun k => laws_szWorld.f k p c r s d m) q ∧ Left m (GoodW p c r s d) q := by
  unfold laws_szWorld.f
  obtain ⟨r1, e1, c1⟩ := szPs p hp m h0 h1
  rcases c1 with c1 | ⟨a1, b1, g1⟩
  · exact ⟨-1, Evs.bind e1 (Evs.ite_pos c1 (Evs.some_ _)), .inl (by omega)⟩
  obtain ⟨r2, e2, c2⟩ := szI c hc r1 a1 (by omega)
  rcases c2 with c2 | ⟨a2, b2, g2⟩
  · exact ⟨-1, Evs.bind e1 (Evs.ite_neg (by omega) (Evs.bind0 e2 (Evs.ite_pos c2 (Evs.some_ _)))), .inl (by omega)⟩
  obtain ⟨r3, e3, c3⟩ := szI r hr r2 a2 (by omega)
  rcases c3 with c3 | ⟨a3, b3, g3⟩
  · exact ⟨-1, Evs.bind e1 (Evs.ite_neg (by omega) (Evs.bind0 e2 (Evs.ite_neg (by omega) (Evs.bind0 e3 (Evs.ite_pos c3 (Evs.some_ _)))))), .inl (by omega)⟩
  obtain ⟨r4, e4, c4⟩ := szII s (bdII hs).1 (bdII hs).2 r3 a3 (by omega)
  rcases c4 with c4 | ⟨a4, b4, g4⟩
  · exact ⟨-1, Evs.bind e1 (Evs.ite_neg (by omega) (Evs.bind0 e2 (Evs.ite_neg (by omega) (Evs.bind0 e3 (Evs.ite_neg (by omega) (Evs.bind e4 (Evs.ite_pos c4 (Evs.some_ _)))))))), .inl (by omega)⟩
  obtain ⟨r5, e5, c5⟩ := szSays d hd r4 a4 (by omega)
  rcases c5 with c5 | ⟨a5, b5, g5⟩
  · exact ⟨-1, Evs.bind e1 (Evs.ite_neg (by omega) (Evs.bind0 e2 (Evs.ite_neg (by omega) (Evs.bind0 e3 (Evs.ite_neg (by omega) (Evs.bind e4 (Evs.ite_neg (by omega) (Evs.bind0 e5 (Evs.ite_pos c5 (Evs.some_ _)))))))))), .inl (by omega)⟩
  · exact ⟨r5, Evs.bind e1 (Evs.ite_neg (by omega) (Evs.bind0 e2 (Evs.ite_neg (by omega) (Evs.bind0 e3 (Evs.ite_neg (by omega) (Evs.bind e4 (Evs.ite_neg (by omega) (Evs.bind0 e5 (Evs.ite_neg (by omega) (Evs.some_ _)))))))))), .inr ⟨a5, by omega, g1, g2, g3, g4, g5⟩⟩
theorem toW {p : List S117} {c r : List Int} {s : List (List Int)} {d : List S112} (h : GoodW p c r s d) : Ev (fun k => laws_toWorld.f k p c r s d) (p.map cpyP, c, r, s, d.map sayOf) := by
  unfold laws_toWorld.f
  exact Evs.bind (toPs p h.p) (Evs.bind (toI c h.c) (Evs.bind (toI r h.r) (Evs.bind (toII s h.s) (Evs.bind (toSays d h.d) (Evs.some_ _)))))
theorem eqW {p : List S117} {c r : List Int} {s : List (List Int)} {d : List S112} (h : GoodW p c r s d) : Ev (fun k => laws_eqWorld.f k (p.map cpyP) c r s (d.map sayOf) (p.map cpyP) c r s (d.map sayOf)) true := by
  unfold laws_eqWorld.f
  exact Evs.bind (eqPs p h.p) (Evs.ite_pos rfl (Evs.bind (eqI c h.c) (Evs.ite_pos rfl (Evs.bind (eqI r h.r) (Evs.ite_pos rfl (Evs.bind (eqII s h.s) (Evs.ite_pos rfl (Evs.bind (eqSays _ (by rw [List.length_map]; exact h.d)) (Evs.ite_pos rfl (Evs.some_ _))))))))))
end Go.Proofs.Ythbflhimmmfonaa.P
