/- What the reference draws as a list of statements: short lists, right before they are bent; and how many statements a list can have; no condition beyond bytes. -/
import Derived.Test.YtnjaimaaijbacaaStmDrawOk
import Derived.Test.YtnjaimaaijbacaaStmL
import Derived.Test.YtnjaimaaijbacaaFSpecL2Some
import Derived.Test.YtnjaimaaijbacaaFSpecDrawStmtsOk
namespace Go.Proofs.Ytnjaimaaijbacaa.P
open Go.RowKit Go.Proofs.YtnjaimaaijbacaaW.PrintWords Go.Proofs.YtnjaimaaijbacaaW.PrintMore
set_option linter.unusedVariables false
set_option linter.unusedSimpArgs false
theorem smL_sl {l : List S29} (h : SmL l) (d : Nat) : SL d l := ⟨by have := h.1; omega, fun t ht => h.2 t ht d⟩
theorem cnt_bound {d B : Nat} : ∀ l : List S29, (∀ x ∈ l, cntL d x.f4 ≤ B ∧ cntL d x.f5 ≤ B) → cntL (d + 1) l ≤ l.length * (1 + 2 * B)
  | [], _ => by simp [cntL]
  | x :: t, h => by
    have hx := h x (List.mem_cons_self ..)
    have ht := cnt_bound t fun y hy => h y (List.mem_cons_of_mem _ hy)
    have e : cntL (d + 1) (x :: t) = (1 + cntL d x.f4 + cntL d x.f5) + cntL (d + 1) t := by
      show (List.map _ (x :: t)).sum = _
      rw [List.map_cons, List.sum_cons]
      rfl
    rw [e, List.length_cons, Nat.succ_mul]
    omega
theorem cnt1 {l : List S29} (h : l.length ≤ 1048576) : cntL 1 l ≤ 1048576 := by
  have := cnt_bound (d := 0) (B := 0) l fun x _ => ⟨Nat.le_refl _, Nat.le_refl _⟩
  change cntL 1 l ≤ _ at this
  omega
theorem cnt2 {l : List S29} (h : SL 1 l) : cntL 2 l ≤ 2199024304128 := by
  have := cnt_bound (d := 1) (B := 1048576) l fun x hx => ⟨cnt1 (h.kids hx).1.1, cnt1 (h.kids hx).2.1⟩
  change cntL 2 l ≤ _ at this
  have h1 := h.1
  have : l.length * (1 + 2 * 1048576) ≤ 1048576 * (1 + 2 * 1048576) := Nat.mul_le_mul_right _ h1
  omega
theorem cnt3 {l : List S29} (h : SL 2 l) (hl : l.length ≤ 1000) : cntL 3 l ≤ 5000000000000000 := by
  have := cnt_bound (d := 2) (B := 2199024304128) l fun x hx => ⟨cnt2 (h.kids hx).1, cnt2 (h.kids hx).2⟩
  change cntL 3 l ≤ _ at this
  have : l.length * (1 + 2 * 2199024304128) ≤ 1000 * (1 + 2 * 2199024304128) := Nat.mul_le_mul_right _ hl
  omega
theorem wrap_cnt {n : Nat} (h : n ≤ 5000000000000000) : wrap64 (n : Int) = n := wrap_id (by omega) (by omega)
theorem some_loop {xs : List Int} (hb : Buf xs) (n : Nat) : ∀ (out : List S29) (p : Int), out.length + n ≤ 6 → (∀ t ∈ out, Sm t) → okLst out = true → 0 ≤ p → p + (n : Int) * 100000 ≤ 1000000000 →
    ∃ (l : List S29) (p' : Int), l.length ≤ 6 ∧ (∀ t ∈ l, Sm t) ∧ okLst l = true ∧ p ≤ p' ∧ p' ≤ p + (n : Int) * 100000 ∧ Ev (fun k => spec_l2Some.l0 k out (n : Int) xs p) (l, p') := by
  induction n with
  | zero =>
    intro out p hn ho hk h0 h1
    refine ⟨out, p, by omega, ho, hk, by omega, by omega, ?_⟩
    refine Evs.succ (fun k => by simp only [spec_l2Some.l0]; rfl) ?_
    exact Evs.ite_neg (by omega) (Evs.some_ _)
  | succ n ih =>
    intro out p hn ho hk h0 h1
    have c3 : cst 3 = 100000 := by unfold cst; simp
    obtain ⟨t, q, ht, q0, q1, he⟩ := drawn_all hb 3 (by omega) (by omega) (-1) p h0 (by omega)
    have ew : wrap64 (((n + 1 : Nat) : Int) - 1) = (n : Int) := by rw [wrap_id (by omega) (by omega)]; omega
    have hs : ∀ u ∈ out ++ [t], Sm u := fun u hu => by
      rcases List.mem_append.1 hu with hu | hu
      · exact ho u hu
      · rw [List.mem_singleton.1 hu]
        exact ht
    have ok := specOk (l := out ++ [t]) ⟨by simp; omega, fun u hu => hs u hu 3⟩
    obtain ⟨b0, b1, b2, b3, b4, b5⟩ := t
    have hgo : ∀ r, Ev (fun k => if okLst (out ++ [⟨b0, b1, b2, b3, b4, b5⟩]) = true then spec_l2Some.l0 k (out ++ [⟨b0, b1, b2, b3, b4, b5⟩]) (n : Int) xs q else spec_l2Some.l0 k out (n : Int) xs q) r → Ev (fun k => spec_l2Some.l0 k out ((n + 1 : Nat) : Int) xs p) r := by
      intro r hr
      refine Evs.succ (fun k => by simp only [spec_l2Some.l0, ew]; rfl) ?_
      refine Evs.ite_pos (by omega) (Evs.bind0 rfl (Evs.ite_pos (by simp only [List.length_nil]; omega) (Evs.bind0 rfl (Evs.bind he (Evs.ite_pos (by simp only [List.nil_append]; omega) (Evs.bind0 rfl ?_))))))
      exact Evs.bind ok hr
    cases c : okLst (out ++ [⟨b0, b1, b2, b3, b4, b5⟩]) with
    | true =>
      obtain ⟨l, p', a1, a2, a3, a4, a5, a6⟩ := ih (out ++ [⟨b0, b1, b2, b3, b4, b5⟩]) q (by simp; omega) hs c (by omega) (by omega)
      exact ⟨l, p', a1, a2, a3, by omega, by omega, hgo _ (Evs.ite_pos c a6)⟩
    | false =>
      obtain ⟨l, p', a1, a2, a3, a4, a5, a6⟩ := ih out q (by omega) ho hk (by omega) (by omega)
      exact ⟨l, p', a1, a2, a3, by omega, by omega, hgo _ (Evs.ite_neg (by rw [c]; simp) a6)⟩
theorem okLst_nil : okLst [] = true := by simp [okLst, okList, cntL, wrap64]
theorem some_ev {xs : List Int} (hb : Buf xs) (p : Int) (p0 : 0 ≤ p) (p1 : p ≤ 900000000) : ∃ (l : List S29) (p' : Int), l.length ≤ 6 ∧ (∀ t ∈ l, Sm t) ∧ okLst l = true ∧ p ≤ p' ∧ p' ≤ p + 700000 ∧ Ev (fun k => spec_l2Some.f k xs p) (l, p') := by
  obtain ⟨v, hm, hv⟩ := num_ev (l := [3, 4, 5, 6, 2, 0]) hb p0 (by omega) (by simp) (by simp)
  have hv6 : 0 ≤ v ∧ v ≤ 6 := by simp at hm; omega
  obtain ⟨n, rfl⟩ := Int.eq_ofNat_of_zero_le hv6.1
  obtain ⟨l, p', a1, a2, a3, a4, a5, a6⟩ := some_loop hb n [] (p + 1) (by simp; omega) (fun _ h => by cases h) okLst_nil (by omega) (by omega)
  exact ⟨l, p', a1, a2, a3, by omega, by omega, Evs.bind hv a6⟩
theorem drawList_ev {l : List Int} (h : ∀ x ∈ l, (Lit.int .u8 x).wf = true) : ∃ ts : List S29, SmL ts ∧ Ev (fun k => spec_DrawStmtsOk.f k l) ts := by
  obtain ⟨ys, ho, hb⟩ := open_eq l
  have hb := hb h
  obtain ⟨l0, p0, s0, s1, s2, q1, q2, e0⟩ := some_ev hb 0 (by omega) (by omega)
  obtain ⟨l1, p1, t1, n1, q3, q4, e1⟩ := bent_ev hb l0 ⟨by omega, s1⟩ p0 (by omega) (by omega)
  obtain ⟨l2, p2, t2, n2, q5, q6, e2⟩ := bent_ev hb l1 t1 p1 (by omega) (by omega)
  refine ⟨l2, t2, ?_⟩
  unfold spec_DrawStmtsOk.f
  exact Evs.bind0 ho (Evs.bind e0 (Evs.bind e1 (Evs.bind e2 (Evs.some_ _))))
end Go.Proofs.Ytnjaimaaijbacaa.P
