/- What the reference draws for a statement's check; what both checks come to; no condition beyond bytes. -/
import Derived.Test.YtnjaimaaijbacaaStmDraw
import Derived.Test.YtnjaimaaijbacaaFSpecL2Bent
import Derived.Test.YtnjaimaaijbacaaStmDraw3
import Derived.Test.YtnjaimaaijbacaaStm3
import Derived.Test.YtnjaimaaijbacaaFSpecDrawStmtOk
import Derived.Test.YtnjaimaaijbacaaFSpecStm
import Derived.Test.YtnjaimaaijbacaaFImplStmtOk
namespace Go.Proofs.Ytnjaimaaijbacaa.P
open Go.RowKit Go.Proofs.YtnjaimaaijbacaaW.PrintWords Go.Proofs.YtnjaimaaijbacaaW.PrintMore
set_option linter.unusedVariables false
set_option linter.unusedSimpArgs false
def SmL (l : List S29) : Prop := l.length ≤ 100 ∧ ∀ t ∈ l, Sm t
theorem smL_set {l : List S29} (h : SmL l) (i : Nat) {t : S29} (ht : Sm t) : SmL (l.set i t) := by
  refine ⟨by rw [List.length_set]; exact h.1, fun u hu => ?_⟩
  rcases List.mem_or_eq_of_mem_set hu with hu | hu
  · exact h.2 u hu
  · rw [hu]
    exact ht
theorem smL_rd {l : List S29} (h : SmL l) {i : Int} (h0 : 0 ≤ i) (h1 : i < (l.length : Int)) : Sm (rd_T29 l i) := by
  obtain ⟨n, rfl⟩ := Int.eq_ofNat_of_zero_le h0
  exact h.2 _ (rd_mem (by omega))
theorem sm_parts {t : S29} (h : Sm t) : (t.f4.length ≤ 1048576 ∧ ∀ u ∈ t.f4, Sm u) ∧ (t.f5.length ≤ 1048576 ∧ ∀ u ∈ t.f5, Sm u) :=
  ⟨⟨(h 1).1.1, fun u hu d => (h (d + 1)).1.2 u hu⟩, (h 1).2.1, fun u hu d => (h (d + 1)).2.2 u hu⟩
theorem bent_loop {xs : List Int} (p : Int) (n : Nat) : ∀ l : List S29, SmL l → 15 ≤ l.length + n → ∃ l', SmL l' ∧ l.length ≤ l'.length ∧ Ev (fun k => spec_l2Bent.l0 k l xs p) (l', p) := by
  induction n with
  | zero =>
    intro l h hn
    refine ⟨l, h, Nat.le_refl _, Evs.succ (fun k => by simp only [spec_l2Bent.l0]; rfl) ?_⟩
    exact Evs.ite_neg (by omega) (Evs.some_ _)
  | succ n ih =>
    intro l h hn
    by_cases c : (l.length : Int) ≤ 14
    · obtain ⟨l', a, b, e⟩ := ih (l ++ [⟨11, 0, 0, 0, [], []⟩]) ⟨by simp; omega, fun t ht => by
        rcases List.mem_append.1 ht with ht | ht
        · exact h.2 t ht
        · rw [List.mem_singleton.1 ht]
          exact sm_leaf _ _ _ _⟩ (by simp; omega)
      refine ⟨l', a, by simp at b; omega, Evs.succ (fun k => by simp only [spec_l2Bent.l0]; rfl) ?_⟩
      exact Evs.ite_pos c (Evs.ite_pos (by omega) e)
    · refine ⟨l, h, Nat.le_refl _, Evs.succ (fun k => by simp only [spec_l2Bent.l0]; rfl) ?_⟩
      exact Evs.ite_neg c (Evs.some_ _)
theorem bent_ev {xs : List Int} (hb : Buf xs) (l : List S29) (h : SmL l) (p : Int) (p0 : 0 ≤ p) (p1 : p ≤ 100000000000) :
    ∃ (l' : List S29) (p' : Int), SmL l' ∧ l.length ≤ l'.length ∧ p ≤ p' ∧ p' ≤ p + 3 ∧ Ev (fun k => spec_l2Bent.f k xs p l) (l', p') := by
  have hl := h.1
  unfold spec_l2Bent.f
  by_cases hz : (l.length : Int) = 0
  · exact ⟨l, p, h, Nat.le_refl _, by omega, by omega, Evs.bind0 rfl (Evs.ite_pos (by simp only [List.length_nil]; omega) (Evs.bind0 rfl (Evs.ite_pos hz (Evs.some_ _))))⟩
  obtain ⟨i, hi, hr, _⟩ := pick_ev (n := (l.length : Int)) hb p0 (by omega)
  obtain ⟨i0, i1⟩ := hr (by omega)
  obtain ⟨c, hc, _⟩ := pick_ev (n := 56) hb (p := p + 1) (by omega) (by omega)
  have ht := smL_rd h i0 i1
  obtain ⟨⟨q4, g4⟩, q5, g5⟩ := sm_parts ht
  by_cases k0 : c = 0
  · obtain ⟨v, _, hv⟩ := num_ev (l := [0, 12, 13, -1, 9]) hb (p := p + 1 + 1) (by omega) (by omega) (by simp) (by simp)
    exact ⟨l.set i.toNat ⟨v, (rd_T29 l i).f1, (rd_T29 l i).f2, (rd_T29 l i).f3, (rd_T29 l i).f4, (rd_T29 l i).f5⟩, p + 1 + 1 + 1, smL_set h _ (sm_mk q4 g4 q5 g5), by rw [List.length_set]; omega, by omega, by omega, Evs.bind0 rfl (Evs.ite_pos (by simp only [List.length_nil]; omega) (Evs.bind0 rfl (Evs.ite_neg hz (Evs.bind hi (Evs.bind hc (Evs.ite_pos k0 (Evs.bind hv (Evs.ite_pos i0 (Evs.ite_pos i1 (Evs.some_ _))))))))))⟩
  by_cases k1 : c = 1
  · obtain ⟨v, _, hv⟩ := num_ev (l := [-1, 3, 2, 9223372036854775807]) hb (p := p + 1 + 1) (by omega) (by omega) (by simp) (by simp)
    exact ⟨l.set i.toNat ⟨(rd_T29 l i).f0, v, (rd_T29 l i).f2, (rd_T29 l i).f3, (rd_T29 l i).f4, (rd_T29 l i).f5⟩, p + 1 + 1 + 1, smL_set h _ (sm_mk q4 g4 q5 g5), by rw [List.length_set]; omega, by omega, by omega, Evs.bind0 rfl (Evs.ite_pos (by simp only [List.length_nil]; omega) (Evs.bind0 rfl (Evs.ite_neg hz (Evs.bind hi (Evs.bind hc (Evs.ite_neg k0 (Evs.ite_pos k1 (Evs.bind hv (Evs.ite_pos i0 (Evs.ite_pos i1 (Evs.some_ _)))))))))))⟩
  by_cases k2 : c = 2
  · obtain ⟨v, _, hv⟩ := num_ev (l := [-1, 3, 1]) hb (p := p + 1 + 1) (by omega) (by omega) (by simp) (by simp)
    exact ⟨l.set i.toNat ⟨(rd_T29 l i).f0, (rd_T29 l i).f1, v, (rd_T29 l i).f3, (rd_T29 l i).f4, (rd_T29 l i).f5⟩, p + 1 + 1 + 1, smL_set h _ (sm_mk q4 g4 q5 g5), by rw [List.length_set]; omega, by omega, by omega, Evs.bind0 rfl (Evs.ite_pos (by simp only [List.length_nil]; omega) (Evs.bind0 rfl (Evs.ite_neg hz (Evs.bind hi (Evs.bind hc (Evs.ite_neg k0 (Evs.ite_neg k1 (Evs.ite_pos k2 (Evs.bind hv (Evs.ite_pos i0 (Evs.ite_pos i1 (Evs.some_ _))))))))))))⟩
  by_cases k3 : c = 3
  · obtain ⟨v, _, hv⟩ := num_ev (l := [1000, 6, 1]) hb (p := p + 1 + 1) (by omega) (by omega) (by simp) (by simp)
    exact ⟨l.set i.toNat ⟨(rd_T29 l i).f0, (rd_T29 l i).f1, (rd_T29 l i).f2, v, (rd_T29 l i).f4, (rd_T29 l i).f5⟩, p + 1 + 1 + 1, smL_set h _ (sm_mk q4 g4 q5 g5), by rw [List.length_set]; omega, by omega, by omega, Evs.bind0 rfl (Evs.ite_pos (by simp only [List.length_nil]; omega) (Evs.bind0 rfl (Evs.ite_neg hz (Evs.bind hi (Evs.bind hc (Evs.ite_neg k0 (Evs.ite_neg k1 (Evs.ite_neg k2 (Evs.ite_pos k3 (Evs.bind hv (Evs.ite_pos i0 (Evs.ite_pos i1 (Evs.some_ _)))))))))))))⟩
  by_cases k4 : c = 4
  · exact ⟨l.set i.toNat ⟨(rd_T29 l i).f0, (rd_T29 l i).f1, (rd_T29 l i).f2, (rd_T29 l i).f3, (rd_T29 l i).f4, [⟨11, 0, 0, 0, [], []⟩]⟩, p + 1 + 1, smL_set h _ (sm_mk q4 g4 (by simp) (fun t ht => by rw [List.mem_singleton.1 ht]; exact sm_leaf _ _ _ _)), by rw [List.length_set]; omega, by omega, by omega, Evs.bind0 rfl (Evs.ite_pos (by simp only [List.length_nil]; omega) (Evs.bind0 rfl (Evs.ite_neg hz (Evs.bind hi (Evs.bind hc (Evs.ite_neg k0 (Evs.ite_neg k1 (Evs.ite_neg k2 (Evs.ite_neg k3 (Evs.ite_pos k4 (Evs.ite_pos i0 (Evs.ite_pos i1 (Evs.some_ _)))))))))))))⟩
  by_cases k5 : c = 5
  · exact ⟨l.set i.toNat ⟨(rd_T29 l i).f0, (rd_T29 l i).f1, (rd_T29 l i).f2, (rd_T29 l i).f3, [⟨(rd_T29 l i).f0, (rd_T29 l i).f1, (rd_T29 l i).f2, (rd_T29 l i).f3, (rd_T29 l i).f4, (rd_T29 l i).f5⟩], (rd_T29 l i).f5⟩, p + 1 + 1, smL_set h _ (sm_mk (by simp) (fun t ht => by rw [List.mem_singleton.1 ht]; exact sm_mk q4 g4 q5 g5) q5 g5), by rw [List.length_set]; omega, by omega, by omega, Evs.bind0 rfl (Evs.ite_pos (by simp only [List.length_nil]; omega) (Evs.bind0 rfl (Evs.ite_neg hz (Evs.bind hi (Evs.bind hc (Evs.ite_neg k0 (Evs.ite_neg k1 (Evs.ite_neg k2 (Evs.ite_neg k3 (Evs.ite_neg k4 (Evs.ite_pos k5 (Evs.ite_pos i0 (Evs.ite_pos i1 (Evs.some_ _))))))))))))))⟩
  by_cases k6 : c = 6
  · obtain ⟨l', a, b, e⟩ := bent_loop (xs := xs) (p + 1 + 1) 15 l h (by omega)
    exact ⟨l', p + 1 + 1, a, b, by omega, by omega, Evs.bind0 rfl (Evs.ite_pos (by simp only [List.length_nil]; omega) (Evs.bind0 rfl (Evs.ite_neg hz (Evs.bind hi (Evs.bind hc (Evs.ite_neg k0 (Evs.ite_neg k1 (Evs.ite_neg k2 (Evs.ite_neg k3 (Evs.ite_neg k4 (Evs.ite_neg k5 (Evs.ite_pos k6 e))))))))))))⟩
  exact ⟨l, p + 1 + 1, h, Nat.le_refl _, by omega, by omega, Evs.bind0 rfl (Evs.ite_pos (by simp only [List.length_nil]; omega) (Evs.bind0 rfl (Evs.ite_neg hz (Evs.bind hi (Evs.bind hc (Evs.ite_neg k0 (Evs.ite_neg k1 (Evs.ite_neg k2 (Evs.ite_neg k3 (Evs.ite_neg k4 (Evs.ite_neg k5 (Evs.ite_neg k6 (Evs.some_ _)))))))))))))⟩
end Go.Proofs.Ytnjaimaaijbacaa.P
namespace Go.Proofs.Ytnjaimaaijbacaa.P
open Go.RowKit Go.Proofs.YtnjaimaaijbacaaW.PrintWords Go.Proofs.YtnjaimaaijbacaaW.PrintMore
set_option linter.unusedVariables false
set_option linter.unusedSimpArgs false
def okVal (t : S29) (dp rm : Int) : Bool := decide (dp ≥ 0) && (decide (dp ≤ 3) && (decide (rm ≥ -1) && (decide (rm < 2) && okS dp.toNat t rm)))
theorem okVal_impl (t : S29) (dp rm : Int) : Ev (fun k => impl_StmtOk.f k t.f0 t.f1 t.f2 t.f3 t.f4 t.f5 dp rm) (okVal t dp rm) := by
  unfold impl_StmtOk.f okVal
  refine ev_and fun h0 => ev_and fun h1 => ev_and fun h2 => ev_and fun _ => ev_last ?_
  have e := implStmt_ev dp.toNat (by omega) t rm h2
  rw [Int.toNat_of_nonneg h0] at e
  obtain ⟨b0, b1, b2, b3, b4, b5⟩ := t
  exact e
end Go.Proofs.Ytnjaimaaijbacaa.P
