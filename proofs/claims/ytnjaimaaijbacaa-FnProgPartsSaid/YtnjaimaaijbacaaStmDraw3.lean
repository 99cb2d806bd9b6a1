/- A statement that the reference draws is small, at every depth from one on; no condition beyond bytes. -/
import Derived.Test.YtnjaimaaijbacaaStmDraw
namespace Go.Proofs.Ytnjaimaaijbacaa.P
open Go.RowKit Go.Proofs.YtnjaimaaijbacaaW.PrintWords Go.Proofs.YtnjaimaaijbacaaW.PrintMore
set_option linter.unusedVariables false
set_option linter.unusedSimpArgs false
def Out (p q : Int) (f : Nat → Option (Int × Int × Int × Int × List S29 × List S29 × Int)) : Prop := ∃ (t : S29) (p' : Int), Sm t ∧ p ≤ p' ∧ p' ≤ q ∧ Ev f (t.f0, t.f1, t.f2, t.f3, t.f4, t.f5, p')
theorem Out.now {p q p' : Int} {f : Nat → Option (Int × Int × Int × Int × List S29 × List S29 × Int)} (t : S29) (ht : Sm t) (h1 : p ≤ p') (h2 : p' ≤ q) (he : Ev f (t.f0, t.f1, t.f2, t.f3, t.f4, t.f5, p')) : Out p q f := ⟨t, p', ht, h1, h2, he⟩
theorem Out.of {p q p2 q2 : Int} {f g : Nat → Option (Int × Int × Int × Int × List S29 × List S29 × Int)} (h : Out p q f) (h1 : p2 ≤ p) (h2 : q ≤ q2) (hg : ∀ r, Ev f r → Ev g r) : Out p2 q2 g := by
  obtain ⟨t, p', ht, a, b, c⟩ := h
  exact ⟨t, p', ht, by omega, by omega, hg _ c⟩
theorem j2_out {xs : List Int} (hb : Buf xs) (d : Nat) (hd : d ≤ 5) (hl : 2 ≤ d → DrawnL xs (d - 1)) (room x7 x8 kind : Int) (hk : 6 ≤ kind → kind ≤ 8 → 2 ≤ d) (b : Bool) (p : Int) (p0 : 0 ≤ p) (p1 : p + 10 + 6 * cst (d - 1) ≤ 6000000000) :
    Out p (p + 10 + 6 * cst (d - 1)) (fun k => spec_l2Draw.j2 k (d : Int) room x7 x8 kind kind b xs p) := by
  have hg := cst_ge (d - 1)
  have big : cst (d - 1) ≤ 1000000 := by
    have : d - 1 = 0 ∨ d - 1 = 1 ∨ d - 1 = 2 ∨ d - 1 = 3 ∨ d - 1 = 4 := by omega
    rcases this with h | h | h | h | h <;> rw [h] <;> unfold cst <;> simp
  have ew : 2 ≤ d → wrap64 ((d : Int) - 1) = ((d - 1 : Nat) : Int) := fun h => by rw [wrap_id (by omega) (by omega)]; omega
  cases b with
  | true =>
    refine Out.now (p' := p) ⟨kind, x7, x8, 0, [], []⟩ (sm_leaf _ _ _ _) (by omega) (by omega) (Evs.succ (fun k => by simp only [spec_l2Draw.j2]; rfl) ?_)
    exact Evs.ite_pos (by trivial) (Evs.some_ _)
  | false =>
    by_cases h5 : kind = 5
    · refine Out.now (p' := p) ⟨kind, x7, 0, 0, [], []⟩ (sm_leaf _ _ _ _) (by omega) (by omega) (Evs.succ (fun k => by simp only [spec_l2Draw.j2]; rfl) ?_)
      exact Evs.ite_neg (by simp) (Evs.ite_pos h5 (Evs.some_ _))
    by_cases h6 : kind = 6
    · have h2 := hk (by omega) (by omega)
      obtain ⟨ts, q, a1, a2, a3, a4, a5⟩ := hl h2 room 2 p (by omega) (by omega) p0 (by omega)
      obtain ⟨us, q2, b1, b2, b3, b4, b5⟩ := hl h2 room 2 q (by omega) (by omega) (by omega) (by omega)
      refine Out.now (p' := q2) ⟨kind, x7, 0, 0, ts, us⟩ (sm_mk (by omega) a2 (by omega) b2) (by omega) (by omega) (Evs.succ (fun k => by simp only [spec_l2Draw.j2, ew h2]; rfl) ?_)
      exact Evs.ite_neg (by simp) (Evs.ite_neg h5 (Evs.ite_pos h6 (Evs.bind a5 (Evs.bind b5 (Evs.some_ _)))))
    by_cases h7 : kind = 7
    · have h2 := hk (by omega) (by omega)
      obtain ⟨ts, q, a1, a2, a3, a4, a5⟩ := hl h2 room 2 p (by omega) (by omega) p0 (by omega)
      obtain ⟨v, _, hv⟩ := num_ev (l := [0, 0, 0, 0, 0, 1]) hb (p := q) (by omega) (by omega) (by simp) (by simp)
      refine Out.now (p' := q + 1) ⟨kind, x7, 0, 0, ts ++ [⟨1, x7, 0, v, [], []⟩], []⟩ (sm_mk (by simp; omega) (fun t ht => by
        rcases List.mem_append.1 ht with ht | ht
        · exact a2 t ht
        · rw [List.mem_singleton.1 ht]
          exact sm_leaf _ _ _ _) (by simp) (fun _ h => by cases h)) (by omega) (by omega) (Evs.succ (fun k => by simp only [spec_l2Draw.j2, ew h2]; rfl) ?_)
      exact Evs.ite_neg (by simp) (Evs.ite_neg h5 (Evs.ite_neg h6 (Evs.ite_pos h7 (Evs.bind a5 (Evs.bind hv (Evs.ite_pos (by show ts.length < _; omega) (Evs.some_ _)))))))
    by_cases h8 : kind = 8
    · have h2 := hk (by omega) (by omega)
      obtain ⟨v, hv, _⟩ := pick_ev (n := 2) hb p0 (by omega)
      obtain ⟨ts, q, a1, a2, a3, a4, a5⟩ := hl h2 v 3 (p + 1) (by omega) (by omega) (by omega) (by omega)
      refine Out.now (p' := q) ⟨kind, v, 0, 0, ts, []⟩ (sm_mk (by omega) a2 (by simp) (fun _ h => by cases h)) (by omega) (by omega) (Evs.succ (fun k => by simp only [spec_l2Draw.j2, ew h2]; rfl) ?_)
      exact Evs.ite_neg (by simp) (Evs.ite_neg h5 (Evs.ite_neg h6 (Evs.ite_neg h7 (Evs.ite_pos h8 (Evs.bind hv (Evs.bind a5 (Evs.some_ _)))))))
    obtain ⟨v, hv, _⟩ := pick_ev (n := 2) hb p0 (by omega)
    by_cases h9 : kind = 9
    · refine Out.now (p' := p + 1) ⟨kind, v, 0, 0, [], []⟩ (sm_leaf _ _ _ _) (by omega) (by omega) (Evs.succ (fun k => by simp only [spec_l2Draw.j2]; rfl) ?_)
      exact Evs.ite_neg (by simp) (Evs.ite_neg h5 (Evs.ite_neg h6 (Evs.ite_neg h7 (Evs.ite_neg h8 (Evs.ite_pos h9 (Evs.bind hv (Evs.some_ _)))))))
    by_cases h10 : kind = 10
    · refine Out.now (p' := p + 1) ⟨kind, v, 0, 0, [], []⟩ (sm_leaf _ _ _ _) (by omega) (by omega) (Evs.succ (fun k => by simp only [spec_l2Draw.j2]; rfl) ?_)
      exact Evs.ite_neg (by simp) (Evs.ite_neg h5 (Evs.ite_neg h6 (Evs.ite_neg h7 (Evs.ite_neg h8 (Evs.ite_neg h9 (Evs.ite_pos h10 (Evs.bind hv (Evs.some_ _))))))))
    refine Out.now (p' := p) ⟨11, 0, 0, 0, [], []⟩ (sm_leaf _ _ _ _) (by omega) (by omega) (Evs.succ (fun k => by simp only [spec_l2Draw.j2]; rfl) ?_)
    exact Evs.ite_neg (by simp) (Evs.ite_neg h5 (Evs.ite_neg h6 (Evs.ite_neg h7 (Evs.ite_neg h8 (Evs.ite_neg h9 (Evs.ite_neg h10 (Evs.some_ _)))))))
theorem j1_out {xs : List Int} (hb : Buf xs) (d : Nat) (hd : d ≤ 5) (hl : 2 ≤ d → DrawnL xs (d - 1)) (room x7 x8 kind : Int) (hk : 6 ≤ kind → kind ≤ 8 → 2 ≤ d) (p : Int) (p0 : 0 ≤ p) (p1 : p + 10 + 6 * cst (d - 1) ≤ 6000000000) :
    Out p (p + 10 + 6 * cst (d - 1)) (fun k => spec_l2Draw.j1 k (d : Int) room x7 x8 kind xs p) := by
  have hg := cst_ge (d - 1)
  by_cases h1 : kind = 1
  · obtain ⟨v, _, hv⟩ := num_ev (l := [0, 1, 2, 3, -1, 5]) hb p0 (by omega) (by simp) (by simp)
    refine Out.now (p' := p + 1) ⟨kind, x7, 0, v, [], []⟩ (sm_leaf _ _ _ _) (by omega) (by omega) (Evs.succ (fun k => by simp only [spec_l2Draw.j1]; rfl) ?_)
    exact Evs.ite_pos h1 (Evs.bind hv (Evs.some_ _))
  by_cases h2 : kind = 2
  · obtain ⟨v, hv, _⟩ := pick_ev (n := 5) hb p0 (by omega)
    refine Out.now (p' := p + 1) ⟨kind, x7, x8, wrap64 (1 + v), [], []⟩ (sm_leaf _ _ _ _) (by omega) (by omega) (Evs.succ (fun k => by simp only [spec_l2Draw.j1]; rfl) ?_)
    exact Evs.ite_neg h1 (Evs.ite_pos h2 (Evs.bind hv (Evs.some_ _)))
  by_cases h3 : kind = 3
  · exact (j2_out hb d hd hl room x7 x8 kind hk (kind == 3) p p0 p1).of (Int.le_refl _) (Int.le_refl _) fun r hr => Evs.succ (fun k => by simp only [spec_l2Draw.j1]; rfl) (Evs.ite_neg h1 (Evs.ite_neg h2 (Evs.ite_pos h3 hr)))
  · exact (j2_out hb d hd hl room x7 x8 kind hk (kind == 4) p p0 p1).of (Int.le_refl _) (Int.le_refl _) fun r hr => Evs.succ (fun k => by simp only [spec_l2Draw.j1]; rfl) (Evs.ite_neg h1 (Evs.ite_neg h2 (Evs.ite_neg h3 hr)))
theorem j0_out {xs : List Int} (hb : Buf xs) (d : Nat) (hd : d ≤ 5) (hl : 2 ≤ d → DrawnL xs (d - 1)) (room x7 x8 kind : Int) (b : Bool) (hk : b = false → 6 ≤ kind → kind ≤ 8 → 2 ≤ d) (p : Int) (p0 : 0 ≤ p) (p1 : p + 11 + 6 * cst (d - 1) ≤ 6000000000) :
    Out p (p + 11 + 6 * cst (d - 1)) (fun k => spec_l2Draw.j0 k (d : Int) room x7 x8 kind b xs p) := by
  have hg := cst_ge (d - 1)
  cases b with
  | true =>
    obtain ⟨v, hm, hv⟩ := num_ev (l := [1, 2, 3, 4, 5]) hb p0 (by omega) (by simp) (by simp)
    have hv5 : v ≤ 5 := by simp at hm; omega
    exact (j1_out hb d hd hl room x7 x8 v (fun h _ => absurd h (by omega)) (p + 1) (by omega) (by omega)).of (by omega) (by omega) fun r hr => Evs.succ (fun k => by simp only [spec_l2Draw.j0]; rfl) (Evs.ite_pos (by trivial) (Evs.bind hv hr))
  | false =>
    exact (j1_out hb d hd hl room x7 x8 kind (hk rfl) p (by omega) (by omega)).of (by omega) (by omega) fun r hr => Evs.succ (fun k => by simp only [spec_l2Draw.j0]; rfl) (Evs.ite_neg (by simp) hr)
end Go.Proofs.Ytnjaimaaijbacaa.P
namespace Go.Proofs.Ytnjaimaaijbacaa.P
open Go.RowKit Go.Proofs.YtnjaimaaijbacaaW.PrintWords Go.Proofs.YtnjaimaaijbacaaW.PrintMore
set_option linter.unusedVariables false
set_option linter.unusedSimpArgs false
theorem inner_out {xs : List Int} (hb : Buf xs) (d : Nat) (hd : d ≤ 5) (hl : 2 ≤ d → DrawnL xs (d - 1)) (room x y kind : Int) (hk : 6 ≤ kind → kind ≤ 8 → 2 ≤ d) (p : Int) (p0 : 0 ≤ p) (p1 : p + 11 + 6 * cst (d - 1) ≤ 6000000000) :
    Out p (p + 11 + 6 * cst (d - 1)) (fun k => if kind = 8 then (if room ≥ 0 then (spec_l2Draw.j0 k (d : Int) room x y kind true xs p) else (if kind = 9 then (spec_l2Draw.j0 k (d : Int) room x y kind (decide (room < 0)) xs p) else (spec_l2Draw.j0 k (d : Int) room x y kind false xs p))) else (if kind = 9 then (spec_l2Draw.j0 k (d : Int) room x y kind (decide (room < 0)) xs p) else (spec_l2Draw.j0 k (d : Int) room x y kind false xs p))) := by
  have j := fun b (h : b = false → 6 ≤ kind → kind ≤ 8 → 2 ≤ d) => j0_out hb d hd hl room x y kind b h p p0 p1
  by_cases h8 : kind = 8
  · by_cases hr : room ≥ 0
    · exact (j true (fun h => by cases h)).of (Int.le_refl _) (Int.le_refl _) fun r h => Evs.ite_pos h8 (Evs.ite_pos hr h)
    · exact (j false (fun _ => hk)).of (Int.le_refl _) (Int.le_refl _) fun r h => Evs.ite_pos h8 (Evs.ite_neg hr (Evs.ite_neg (by omega) h))
  · by_cases h9 : kind = 9
    · exact (j (decide (room < 0)) (fun _ => hk)).of (Int.le_refl _) (Int.le_refl _) fun r h => Evs.ite_neg h8 (Evs.ite_pos h9 h)
    · exact (j false (fun _ => hk)).of (Int.le_refl _) (Int.le_refl _) fun r h => Evs.ite_neg h8 (Evs.ite_neg h9 h)
theorem drawn_step {xs : List Int} (hb : Buf xs) (d : Nat) (hd : d ≤ 5) (h1 : 1 ≤ d) (hl : 2 ≤ d → DrawnL xs (d - 1)) (room p : Int) (p0 : 0 ≤ p) (p1 : p + cst d ≤ 6000000000) : Out p (p + cst d) (fun k => spec_l2Draw.f k xs p (d : Int) room) := by
  have hg := cst_ge (d - 1)
  have e := cst_succ (d - 1)
  rw [show d - 1 + 1 = d by omega] at e
  obtain ⟨x, hx, _⟩ := pick_ev (n := 3) hb p0 (by omega)
  obtain ⟨y, hy, _⟩ := pick_ev (n := 3) hb (p := p + 1) (by omega) (by omega)
  obtain ⟨kind, hm, hv⟩ := num_ev (l := [1, 2, 3, 4, 5, 3, 4, 2, 8, 6, 7, 10, 9, 11, 8, 5]) hb (p := p + 1 + 1) (by omega) (by omega) (by simp) (by simp)
  have head : ∀ r, Ev (fun k => if (d : Int) < 2 then (if kind ≥ 6 then (if kind ≤ 8 then (spec_l2Draw.j0 k (d : Int) room x y kind true xs (p + 1 + 1 + 1)) else (if kind = 8 then (if room ≥ 0 then (spec_l2Draw.j0 k (d : Int) room x y kind true xs (p + 1 + 1 + 1)) else (if kind = 9 then (spec_l2Draw.j0 k (d : Int) room x y kind (decide (room < 0)) xs (p + 1 + 1 + 1)) else (spec_l2Draw.j0 k (d : Int) room x y kind false xs (p + 1 + 1 + 1)))) else (if kind = 9 then (spec_l2Draw.j0 k (d : Int) room x y kind (decide (room < 0)) xs (p + 1 + 1 + 1)) else (spec_l2Draw.j0 k (d : Int) room x y kind false xs (p + 1 + 1 + 1))))) else (if kind = 8 then (if room ≥ 0 then (spec_l2Draw.j0 k (d : Int) room x y kind true xs (p + 1 + 1 + 1)) else (if kind = 9 then (spec_l2Draw.j0 k (d : Int) room x y kind (decide (room < 0)) xs (p + 1 + 1 + 1)) else (spec_l2Draw.j0 k (d : Int) room x y kind false xs (p + 1 + 1 + 1)))) else (if kind = 9 then (spec_l2Draw.j0 k (d : Int) room x y kind (decide (room < 0)) xs (p + 1 + 1 + 1)) else (spec_l2Draw.j0 k (d : Int) room x y kind false xs (p + 1 + 1 + 1))))) else (if kind = 8 then (if room ≥ 0 then (spec_l2Draw.j0 k (d : Int) room x y kind true xs (p + 1 + 1 + 1)) else (if kind = 9 then (spec_l2Draw.j0 k (d : Int) room x y kind (decide (room < 0)) xs (p + 1 + 1 + 1)) else (spec_l2Draw.j0 k (d : Int) room x y kind false xs (p + 1 + 1 + 1)))) else (if kind = 9 then (spec_l2Draw.j0 k (d : Int) room x y kind (decide (room < 0)) xs (p + 1 + 1 + 1)) else (spec_l2Draw.j0 k (d : Int) room x y kind false xs (p + 1 + 1 + 1))))) r → Ev (fun k => spec_l2Draw.f k xs p (d : Int) room) r := fun r hr =>
    Evs.succ (fun k => by simp only [spec_l2Draw.f]; rfl) (Evs.bind hx (Evs.bind hy (Evs.bind hv hr)))
  by_cases c0 : (d : Int) < 2
  · by_cases c1 : kind ≥ 6
    · by_cases c2 : kind ≤ 8
      · exact (j0_out hb d hd hl room x y kind true (fun h => by cases h) (p + 1 + 1 + 1) (by omega) (by omega)).of (by omega) (by omega) fun r h => head r (Evs.ite_pos c0 (Evs.ite_pos c1 (Evs.ite_pos c2 h)))
      · exact (inner_out hb d hd hl room x y kind (fun _ h => absurd h c2) (p + 1 + 1 + 1) (by omega) (by omega)).of (by omega) (by omega) fun r h => head r (Evs.ite_pos c0 (Evs.ite_pos c1 (Evs.ite_neg c2 h)))
    · exact (inner_out hb d hd hl room x y kind (fun h => absurd h c1) (p + 1 + 1 + 1) (by omega) (by omega)).of (by omega) (by omega) fun r h => head r (Evs.ite_pos c0 (Evs.ite_neg c1 h))
  · exact (inner_out hb d hd hl room x y kind (fun _ _ => by omega) (p + 1 + 1 + 1) (by omega) (by omega)).of (by omega) (by omega) fun r h => head r (Evs.ite_neg c0 h)
theorem drawn_all {xs : List Int} (hb : Buf xs) : ∀ d : Nat, 1 ≤ d → d ≤ 5 → Drawn xs d := by
  intro d
  induction d with
  | zero => exact fun h => absurd h (by omega)
  | succ d ih =>
    intro _ hd room p p0 p1
    exact drawn_step hb (d + 1) hd (by omega) (fun h => drawnL_of hb (by
      have : d = 1 ∨ d = 2 ∨ d = 3 ∨ d = 4 := by omega
      show cst d ≤ 100000000
      rcases this with h | h | h | h <;> rw [h] <;> unfold cst <;> simp) (ih (by omega) (by omega))) room p p0 p1
end Go.Proofs.Ytnjaimaaijbacaa.P
