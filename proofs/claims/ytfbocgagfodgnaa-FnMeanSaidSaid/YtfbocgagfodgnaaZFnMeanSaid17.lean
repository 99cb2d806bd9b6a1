/- Parts of the proof of FnMeanSaid: plain Lean functions of Go functions, and that the calls come to what they say; no condition beyond those that each theorem names. -/
import Derived.Test.YtfbocgagfodgnaaZFnMeanSaid16
import Derived.Test.YtfbocgagfodgnaaZFnMeanSaid14
import Derived.Test.YtfbocgagfodgnaaZFnMeanSaid9
import Derived.Test.YtfbocgagfodgnaaZFnMeanSaid5
import Derived.Test.YtfbocgagfodgnaaZFnMeanSaid6
import Derived.Test.YtfbocgagfodgnaaZFnMeanSaid8
import Derived.Test.YtfbocgagfodgnaaZFnMeanSaid7
namespace Go.Proofs.Ytfbocgagfodgnaa.P
open Go.RowKit Go.Proofs.YtfbocgagfodgnaaW.PrintWords Go.Proofs.YtfbocgagfodgnaaW.PrintMore
set_option linter.unusedVariables false
set_option linter.unusedSimpArgs false
def Out (p q : Int) (f : Nat → Option (Int × Int × Int × Int × List S69 × List S69 × Int)) : Prop:=∃ (t : S69) (p' : Int),Sm t ∧ p ≤ p' ∧ p' ≤ q ∧ Ev f (t.f0,t.f1,t.f2,t.f3,t.f4,t.f5,p')
theorem Out.now {p q p' : Int} {f : Nat → Option (Int × Int × Int × Int × List S69 × List S69 × Int)} (t : S69) (ht : Sm t) (h1 : p ≤ p') (h2 : p' ≤ q) (he : Ev f (t.f0,t.f1,t.f2,t.f3,t.f4,t.f5,p')) : Out p q f:=⟨t,p',ht,h1,h2,he⟩
theorem Out.of {p q p2 q2 : Int} {f g : Nat → Option (Int × Int × Int × Int × List S69 × List S69 × Int)} (h : Out p q f) (h1 : p2 ≤ p) (h2 : q ≤ q2) (hg : ∀ r,Ev f r → Ev g r) : Out p2 q2 g:=by
  obtain ⟨t,p',ht,a,b,c⟩:=h
  exact ⟨t,p',ht,by omega,by omega,hg _ c⟩
theorem j2_out {xs : List Int} (hb : Buf xs) (d : Nat) (hd : d ≤ 5) (hl : 2 ≤ d → DrawnL xs (d - 1)) (room x7 x8 kind : Int) (hk : 6 ≤ kind → kind ≤ 8 → 2 ≤ d) (b : Bool) (p : Int) (p0 : 0 ≤ p) (p1 : p + 10 + 6 * cst (d - 1) ≤ 6000000000) :
    Out p (p + 10 + 6 * cst (d - 1)) (fun k=>spec_l2Draw.j2 k (d : Int) room x7 x8 kind kind b xs p):=by
  have hg:=cst_ge (d - 1)
  have big : cst (d - 1) ≤ 1000000:=by
    have : d - 1 = 0 ∨ d - 1 = 1 ∨ d - 1 = 2 ∨ d - 1 = 3 ∨ d - 1 = 4:=by omega
    rcases this with h | h | h | h | h <;> rw [h] <;> unfold cst <;> simp
  have ew : 2 ≤ d → wrap64 ((d : Int) - 1) = ((d - 1 : Nat) : Int):=fun h=>by rw [wrap_id (by omega) (by omega)];omega
  cases b with
  | true =>
    refine Out.now (p':=p) ⟨kind,x7,x8,0,[],[]⟩ (sm_leaf _ _ _ _) (by omega) (by omega) (Evs.succ (fun k=>by simp only [spec_l2Draw.j2];rfl) ?_)
    exact Evs.ite_pos (by trivial) (Evs.some_ _)
  | false =>
    by_cases h5 : kind = 5
    · refine Out.now (p':=p) ⟨kind,x7,0,0,[],[]⟩ (sm_leaf _ _ _ _) (by omega) (by omega) (Evs.succ (fun k=>by simp only [spec_l2Draw.j2];rfl) ?_)
      exact Evs.ite_neg (by simp) (Evs.ite_pos h5 (Evs.some_ _))
    by_cases h6 : kind = 6
    · have h2:=hk (by omega) (by omega)
      obtain ⟨ts,q,a1,a2,a3,a4,a5⟩:=hl h2 room 2 p (by omega) (by omega) p0 (by omega)
      obtain ⟨us,q2,b1,b2,b3,b4,b5⟩:=hl h2 room 2 q (by omega) (by omega) (by omega) (by omega)
      refine Out.now (p':=q2) ⟨kind,x7,0,0,ts,us⟩ (sm_mk (by omega) a2 (by omega) b2) (by omega) (by omega) (Evs.succ (fun k=>by simp only [spec_l2Draw.j2,ew h2];rfl) ?_)
      exact Evs.ite_neg (by simp) (Evs.ite_neg h5 (Evs.ite_pos h6 (Evs.bind a5 (Evs.bind b5 (Evs.some_ _)))))
    by_cases h7 : kind = 7
    · have h2:=hk (by omega) (by omega)
      obtain ⟨ts,q,a1,a2,a3,a4,a5⟩:=hl h2 room 2 p (by omega) (by omega) p0 (by omega)
      obtain ⟨v,_,hv⟩:=num_ev (l:=[0,0,0,0,0,1]) hb (p:=q) (by omega) (by omega) (by simp) (by simp)
      refine Out.now (p':=q + 1) ⟨kind,x7,0,0,ts ++ [⟨1,x7,0,v,[],[]⟩],[]⟩ (sm_mk (by simp;omega) (fun t ht=>by
        rcases List.mem_append.1 ht with ht | ht
        · exact a2 t ht
        · rw [List.mem_singleton.1 ht]
          exact sm_leaf _ _ _ _) (by simp) (fun _ h=>by cases h)) (by omega) (by omega) (Evs.succ (fun k=>by simp only [spec_l2Draw.j2,ew h2];rfl) ?_)
      exact Evs.ite_neg (by simp) (Evs.ite_neg h5 (Evs.ite_neg h6 (Evs.ite_pos h7 (Evs.bind a5 (Evs.bind hv (Evs.ite_pos (by show ts.length < _;omega) (Evs.some_ _)))))))
    by_cases h8 : kind = 8
    · have h2:=hk (by omega) (by omega)
      obtain ⟨v,hv,_⟩:=pick_ev (n:=2) hb p0 (by omega)
      obtain ⟨ts,q,a1,a2,a3,a4,a5⟩:=hl h2 v 3 (p + 1) (by omega) (by omega) (by omega) (by omega)
      refine Out.now (p':=q) ⟨kind,v,0,0,ts,[]⟩ (sm_mk (by omega) a2 (by simp) (fun _ h=>by cases h)) (by omega) (by omega) (Evs.succ (fun k=>by simp only [spec_l2Draw.j2,ew h2];rfl) ?_)
      exact Evs.ite_neg (by simp) (Evs.ite_neg h5 (Evs.ite_neg h6 (Evs.ite_neg h7 (Evs.ite_pos h8 (Evs.bind hv (Evs.bind a5 (Evs.some_ _)))))))
    obtain ⟨v,hv,_⟩:=pick_ev (n:=2) hb p0 (by omega)
    by_cases h9 : kind = 9
    · refine Out.now (p':=p + 1) ⟨kind,v,0,0,[],[]⟩ (sm_leaf _ _ _ _) (by omega) (by omega) (Evs.succ (fun k=>by simp only [spec_l2Draw.j2];rfl) ?_)
      exact Evs.ite_neg (by simp) (Evs.ite_neg h5 (Evs.ite_neg h6 (Evs.ite_neg h7 (Evs.ite_neg h8 (Evs.ite_pos h9 (Evs.bind hv (Evs.some_ _)))))))
    by_cases h10 : kind = 10
    · refine Out.now (p':=p + 1) ⟨kind,v,0,0,[],[]⟩ (sm_leaf _ _ _ _) (by omega) (by omega) (Evs.succ (fun k=>by simp only [spec_l2Draw.j2];rfl) ?_)
      exact Evs.ite_neg (by simp) (Evs.ite_neg h5 (Evs.ite_neg h6 (Evs.ite_neg h7 (Evs.ite_neg h8 (Evs.ite_neg h9 (Evs.ite_pos h10 (Evs.bind hv (Evs.some_ _))))))))
    refine Out.now (p':=p) ⟨11,0,0,0,[],[]⟩ (sm_leaf _ _ _ _) (by omega) (by omega) (Evs.succ (fun k=>by simp only [spec_l2Draw.j2];rfl) ?_)
    exact Evs.ite_neg (by simp) (Evs.ite_neg h5 (Evs.ite_neg h6 (Evs.ite_neg h7 (Evs.ite_neg h8 (Evs.ite_neg h9 (Evs.ite_neg h10 (Evs.some_ _)))))))
theorem j1_out {xs : List Int} (hb : Buf xs) (d : Nat) (hd : d ≤ 5) (hl : 2 ≤ d → DrawnL xs (d - 1)) (room x7 x8 kind : Int) (hk : 6 ≤ kind → kind ≤ 8 → 2 ≤ d) (p : Int) (p0 : 0 ≤ p) (p1 : p + 10 + 6 * cst (d - 1) ≤ 6000000000) :
    Out p (p + 10 + 6 * cst (d - 1)) (fun k=>spec_l2Draw.j1 k (d : Int) room x7 x8 kind xs p):=by
  have hg:=cst_ge (d - 1)
  by_cases h1 : kind = 1
  · obtain ⟨v,_,hv⟩:=num_ev (l:=[0,1,2,3,-1,5]) hb p0 (by omega) (by simp) (by simp)
    refine Out.now (p':=p + 1) ⟨kind,x7,0,v,[],[]⟩ (sm_leaf _ _ _ _) (by omega) (by omega) (Evs.succ (fun k=>by simp only [spec_l2Draw.j1];rfl) ?_)
    exact Evs.ite_pos h1 (Evs.bind hv (Evs.some_ _))
  by_cases h2 : kind = 2
  · obtain ⟨v,hv,_⟩:=pick_ev (n:=5) hb p0 (by omega)
    refine Out.now (p':=p + 1) ⟨kind,x7,x8,wrap64 (1 + v),[],[]⟩ (sm_leaf _ _ _ _) (by omega) (by omega) (Evs.succ (fun k=>by simp only [spec_l2Draw.j1];rfl) ?_)
    exact Evs.ite_neg h1 (Evs.ite_pos h2 (Evs.bind hv (Evs.some_ _)))
  by_cases h3 : kind = 3
  · exact (j2_out hb d hd hl room x7 x8 kind hk (kind == 3) p p0 p1).of (Int.le_refl _) (Int.le_refl _) fun r hr=>Evs.succ (fun k=>by simp only [spec_l2Draw.j1];rfl) (Evs.ite_neg h1 (Evs.ite_neg h2 (Evs.ite_pos h3 hr)))
  · exact (j2_out hb d hd hl room x7 x8 kind hk (kind == 4) p p0 p1).of (Int.le_refl _) (Int.le_refl _) fun r hr=>Evs.succ (fun k=>by simp only [spec_l2Draw.j1];rfl) (Evs.ite_neg h1 (Evs.ite_neg h2 (Evs.ite_neg h3 hr)))
theorem j0_out {xs : List Int} (hb : Buf xs) (d : Nat) (hd : d ≤ 5) (hl : 2 ≤ d → DrawnL xs (d - 1)) (room x7 x8 kind : Int) (b : Bool) (hk : b = false → 6 ≤ kind → kind ≤ 8 → 2 ≤ d) (p : Int) (p0 : 0 ≤ p) (p1 : p + 11 + 6 * cst (d - 1) ≤ 6000000000) :
    Out p (p + 11 + 6 * cst (d - 1)) (fun k=>spec_l2Draw.j0 k (d : Int) room x7 x8 kind b xs p):=by
  have hg:=cst_ge (d - 1)
  cases b with
  | true =>
    obtain ⟨v,hm,hv⟩:=num_ev (l:=[1,2,3,4,5]) hb p0 (by omega) (by simp) (by simp)
    have hv5 : v ≤ 5:=by simp at hm;omega
    exact (j1_out hb d hd hl room x7 x8 v (fun h _=>absurd h (by omega)) (p + 1) (by omega) (by omega)).of (by omega) (by omega) fun r hr=>Evs.succ (fun k=>by simp only [spec_l2Draw.j0];rfl) (Evs.ite_pos (by trivial) (Evs.bind hv hr))
  | false =>
    exact (j1_out hb d hd hl room x7 x8 kind (hk rfl) p (by omega) (by omega)).of (by omega) (by omega) fun r hr=>Evs.succ (fun k=>by simp only [spec_l2Draw.j0];rfl) (Evs.ite_neg (by simp) hr)
end Go.Proofs.Ytfbocgagfodgnaa.P
namespace Go.Proofs.Ytfbocgagfodgnaa.P
open Go.RowKit Go.Proofs.YtfbocgagfodgnaaW.PrintWords Go.Proofs.YtfbocgagfodgnaaW.PrintMore
set_option linter.unusedVariables false
set_option linter.unusedSimpArgs false
theorem inner_out {xs : List Int} (hb : Buf xs) (d : Nat) (hd : d ≤ 5) (hl : 2 ≤ d → DrawnL xs (d - 1)) (room x y kind : Int) (hk : 6 ≤ kind → kind ≤ 8 → 2 ≤ d) (p : Int) (p0 : 0 ≤ p) (p1 : p + 11 + 6 * cst (d - 1) ≤ 6000000000) :
    Out p (p + 11 + 6 * cst (d - 1)) (fun k=>if kind = 8 then (if room ≥ 0 then (spec_l2Draw.j0 k (d : Int) room x y kind true xs p) else (if kind = 9 then (spec_l2Draw.j0 k (d : Int) room x y kind (decide (room < 0)) xs p) else (spec_l2Draw.j0 k (d : Int) room x y kind false xs p))) else (if kind = 9 then (spec_l2Draw.j0 k (d : Int) room x y kind (decide (room < 0)) xs p) else (spec_l2Draw.j0 k (d : Int) room x y kind false xs p))):=by
  have j:=fun b (h : b = false → 6 ≤ kind → kind ≤ 8 → 2 ≤ d)=>j0_out hb d hd hl room x y kind b h p p0 p1
  by_cases h8 : kind = 8
  · by_cases hr : room ≥ 0
    · exact (j true (fun h=>by cases h)).of (Int.le_refl _) (Int.le_refl _) fun r h=>Evs.ite_pos h8 (Evs.ite_pos hr h)
    · exact (j false (fun _=>hk)).of (Int.le_refl _) (Int.le_refl _) fun r h=>Evs.ite_pos h8 (Evs.ite_neg hr (Evs.ite_neg (by omega) h))
  · by_cases h9 : kind = 9
    · exact (j (decide (room < 0)) (fun _=>hk)).of (Int.le_refl _) (Int.le_refl _) fun r h=>Evs.ite_neg h8 (Evs.ite_pos h9 h)
    · exact (j false (fun _=>hk)).of (Int.le_refl _) (Int.le_refl _) fun r h=>Evs.ite_neg h8 (Evs.ite_neg h9 h)
theorem drawn_step {xs : List Int} (hb : Buf xs) (d : Nat) (hd : d ≤ 5) (h1 : 1 ≤ d) (hl : 2 ≤ d → DrawnL xs (d - 1)) (room p : Int) (p0 : 0 ≤ p) (p1 : p + cst d ≤ 6000000000) : Out p (p + cst d) (fun k=>spec_l2Draw.f k xs p (d : Int) room):=by
  have hg:=cst_ge (d - 1)
  have e:=cst_succ (d - 1)
  rw [show d - 1 + 1 = d by omega] at e
  obtain ⟨x,hx,_⟩:=pick_ev (n:=3) hb p0 (by omega)
  obtain ⟨y,hy,_⟩:=pick_ev (n:=3) hb (p:=p + 1) (by omega) (by omega)
  obtain ⟨kind,hm,hv⟩:=num_ev (l:=[1,2,3,4,5,3,4,2,8,6,7,10,9,11,8,5]) hb (p:=p + 1 + 1) (by omega) (by omega) (by simp) (by simp)
  have head : ∀ r,Ev (fun k=>if (d : Int) < 2 then (if kind ≥ 6 then (if kind ≤ 8 then (spec_l2Draw.j0 k (d : Int) room x y kind true xs (p + 1 + 1 + 1)) else (if kind = 8 then (if room ≥ 0 then (spec_l2Draw.j0 k (d : Int) room x y kind true xs (p + 1 + 1 + 1)) else (if kind = 9 then (spec_l2Draw.j0 k (d : Int) room x y kind (decide (room < 0)) xs (p + 1 + 1 + 1)) else (spec_l2Draw.j0 k (d : Int) room x y kind false xs (p + 1 + 1 + 1)))) else (if kind = 9 then (spec_l2Draw.j0 k (d : Int) room x y kind (decide (room < 0)) xs (p + 1 + 1 + 1)) else (spec_l2Draw.j0 k (d : Int) room x y kind false xs (p + 1 + 1 + 1))))) else (if kind = 8 then (if room ≥ 0 then (spec_l2Draw.j0 k (d : Int) room x y kind true xs (p + 1 + 1 + 1)) else (if kind = 9 then (spec_l2Draw.j0 k (d : Int) room x y kind (decide (room < 0)) xs (p + 1 + 1 + 1)) else (spec_l2Draw.j0 k (d : Int) room x y kind false xs (p + 1 + 1 + 1)))) else (if kind = 9 then (spec_l2Draw.j0 k (d : Int) room x y kind (decide (room < 0)) xs (p + 1 + 1 + 1)) else (spec_l2Draw.j0 k (d : Int) room x y kind false xs (p + 1 + 1 + 1))))) else (if kind = 8 then (if room ≥ 0 then (spec_l2Draw.j0 k (d : Int) room x y kind true xs (p + 1 + 1 + 1)) else (if kind = 9 then (spec_l2Draw.j0 k (d : Int) room x y kind (decide (room < 0)) xs (p + 1 + 1 + 1)) else (spec_l2Draw.j0 k (d : Int) room x y kind false xs (p + 1 + 1 + 1)))) else (if kind = 9 then (spec_l2Draw.j0 k (d : Int) room x y kind (decide (room < 0)) xs (p + 1 + 1 + 1)) else (spec_l2Draw.j0 k (d : Int) room x y kind false xs (p + 1 + 1 + 1))))) r → Ev (fun k=>spec_l2Draw.f k xs p (d : Int) room) r:=fun r hr =>
    Evs.succ (fun k=>by simp only [spec_l2Draw.f];rfl) (Evs.bind hx (Evs.bind hy (Evs.bind hv hr)))
  by_cases c0 : (d : Int) < 2
  · by_cases c1 : kind ≥ 6
    · by_cases c2 : kind ≤ 8
      · exact (j0_out hb d hd hl room x y kind true (fun h=>by cases h) (p + 1 + 1 + 1) (by omega) (by omega)).of (by omega) (by omega) fun r h=>head r (Evs.ite_pos c0 (Evs.ite_pos c1 (Evs.ite_pos c2 h)))
      · exact (inner_out hb d hd hl room x y kind (fun _ h=>absurd h c2) (p + 1 + 1 + 1) (by omega) (by omega)).of (by omega) (by omega) fun r h=>head r (Evs.ite_pos c0 (Evs.ite_pos c1 (Evs.ite_neg c2 h)))
    · exact (inner_out hb d hd hl room x y kind (fun h=>absurd h c1) (p + 1 + 1 + 1) (by omega) (by omega)).of (by omega) (by omega) fun r h=>head r (Evs.ite_pos c0 (Evs.ite_neg c1 h))
  · exact (inner_out hb d hd hl room x y kind (fun _ _=>by omega) (p + 1 + 1 + 1) (by omega) (by omega)).of (by omega) (by omega) fun r h=>head r (Evs.ite_neg c0 h)
theorem drawn_all {xs : List Int} (hb : Buf xs) : ∀ d : Nat,1 ≤ d → d ≤ 5 → Drawn xs d:=by
  intro d
  induction d with
  | zero=>exact fun h=>absurd h (by omega)
  | succ d ih =>
    intro _ hd room p p0 p1
    exact drawn_step hb (d + 1) hd (by omega) (fun h=>drawnL_of hb (by
      have : d = 1 ∨ d = 2 ∨ d = 3 ∨ d = 4:=by omega
      show cst d ≤ 100000000
      rcases this with h | h | h | h <;> rw [h] <;> unfold cst <;> simp) (ih (by omega) (by omega))) room p p0 p1
end Go.Proofs.Ytfbocgagfodgnaa.P

namespace Go.Proofs.Ytfbocgagfodgnaa.P
open Go.RowKit Go.Proofs.YtfbocgagfodgnaaW.PrintWords Go.Proofs.YtfbocgagfodgnaaW.PrintMore
set_option linter.unusedVariables false
set_option linter.unusedSimpArgs false
theorem smL_sl {l : List S69} (h : SmL l) (d : Nat) : SL d l:=⟨by have:=h.1;omega,fun t ht=>h.2 t ht d⟩
theorem some_loop {xs : List Int} (hb : Buf xs) (n : Nat) : ∀ (out : List S69) (p : Int),out.length + n ≤ 6 → (∀ t ∈ out,Sm t) → okLst out = true → 0 ≤ p → p + (n : Int) * 100000 ≤ 1000000000 →
    ∃ (l : List S69) (p' : Int),l.length ≤ 6 ∧ (∀ t ∈ l,Sm t) ∧ okLst l = true ∧ p ≤ p' ∧ p' ≤ p + (n : Int) * 100000 ∧ Ev (fun k=>spec_l2Some.l0 k out (n : Int) xs p) (l,p'):=by
  induction n with
  | zero =>
    intro out p hn ho hk h0 h1
    refine ⟨out,p,by omega,ho,hk,by omega,by omega,?_⟩
    refine Evs.succ (fun k=>by simp only [spec_l2Some.l0];rfl) ?_
    exact Evs.ite_neg (by omega) (Evs.some_ _)
  | succ n ih =>
    intro out p hn ho hk h0 h1
    have c3 : cst 3 = 100000:=by unfold cst;simp
    obtain ⟨t,q,ht,q0,q1,he⟩:=drawn_all hb 3 (by omega) (by omega) (-1) p h0 (by omega)
    have ew : wrap64 (((n + 1 : Nat) : Int) - 1) = (n : Int):=by rw [wrap_id (by omega) (by omega)];omega
    have hs : ∀ u ∈ out ++ [t],Sm u:=fun u hu=>by
      rcases List.mem_append.1 hu with hu | hu
      · exact ho u hu
      · rw [List.mem_singleton.1 hu]
        exact ht
    have ok:=specOk (l:=out ++ [t]) ⟨by simp;omega,fun u hu=>hs u hu 3⟩
    obtain ⟨b0,b1,b2,b3,b4,b5⟩:=t
    have hgo : ∀ r,Ev (fun k=>if okLst (out ++ [⟨b0,b1,b2,b3,b4,b5⟩]) = true then spec_l2Some.l0 k (out ++ [⟨b0,b1,b2,b3,b4,b5⟩]) (n : Int) xs q else spec_l2Some.l0 k out (n : Int) xs q) r → Ev (fun k=>spec_l2Some.l0 k out ((n + 1 : Nat) : Int) xs p) r:=by
      intro r hr
      refine Evs.succ (fun k=>by simp only [spec_l2Some.l0,ew];rfl) ?_
      refine Evs.ite_pos (by omega) (Evs.bind0 rfl (Evs.ite_pos (by simp only [List.length_nil];omega) (Evs.bind0 rfl (Evs.bind he (Evs.ite_pos (by simp only [List.nil_append];omega) (Evs.bind0 rfl ?_))))))
      exact Evs.bind ok hr
    cases c : okLst (out ++ [⟨b0,b1,b2,b3,b4,b5⟩]) with
    | true =>
      obtain ⟨l,p',a1,a2,a3,a4,a5,a6⟩:=ih (out ++ [⟨b0,b1,b2,b3,b4,b5⟩]) q (by simp;omega) hs c (by omega) (by omega)
      exact ⟨l,p',a1,a2,a3,by omega,by omega,hgo _ (Evs.ite_pos c a6)⟩
    | false =>
      obtain ⟨l,p',a1,a2,a3,a4,a5,a6⟩:=ih out q (by omega) ho hk (by omega) (by omega)
      exact ⟨l,p',a1,a2,a3,by omega,by omega,hgo _ (Evs.ite_neg (by rw [c];simp) a6)⟩
theorem okLst_nil : okLst [] = true:=by simp [okLst,okList,cntL,wrap64]
theorem some_ev {xs : List Int} (hb : Buf xs) (p : Int) (p0 : 0 ≤ p) (p1 : p ≤ 900000000) : ∃ (l : List S69) (p' : Int),l.length ≤ 6 ∧ (∀ t ∈ l,Sm t) ∧ okLst l = true ∧ p ≤ p' ∧ p' ≤ p + 700000 ∧ Ev (fun k=>spec_l2Some.f k xs p) (l,p'):=by
  obtain ⟨v,hm,hv⟩:=num_ev (l:=[3,4,5,6,2,0]) hb p0 (by omega) (by simp) (by simp)
  have hv6 : 0 ≤ v ∧ v ≤ 6:=by simp at hm;omega
  obtain ⟨n,rfl⟩:=Int.eq_ofNat_of_zero_le hv6.1
  obtain ⟨l,p',a1,a2,a3,a4,a5,a6⟩:=some_loop hb n [] (p + 1) (by simp;omega) (fun _ h=>by cases h) okLst_nil (by omega) (by omega)
  exact ⟨l,p',a1,a2,a3,by omega,by omega,Evs.bind hv a6⟩
def Rt (l : List S69) : Prop:=l.length ≤ 6 ∧ (∀ t ∈ l,Sm t) ∧ okLst l = true
theorem prog_loop {xs : List Int} (hb : Buf xs) (n : Nat) : ∀ (out : List (List S69)) (p : Int),out.length + n ≤ 3 → (∀ l ∈ out,Rt l) → 0 ≤ p → p + (n : Int) * 700000 ≤ 900000000 →
    ∃ (q : List (List S69)) (p' : Int),q.length = out.length + n ∧ (∀ l ∈ q,Rt l) ∧ p ≤ p' ∧ p' ≤ p + (n : Int) * 700000 ∧ Ev (fun k=>spec_l2Prog.l0 k out (n : Int) xs p) (q,p'):=by
  induction n with
  | zero =>
    intro out p hn ho h0 h1
    refine ⟨out,p,by omega,ho,by omega,by omega,?_⟩
    refine Evs.succ (fun k=>by simp only [spec_l2Prog.l0];rfl) ?_
    exact Evs.ite_neg (by omega) (Evs.some_ _)
  | succ n ih =>
    intro out p hn ho h0 h1
    obtain ⟨l,p1,a1,a2,a3,a4,a5,a6⟩:=some_ev hb p h0 (by omega)
    obtain ⟨q,p',b1,b2,b3,b4,b5⟩:=ih (out ++ [l]) p1 (by simp;omega) (fun u hu=>by
      rcases List.mem_append.1 hu with hu | hu
      · exact ho u hu
      · rw [List.mem_singleton.1 hu]
        exact ⟨a1,a2,a3⟩) (by omega) (by omega)
    have ew : wrap64 (((n + 1 : Nat) : Int) - 1) = (n : Int):=by rw [wrap_id (by omega) (by omega)];omega
    refine ⟨q,p',by rw [b1,List.length_append,List.length_singleton];omega,b2,by omega,by omega,?_⟩
    refine Evs.succ (fun k=>by simp only [spec_l2Prog.l0,ew];rfl) ?_
    exact Evs.ite_pos (by omega) (Evs.bind a6 (Evs.ite_pos (by omega) b5))
theorem prog_ev {xs : List Int} (hb : Buf xs) (p : Int) (p0 : 0 ≤ p) (p1 : p ≤ 800000000) :
    ∃ (q : List (List S69)) (p' : Int),1 ≤ q.length ∧ q.length ≤ 3 ∧ (∀ l ∈ q,Rt l) ∧ p ≤ p' ∧ p' ≤ p + 2100001 ∧ Ev (fun k=>spec_l2Prog.f k xs p) (q,p'):=by
  obtain ⟨i,hi,hr,_⟩:=pick_ev (n:=3) hb p0 (by omega)
  obtain ⟨i0,i1⟩:=hr (by omega)
  obtain ⟨n,rfl⟩:=Int.eq_ofNat_of_zero_le i0
  have ew : wrap64 (1 + (n : Int)) = ((n + 1 : Nat) : Int):=by rw [wrap_id (by omega) (by omega)];omega
  obtain ⟨q,p',b1,b2,b3,b4,b5⟩:=prog_loop hb (n + 1) [] (p + 1) (by simp;omega) (fun _ h=>by cases h) (by omega) (by omega)
  refine ⟨q,p',by simp at b1;omega,by simp at b1;omega,b2,by omega,by omega,?_⟩
  unfold spec_l2Prog.f
  refine Evs.bind hi ?_
  show Ev (fun k=>spec_l2Prog.l0 k [] (wrap64 (1 + (n : Int))) xs (p + 1)) _
  rw [ew]
  exact b5
theorem rt_sm {l : List S69} (h : Rt l) : SmL l:=⟨by have:=h.1;omega,h.2.1⟩
end Go.Proofs.Ytfbocgagfodgnaa.P

namespace Go.Proofs.Ytfbocgagfodgnaa.P
open Go.RowKit Go.Proofs.YtfbocgagfodgnaaW.PrintWords Go.Proofs.YtfbocgagfodgnaaW.PrintLast Go.Proofs.YtfbocgagfodgnaaW.PrintMore
attribute [local go_sem] max2_int min2_int max_two min_two max_three min_three max_four min_four
set_option linter.unusedVariables false
set_option linter.unusedSimpArgs false
theorem rt_good {q : List (List S69)} (h1 : 1 ≤ q.length) (h2 : q.length ≤ 3) (h : ∀ l ∈ q,Rt l) : GoodP q:=⟨h1,h2,fun l hl=>by have:=(h l hl).1;omega,fun l hl x hx=>by
  obtain ⟨_,hs,ho⟩:=h l hl
  have ho:=okLst_list ho
  unfold okList at ho
  rw [List.all_eq_true] at ho
  exact ⟨3,Nat.le_refl _,ho x hx,hs x hx 3⟩⟩
theorem drawn_good {ys : List Int} (hb : Buf ys) : ∃ (q : List (List S69)) (p' : Int) (k : Nat),GoodP q ∧ 0 ≤ p' ∧ p' ≤ 2100001 ∧ spec_l2Prog.f k ys 0 = some (q,p') ∧ spec_ProgOk.f k q = some true ∧ ∀ x ∈ q,spec_l2Copy.f k x 4 = some x:=by
  obtain ⟨q,p',a1,a2,a3,a4,a5,a6⟩:=prog_ev hb 0 (by omega) (by omega)
  have hg:=rt_good a1 a2 a3
  have hp:=specProg (p:=q) (by omega) fun l hl=>smL_sl (rt_sm (a3 l hl)) 3
  have ep : progB q = true:=by
    unfold progB
    simp only [Bool.and_eq_true,decide_eq_true_eq,List.all_eq_true]
    exact ⟨fun l hl=>(a3 l hl).2.2,by omega,by omega⟩
  rw [ep] at hp
  have hc : ∀ l ∈ q,Ev (fun k=>spec_l2Copy.f k l ((4 : Nat) : Int)) l:=fun l hl=>copy_ev 4 4 l ⟨by have:=(a3 l hl).1;omega,fun x hx=>(hg.vx l hl x hx).fit⟩ (Nat.le_refl _) (by decide)
  have all : ∀ t : List (List S69),(∀ l ∈ t,Ev (fun k=>spec_l2Copy.f k l ((4 : Nat) : Int)) l) → ∃ K,∀ k,K ≤ k → ∀ l ∈ t,spec_l2Copy.f k l 4 = some l:=by
    intro t
    induction t with
    | nil=>exact fun _=>⟨0,fun _ _ p hp=>by cases hp⟩
    | cons x t ih =>
      intro hl
      obtain ⟨K1,h1⟩:=hl x (List.mem_cons_self ..)
      obtain ⟨K2,h2⟩:=ih fun p hp=>hl p (List.mem_cons_of_mem _ hp)
      refine ⟨K1 + K2,fun k hk p hp=>?_⟩
      rcases List.mem_cons.1 hp with rfl | hp
      · exact h1 k (by omega)
      · exact h2 k (by omega) p hp
  obtain ⟨K1,h1⟩:=all q hc
  obtain ⟨K2,h2⟩:=a6
  obtain ⟨K3,h3⟩:=hp
  exact ⟨q,p',K1 + K2 + K3,hg,a4,by omega,h2 _ (by omega),h3 _ (by omega),h1 _ (by omega)⟩
theorem Played.forms {n len : Nat} {W : World} {v0 v1 v2 v3 v4 : Value} (h : Played n W len v0 v1 v2 v3 v4) : (∃ A m c,v0 = .slice A m c) ∧ (∃ A m c,v1 = .slice A m c) ∧ (∃ A m c,v2 = .slice A m c) ∧ (∃ A m c,v3 = .slice A m c) ∧ ∃ A m c,v4 = .slice A m c:=by
  rcases h with ⟨_,ps,qs,ys,x0,x1,x2,_,_,_,_,_,hro⟩ | ⟨_,rfl,rfl,rfl,rfl,rfl⟩
  · obtain ⟨A0,c0,e0⟩:=Kd.R_slice hro.r0
    obtain ⟨A1,c1,e1⟩:=Kd.R_slice hro.r1
    obtain ⟨A2,c2,e2⟩:=Kd.R_slice hro.r2
    obtain ⟨A3,c3,e3⟩:=Kd.R_slice hro.r3
    obtain ⟨A4,c4,e4⟩:=Kd.R_slice hro.r4
    exact ⟨⟨_,_,_,e0⟩,⟨_,_,_,e1⟩,⟨_,_,_,e2⟩,⟨_,_,_,e3⟩,⟨_,_,_,e4⟩⟩
  · exact ⟨⟨_,_,_,rfl⟩,⟨_,_,_,rfl⟩,⟨_,_,_,rfl⟩,⟨_,_,_,rfl⟩,⟨_,_,_,rfl⟩⟩
theorem Played.said {n len : Nat} {W : World} {v0 v1 v2 v3 v4 : Value} (h : Played n W len v0 v1 v2 v3 v4) : ∃ said : List S38,Kd.R k38 38 W n (fun _=>True) v4 said ∧ (∀ y ∈ said,0 ≤ y.f0 ∧ y.f0 < 3) ∧ said.length ≤ 200:=by
  rcases h with ⟨hl,ps,qs,ys,x0,x1,x2,hv,_,_,_,_,hro⟩ | ⟨_,_,_,_,_,rfl⟩
  · exact ⟨ys,hro.r4,fun y hy=>by have:=hv.yw y hy;have:=hv.p3;omega,by have:=hv.yl;omega⟩
  · exact ⟨[],Kd.R_nil _ _ _ _ _,(fun y hy=>by cases hy),by simp⟩
set_option maxHeartbeats 2000000 in
set_option maxRecDepth 100000 in
theorem drawsaid_says (A : Option Addr) (c : Nat) (l : List Int) (w : World) (hr : Kd.C (Kd.int .u8) w A l.length l) (hc : l.length ≤ c) (hw : ∀ x ∈ l,(Lit.int .u8 x).wf = true) :
    Calls Try.prog 5 #[.slice A l.length c] w fun e w'=>∃ (v : Value) (said : List S38) (who : Int),e = .returned (.tuple #[v,.int .i64 who]) ∧ Kd.R k38 38 w' w.heap.size (fun _=>True) v said ∧ (∀ y ∈ said,0 ≤ y.f0 ∧ y.f0 < 3) ∧ said.length ≤ 200 ∧ Below w.heap.size w w':=by
  have hu29:=Try.underlying33
  obtain ⟨s,hop,hbf⟩:=open_eq l
  have HBF:=Aside0.mk (hbf hw)
  obtain ⟨q,p',k,hg,hp0,hp1,hq,hk,hco⟩:=drawn_good HBF.out
  have HO:=Aside0.mk hop
  have HG:=Aside0.mk hg
  have HP0:=Aside0.mk hp0
  have HP1:=Aside0.mk hp1
  have HQ:=Aside0.mk hq
  have HK:=Aside0.mk hk
  have HCO:=Aside0.mk hco
  have HR:=Aside0.mk hr
  have HC:=Aside0.mk hc
  have HB:=Aside0.mk (Below.refl w.heap.size w)
  clear hop hbf hg hp0 hp1 hq hk hco hr hc hw
  go_enter Try.func5,Try.ntmps5
  go_upto_region 4 with (first | (go_at_call 12;refine (spec_l11Open.calls A c l s 0 w _ HB.out (Kd.C_below HR.out HB.out) HC.out HO.out).mono ?_;rintro e w5 ⟨g,rfl,hi,hb1,hb⟩;have n1_:=Aside0.mk hb1;have HI:=Aside0.mk hi;clear HB hi hb1 hb;have HB:=n1_;clear n1_) | (go_at_call 13;refine (spec_l2Prog.calls k g s 0 q p' w _ HI.out HB.out HQ.out).mono ?_;rintro e w6 ⟨vp,rfl,hn,hi,hb,hk⟩;obtain ⟨AQ,cQ,eQ⟩:=Kd.N_slice hn;subst eQ;have GL:=Aside0.mk HI.out.lt;have HN:=Aside0.mk (Kd.N_mono hn (ok':=fun k_=>k_ ≠ g) fun k_ hk_=>by have h1:=GL.out;omega);have n1_:=Aside0.mk hb;have n2_:=Aside0.mk hi;clear HB HI hn hi hb hk;have HB:=n1_;have HI:=n2_;clear n1_ n2_) | (go_at_call 15;refine (l3picks_says k AQ cQ q w _ g s p' HI.out HB.out HBF.out HP0.out (by have:=HP1.out;omega) (Kd.N_reads' HN.out).2.2 (Kd.N_reads' HN.out).2.1 HG.out HK.out HCO.out).mono ?_;rintro e w7 ⟨vk,picks,p2,rfl,hrp,hpl,hi,hp1,hp2,hb,hk⟩;obtain ⟨AP,cP,eP⟩:=Kd.R_slice hrp;subst eP;have n0_:=Aside0.mk (Kd.N_keep HN.out hk (fun _ h=>h));have HRP:=Aside0.mk hrp;have HPL:=Aside0.mk hpl;have HP2:=Aside0.mk (show 0 ≤ p2 ∧ p2 ≤ 2102001 by have h1:=HP0.out;have h2:=HP1.out;omega);have n1_:=Aside0.mk hb;have n2_:=Aside0.mk hi;clear HB HI HN hrp hpl hi hp1 hp2 hb hk;have HB:=n1_;have HI:=n2_;have HN:=n0_;clear n0_ n1_ n2_) | (go_at_call 14;have hbig:=HI.out.lt;refine (mplay_says k AQ cQ q _ (Kd.N_reads' HN.out).2.2 (Kd.N_reads' HN.out).2.1 HG.out HK.out AP cP picks (Kd.R_reads' HRP.out).2.2 (Kd.R_reads' HRP.out).2.1).mono ?_;rintro e w8 ⟨v0,v1,v2,v3,v4,vc,rfl,hpl,hb⟩;have GS:=Aside0.mk hbig;have S7:=Aside0.mk HB.out.size;have HPD:=Aside0.mk hpl;have n1_:=Aside0.mk (below_step HB.out hb);have n2_:=Aside0.mk (HI.out.below hb);clear HB HI hpl hb hbig;have HB:=n1_;have HI:=n2_;clear n1_ n2_;obtain ⟨⟨E0,m0,i0,e0⟩,⟨E1,m1,i1,e1⟩,⟨E2,m2,i2,e2⟩,⟨E3,m3,i3,e3⟩,⟨E4,m4,i4,e4⟩⟩:=HPD.out.forms;subst e0;subst e1;subst e2;subst e3;subst e4) | ((with_reducible refine gate_dst (N:=6) rfl ?_);refine box_event ?hg (N:=6) ?hd (cs:=#[.slice none 0 0,.slice none 0 0,.slice none 0 0,.slice none 0 0,.slice none 0 0]) (t:=33) ?hr ?_;(case hd=>rfl);(case hg=>rfl);(case hr=>first | (go_simp;done) | (go_simp;rfl));intro bw hg w9 hbox hb;have HB9:=Aside0.mk hb;have BW:=Aside0.mk hbox;have GW:=Aside0.mk (Nat.le_of_eq hg.symm);clear hb hbox hg;obtain ⟨hcq_0,hcq_1,hcq_2,hcq_3,hcq_4,hfq_0,hfq_1,hfq_2,hfq_3,hfq_4⟩:=bz5_ BW))
  obtain ⟨said,hsaid,hs1,hs2⟩:=HPD.out.said
  have HS1:=Aside0.mk hs1
  have HS2:=Aside0.mk hs2
  have n1:=Aside0.mk (show (((((w9.setCell ⟨bw,0,none⟩ (.slice E0 m0 i0)).setCell ⟨bw,1,none⟩ (.slice E1 m1 i1)).setCell ⟨bw,2,none⟩ (.slice E2 m2 i2)).setCell ⟨bw,3,none⟩ (.slice E3 m3 i3)).setCell ⟨bw,4,none⟩ (.slice E4 m4 i4)).heap[bw]? = some (.cells #[.slice E0 m0 i0,.slice E1 m1 i1,.slice E2 m2 i2,.slice E3 m3 i3,.slice E4 m4 i4] 33 (0,0)) by apply bp5_4_;apply bp5_3_;apply bp5_2_;apply bp5_1_;apply bp5_0_;exact BW.out)
  have n2:=Aside0.mk (below_set5 (below_step HB.out HB9.out) (Nat.le_trans HB.out.size GW.out) (.slice E0 m0 i0) (.slice E1 m1 i1) (.slice E2 m2 i2) (.slice E3 m3 i3) (.slice E4 m4 i4))
  have ne : g ≠ bw:=by have h1:=HI.out.lt;have h2:=GW.out;omega
  have n3:=Aside0.mk ((((((HI.out.below HB9.out).far (p:=⟨bw,0,none⟩) ne (.slice E0 m0 i0)).far (p:=⟨bw,1,none⟩) ne (.slice E1 m1 i1)).far (p:=⟨bw,2,none⟩) ne (.slice E2 m2 i2)).far (p:=⟨bw,3,none⟩) ne (.slice E3 m3 i3)).far (p:=⟨bw,4,none⟩) ne (.slice E4 m4 i4))
  have n4:=Aside0.mk (Kd.R_mono (Kd.R_bound (set5_ (.slice E0 m0 i0) (.slice E1 m1 i1) (.slice E2 m2 i2) (.slice E3 m3 i3) (.slice E4 m4 i4) (Kd.R_below hsaid HB9.out) BW.out (by decide))) (ok':=fun k=>g < k) fun k hk=>Nat.lt_of_lt_of_le GS.out hk.2.1)
  have NE:=Aside0.mk ne
  have S0:=Aside0.mk (show w.heap.size ≤ w7.heap.size from S7.out)
  clear hsaid hs1 hs2 BW HB HI HPD HB9 ne hcq_0 hcq_1 hcq_2 hcq_3 hcq_4 hfq_0 hfq_1 hfq_2 hfq_3 hfq_4
  generalize (((((w9.setCell ⟨bw,0,none⟩ (.slice E0 m0 i0)).setCell ⟨bw,1,none⟩ (.slice E1 m1 i1)).setCell ⟨bw,2,none⟩ (.slice E2 m2 i2)).setCell ⟨bw,3,none⟩ (.slice E3 m3 i3)).setCell ⟨bw,4,none⟩ (.slice E4 m4 i4)) = w10 at n1 n2 n3 n4 ⊢
  have hcx:=(blk_cell n1.out 4).trans rfl
  obtain ⟨who,hwho,hpk⟩:=pick_says HBF.out (p:=p2) HP2.out.1 (by have:=HP2.out.2;omega) 4
  have HPK:=Aside0.mk hpk
  clear hpk hwho
  go_region_held3 (fun w'=>w'.cell? ⟨bw,4,none⟩ = some (.slice E4 m4 i4)) (go_keep) (first | (go_at_call 16;refine (HPK.out g w _ (n3.out.drew) (below_drew1 n2.out)).mono ?_;rintro e w11 ⟨rfl,hi,hb,hk⟩;have HK11:=Aside0.mk hk;have HB11:=Aside0.mk hb;have hcy : w11.cell? ⟨bw,4,none⟩ = some (.slice E4 m4 i4):=(keep_cell (w:=w10.drew) (W:=w11) hk hcx NE.out.symm);clear hi hb hk))
  go_wp2
  go_ret2
  exact ⟨_,said,who,rfl,Kd.R_mono (Kd.R_lower (Kd.R_keep (Kd.R_drew n4.out) HK11.out fun k hk=>Nat.ne_of_gt hk) S0.out) fun _ _=>trivial,HS1.out,HS2.out,HB11.out⟩
end Go.Proofs.Ytfbocgagfodgnaa.P

namespace Go.Proofs.Ytfbocgagfodgnaa.P
open Go.RowKit Go.Proofs.YtfbocgagfodgnaaW.PrintWords Go.Proofs.YtfbocgagfodgnaaW.PrintMore
set_option linter.unusedVariables false
set_option linter.unusedSimpArgs false
def saidBy (l : List S38) (who : Int) (n : Nat) : List Int:=(List.range n).foldl (fun acc (i : Nat)=>if (rd_T38 l (i : Int)).f0 = who then acc ++ [(rd_T38 l (i : Int)).f1] else acc) []
theorem saidBy_le (l : List S38) (who : Int) (n : Nat) : (saidBy l who n).length ≤ n:=by
  unfold saidBy
  induction n with
  | zero=>simp
  | succ n ih =>
    rw [List.range_succ,List.foldl_append,List.foldl_cons,List.foldl_nil]
    split
    · simp;omega
    · omega
theorem specSaid_ev (l : List S38) (who : Int) (hl : l.length ≤ 1048576) : Ev (fun k=>spec_SaidBy.f k l who) (saidBy l who l.length):=by
  refine fold_loop (fun k acc i=>spec_SaidBy.l0 k l who acc i) l.length (fun (i : Nat) acc=>if (rd_T38 l (i : Int)).f0 = who then acc ++ [(rd_T38 l (i : Int)).f1] else acc) (fun i acc=>acc.length ≤ i) (fun acc=>acc)
    (fun i acc r hi ha h=>?_) (fun i acc hi ha=>?_) (fun acc ha=>?_) [] (by simp)
  · refine Evs.succ (fun k=>by simp only [spec_SaidBy.l0];rfl) ?_
    refine Evs.ite_pos (by omega) (Evs.ite_pos (by omega) ?_)
    rw [wrap_succ (by omega)]
    by_cases c : (rd_T38 l (i : Int)).f0 = who
    · rw [if_pos c] at h
      exact Evs.ite_pos c (Evs.ite_pos (by omega) h)
    · rw [if_neg c] at h
      exact Evs.ite_neg c h
  · split
    · simp;omega
    · omega
  · refine Evs.succ (fun k=>by simp only [spec_SaidBy.l0];rfl) ?_
    exact Evs.ite_neg (by omega) (Evs.some_ _)
theorem implSaid_ev (l : List S38) (who : Int) (hl : l.length ≤ 1048576) : Ev (fun k=>impl_SaidBy.f k l who) (saidBy l who l.length):=by
  refine fold_loop (fun k acc i=>impl_SaidBy.l0 k who acc l l.length i) l.length (fun (i : Nat) acc=>if (rd_T38 l (i : Int)).f0 = who then acc ++ [(rd_T38 l (i : Int)).f1] else acc) (fun i acc=>acc.length ≤ i) (fun acc=>acc)
    (fun i acc r hi ha h=>?_) (fun i acc hi ha=>?_) (fun acc ha=>?_) [] (by simp)
  · refine Evs.succ (fun k=>by simp only [impl_SaidBy.l0];rfl) ?_
    refine Evs.ite_pos (by omega) (Evs.ite_pos (by omega) (Evs.ite_pos (by omega) ?_))
    rw [wrap_succ (by omega)]
    by_cases c : (rd_T38 l (i : Int)).f0 = who
    · rw [if_pos c] at h
      exact Evs.ite_pos c (Evs.ite_pos (by omega) h)
    · rw [if_neg c] at h
      exact Evs.ite_neg c h
  · split
    · simp;omega
    · omega
  · refine Evs.succ (fun k=>by simp only [impl_SaidBy.l0];rfl) ?_
    exact Evs.ite_neg (by omega) (Evs.some_ _)
theorem saidBy_succ (l : List S38) (who : Int) (n : Nat) : saidBy l who (n + 1) = if (rd_T38 l (n : Int)).f0 = who then saidBy l who n ++ [(rd_T38 l (n : Int)).f1] else saidBy l who n:=by
  unfold saidBy
  rw [List.range_succ,List.foldl_append,List.foldl_cons,List.foldl_nil]
theorem rdY_mem {l : List S38} {n : Nat} (h : n < l.length) : rd_T38 l (n : Int) ∈ l:=by
  unfold rd_T38
  rw [Int.toNat_natCast,List.getD_eq_getElem?_getD,List.getElem?_eq_getElem h]
  exact List.getElem_mem h
theorem said_all (l : List S38) (h : ∀ y ∈ l,0 ≤ y.f0 ∧ y.f0 < 3) (n : Nat) (hn : n ≤ l.length) : (saidBy l 0 n).length + (saidBy l 1 n).length + (saidBy l 2 n).length = n ∧ (saidBy l 3 n).length = 0:=by
  induction n with
  | zero=>exact ⟨rfl,rfl⟩
  | succ n ih =>
    obtain ⟨i1,i2⟩:=ih (by omega)
    have hy:=h _ (rdY_mem (show n < l.length by omega))
    simp only [saidBy_succ]
    generalize (rd_T38 l (n : Int)) = y at hy ⊢
    have h3 : ¬ y.f0 = 3:=by omega
    rw [if_neg h3]
    refine ⟨?_,i2⟩
    rcases (show y.f0 = 0 ∨ y.f0 = 1 ∨ y.f0 = 2 by omega) with e | e | e
    · rw [if_pos e,if_neg (by omega),if_neg (by omega)];simp;omega
    · rw [if_neg (by omega),if_pos e,if_neg (by omega)];simp;omega
    · rw [if_neg (by omega),if_neg (by omega),if_pos e];simp;omega
def cntTo (l : List S38) : Nat → Nat
  | 0=>0
  | i + 1=>cntTo l i + (saidBy l (i : Int) l.length).length
theorem cntTo_le (l : List S38) : ∀ i,cntTo l i ≤ i * l.length
  | 0=>Nat.zero_le _
  | i + 1=>by
    have h1:=cntTo_le l i
    have h2:=saidBy_le l (i : Int) l.length
    show cntTo l i + _ ≤ _
    rw [Nat.succ_mul]
    omega
theorem cntTo_all (l : List S38) (h : ∀ y ∈ l,0 ≤ y.f0 ∧ y.f0 < 3) : cntTo l 3 = l.length:=by
  have:=(said_all l h l.length (Nat.le_refl _)).1
  show 0 + (saidBy l ((0 : Nat) : Int) l.length).length + (saidBy l ((1 : Nat) : Int) l.length).length + (saidBy l ((2 : Nat) : Int) l.length).length = _
  have e0 : ((0 : Nat) : Int) = 0:=rfl
  have e1 : ((1 : Nat) : Int) = 1:=rfl
  have e2 : ((2 : Nat) : Int) = 2:=rfl
  rw [e0,e1,e2]
  omega
end Go.Proofs.Ytfbocgagfodgnaa.P

namespace Go.Proofs.Ytfbocgagfodgnaa.P
open Go.RowKit Go.Proofs.YtfbocgagfodgnaaW.PrintWords Go.Proofs.YtfbocgagfodgnaaW.PrintMore
theorem drop_eq_wp (a b : List Int) (i : Nat) (ha : i < a.length) (hb : i < b.length) : decide (a.drop i = b.drop i) = (decide (rd a (i : Int) = rd b (i : Int)) && decide (a.drop (i + 1) = b.drop (i + 1))):=by
  have ea : rd a (i : Int) = a[i]:=by unfold rd;simp [List.getD_eq_getElem?_getD,ha]
  have eb : rd b (i : Int) = b[i]:=by unfold rd;simp [List.getD_eq_getElem?_getD,hb]
  rw [ea,eb,Bool.eq_iff_iff,decide_eq_true_eq,Bool.and_eq_true,decide_eq_true_eq,decide_eq_true_eq]
  constructor
  · intro h
    rw [List.drop_eq_getElem_cons ha,List.drop_eq_getElem_cons hb] at h
    exact List.cons.inj h
  · rintro ⟨h1,h2⟩
    rw [List.drop_eq_getElem_cons ha,List.drop_eq_getElem_cons hb,h1,h2]
theorem wpInts_loop (a b : List Int) (hl : a.length = b.length) (hm : a.length ≤ 9000000000000000000) (d : Nat) : ∀ i : Nat,i + d = a.length → Ev (fun k=>laws_wpInts.l0 k a b (i : Int)) (decide (a.drop i = b.drop i)):=by
  induction d with
  | zero =>
    intro i hi
    refine Evs.succ (fun k=>by simp only [laws_wpInts.l0];rfl) ?_
    refine Evs.ite_neg (by omega) ?_
    rw [List.drop_of_length_le (by omega),List.drop_of_length_le (by omega)]
    exact Evs.some_ _
  | succ d ih =>
    intro i hi
    have hw : wrap64 ((i : Int) + 1) = ((i + 1 : Nat) : Int):=by rw [wrap_id (by omega) (by omega)];rfl
    refine Evs.succ (fun k=>by simp only [laws_wpInts.l0];rfl) ?_
    refine Evs.ite_pos (by omega) (Evs.ite_pos (by omega) (Evs.ite_pos (by omega) ?_))
    rw [drop_eq_wp a b i (by omega) (by omega)]
    by_cases h : rd a (i : Int) = rd b (i : Int)
    · rw [decide_eq_true h,Bool.true_and,hw]
      exact Evs.ite_pos h (ih (i + 1) (by omega))
    · rw [decide_eq_false h,Bool.false_and]
      exact Evs.ite_neg h (Evs.some_ _)
theorem wpInts_ev (a b : List Int) (hm : a.length ≤ 9000000000000000000) : Ev (fun k=>laws_wpInts.f k a b) (decide (a = b)):=by
  unfold laws_wpInts.f
  by_cases h : (a.length : Int) = (b.length : Int)
  · exact Evs.ite_pos h (wpInts_loop a b (by omega) hm a.length 0 (Nat.zero_add _))
  · rw [decide_eq_false (fun e=>h (by rw [e]))]
    exact Evs.ite_neg h (Evs.some_ _)
end Go.Proofs.Ytfbocgagfodgnaa.P

namespace Go.Proofs.Ytfbocgagfodgnaa.P
open Go.RowKit Go.Proofs.YtfbocgagfodgnaaW.PrintWords Go.Proofs.YtfbocgagfodgnaaW.PrintLast Go.Proofs.YtfbocgagfodgnaaW.PrintMore
attribute [local go_sem] max2_int min2_int max_two min_two max_three min_three max_four min_four
set_option linter.unusedVariables false
set_option linter.unusedSimpArgs false
theorem said_says {l : List S38} (hl : l.length ≤ 200) (who : Int) (A : Option Addr) (c : Nat) (w : World) (hr : Kd.C k38 w A l.length l) (hc : l.length ≤ c) : Calls Try.prog 6 #[.slice A l.length c,.int .i64 who] w fun e w'=>∃ v : Value,e = .returned v ∧ Kd.R (Kd.int .i64) 3 w' w.heap.size (fun _=>True) v (saidBy l who l.length) ∧ Below w.heap.size w w':=by
  obtain ⟨k,hk⟩:=(implSaid_ev l who (by omega)).rounds
  exact impl_SaidBy.calls k A c l who _ w hr hc hk
theorem said_saysS {l : List S38} (hl : l.length ≤ 200) (who : Int) (A : Option Addr) (c : Nat) (w : World) (hr : Kd.C k38 w A l.length l) (hc : l.length ≤ c) : Calls Try.prog 8 #[.slice A l.length c,.int .i64 who] w fun e w'=>∃ v : Value,e = .returned v ∧ Kd.R (Kd.int .i64) 3 w' w.heap.size (fun _=>True) v (saidBy l who l.length) ∧ Below w.heap.size w w':=by
  obtain ⟨k,hk⟩:=(specSaid_ev l who (by omega)).rounds
  exact spec_SaidBy.calls k A c l who _ w hr hc hk
theorem wp_says {l : List Int} (hl : l.length ≤ 200) (A A' : Option Addr) (c c' : Nat) (w : World) (hr : Kd.C (Kd.int .i64) w A l.length l) (hc : l.length ≤ c) (hr' : Kd.C (Kd.int .i64) w A' l.length l) (hc' : l.length ≤ c') : Calls Try.prog 7 #[.slice A l.length c,.slice A' l.length c'] w fun e w'=>e = .returned (.bool true) ∧ Below w.heap.size w w':=by
  have h:=wpInts_ev l l (by omega)
  rw [decide_eq_true rfl] at h
  obtain ⟨k,hk⟩:=h.rounds
  refine (laws_wpInts.calls k A c l A' c' l true w hr hc hr' hc' hk).mono ?_
  rintro e w' ⟨he,hd⟩
  exact ⟨he,hd.below⟩
set_option maxHeartbeats 2000000 in
set_option maxRecDepth 100000 in
theorem lawsaid_says (A : Option Addr) (c : Nat) (l : List Int) (w : World) (hr : Kd.C (Kd.int .u8) w A l.length l) (hc : l.length ≤ c) (hw : ∀ x ∈ l,(Lit.int .u8 x).wf = true) :
    Calls Try.prog 3 #[.slice A l.length c] w fun e w'=>e = .returned (.bool true) ∧ Below w.heap.size w w':=by
  have HR:=Aside0.mk hr
  have HC:=Aside0.mk hc
  have HW:=Aside0.mk hw
  have HB:=Aside0.mk (Below.refl w.heap.size w)
  clear hr hc hw
  by_cases hl : (l.length : Int) > 1048576
  · have hlz : decide ((l.length : Int) > 1048576) = true:=decide_eq_true hl
    clear hl
    go_enter Try.func3,Try.ntmps3
    go_wp2
    go_ret
    exact ⟨rfl,HB.out⟩
  · have hlz : decide ((l.length : Int) > 1048576) = false:=decide_eq_false hl
    clear hl
    go_enter Try.func3,Try.ntmps3
    go_wp2_with (first | (go_at_call 5;refine (drawsaid_says A c l _ (Kd.C_below HR.out HB.out) HC.out HW.out).mono ?_;rintro e w5 ⟨v,said,who,rfl,hsd,hs1,hs2,hb⟩;have n1_:=Aside0.mk (below_step HB.out hb);clear HB;have HB:=n1_;clear n1_;obtain ⟨AS,cS,eS⟩:=Kd.R_slice hsd;subst eS;have HSD:=Aside0.mk (Kd.R_reads' hsd).2;have HS1:=Aside0.mk hs1;have HS2:=Aside0.mk hs2;have HBS:=Aside0.mk (Below.refl w5.heap.size w5);clear hsd hs1 hs2 hb) | (go_at_call 6;refine (said_says HS2.out who AS cS _ (Kd.C_below HSD.out.2 HBS.out) HSD.out.1).mono ?_;rintro e w6 ⟨vw6,rfl,hq,hb⟩;have n1_:=Aside0.mk (below_step HB.out hb);have n2_:=Aside0.mk (below_step HBS.out hb);clear HB HBS;have HB:=n1_;have HBS:=n2_;clear n1_ n2_;have Hw6:=Aside0.mk hq;clear hq hb;obtain ⟨Aw6,cw6,ew6⟩:=Kd.R_slice Hw6.out;subst ew6) | (go_at_call 8;refine (said_saysS HS2.out who AS cS _ (Kd.C_below HSD.out.2 HBS.out) HSD.out.1).mono ?_;rintro e w7 ⟨vw7,rfl,hq,hb⟩;have m1_:=Aside0.mk (Kd.R_below Hw6.out hb);clear Hw6;have Hw6:=m1_;clear m1_;have n1_:=Aside0.mk (below_step HB.out hb);have n2_:=Aside0.mk (below_step HBS.out hb);clear HB HBS;have HB:=n1_;have HBS:=n2_;clear n1_ n2_;have Hw7:=Aside0.mk hq;clear hq hb;obtain ⟨Aw7,cw7,ew7⟩:=Kd.R_slice Hw7.out;subst ew7) | (go_at_call 7;refine (wp_says (l:=saidBy said who said.length) (Nat.le_trans (saidBy_le said who said.length) HS2.out) Aw6 Aw7 cw6 cw7 _ (Kd.R_reads' Hw6.out).2.2 (Kd.R_reads' Hw6.out).2.1 (Kd.R_reads' Hw7.out).2.2 (Kd.R_reads' Hw7.out).2.1).mono ?_;rintro e w8 ⟨rfl,hb⟩;have n1_:=Aside0.mk (below_step HB.out hb);have n2_:=Aside0.mk (below_step HBS.out hb);clear HB HBS Hw6 Hw7 hb;have HB:=n1_;have HBS:=n2_;clear n1_ n2_))
    go_loopg [6,7] 3 (fun gg v6 v7 wr=>∃ i : Nat,i ≤ 3 ∧ 3 - i ≤ gg ∧ v7 = .int .i64 i ∧ v6 = .int .i64 (cntTo said i) ∧ Aside0 (Below w.heap.size w wr) ∧ Aside0 (Below w5.heap.size w5 wr))
    case atStart=>exact ⟨0,by omega,by omega,rfl,rfl,HB,HBS⟩
    case round =>
      clear HB HBS
      obtain ⟨i,hi,hg,rfl,rfl,HB,HBS⟩:=hrel
      by_cases hlt : i < 3
      · have hltz : decide ((i : Int) < 3) = true:=decide_eq_true (by omega)
        have HLT:=Aside0.mk hlt
        have hlt3:=eq_true hlt
        clear hlt
        go_wp2_with (first | (go_at_call 6;refine (said_says HS2.out (i : Int) AS cS _ (Kd.C_below HSD.out.2 HBS.out) HSD.out.1).mono ?_;rintro e w9 ⟨vw9,rfl,hq,hb⟩;have n1_:=Aside0.mk (below_step HB.out hb);have n2_:=Aside0.mk (below_step HBS.out hb);clear HB HBS;have HB:=n1_;have HBS:=n2_;clear n1_ n2_;have Hw9:=Aside0.mk hq;clear hq hb;obtain ⟨Aw9,cw9,ew9⟩:=Kd.R_slice Hw9.out;subst ew9))
        go_roundg (3 - (i + 1))
        case measure=>have:=HLT.out;omega
        case rel=>exact ⟨i + 1,by have:=HLT.out;omega,Nat.le_refl _,(by first | rfl | rw [wrap_succ (by have:=HLT.out;omega)]),(by
          have h1:=cntTo_le said i
          have h2:=saidBy_le said (i : Int) said.length
          have h3:=HS2.out
          have h4:=HLT.out
          have h5 : i * said.length ≤ 3 * 200:=Nat.mul_le_mul (by omega) h3
          have e : (cntTo said (i + 1) : Int) = (cntTo said i : Int) + ((saidBy said (i : Int) said.length).length : Int):=by
            show ((cntTo said i + (saidBy said (i : Int) said.length).length : Nat) : Int) = _
            omega
          rw [e,wrap_id (by omega) (by omega)]),HB,HBS⟩
      · have e : i = 3:=by omega
        subst e
        have e1:=cntTo_all said HS1.out
        have e2:=(said_all said HS1.out said.length (Nat.le_refl _)).2
        rw [e1]
        have E2:=Aside0.mk e2
        clear e1 e2 hi hg hlt
        go_wp2_with (first | (go_at_call 6;refine (said_says HS2.out 3 AS cS _ (Kd.C_below HSD.out.2 HBS.out) HSD.out.1).mono ?_;rintro e w10 ⟨vw10,rfl,hq,hb⟩;have n1_:=Aside0.mk (below_step HB.out hb);have n2_:=Aside0.mk (below_step HBS.out hb);clear HB HBS;have HB:=n1_;have HBS:=n2_;clear n1_ n2_;have Hw10:=Aside0.mk hq;clear hq hb;obtain ⟨Aw10,cw10,ew10⟩:=Kd.R_slice Hw10.out;subst ew10))
        go_ret
        refine ⟨?_,HB.out⟩
        show Ending.returned (Value.bool ((((saidBy said 3 said.length).length : Nat) : Int) == 0)) = _
        rw [E2.out]
        rfl
end Go.Proofs.Ytfbocgagfodgnaa.P
