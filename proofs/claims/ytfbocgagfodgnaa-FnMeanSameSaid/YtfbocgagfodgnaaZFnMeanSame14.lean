/- Parts of the proof of FnMeanSame: plain Lean functions of Go functions, and that the calls come to what they say; no condition beyond those that each theorem names. -/
import Derived.Test.YtfbocgagfodgnaaZFnMeanSame12
import Derived.Test.YtfbocgagfodgnaaZFnMeanSame5
import Derived.Test.YtfbocgagfodgnaaZFnMeanSame10
import Derived.Test.YtfbocgagfodgnaaZFnMeanSame11
import Derived.Test.YtfbocgagfodgnaaZFnMeanSame13
import Derived.Test.YtfbocgagfodgnaaZFnMeanSame6
import Derived.Test.YtfbocgagfodgnaaZFnMeanSame4
namespace Go.Proofs.Ytfbocgagfodgnaa.P
open Go.RowKit Go.Proofs.YtfbocgagfodgnaaW.PrintWords Go.Proofs.YtfbocgagfodgnaaW.PrintMore
set_option linter.unusedVariables false
set_option linter.unusedSimpArgs false
def Sm (t : S69) : Prop:=∀ d,smallS d t
def SmL (l : List S69) : Prop:=l.length ≤ 100 ∧ ∀ t ∈ l,Sm t
theorem sm_mk {a0 a1 a2 a3 : Int} {l4 l5 : List S69} (h4 : l4.length ≤ 1048576) (g4 : ∀ t ∈ l4,Sm t) (h5 : l5.length ≤ 1048576) (g5 : ∀ t ∈ l5,Sm t) : Sm ⟨a0,a1,a2,a3,l4,l5⟩
 | 0=>trivial
 | d + 1=>⟨⟨h4,fun t ht=>g4 t ht d⟩,h5,fun t ht=>g5 t ht d⟩
theorem sm_leaf (a0 a1 a2 a3 : Int) : Sm ⟨a0,a1,a2,a3,[],[]⟩:=sm_mk (by simp) (fun _ h=>by cases h) (by simp) (fun _ h=>by cases h)
def cst (d : Nat) : Int:=100 * 10 ^ d
theorem cst_succ (d : Nat) : cst (d + 1) = 10 * cst d:=by unfold cst;rw [Int.pow_succ];omega
theorem cst_ge (d : Nat) : 100 ≤ cst d:=by
 induction d with
 | zero=>unfold cst;simp
 | succ d ih=>rw [cst_succ];omega
def Drawn (xs : List Int) (d : Nat) : Prop:=∀ (room p : Int),0 ≤ p → p + cst d ≤ 6000000000 → ∃ (t : S69) (p' : Int),Sm t ∧ p ≤ p' ∧ p' ≤ p + cst d ∧ Ev (fun k=>spec_l2Draw.f k xs p (d : Int) room) (t.f0,t.f1,t.f2,t.f3,t.f4,t.f5,p')
def DrawnL (xs : List Int) (d : Nat) : Prop:=∀ (room most p : Int),0 ≤ most → most ≤ 3 → 0 ≤ p → p + 1 + 3 * cst d ≤ 6000000000 → ∃ (ts : List S69) (p' : Int),ts.length ≤ 3 ∧ (∀ t ∈ ts,Sm t) ∧ p ≤ p' ∧ p' ≤ p + 1 + 3 * cst d ∧ Ev (fun k=>spec_l2Draws.f k xs p (d : Int) room most) (ts,p')
theorem draws_loop {xs : List Int} {d : Nat} (hc : cst d ≤ 100000000) (h : Drawn xs d) (room : Int) (n : Nat) : ∀ (out : List S69) (p : Int),n + out.length ≤ 3 → (∀ t ∈ out,Sm t) → 0 ≤ p → p + (n : Int) * cst d ≤ 6000000000 →
  ∃ (ts : List S69) (p' : Int),ts.length ≤ 3 ∧ (∀ t ∈ ts,Sm t) ∧ p ≤ p' ∧ p' ≤ p + (n : Int) * cst d ∧ Ev (fun k=>spec_l2Draws.l0 k (d : Int) room out (n : Int) xs p) (ts,p'):=by
 have hg:=cst_ge d
 induction n with
 | zero =>
  intro out p hn ho h0 h1
  refine ⟨out,p,by omega,ho,by omega,by omega,?_⟩
  refine Evs.succ (fun k=>by simp only [spec_l2Draws.l0];rfl) ?_
  exact Evs.ite_neg (by omega) (Evs.some_ _)
 | succ n ih =>
  intro out p hn ho h0 h1
  have e : ((n + 1 : Nat) : Int) * cst d = (n : Int) * cst d + cst d:=by rw [Int.natCast_succ,Int.add_mul];omega
  have hnn : 0 ≤ (n : Int) * cst d:=Int.mul_nonneg (by omega) (by omega)
  obtain ⟨t,q,ht,hq0,hq1,he⟩:=h room p h0 (by omega)
  obtain ⟨ts,p',a1,a2,a3,a4,a5⟩:=ih (out ++ [t]) q (by simp;omega) (fun u hu=>by
   rcases List.mem_append.1 hu with hu | hu
   ·exact ho u hu
   ·rw [List.mem_singleton.1 hu]
    exact ht) (by omega) (by omega)
  refine ⟨ts,p',a1,a2,by omega,by omega,?_⟩
  refine Evs.succ (fun k=>by simp only [spec_l2Draws.l0];rfl) ?_
  refine Evs.ite_pos (by omega) (Evs.bind he (Evs.ite_pos (by omega) ?_))
  have ew : wrap64 (((n + 1 : Nat) : Int) - 1) = (n : Int):=by rw [wrap_id (by omega) (by omega)];omega
  obtain ⟨b0,b1,b2,b3,b4,b5⟩:=t
  rw [ew]
  exact a5
theorem drawnL_of {xs : List Int} (hb : Buf xs) {d : Nat} (hc : cst d ≤ 100000000) (h : Drawn xs d) : DrawnL xs d:=by
 intro room most p m0 m1 p0 p1
 have hg:=cst_ge d
 obtain ⟨v,hv,hr,_⟩:=pick_ev (n:=most + 1) hb p0 (by omega)
 have hv':=hr (by omega)
 obtain ⟨n,rfl⟩:=Int.eq_ofNat_of_zero_le hv'.1
 have hn3 : (n : Int) * cst d ≤ 3 * cst d:=Int.mul_le_mul_of_nonneg_right (by omega) (by omega)
 obtain ⟨ts,p',a1,a2,a3,a4,a5⟩:=draws_loop hc h room n [] (p + 1) (by simp;omega) (fun _ h=>by cases h) (by omega) (by omega)
 refine ⟨ts,p',a1,a2,by omega,by omega,?_⟩
 have ew : wrap64 (most + 1) = most + 1:=wrap_id (by omega) (by omega)
 refine Evs.succ (fun k=>by simp only [spec_l2Draws.f,ew];rfl) ?_
 exact Evs.bind hv a5
def Out (p q : Int) (f : Nat → Option (Int × Int × Int × Int × List S69 × List S69 × Int)) : Prop:=∃ (t : S69) (p' : Int),Sm t ∧ p ≤ p' ∧ p' ≤ q ∧ Ev f (t.f0,t.f1,t.f2,t.f3,t.f4,t.f5,p')
theorem Out.now {p q p' : Int} {f : Nat → Option (Int × Int × Int × Int × List S69 × List S69 × Int)} (t : S69) (ht : Sm t) (h1 : p ≤ p') (h2 : p' ≤ q) (he : Ev f (t.f0,t.f1,t.f2,t.f3,t.f4,t.f5,p')) : Out p q f:=⟨t,p',ht,h1,h2,he⟩
theorem Out.of {p q p2 q2 : Int} {f g : Nat → Option (Int × Int × Int × Int × List S69 × List S69 × Int)} (h : Out p q f) (h1 : p2 ≤ p) (h2 : q ≤ q2) (hg : ∀ r,Ev f r → Ev g r) : Out p2 q2 g:=by
 obtain ⟨t,p',ht,a,b,c⟩:=h
 exact ⟨t,p',ht,by omega,by omega,hg _ c⟩
theorem j2_out {xs : List Int} (hb : Buf xs) (d : Nat) (hd : d ≤ 5) (hl : 2 ≤ d → DrawnL xs (d - 1)) (room x7 x8 kind : Int) (hk : 6 ≤ kind → kind ≤ 8 → 2 ≤ d) (b : Bool) (p : Int) (p0 : 0 ≤ p) (p1 : p + 10 + 6 * cst (d - 1) ≤ 6000000000) :
  Out p (p + 10 + 6 * cst (d - 1)) (fun k=>spec_l2Draw.j2 k (d : Int) room x7 x8 kind kind b xs p):=by
 have hg:=cst_ge (d - 1)
 have big : cst (d - 1) ≤ 1000000:=by
  have : d - 1 = 0 ∨ d - 1 = 1 ∨ d - 1 = 2 ∨ d - 1 = 3 ∨ d - 1 = 4:=by omega
  rcases this with h | h | h | h | h <;> rw [h] <;> unfold cst <;> simp
 have ew : 2 ≤ d → wrap64 ((d : Int) - 1) = ((d - 1 : Nat) : Int):=fun h=>by rw [wrap_id (by omega) (by omega)];omega
 cases b with
 | true =>
  refine Out.now (p':=p) ⟨kind,x7,x8,0,[],[]⟩ (sm_leaf _ _ _ _) (by omega) (by omega) (Evs.succ (fun k=>by simp only [spec_l2Draw.j2];rfl) ?_)
  exact Evs.ite_pos (by trivial) (Evs.some_ _)
 | false =>
  by_cases h5 : kind = 5
  ·refine Out.now (p':=p) ⟨kind,x7,0,0,[],[]⟩ (sm_leaf _ _ _ _) (by omega) (by omega) (Evs.succ (fun k=>by simp only [spec_l2Draw.j2];rfl) ?_)
   exact Evs.ite_neg (by simp) (Evs.ite_pos h5 (Evs.some_ _))
  by_cases h6 : kind = 6
  ·have h2:=hk (by omega) (by omega)
   obtain ⟨ts,q,a1,a2,a3,a4,a5⟩:=hl h2 room 2 p (by omega) (by omega) p0 (by omega)
   obtain ⟨us,q2,b1,b2,b3,b4,b5⟩:=hl h2 room 2 q (by omega) (by omega) (by omega) (by omega)
   refine Out.now (p':=q2) ⟨kind,x7,0,0,ts,us⟩ (sm_mk (by omega) a2 (by omega) b2) (by omega) (by omega) (Evs.succ (fun k=>by simp only [spec_l2Draw.j2,ew h2];rfl) ?_)
   exact Evs.ite_neg (by simp) (Evs.ite_neg h5 (Evs.ite_pos h6 (Evs.bind a5 (Evs.bind b5 (Evs.some_ _)))))
  by_cases h7 : kind = 7
  ·have h2:=hk (by omega) (by omega)
   obtain ⟨ts,q,a1,a2,a3,a4,a5⟩:=hl h2 room 2 p (by omega) (by omega) p0 (by omega)
   obtain ⟨v,_,hv⟩:=num_ev (l:=[0,0,0,0,0,1]) hb (p:=q) (by omega) (by omega) (by simp) (by simp)
   refine Out.now (p':=q + 1) ⟨kind,x7,0,0,ts ++ [⟨1,x7,0,v,[],[]⟩],[]⟩ (sm_mk (by simp;omega) (fun t ht=>by
    rcases List.mem_append.1 ht with ht | ht
    ·exact a2 t ht
    ·rw [List.mem_singleton.1 ht]
     exact sm_leaf _ _ _ _) (by simp) (fun _ h=>by cases h)) (by omega) (by omega) (Evs.succ (fun k=>by simp only [spec_l2Draw.j2,ew h2];rfl) ?_)
   exact Evs.ite_neg (by simp) (Evs.ite_neg h5 (Evs.ite_neg h6 (Evs.ite_pos h7 (Evs.bind a5 (Evs.bind hv (Evs.ite_pos (by show ts.length < _;omega) (Evs.some_ _)))))))
  by_cases h8 : kind = 8
  ·have h2:=hk (by omega) (by omega)
   obtain ⟨v,hv,_⟩:=pick_ev (n:=2) hb p0 (by omega)
   obtain ⟨ts,q,a1,a2,a3,a4,a5⟩:=hl h2 v 3 (p + 1) (by omega) (by omega) (by omega) (by omega)
   refine Out.now (p':=q) ⟨kind,v,0,0,ts,[]⟩ (sm_mk (by omega) a2 (by simp) (fun _ h=>by cases h)) (by omega) (by omega) (Evs.succ (fun k=>by simp only [spec_l2Draw.j2,ew h2];rfl) ?_)
   exact Evs.ite_neg (by simp) (Evs.ite_neg h5 (Evs.ite_neg h6 (Evs.ite_neg h7 (Evs.ite_pos h8 (Evs.bind hv (Evs.bind a5 (Evs.some_ _)))))))
  obtain ⟨v,hv,_⟩:=pick_ev (n:=2) hb p0 (by omega)
  by_cases h9 : kind = 9
  ·refine Out.now (p':=p + 1) ⟨kind,v,0,0,[],[]⟩ (sm_leaf _ _ _ _) (by omega) (by omega) (Evs.succ (fun k=>by simp only [spec_l2Draw.j2];rfl) ?_)
   exact Evs.ite_neg (by simp) (Evs.ite_neg h5 (Evs.ite_neg h6 (Evs.ite_neg h7 (Evs.ite_neg h8 (Evs.ite_pos h9 (Evs.bind hv (Evs.some_ _)))))))
  by_cases h10 : kind = 10
  ·refine Out.now (p':=p + 1) ⟨kind,v,0,0,[],[]⟩ (sm_leaf _ _ _ _) (by omega) (by omega) (Evs.succ (fun k=>by simp only [spec_l2Draw.j2];rfl) ?_)
   exact Evs.ite_neg (by simp) (Evs.ite_neg h5 (Evs.ite_neg h6 (Evs.ite_neg h7 (Evs.ite_neg h8 (Evs.ite_neg h9 (Evs.ite_pos h10 (Evs.bind hv (Evs.some_ _))))))))
  refine Out.now (p':=p) ⟨11,0,0,0,[],[]⟩ (sm_leaf _ _ _ _) (by omega) (by omega) (Evs.succ (fun k=>by simp only [spec_l2Draw.j2];rfl) ?_)
  exact Evs.ite_neg (by simp) (Evs.ite_neg h5 (Evs.ite_neg h6 (Evs.ite_neg h7 (Evs.ite_neg h8 (Evs.ite_neg h9 (Evs.ite_neg h10 (Evs.some_ _)))))))
theorem j1_out {xs : List Int} (hb : Buf xs) (d : Nat) (hd : d ≤ 5) (hl : 2 ≤ d → DrawnL xs (d - 1)) (room x7 x8 kind : Int) (hk : 6 ≤ kind → kind ≤ 8 → 2 ≤ d) (p : Int) (p0 : 0 ≤ p) (p1 : p + 10 + 6 * cst (d - 1) ≤ 6000000000) :
  Out p (p + 10 + 6 * cst (d - 1)) (fun k=>spec_l2Draw.j1 k (d : Int) room x7 x8 kind xs p):=by
 have hg:=cst_ge (d - 1)
 by_cases h1 : kind = 1
 ·obtain ⟨v,_,hv⟩:=num_ev (l:=[0,1,2,3,-1,5]) hb p0 (by omega) (by simp) (by simp)
  refine Out.now (p':=p + 1) ⟨kind,x7,0,v,[],[]⟩ (sm_leaf _ _ _ _) (by omega) (by omega) (Evs.succ (fun k=>by simp only [spec_l2Draw.j1];rfl) ?_)
  exact Evs.ite_pos h1 (Evs.bind hv (Evs.some_ _))
 by_cases h2 : kind = 2
 ·obtain ⟨v,hv,_⟩:=pick_ev (n:=5) hb p0 (by omega)
  refine Out.now (p':=p + 1) ⟨kind,x7,x8,wrap64 (1 + v),[],[]⟩ (sm_leaf _ _ _ _) (by omega) (by omega) (Evs.succ (fun k=>by simp only [spec_l2Draw.j1];rfl) ?_)
  exact Evs.ite_neg h1 (Evs.ite_pos h2 (Evs.bind hv (Evs.some_ _)))
 by_cases h3 : kind = 3
 ·exact (j2_out hb d hd hl room x7 x8 kind hk (kind == 3) p p0 p1).of (Int.le_refl _) (Int.le_refl _) fun r hr=>Evs.succ (fun k=>by simp only [spec_l2Draw.j1];rfl) (Evs.ite_neg h1 (Evs.ite_neg h2 (Evs.ite_pos h3 hr)))
 ·exact (j2_out hb d hd hl room x7 x8 kind hk (kind == 4) p p0 p1).of (Int.le_refl _) (Int.le_refl _) fun r hr=>Evs.succ (fun k=>by simp only [spec_l2Draw.j1];rfl) (Evs.ite_neg h1 (Evs.ite_neg h2 (Evs.ite_neg h3 hr)))
theorem j0_out {xs : List Int} (hb : Buf xs) (d : Nat) (hd : d ≤ 5) (hl : 2 ≤ d → DrawnL xs (d - 1)) (room x7 x8 kind : Int) (b : Bool) (hk : b = false → 6 ≤ kind → kind ≤ 8 → 2 ≤ d) (p : Int) (p0 : 0 ≤ p) (p1 : p + 11 + 6 * cst (d - 1) ≤ 6000000000) :
  Out p (p + 11 + 6 * cst (d - 1)) (fun k=>spec_l2Draw.j0 k (d : Int) room x7 x8 kind b xs p):=by
 have hg:=cst_ge (d - 1)
 cases b with
 | true =>
  obtain ⟨v,hm,hv⟩:=num_ev (l:=[1,2,3,4,5]) hb p0 (by omega) (by simp) (by simp)
  have hv5 : v ≤ 5:=by simp at hm;omega
  exact (j1_out hb d hd hl room x7 x8 v (fun h _=>absurd h (by omega)) (p + 1) (by omega) (by omega)).of (by omega) (by omega) fun r hr=>Evs.succ (fun k=>by simp only [spec_l2Draw.j0];rfl) (Evs.ite_pos (by trivial) (Evs.bind hv hr))
 | false =>
  exact (j1_out hb d hd hl room x7 x8 kind (hk rfl) p (by omega) (by omega)).of (by omega) (by omega) fun r hr=>Evs.succ (fun k=>by simp only [spec_l2Draw.j0];rfl) (Evs.ite_neg (by simp) hr)
end Go.Proofs.Ytfbocgagfodgnaa.P
namespace Go.Proofs.Ytfbocgagfodgnaa.P
open Go.RowKit Go.Proofs.YtfbocgagfodgnaaW.PrintWords Go.Proofs.YtfbocgagfodgnaaW.PrintMore
set_option linter.unusedVariables false
set_option linter.unusedSimpArgs false
theorem inner_out {xs : List Int} (hb : Buf xs) (d : Nat) (hd : d ≤ 5) (hl : 2 ≤ d → DrawnL xs (d - 1)) (room x y kind : Int) (hk : 6 ≤ kind → kind ≤ 8 → 2 ≤ d) (p : Int) (p0 : 0 ≤ p) (p1 : p + 11 + 6 * cst (d - 1) ≤ 6000000000) :
  Out p (p + 11 + 6 * cst (d - 1)) (fun k=>if kind = 8 then (if room ≥ 0 then (spec_l2Draw.j0 k (d : Int) room x y kind true xs p) else (if kind = 9 then (spec_l2Draw.j0 k (d : Int) room x y kind (decide (room < 0)) xs p) else (spec_l2Draw.j0 k (d : Int) room x y kind false xs p))) else (if kind = 9 then (spec_l2Draw.j0 k (d : Int) room x y kind (decide (room < 0)) xs p) else (spec_l2Draw.j0 k (d : Int) room x y kind false xs p))):=by
 have j:=fun b (h : b = false → 6 ≤ kind → kind ≤ 8 → 2 ≤ d)=>j0_out hb d hd hl room x y kind b h p p0 p1
 by_cases h8 : kind = 8
 ·by_cases hr : room ≥ 0
  ·exact (j true (fun h=>by cases h)).of (Int.le_refl _) (Int.le_refl _) fun r h=>Evs.ite_pos h8 (Evs.ite_pos hr h)
  ·exact (j false (fun _=>hk)).of (Int.le_refl _) (Int.le_refl _) fun r h=>Evs.ite_pos h8 (Evs.ite_neg hr (Evs.ite_neg (by omega) h))
 ·by_cases h9 : kind = 9
  ·exact (j (decide (room < 0)) (fun _=>hk)).of (Int.le_refl _) (Int.le_refl _) fun r h=>Evs.ite_neg h8 (Evs.ite_pos h9 h)
  ·exact (j false (fun _=>hk)).of (Int.le_refl _) (Int.le_refl _) fun r h=>Evs.ite_neg h8 (Evs.ite_neg h9 h)
theorem drawn_step {xs : List Int} (hb : Buf xs) (d : Nat) (hd : d ≤ 5) (h1 : 1 ≤ d) (hl : 2 ≤ d → DrawnL xs (d - 1)) (room p : Int) (p0 : 0 ≤ p) (p1 : p + cst d ≤ 6000000000) : Out p (p + cst d) (fun k=>spec_l2Draw.f k xs p (d : Int) room):=by
 have hg:=cst_ge (d - 1)
 have e:=cst_succ (d - 1)
 rw [show d - 1 + 1 = d by omega] at e
 obtain ⟨x,hx,_⟩:=pick_ev (n:=3) hb p0 (by omega)
 obtain ⟨y,hy,_⟩:=pick_ev (n:=3) hb (p:=p + 1) (by omega) (by omega)
 obtain ⟨kind,hm,hv⟩:=num_ev (l:=[1,2,3,4,5,3,4,2,8,6,7,10,9,11,8,5]) hb (p:=p + 1 + 1) (by omega) (by omega) (by simp) (by simp)
 have head : ∀ r,Ev (fun k=>if (d : Int) < 2 then (if kind ≥ 6 then (if kind ≤ 8 then (spec_l2Draw.j0 k (d : Int) room x y kind true xs (p + 1 + 1 + 1)) else (if kind = 8 then (if room ≥ 0 then (spec_l2Draw.j0 k (d : Int) room x y kind true xs (p + 1 + 1 + 1)) else (if kind = 9 then (spec_l2Draw.j0 k (d : Int) room x y kind (decide (room < 0)) xs (p + 1 + 1 + 1)) else (spec_l2Draw.j0 k (d : Int) room x y kind false xs (p + 1 + 1 + 1)))) else (if kind = 9 then (spec_l2Draw.j0 k (d : Int) room x y kind (decide (room < 0)) xs (p + 1 + 1 + 1)) else (spec_l2Draw.j0 k (d : Int) room x y kind false xs (p + 1 + 1 + 1))))) else (if kind = 8 then (if room ≥ 0 then (spec_l2Draw.j0 k (d : Int) room x y kind true xs (p + 1 + 1 + 1)) else (if kind = 9 then (spec_l2Draw.j0 k (d : Int) room x y kind (decide (room < 0)) xs (p + 1 + 1 + 1)) else (spec_l2Draw.j0 k (d : Int) room x y kind false xs (p + 1 + 1 + 1)))) else (if kind = 9 then (spec_l2Draw.j0 k (d : Int) room x y kind (decide (room < 0)) xs (p + 1 + 1 + 1)) else (spec_l2Draw.j0 k (d : Int) room x y kind false xs (p + 1 + 1 + 1))))) else (if kind = 8 then (if room ≥ 0 then (spec_l2Draw.j0 k (d : Int) room x y kind true xs (p + 1 + 1 + 1)) else (if kind = 9 then (spec_l2Draw.j0 k (d : Int) room x y kind (decide (room < 0)) xs (p + 1 + 1 + 1)) else (spec_l2Draw.j0 k (d : Int) room x y kind false xs (p + 1 + 1 + 1)))) else (if kind = 9 then (spec_l2Draw.j0 k (d : Int) room x y kind (decide (room < 0)) xs (p + 1 + 1 + 1)) else (spec_l2Draw.j0 k (d : Int) room x y kind false xs (p + 1 + 1 + 1))))) r → Ev (fun k=>spec_l2Draw.f k xs p (d : Int) room) r:=fun r hr =>
  Evs.succ (fun k=>by simp only [spec_l2Draw.f];rfl) (Evs.bind hx (Evs.bind hy (Evs.bind hv hr)))
 by_cases c0 : (d : Int) < 2
 ·by_cases c1 : kind ≥ 6
  ·by_cases c2 : kind ≤ 8
   ·exact (j0_out hb d hd hl room x y kind true (fun h=>by cases h) (p + 1 + 1 + 1) (by omega) (by omega)).of (by omega) (by omega) fun r h=>head r (Evs.ite_pos c0 (Evs.ite_pos c1 (Evs.ite_pos c2 h)))
   ·exact (inner_out hb d hd hl room x y kind (fun _ h=>absurd h c2) (p + 1 + 1 + 1) (by omega) (by omega)).of (by omega) (by omega) fun r h=>head r (Evs.ite_pos c0 (Evs.ite_pos c1 (Evs.ite_neg c2 h)))
  ·exact (inner_out hb d hd hl room x y kind (fun h=>absurd h c1) (p + 1 + 1 + 1) (by omega) (by omega)).of (by omega) (by omega) fun r h=>head r (Evs.ite_pos c0 (Evs.ite_neg c1 h))
 ·exact (inner_out hb d hd hl room x y kind (fun _ _=>by omega) (p + 1 + 1 + 1) (by omega) (by omega)).of (by omega) (by omega) fun r h=>head r (Evs.ite_neg c0 h)
theorem drawn_all {xs : List Int} (hb : Buf xs) : ∀ d : Nat,1 ≤ d → d ≤ 5 → Drawn xs d:=by
 intro d
 induction d with
 | zero=>exact fun h=>absurd h (by omega)
 | succ d ih =>
  intro _ hd room p p0 p1
  exact drawn_step hb (d + 1) hd (by omega) (fun h=>drawnL_of hb (by
   have : d = 1 ∨ d = 2 ∨ d = 3 ∨ d = 4:=by omega
   show cst d ≤ 100000000
   rcases this with h | h | h | h <;> rw [h] <;> unfold cst <;> simp) (ih (by omega) (by omega))) room p p0 p1
end Go.Proofs.Ytfbocgagfodgnaa.P

namespace Go.Proofs.Ytfbocgagfodgnaa.P
open Go.RowKit Go.Proofs.YtfbocgagfodgnaaW.PrintWords Go.Proofs.YtfbocgagfodgnaaW.PrintMore
set_option linter.unusedVariables false
set_option linter.unusedSimpArgs false
theorem smL_sl {l : List S69} (h : SmL l) (d : Nat) : SL d l:=⟨by have:=h.1;omega,fun t ht=>h.2 t ht d⟩
theorem some_loop {xs : List Int} (hb : Buf xs) (n : Nat) : ∀ (out : List S69) (p : Int),out.length + n ≤ 6 → (∀ t ∈ out,Sm t) → okLst out = true → 0 ≤ p → p + (n : Int) * 100000 ≤ 1000000000 →
  ∃ (l : List S69) (p' : Int),l.length ≤ 6 ∧ (∀ t ∈ l,Sm t) ∧ okLst l = true ∧ p ≤ p' ∧ p' ≤ p + (n : Int) * 100000 ∧ Ev (fun k=>spec_l2Some.l0 k out (n : Int) xs p) (l,p'):=by
 induction n with
 | zero =>
  intro out p hn ho hk h0 h1
  refine ⟨out,p,by omega,ho,hk,by omega,by omega,?_⟩
  refine Evs.succ (fun k=>by simp only [spec_l2Some.l0];rfl) ?_
  exact Evs.ite_neg (by omega) (Evs.some_ _)
 | succ n ih =>
  intro out p hn ho hk h0 h1
  have c3 : cst 3 = 100000:=by unfold cst;simp
  obtain ⟨t,q,ht,q0,q1,he⟩:=drawn_all hb 3 (by omega) (by omega) (-1) p h0 (by omega)
  have ew : wrap64 (((n + 1 : Nat) : Int) - 1) = (n : Int):=by rw [wrap_id (by omega) (by omega)];omega
  have hs : ∀ u ∈ out ++ [t],Sm u:=fun u hu=>by
   rcases List.mem_append.1 hu with hu | hu
   ·exact ho u hu
   ·rw [List.mem_singleton.1 hu]
    exact ht
  have ok:=specOk (l:=out ++ [t]) ⟨by simp;omega,fun u hu=>hs u hu 3⟩
  obtain ⟨b0,b1,b2,b3,b4,b5⟩:=t
  have hgo : ∀ r,Ev (fun k=>if okLst (out ++ [⟨b0,b1,b2,b3,b4,b5⟩]) = true then spec_l2Some.l0 k (out ++ [⟨b0,b1,b2,b3,b4,b5⟩]) (n : Int) xs q else spec_l2Some.l0 k out (n : Int) xs q) r → Ev (fun k=>spec_l2Some.l0 k out ((n + 1 : Nat) : Int) xs p) r:=by
   intro r hr
   refine Evs.succ (fun k=>by simp only [spec_l2Some.l0,ew];rfl) ?_
   refine Evs.ite_pos (by omega) (Evs.bind0 rfl (Evs.ite_pos (by simp only [List.length_nil];omega) (Evs.bind0 rfl (Evs.bind he (Evs.ite_pos (by simp only [List.nil_append];omega) (Evs.bind0 rfl ?_))))))
   exact Evs.bind ok hr
  cases c : okLst (out ++ [⟨b0,b1,b2,b3,b4,b5⟩]) with
  | true =>
   obtain ⟨l,p',a1,a2,a3,a4,a5,a6⟩:=ih (out ++ [⟨b0,b1,b2,b3,b4,b5⟩]) q (by simp;omega) hs c (by omega) (by omega)
   exact ⟨l,p',a1,a2,a3,by omega,by omega,hgo _ (Evs.ite_pos c a6)⟩
  | false =>
   obtain ⟨l,p',a1,a2,a3,a4,a5,a6⟩:=ih out q (by omega) ho hk (by omega) (by omega)
   exact ⟨l,p',a1,a2,a3,by omega,by omega,hgo _ (Evs.ite_neg (by rw [c];simp) a6)⟩
theorem okLst_nil : okLst [] = true:=by simp [okLst,okList,cntL,wrap64]
theorem some_ev {xs : List Int} (hb : Buf xs) (p : Int) (p0 : 0 ≤ p) (p1 : p ≤ 900000000) : ∃ (l : List S69) (p' : Int),l.length ≤ 6 ∧ (∀ t ∈ l,Sm t) ∧ okLst l = true ∧ p ≤ p' ∧ p' ≤ p + 700000 ∧ Ev (fun k=>spec_l2Some.f k xs p) (l,p'):=by
 obtain ⟨v,hm,hv⟩:=num_ev (l:=[3,4,5,6,2,0]) hb p0 (by omega) (by simp) (by simp)
 have hv6 : 0 ≤ v ∧ v ≤ 6:=by simp at hm;omega
 obtain ⟨n,rfl⟩:=Int.eq_ofNat_of_zero_le hv6.1
 obtain ⟨l,p',a1,a2,a3,a4,a5,a6⟩:=some_loop hb n [] (p + 1) (by simp;omega) (fun _ h=>by cases h) okLst_nil (by omega) (by omega)
 exact ⟨l,p',a1,a2,a3,by omega,by omega,Evs.bind hv a6⟩
def Rt (l : List S69) : Prop:=l.length ≤ 6 ∧ (∀ t ∈ l,Sm t) ∧ okLst l = true
theorem prog_loop {xs : List Int} (hb : Buf xs) (n : Nat) : ∀ (out : List (List S69)) (p : Int),out.length + n ≤ 3 → (∀ l ∈ out,Rt l) → 0 ≤ p → p + (n : Int) * 700000 ≤ 900000000 →
  ∃ (q : List (List S69)) (p' : Int),q.length = out.length + n ∧ (∀ l ∈ q,Rt l) ∧ p ≤ p' ∧ p' ≤ p + (n : Int) * 700000 ∧ Ev (fun k=>spec_l2Prog.l0 k out (n : Int) xs p) (q,p'):=by
 induction n with
 | zero =>
  intro out p hn ho h0 h1
  refine ⟨out,p,by omega,ho,by omega,by omega,?_⟩
  refine Evs.succ (fun k=>by simp only [spec_l2Prog.l0];rfl) ?_
  exact Evs.ite_neg (by omega) (Evs.some_ _)
 | succ n ih =>
  intro out p hn ho h0 h1
  obtain ⟨l,p1,a1,a2,a3,a4,a5,a6⟩:=some_ev hb p h0 (by omega)
  obtain ⟨q,p',b1,b2,b3,b4,b5⟩:=ih (out ++ [l]) p1 (by simp;omega) (fun u hu=>by
   rcases List.mem_append.1 hu with hu | hu
   ·exact ho u hu
   ·rw [List.mem_singleton.1 hu]
    exact ⟨a1,a2,a3⟩) (by omega) (by omega)
  have ew : wrap64 (((n + 1 : Nat) : Int) - 1) = (n : Int):=by rw [wrap_id (by omega) (by omega)];omega
  refine ⟨q,p',by rw [b1,List.length_append,List.length_singleton];omega,b2,by omega,by omega,?_⟩
  refine Evs.succ (fun k=>by simp only [spec_l2Prog.l0,ew];rfl) ?_
  exact Evs.ite_pos (by omega) (Evs.bind a6 (Evs.ite_pos (by omega) b5))
theorem prog_ev {xs : List Int} (hb : Buf xs) (p : Int) (p0 : 0 ≤ p) (p1 : p ≤ 800000000) :
  ∃ (q : List (List S69)) (p' : Int),1 ≤ q.length ∧ q.length ≤ 3 ∧ (∀ l ∈ q,Rt l) ∧ p ≤ p' ∧ p' ≤ p + 2100001 ∧ Ev (fun k=>spec_l2Prog.f k xs p) (q,p'):=by
 obtain ⟨i,hi,hr,_⟩:=pick_ev (n:=3) hb p0 (by omega)
 obtain ⟨i0,i1⟩:=hr (by omega)
 obtain ⟨n,rfl⟩:=Int.eq_ofNat_of_zero_le i0
 have ew : wrap64 (1 + (n : Int)) = ((n + 1 : Nat) : Int):=by rw [wrap_id (by omega) (by omega)];omega
 obtain ⟨q,p',b1,b2,b3,b4,b5⟩:=prog_loop hb (n + 1) [] (p + 1) (by simp;omega) (fun _ h=>by cases h) (by omega) (by omega)
 refine ⟨q,p',by simp at b1;omega,by simp at b1;omega,b2,by omega,by omega,?_⟩
 unfold spec_l2Prog.f
 refine Evs.bind hi ?_
 show Ev (fun k=>spec_l2Prog.l0 k [] (wrap64 (1 + (n : Int))) xs (p + 1)) _
 rw [ew]
 exact b5
theorem rt_sm {l : List S69} (h : Rt l) : SmL l:=⟨by have:=h.1;omega,h.2.1⟩
end Go.Proofs.Ytfbocgagfodgnaa.P

namespace Go.Proofs.Ytfbocgagfodgnaa.P
open Go.RowKit Go.Proofs.YtfbocgagfodgnaaW.PrintWords Go.Proofs.YtfbocgagfodgnaaW.PrintLast Go.Proofs.YtfbocgagfodgnaaW.PrintMore
attribute [local go_sem] max2_int min2_int max_two min_two max_three min_three max_four min_four
set_option linter.unusedVariables false
set_option linter.unusedSimpArgs false
theorem rt_good {q : List (List S69)} (h1 : 1 ≤ q.length) (h2 : q.length ≤ 3) (h : ∀ l ∈ q,Rt l) : GoodP q:=⟨h1,h2,fun l hl=>by have:=(h l hl).1;omega,fun l hl x hx=>by
 obtain ⟨_,hs,ho⟩:=h l hl
 have ho:=okLst_list ho
 unfold okList at ho
 rw [List.all_eq_true] at ho
 exact ⟨3,Nat.le_refl _,ho x hx,hs x hx 3⟩⟩
theorem drawn_good {ys : List Int} (hb : Buf ys) : ∃ (q : List (List S69)) (p' : Int) (k : Nat),GoodP q ∧ 0 ≤ p' ∧ p' ≤ 2100001 ∧ spec_l2Prog.f k ys 0 = some (q,p') ∧ spec_ProgOk.f k q = some true ∧ ∀ x ∈ q,spec_l2Copy.f k x 4 = some x:=by
 obtain ⟨q,p',a1,a2,a3,a4,a5,a6⟩:=prog_ev hb 0 (by omega) (by omega)
 have hg:=rt_good a1 a2 a3
 have hp:=specProg (p:=q) (by omega) fun l hl=>smL_sl (rt_sm (a3 l hl)) 3
 have ep : progB q = true:=by
  unfold progB
  simp only [Bool.and_eq_true,decide_eq_true_eq,List.all_eq_true]
  exact ⟨fun l hl=>(a3 l hl).2.2,by omega,by omega⟩
 rw [ep] at hp
 have hc : ∀ l ∈ q,Ev (fun k=>spec_l2Copy.f k l ((4 : Nat) : Int)) l:=fun l hl=>copy_ev 4 4 l ⟨by have:=(a3 l hl).1;omega,fun x hx=>(hg.vx l hl x hx).fit⟩ (Nat.le_refl _) (by decide)
 have all : ∀ t : List (List S69),(∀ l ∈ t,Ev (fun k=>spec_l2Copy.f k l ((4 : Nat) : Int)) l) → ∃ K,∀ k,K ≤ k → ∀ l ∈ t,spec_l2Copy.f k l 4 = some l:=by
  intro t
  induction t with
  | nil=>exact fun _=>⟨0,fun _ _ p hp=>by cases hp⟩
  | cons x t ih =>
   intro hl
   obtain ⟨K1,h1⟩:=hl x (List.mem_cons_self ..)
   obtain ⟨K2,h2⟩:=ih fun p hp=>hl p (List.mem_cons_of_mem _ hp)
   refine ⟨K1 + K2,fun k hk p hp=>?_⟩
   rcases List.mem_cons.1 hp with rfl | hp
   ·exact h1 k (by omega)
   ·exact h2 k (by omega) p hp
 obtain ⟨K1,h1⟩:=all q hc
 obtain ⟨K2,h2⟩:=a6
 obtain ⟨K3,h3⟩:=hp
 exact ⟨q,p',K1 + K2 + K3,hg,a4,by omega,h2 _ (by omega),h3 _ (by omega),h1 _ (by omega)⟩
theorem Played.forms {n len : Nat} {W : World} {v0 v1 v2 v3 v4 : Value} (h : Played n W len v0 v1 v2 v3 v4) : (∃ A m c,v0 = .slice A m c) ∧ (∃ A m c,v1 = .slice A m c) ∧ (∃ A m c,v2 = .slice A m c) ∧ (∃ A m c,v3 = .slice A m c) ∧ ∃ A m c,v4 = .slice A m c:=by
 rcases h with ⟨_,ps,qs,ys,x0,x1,x2,_,_,_,_,_,hro⟩ | ⟨_,rfl,rfl,rfl,rfl,rfl⟩
 ·obtain ⟨A0,c0,e0⟩:=Kd.R_slice hro.r0
  obtain ⟨A1,c1,e1⟩:=Kd.R_slice hro.r1
  obtain ⟨A2,c2,e2⟩:=Kd.R_slice hro.r2
  obtain ⟨A3,c3,e3⟩:=Kd.R_slice hro.r3
  obtain ⟨A4,c4,e4⟩:=Kd.R_slice hro.r4
  exact ⟨⟨_,_,_,e0⟩,⟨_,_,_,e1⟩,⟨_,_,_,e2⟩,⟨_,_,_,e3⟩,⟨_,_,_,e4⟩⟩
 ·exact ⟨⟨_,_,_,rfl⟩,⟨_,_,_,rfl⟩,⟨_,_,_,rfl⟩,⟨_,_,_,rfl⟩,⟨_,_,_,rfl⟩⟩
theorem Played.said {n len : Nat} {W : World} {v0 v1 v2 v3 v4 : Value} (h : Played n W len v0 v1 v2 v3 v4) : ∃ said : List S38,Kd.R k38 38 W n (fun _=>True) v4 said ∧ (∀ y ∈ said,0 ≤ y.f0 ∧ y.f0 < 3) ∧ said.length ≤ 200:=by
 rcases h with ⟨hl,ps,qs,ys,x0,x1,x2,hv,_,_,_,_,hro⟩ | ⟨_,_,_,_,_,rfl⟩
 ·exact ⟨ys,hro.r4,fun y hy=>by have:=hv.yw y hy;have:=hv.p3;omega,by have:=hv.yl;omega⟩
 ·exact ⟨[],Kd.R_nil _ _ _ _ _,(fun y hy=>by cases hy),by simp⟩
end Go.Proofs.Ytfbocgagfodgnaa.P

namespace Go.Proofs.Ytfbocgagfodgnaa.P
open Go.Proofs.YtfbocgagfodgnaaW.PrintWords renaming Aside0.mk → ö
open Go.RowKit Go.Proofs.YtfbocgagfodgnaaW.PrintWords Go.Proofs.YtfbocgagfodgnaaW.PrintLast Go.Proofs.YtfbocgagfodgnaaW.PrintMore
attribute [local go_sem] max2_int min2_int max_two min_two max_three min_three max_four min_four
set_option linter.unusedVariables false
set_option linter.unusedSimpArgs false
def WGood (W : World) (v0 v1 v2 v3 v4 : Value) : Prop:=∃ (n : Nat) (ps : List S51) (qs : List (List Int)) (ys : List S38) (x0 : List S51) (x1 x2 : List Int),n ≤ 200 ∧ VS n ps qs ys ∧ x0.length = ps.length ∧ (∀ i (hi : i < ps.length) (hx : i < x0.length),Likes ps[i] x0[i]) ∧ x1.length = 3 ∧ x2.length = 2 ∧ WC W x0 x1 x2 qs ys v0 v1 v2 v3 v4
theorem Played.good {n len : Nat} {W : World} {v0 v1 v2 v3 v4 : Value} (h : Played n W len v0 v1 v2 v3 v4) (hl : len ≤ 200) : WGood W v0 v1 v2 v3 v4:=by
 rcases h with ⟨_,ps,qs,ys,x0,x1,x2,hv,h1,h2,h3,h4,hro⟩ | ⟨h,_⟩
 ·refine ⟨len,ps,qs,ys,x0,x1,x2,hl,hv,h1,h2,h3,h4,⟨Rd.of_R hro.r0,Rd.of_R hro.r1,Rd.of_R hro.r2,?_,Rd.of_R hro.r4⟩⟩
  obtain ⟨A,c,e,hc,hC⟩:=Kd.R_reads hro.r3
  exact ⟨A,c,e,hc,kQ_C hC⟩
 ·omega
theorem Played.below {n len : Nat} {W W' : World} {v0 v1 v2 v3 v4 : Value} (h : Played n W len v0 v1 v2 v3 v4) (hb : Below W.heap.size W W') : Played n W' len v0 v1 v2 v3 v4:=by
 rcases h with ⟨hl,ps,qs,ys,x0,x1,x2,hv,h1,h2,h3,h4,hro⟩ | h
 ·exact .inl ⟨hl,ps,qs,ys,x0,x1,x2,hv,h1,h2,h3,h4,⟨Kd.R_below hro.r0 hb,Kd.R_below hro.r1 hb,Kd.R_below hro.r2 hb,Kd.R_below hro.r3 hb,Kd.R_below hro.r4 hb⟩⟩
 ·exact .inr h
theorem R_keepN {α : Type} {d : Kd α} {e n g : Nat} {W W' : World} {v : Value} {xs : List α} (h : d.R e W n (fun _=>True) v xs) (hk : KeepBut W W' g none) (hg : g < n) : d.R e W' n (fun _=>True) v xs:=Kd.R_mono (Kd.R_keep (Kd.R_bound h) hk fun k hk=>by have:=hk.2.1;omega) fun _ _=>trivial
theorem Played.keep {n len g : Nat} {W W' : World} {v0 v1 v2 v3 v4 : Value} (h : Played n W len v0 v1 v2 v3 v4) (hk : KeepBut W W' g none) (hg : g < n) : Played n W' len v0 v1 v2 v3 v4:=by
 rcases h with ⟨hl,ps,qs,ys,x0,x1,x2,hv,h1,h2,h3,h4,hro⟩ | h
 ·exact .inl ⟨hl,ps,qs,ys,x0,x1,x2,hv,h1,h2,h3,h4,⟨R_keepN hro.r0 hk hg,R_keepN hro.r1 hk hg,R_keepN hro.r2 hk hg,R_keepN hro.r3 hk hg,R_keepN hro.r4 hk hg⟩⟩
 ·exact .inr h
theorem Played.set5 {n len b : Nat} {W : World} {v0 v1 v2 v3 v4 : Value} {cells : Array Value} (h : Played n W len v0 v1 v2 v3 v4) (hb : W.heap[b]? = some (.cells cells 33 (0,0))) (u0 u1 u2 u3 u4 : Value) : Played n (((((W.setCell ⟨b,0,none⟩ u0).setCell ⟨b,1,none⟩ u1).setCell ⟨b,2,none⟩ u2).setCell ⟨b,3,none⟩ u3).setCell ⟨b,4,none⟩ u4) len v0 v1 v2 v3 v4:=by
 rcases h with ⟨hl,ps,qs,ys,x0,x1,x2,hv,h1,h2,h3,h4,hro⟩ | h
 ·exact .inl ⟨hl,ps,qs,ys,x0,x1,x2,hv,h1,h2,h3,h4,⟨set5_ _ _ _ _ _ hro.r0 hb k59_29,set5_ _ _ _ _ _ hro.r1 hb (by decide),set5_ _ _ _ _ _ hro.r2 hb (by decide),set5_ _ _ _ _ _ hro.r3 hb (by decide),set5_ _ _ _ _ _ hro.r4 hb (by decide)⟩⟩
 ·exact .inr h
theorem WGood.below {W W' : World} {v0 v1 v2 v3 v4 : Value} (h : WGood W v0 v1 v2 v3 v4) (hb : Below W.heap.size W W') : WGood W' v0 v1 v2 v3 v4:=by
 obtain ⟨n,ps,qs,ys,x0,x1,x2,hn,hv,h1,h2,h3,h4,hw⟩:=h
 exact ⟨n,ps,qs,ys,x0,x1,x2,hn,hv,h1,h2,h3,h4,hw.below hb⟩
theorem WGood.forms {W : World} {v0 v1 v2 v3 v4 : Value} (h : WGood W v0 v1 v2 v3 v4) : (∃ A m c,v0 = .slice A m c) ∧ (∃ A m c,v1 = .slice A m c) ∧ (∃ A m c,v2 = .slice A m c) ∧ (∃ A m c,v3 = .slice A m c) ∧ ∃ A m c,v4 = .slice A m c:=by
 obtain ⟨n,ps,qs,ys,x0,x1,x2,hn,hv,h1,h2,h3,h4,hw⟩:=h
 obtain ⟨A0,c0,e0,_⟩:=hw.r0
 obtain ⟨A1,c1,e1,_⟩:=hw.r1
 obtain ⟨A2,c2,e2,_⟩:=hw.r2
 obtain ⟨A3,c3,e3,_⟩:=hw.r3
 obtain ⟨A4,c4,e4,_⟩:=hw.r4
 exact ⟨⟨_,_,_,e0⟩,⟨_,_,_,e1⟩,⟨_,_,_,e2⟩,⟨_,_,_,e3⟩,⟨_,_,_,e4⟩⟩
set_option maxHeartbeats 2000000 in
set_option maxRecDepth 100000 in
theorem drawsame_says (A : Option Addr) (c : Nat) (l : List Int) (w : World) (hr : Kd.C (Kd.int .u8) w A l.length l) (hc : l.length ≤ c) (hw : ∀ x ∈ l,(Lit.int .u8 x).wf = true) :
  Calls Try.prog 9 #[.slice A l.length c] w fun e w'=>∃ v0 v1 v2 v3 v4 u0 u1 u2 u3 u4 : Value,e = .returned (.tuple #[.agg #[v0,v1,v2,v3,v4],.agg #[u0,u1,u2,u3,u4]]) ∧ WGood w' v0 v1 v2 v3 v4 ∧ WGood w' u0 u1 u2 u3 u4 ∧ Below w.heap.size w w':=by
 have hu29:=Try.underlying33
 obtain ⟨s,hop,hbf⟩:=open_eq l
 have HBF:=ö (hbf hw)
 obtain ⟨q,p',k,hg,hp0,hp1,hq,hk,hco⟩:=drawn_good HBF.out
 have HO:=ö hop
 have HG:=ö hg
 have HP0:=ö hp0
 have HP1:=ö hp1
 have HQ:=ö hq
 have HK:=ö hk
 have HCO:=ö hco
 have HR:=ö hr
 have HC:=ö hc
 have HB:=ö (Below.refl w.heap.size w)
 clear hop hbf hg hp0 hp1 hq hk hco hr hc hw
 go_enter Try.func9,Try.ntmps9
 go_upto_if 20 with (first | ((with_reducible refine gate_dst (N:=2) rfl ?_);refine box_event ?hg (N:=2) ?hd (cs:=#[.slice none 0 0,.slice none 0 0,.slice none 0 0,.slice none 0 0,.slice none 0 0]) (t:=33) ?hr ?_;(case hd=>rfl);(case hg=>rfl);(case hr=>first | (go_simp;done) | (go_simp;rfl));intro ba hg w3 hbox hb;have GBA:=ö (show w.heap.size ≤ ba by rw [hg];exact HB.out.size);replace HB:=ö (below_step HB.out hb);have BA:=ö hbox;clear hb hbox hg) | ((with_reducible refine gate_dst (N:=3) rfl ?_);refine box_event ?hg (N:=3) ?hd (cs:=#[.slice none 0 0,.slice none 0 0,.slice none 0 0,.slice none 0 0,.slice none 0 0]) (t:=33) ?hr ?_;(case hd=>rfl);(case hg=>rfl);(case hr=>first | (go_simp;done) | (go_simp;rfl));intro bb hg w4 hbox hb;have NBBBA:=ö (show ba ≠ bb by rw [hg];exact Nat.ne_of_lt (blk_lt BA.out));have k_BA:=ö (blk_below BA.out hb);have GBB:=ö (show w.heap.size ≤ bb by rw [hg];exact HB.out.size);replace HB:=ö (below_step HB.out hb);clear BA;have BA:=k_BA;clear k_BA;have BB:=ö hbox;clear hb hbox hg) | (go_at_call 12;refine (spec_l11Open.calls A c l s 0 w _ HB.out HR.out HC.out HO.out).mono ?_;rintro e w5 ⟨g,rfl,hi,hb1,hb⟩;have k_BA:=ö (blk_below BA.out hb);have k_BB:=ö (blk_below BB.out hb);have n1_:=ö hb1;have HI:=ö hi;clear HB hi hb1 hb;have HB:=n1_;clear n1_;clear BA;have BA:=k_BA;clear k_BA;clear BB;have BB:=k_BB;clear k_BB) | (go_at_call 13;refine (spec_l2Prog.calls k g s 0 q p' w _ HI.out HB.out HQ.out).mono ?_;rintro e w6 ⟨vp,rfl,hn,hi,hb,hk⟩;have k_BA:=ö (hk.blk BA.out (HI.out.ne_blk BA.out (by decide)).symm (by simp));have k_BB:=ö (hk.blk BB.out (HI.out.ne_blk BB.out (by decide)).symm (by simp));obtain ⟨AQ,cQ,eQ⟩:=Kd.N_slice hn;subst eQ;have GL:=ö HI.out.lt;have SZN:=ö HB.out.size;have HN:=ö (Kd.N_mono hn (ok':=fun k_=>k_ ≠ g) fun k_ hk_=>by have h1:=GL.out;omega);have n1_:=ö hb;have n2_:=ö hi;clear HB HI hn hi hb hk;have HB:=n1_;have HI:=n2_;clear n1_ n2_;clear BA;have BA:=k_BA;clear k_BA;clear BB;have BB:=k_BB;clear k_BB) | (go_at_call 15;refine (l3picks_says k AQ cQ q w _ g s p' HI.out HB.out HBF.out HP0.out (by have:=HP1.out;omega) (Kd.N_reads' HN.out).2.2 (Kd.N_reads' HN.out).2.1 HG.out HK.out HCO.out).mono ?_;rintro e w7 ⟨vk,picks,p2,rfl,hrp,hpl,hi,hp1,hp2,hb,hk⟩;have k_BA:=ö (hk.blk BA.out (HI.out.ne_blk BA.out (by decide)).symm (by simp));have k_BB:=ö (hk.blk BB.out (HI.out.ne_blk BB.out (by decide)).symm (by simp));obtain ⟨AP,cP,eP⟩:=Kd.R_slice hrp;subst eP;have GLP:=ö HI.out.lt;have SZP:=ö HB.out.size;have n0_:=ö (Kd.N_keep HN.out hk (fun _ h=>h));have HRP:=ö hrp;have HPL:=ö hpl;have HP2:=ö (show 0 ≤ p2 ∧ p2 ≤ 2102001 by have h1:=HP0.out;have h2:=HP1.out;omega);have n1_:=ö hb;have n2_:=ö hi;clear HB HI HN hrp hpl hi hp1 hp2 hb hk;have HB:=n1_;have HI:=n2_;have HN:=n0_;clear n0_ n1_ n2_;clear BA;have BA:=k_BA;clear k_BA;clear BB;have BB:=k_BB;clear k_BB))
 have NAB:=NBBBA
 have HN2:=ö (Kd.N_lower HN.out SZN.out)
 clear NBBBA
 go_cut [6] (fun v6 wc=>∃ (pk : List Int) (cK : Nat),v6 = .slice AP pk.length cK ∧ Aside0 (pk.length ≤ cK) ∧ Aside0 (Kd.R (Kd.int .i64) 3 wc w.heap.size (fun k=>k ≠ g) (.slice AP pk.length cK) pk) ∧ Aside0 (pk.length ≤ 200) ∧ Aside0 (Below w.heap.size w wc) ∧ Aside0 (IsS53 w wc g s p2) ∧ Aside0 (Kd.N (Kd.slice 69 k69) 49 wc w.heap.size (fun k_=>k_ ≠ g) (.slice AQ q.length cQ) q) ∧ Aside0 (wc.heap[ba]? = some (.cells #[.slice none 0 0,.slice none 0 0,.slice none 0 0,.slice none 0 0,.slice none 0 0] 33 (0,0))) ∧ Aside0 (wc.heap[bb]? = some (.cells #[.slice none 0 0,.slice none 0 0,.slice none 0 0,.slice none 0 0,.slice none 0 0] 33 (0,0))))
 case first =>
  by_cases hb2 : picks.length > 200
  ·have hz1 : decide ((picks.length : Int) > 200) = true:=decide_eq_true (by omega)
   have hz5 : decide ((200 : Int) < (picks.length : Int)) = true:=decide_eq_true (by omega)
   rw [hz5]
   have hz3:=eq_true (show (200 : Int) < (picks.length : Int) by omega)
   have HCP:=ö (Kd.R_reads' HRP.out).2.1
   have s1:=eq_true (show (200 : Int) ≤ (cP : Int) by have:=HCP.out;omega)
   have s2:=eq_true (show 200 ≤ cP by have:=HCP.out;omega)
   have HB2:=ö hb2
   clear hb2
   go_wp2
   go_meet
   case rel =>
    have e : (picks.take 200).length = 200:=by rw [List.length_take];have:=HB2.out;omega
    have h1:=HCP.out
    have h2:=HB2.out
    refine ⟨picks.take 200,cP,by rw [e],⟨by omega⟩,⟨?_⟩,⟨by omega⟩,HB,HI,HN2,BA,BB⟩
    rw [e]
    exact Kd.R_take (Kd.R_lower (Kd.R_mono (Kd.R_bound HRP.out) fun k hk=>by have h3:=hk.2.1;have h4:=GLP.out;omega) SZP.out) (by omega)
  ·have hz1 : decide ((picks.length : Int) > 200) = false:=decide_eq_false (by omega)
   have hz5 : decide ((200 : Int) < (picks.length : Int)) = false:=decide_eq_false (by omega)
   rw [hz5]
   have hz3:=eq_false (show ¬ (200 : Int) < (picks.length : Int) by omega)
   have HB2:=ö hb2
   clear hb2
   go_wp2
   go_meet
   case rel=>exact ⟨picks,cP,rfl,⟨(Kd.R_reads' HRP.out).2.1⟩,⟨Kd.R_lower (Kd.R_mono (Kd.R_bound HRP.out) fun k hk=>by have h3:=hk.2.1;have h4:=GLP.out;omega) SZP.out⟩,⟨by have:=HB2.out;omega⟩,HB,HI,HN2,BA,BB⟩
 case rest =>
  clear HB HI HN HN2 BA BB HRP HPL
  obtain ⟨pk,cK,rfl,HCK,HPK,HLK,HB,HI,HN,BA,BB⟩:=hcut
  go_upto_region 7 with (first | (go_at_call 14;refine (mplay_says k AQ cQ q _ (Kd.N_reads' HN.out).2.2 (Kd.N_reads' HN.out).2.1 HG.out HK.out AP cK pk (Kd.R_reads' HPK.out).2.2 HCK.out).mono ?_;rintro e w8 ⟨v0,v1,v2,v3,v4,vc,rfl,hpl,hb⟩;have HGA:=ö hpl;have GPL:=ö HI.out.lt;have k_BA:=ö (blk_below BA.out hb);have k_BB:=ö (blk_below BB.out hb);have n1_:=ö (below_step HB.out hb);have n2_:=ö (HI.out.below hb);have n3_:=ö (Kd.N_below HN.out hb);have n4_:=ö (Kd.R_below HPK.out hb);clear HB HI HN HPK BA BB hpl hb;have HB:=n1_;have HI:=n2_;have HN:=n3_;have HPK:=n4_;have BA:=k_BA;have BB:=k_BB;clear n1_ n2_ n3_ n4_ k_BA k_BB;obtain ⟨⟨E0,m0,i0,e0⟩,⟨E1,m1,i1,e1⟩,⟨E2,m2,i2,e2⟩,⟨E3,m3,i3,e3⟩,⟨E4,m4,i4,e4⟩⟩:=HGA.out.forms;subst e0;subst e1;subst e2;subst e3;subst e4) | ((with_reducible refine gate_dst (N:=7) rfl ?_);refine box_event ?hg (N:=7) ?hd (cs:=#[.slice none 0 0,.slice none 0 0,.slice none 0 0,.slice none 0 0,.slice none 0 0]) (t:=33) ?hr ?_;(case hd=>rfl);(case hg=>rfl);(case hr=>first | (go_simp;done) | (go_simp;rfl));intro bc hg w9 hbox hb;have k1_:=ö (HI.out.below hb);have k2_:=ö (Kd.N_old HN.out hb);have k3_:=ö (Kd.R_below HPK.out hb);have HB89:=ö hb;have G8:=ö (Nat.le_of_eq hg.symm);clear HI HN HPK;have HI:=k1_;have HN:=k2_;have HPK:=k3_;clear k1_ k2_ k3_;have NBCBA:=ö (show ba ≠ bc by rw [hg];exact Nat.ne_of_lt (blk_lt BA.out));have NBCBB:=ö (show bb ≠ bc by rw [hg];exact Nat.ne_of_lt (blk_lt BB.out));have k_BA:=ö (blk_below BA.out hb);have k_BB:=ö (blk_below BB.out hb);have GBC:=ö (show w.heap.size ≤ bc by rw [hg];exact HB.out.size);replace HB:=ö (below_step HB.out hb);clear BA;have BA:=k_BA;clear k_BA;clear BB;have BB:=k_BB;clear k_BB;have BC:=ö hbox;clear hb hbox hg;obtain ⟨hcq_0,hcq_1,hcq_2,hcq_3,hcq_4,hfq_0,hfq_1,hfq_2,hfq_3,hfq_4⟩:=bz5_ BC))
  have n1:=ö (far_set5 BA.out NBCBA.out (.slice E0 m0 i0) (.slice E1 m1 i1) (.slice E2 m2 i2) (.slice E3 m3 i3) (.slice E4 m4 i4))
  have n2:=ö (far_set5 BB.out NBCBB.out (.slice E0 m0 i0) (.slice E1 m1 i1) (.slice E2 m2 i2) (.slice E3 m3 i3) (.slice E4 m4 i4))
  have n3:=ö (show (((((w9.setCell ⟨bc,0,none⟩ (.slice E0 m0 i0)).setCell ⟨bc,1,none⟩ (.slice E1 m1 i1)).setCell ⟨bc,2,none⟩ (.slice E2 m2 i2)).setCell ⟨bc,3,none⟩ (.slice E3 m3 i3)).setCell ⟨bc,4,none⟩ (.slice E4 m4 i4)).heap[bc]? = some (.cells #[.slice E0 m0 i0,.slice E1 m1 i1,.slice E2 m2 i2,.slice E3 m3 i3,.slice E4 m4 i4] 33 (0,0)) by apply bp5_4_;apply bp5_3_;apply bp5_2_;apply bp5_1_;apply bp5_0_;exact BC.out)
  have n4:=ö (below_set5 HB.out GBC.out (.slice E0 m0 i0) (.slice E1 m1 i1) (.slice E2 m2 i2) (.slice E3 m3 i3) (.slice E4 m4 i4))
  have ne:=HI.out.ne_blk BC.out (by decide)
  have n5:=ö (((((HI.out.far (p:=⟨bc,0,none⟩) ne (.slice E0 m0 i0)).far (p:=⟨bc,1,none⟩) ne (.slice E1 m1 i1)).far (p:=⟨bc,2,none⟩) ne (.slice E2 m2 i2)).far (p:=⟨bc,3,none⟩) ne (.slice E3 m3 i3)).far (p:=⟨bc,4,none⟩) ne (.slice E4 m4 i4))
  have n6:=ö (HGA.out.below (below_set5 HB89.out G8.out (.slice E0 m0 i0) (.slice E1 m1 i1) (.slice E2 m2 i2) (.slice E3 m3 i3) (.slice E4 m4 i4)))
  have n7:=ö (set5_ (.slice E0 m0 i0) (.slice E1 m1 i1) (.slice E2 m2 i2) (.slice E3 m3 i3) (.slice E4 m4 i4) HPK.out BC.out (by decide))
  have n8:=ö (Kd.N_mono (Kd.N_step HN.out (w1:=(((((w9.setCell ⟨bc,0,none⟩ (.slice E0 m0 i0)).setCell ⟨bc,1,none⟩ (.slice E1 m1 i1)).setCell ⟨bc,2,none⟩ (.slice E2 m2 i2)).setCell ⟨bc,3,none⟩ (.slice E3 m3 i3)).setCell ⟨bc,4,none⟩ (.slice E4 m4 i4))) fun k hk _=>by have h1:=G8.out;exact far_set5 rfl (show k ≠ bc by have:=hk.2;omega) (.slice E0 m0 i0) (.slice E1 m1 i1) (.slice E2 m2 i2) (.slice E3 m3 i3) (.slice E4 m4 i4)) (ok':=fun k_=>k_ ≠ g) fun _ hk=>hk.1)
  clear HGA HB89 ne HB HI HN HPK BA BB BC hcq_0 hcq_1 hcq_2 hcq_3 hcq_4 hfq_0 hfq_1 hfq_2 hfq_3 hfq_4
  generalize (((((w9.setCell ⟨bc,0,none⟩ (.slice E0 m0 i0)).setCell ⟨bc,1,none⟩ (.slice E1 m1 i1)).setCell ⟨bc,2,none⟩ (.slice E2 m2 i2)).setCell ⟨bc,3,none⟩ (.slice E3 m3 i3)).setCell ⟨bc,4,none⟩ (.slice E4 m4 i4)) = w10 at n1 n2 n3 n4 n5 n6 n7 n8 ⊢
  by_cases hl0 : 0 < pk.length
  ·have hl1 : decide ((0 : Int) < (pk.length : Int)) = true:=decide_eq_true (by omega)
   have hl2:=eq_true hl0
   obtain ⟨t2,_,h2⟩:=pick_says HBF.out (p:=p2) HP2.out.1 (by have:=HP2.out.2;omega) 2
   have H2:=ö h2
   have HL0:=ö hl0
   clear h2 hl0
   obtain ⟨zi,hzi,hz1⟩ : ∃ z : Nat,spec_l1If.f (t2 == 0) = some (z : Int) ∧ z ≤ 1:=by
    unfold spec_l1If.f
    cases (t2 == 0)
    ·exact ⟨0,rfl,by omega⟩
    ·exact ⟨1,rfl,by omega⟩
   have HZI:=ö hzi
   have HZ1:=ö hz1
   clear hzi hz1
   obtain ⟨n2v,hn2,hn3⟩ : ∃ m : Nat,wrap64 ((pk.length : Int) - (zi : Int)) = (m : Int) ∧ m ≤ pk.length:=⟨pk.length - zi,by
    have h1:=HZ1.out
    have h2:=HLK.out
    have h3:=HL0.out
    rw [wrap_id (by omega) (by omega)]
    omega,by omega⟩
   have HN3:=ö hn3
   have s1:=eq_true (show (n2v : Int) ≤ (cK : Int) by have:=HCK.out;omega)
   have s2:=eq_true (show n2v ≤ cK by have:=HCK.out;omega)
   clear hn3
   go_wp2_with (first | (go_at_call 16;refine (H2.out g w _ n5.out n4.out).mono ?_;rintro e w11 ⟨rfl,hi,hbb,hk⟩;have m1:=ö (hk.blk n1.out (n5.out.ne_blk n1.out (by decide)).symm (by simp));have m2:=ö (hk.blk n2.out (n5.out.ne_blk n2.out (by decide)).symm (by simp));have m3:=ö (hk.blk n3.out (n5.out.ne_blk n3.out (by decide)).symm (by simp));have m4:=ö hbb;have m5:=ö hi;have m6:=ö (n6.out.keep hk GPL.out);have m7:=ö (Kd.R_keep n7.out hk (fun _ h=>h));have m8:=ö (Kd.N_keep n8.out hk (fun _ h=>h));clear n1 n2 n3 n4 n5 n6 n7 n8 hi hbb hk;have n1:=m1;have n2:=m2;have n3:=m3;have n4:=m4;have n5:=m5;have n6:=m6;have n7:=m7;have n8:=m8;clear m1 m2 m3 m4 m5 m6 m7 m8) | (go_at_call 17;refine (spec_l1If.calls (t2 == 0) (zi : Int) _ HZI.out).mono ?_;rintro e w12 ⟨rfl,hd⟩;have hb:=hd.below;have m1:=ö (blk_below n1.out hb);have m2:=ö (blk_below n2.out hb);have m3:=ö (blk_below n3.out hb);have m4:=ö (below_step n4.out hb);have m7:=ö (Kd.R_below n7.out hb);have m8:=ö (Kd.N_below n8.out hb);have m6:=ö (n6.out.below hb);clear n1 n2 n3 n4 n6 n7 n8 hd hb;have n1:=m1;have n2:=m2;have n3:=m3;have n4:=m4;have n6:=m6;have n7:=m7;have n8:=m8;clear m1 m2 m3 m4 m6 m7 m8) | (go_at_call 14;have hm:=mplay_says k AQ cQ q _ (Kd.N_reads' n8.out).2.2 (Kd.N_reads' n8.out).2.1 HG.out HK.out AP cK (pk.take n2v) (Kd.R_reads' (Kd.R_take n7.out HN3.out)).2.2 (by rw [List.length_take];have:=HN3.out;have:=HCK.out;omega);have el : (pk.take n2v).length = n2v:=(by rw [List.length_take];have:=HN3.out;omega);rw [el] at hm;refine hm.mono ?_;clear hm el;rintro e w13 ⟨u0,u1,u2,u3,u4,vc2,rfl,hpl,hb⟩;have HGB:=ö hpl;have m1:=ö (blk_below n1.out hb);have m2:=ö (blk_below n2.out hb);have m3:=ö (blk_below n3.out hb);have m4:=ö (below_step n4.out hb);have HGA:=ö (n6.out.below hb);clear n1 n2 n3 n4 n6 hpl hb;have n1:=m1;have n2:=m2;have n3:=m3;have n4:=m4;clear m1 m2 m3 m4;obtain ⟨⟨F0,a0,b0,e0⟩,⟨F1,a1,b1,e1⟩,⟨F2,a2,b2,e2⟩,⟨F3,a3,b3,e3⟩,⟨F4,a4,b4,e4⟩⟩:=HGB.out.forms;subst e0;subst e1;subst e2;subst e3;subst e4) | ((with_reducible refine gate_dst (N:=9) rfl ?_);refine box_event ?hg (N:=9) ?hd (cs:=#[.slice none 0 0,.slice none 0 0,.slice none 0 0,.slice none 0 0,.slice none 0 0]) (t:=33) ?hr ?_;(case hd=>rfl);(case hg=>rfl);(case hr=>first | (go_simp;done) | (go_simp;rfl));intro bd hg w14 hbox hb;have NDA:=ö (show ba ≠ bd by rw [hg];exact Nat.ne_of_lt (blk_lt n1.out));have NDB:=ö (show bb ≠ bd by rw [hg];exact Nat.ne_of_lt (blk_lt n2.out));have NDC:=ö (show bc ≠ bd by rw [hg];exact Nat.ne_of_lt (blk_lt n3.out));have GBD:=ö (show w.heap.size ≤ bd by rw [hg];exact n4.out.size);have G14:=ö (Nat.le_of_eq hg.symm);have HB14:=ö hb;have m1:=ö (blk_below n1.out hb);have m2:=ö (blk_below n2.out hb);have m3:=ö (blk_below n3.out hb);have m4:=ö (below_step n4.out hb);clear n1 n2 n3 n4;have n1:=m1;have n2:=m2;have n3:=m3;have n4:=m4;clear m1 m2 m3 m4;have BD:=ö hbox;clear hb hbox hg;obtain ⟨hcy_0,hcy_1,hcy_2,hcy_3,hcy_4,hfy_0,hfy_1,hfy_2,hfy_3,hfy_4⟩:=bz5_ BD))
   have k1:=ö (far_set5 n1.out NDA.out (.slice F0 a0 b0) (.slice F1 a1 b1) (.slice F2 a2 b2) (.slice F3 a3 b3) (.slice F4 a4 b4))
   have k2:=ö (far_set5 n2.out NDB.out (.slice F0 a0 b0) (.slice F1 a1 b1) (.slice F2 a2 b2) (.slice F3 a3 b3) (.slice F4 a4 b4))
   have k3:=ö (far_set5 n3.out NDC.out (.slice F0 a0 b0) (.slice F1 a1 b1) (.slice F2 a2 b2) (.slice F3 a3 b3) (.slice F4 a4 b4))
   have k4:=ö (show (((((w14.setCell ⟨bd,0,none⟩ (.slice F0 a0 b0)).setCell ⟨bd,1,none⟩ (.slice F1 a1 b1)).setCell ⟨bd,2,none⟩ (.slice F2 a2 b2)).setCell ⟨bd,3,none⟩ (.slice F3 a3 b3)).setCell ⟨bd,4,none⟩ (.slice F4 a4 b4)).heap[bd]? = some (.cells #[.slice F0 a0 b0,.slice F1 a1 b1,.slice F2 a2 b2,.slice F3 a3 b3,.slice F4 a4 b4] 33 (0,0)) by apply bp5_4_;apply bp5_3_;apply bp5_2_;apply bp5_1_;apply bp5_0_;exact BD.out)
   have k5:=ö (below_set5 n4.out GBD.out (.slice F0 a0 b0) (.slice F1 a1 b1) (.slice F2 a2 b2) (.slice F3 a3 b3) (.slice F4 a4 b4))
   have k6:=ö (HGB.out.below (below_set5 HB14.out G14.out (.slice F0 a0 b0) (.slice F1 a1 b1) (.slice F2 a2 b2) (.slice F3 a3 b3) (.slice F4 a4 b4)))
   have k7:=ö (HGA.out.below (below_set5 HB14.out G14.out (.slice F0 a0 b0) (.slice F1 a1 b1) (.slice F2 a2 b2) (.slice F3 a3 b3) (.slice F4 a4 b4)))
   clear HGA HGB HB14 n1 n2 n3 n4 BD hcy_0 hcy_1 hcy_2 hcy_3 hcy_4 hfy_0 hfy_1 hfy_2 hfy_3 hfy_4
   generalize (((((w14.setCell ⟨bd,0,none⟩ (.slice F0 a0 b0)).setCell ⟨bd,1,none⟩ (.slice F1 a1 b1)).setCell ⟨bd,2,none⟩ (.slice F2 a2 b2)).setCell ⟨bd,3,none⟩ (.slice F3 a3 b3)).setCell ⟨bd,4,none⟩ (.slice F4 a4 b4)) = w15 at k1 k2 k3 k4 k5 k6 k7 ⊢
   obtain ⟨hcz_0,hcz_1,hcz_2,hcz_3,hcz_4,hfz_0,hfz_1,hfz_2,hfz_3,hfz_4⟩:=bz5_ k1
   obtain ⟨hcx_0,hcx_1,hcx_2,hcx_3,hcx_4,hfx_0,hfx_1,hfx_2,hfx_3,hfx_4⟩:=bz5_ k2
   obtain ⟨hcq_0,hcq_1,hcq_2,hcq_3,hcq_4,hfq_0,hfq_1,hfq_2,hfq_3,hfq_4⟩:=bz5_ k3
   obtain ⟨hcy_0,hcy_1,hcy_2,hcy_3,hcy_4,hfy_0,hfy_1,hfy_2,hfy_3,hfy_4⟩:=bz5_ k4
   have nab:=NAB.out;have nac:=NBCBA.out;have nbc:=NBCBB.out;have nad:=NDA.out;have nbd:=NDB.out;have ncd:=NDC.out
   have nba:=nab.symm;have nca:=nac.symm;have ncb:=nbc.symm;have nda:=nad.symm;have ndb:=nbd.symm;have ndc:=ncd.symm
   go_region_held3 (fun w'=>w'.cell? ⟨bc,0,none⟩ = some (.slice E0 m0 i0) ∧ w'.cell? ⟨bc,1,none⟩ = some (.slice E1 m1 i1) ∧ w'.cell? ⟨bc,2,none⟩ = some (.slice E2 m2 i2) ∧ w'.cell? ⟨bc,3,none⟩ = some (.slice E3 m3 i3) ∧ w'.cell? ⟨bc,4,none⟩ = some (.slice E4 m4 i4) ∧ w'.cell? ⟨bd,0,none⟩ = some (.slice F0 a0 b0) ∧ w'.cell? ⟨bd,1,none⟩ = some (.slice F1 a1 b1) ∧ w'.cell? ⟨bd,2,none⟩ = some (.slice F2 a2 b2) ∧ w'.cell? ⟨bd,3,none⟩ = some (.slice F3 a3 b3) ∧ w'.cell? ⟨bd,4,none⟩ = some (.slice F4 a4 b4)) (go_keep) (fail)
   have f1 : (((((w15.setCell ⟨ba,0,none⟩ (.slice E0 m0 i0)).setCell ⟨ba,1,none⟩ (.slice E1 m1 i1)).setCell ⟨ba,2,none⟩ (.slice E2 m2 i2)).setCell ⟨ba,3,none⟩ (.slice E3 m3 i3)).setCell ⟨ba,4,none⟩ (.slice E4 m4 i4)).heap[ba]? = some (.cells #[.slice E0 m0 i0,.slice E1 m1 i1,.slice E2 m2 i2,.slice E3 m3 i3,.slice E4 m4 i4] 33 (0,0)):=by apply bp5_4_;apply bp5_3_;apply bp5_2_;apply bp5_1_;apply bp5_0_;exact k1.out
   have f2 : (((((w15.setCell ⟨ba,0,none⟩ (.slice E0 m0 i0)).setCell ⟨ba,1,none⟩ (.slice E1 m1 i1)).setCell ⟨ba,2,none⟩ (.slice E2 m2 i2)).setCell ⟨ba,3,none⟩ (.slice E3 m3 i3)).setCell ⟨ba,4,none⟩ (.slice E4 m4 i4)).heap[bb]? = some (.cells #[.slice none 0 0,.slice none 0 0,.slice none 0 0,.slice none 0 0,.slice none 0 0] 33 (0,0)):=far_set5 k2.out nba (.slice E0 m0 i0) (.slice E1 m1 i1) (.slice E2 m2 i2) (.slice E3 m3 i3) (.slice E4 m4 i4)
   have f3 : ((((((((((w15.setCell ⟨ba,0,none⟩ (.slice E0 m0 i0)).setCell ⟨ba,1,none⟩ (.slice E1 m1 i1)).setCell ⟨ba,2,none⟩ (.slice E2 m2 i2)).setCell ⟨ba,3,none⟩ (.slice E3 m3 i3)).setCell ⟨ba,4,none⟩ (.slice E4 m4 i4)).setCell ⟨bb,0,none⟩ (.slice F0 a0 b0)).setCell ⟨bb,1,none⟩ (.slice F1 a1 b1)).setCell ⟨bb,2,none⟩ (.slice F2 a2 b2)).setCell ⟨bb,3,none⟩ (.slice F3 a3 b3)).setCell ⟨bb,4,none⟩ (.slice F4 a4 b4)).heap[ba]? = some (.cells #[.slice E0 m0 i0,.slice E1 m1 i1,.slice E2 m2 i2,.slice E3 m3 i3,.slice E4 m4 i4] 33 (0,0)):=far_set5 f1 nab (.slice F0 a0 b0) (.slice F1 a1 b1) (.slice F2 a2 b2) (.slice F3 a3 b3) (.slice F4 a4 b4)
   have f4 : ((((((((((w15.setCell ⟨ba,0,none⟩ (.slice E0 m0 i0)).setCell ⟨ba,1,none⟩ (.slice E1 m1 i1)).setCell ⟨ba,2,none⟩ (.slice E2 m2 i2)).setCell ⟨ba,3,none⟩ (.slice E3 m3 i3)).setCell ⟨ba,4,none⟩ (.slice E4 m4 i4)).setCell ⟨bb,0,none⟩ (.slice F0 a0 b0)).setCell ⟨bb,1,none⟩ (.slice F1 a1 b1)).setCell ⟨bb,2,none⟩ (.slice F2 a2 b2)).setCell ⟨bb,3,none⟩ (.slice F3 a3 b3)).setCell ⟨bb,4,none⟩ (.slice F4 a4 b4)).heap[bb]? = some (.cells #[.slice F0 a0 b0,.slice F1 a1 b1,.slice F2 a2 b2,.slice F3 a3 b3,.slice F4 a4 b4] 33 (0,0)):=by apply bp5_4_;apply bp5_3_;apply bp5_2_;apply bp5_1_;apply bp5_0_;exact f2
   have F3_:=ö f3
   have F4_:=ö f4
   have P1:=ö (((k7.out.set5 k1.out (.slice E0 m0 i0) (.slice E1 m1 i1) (.slice E2 m2 i2) (.slice E3 m3 i3) (.slice E4 m4 i4)).set5 f2 (.slice F0 a0 b0) (.slice F1 a1 b1) (.slice F2 a2 b2) (.slice F3 a3 b3) (.slice F4 a4 b4)).good HLK.out)
   have P2:=ö (((k6.out.set5 k1.out (.slice E0 m0 i0) (.slice E1 m1 i1) (.slice E2 m2 i2) (.slice E3 m3 i3) (.slice E4 m4 i4)).set5 f2 (.slice F0 a0 b0) (.slice F1 a1 b1) (.slice F2 a2 b2) (.slice F3 a3 b3) (.slice F4 a4 b4)).good (Nat.le_trans HN3.out HLK.out))
   have P3:=ö (below_set5 (below_set5 k5.out GBA.out (.slice E0 m0 i0) (.slice E1 m1 i1) (.slice E2 m2 i2) (.slice E3 m3 i3) (.slice E4 m4 i4)) GBB.out (.slice F0 a0 b0) (.slice F1 a1 b1) (.slice F2 a2 b2) (.slice F3 a3 b3) (.slice F4 a4 b4))
   clear f1 f2 f3 f4
   rename_i hHeld
   clear hHeld
   go_wp2
   refine bodyPost_ret (results_cc rfl _ _ ba bb 33 33 #[.slice E0 m0 i0,.slice E1 m1 i1,.slice E2 m2 i2,.slice E3 m3 i3,.slice E4 m4 i4] #[.slice F0 a0 b0,.slice F1 a1 b1,.slice F2 a2 b2,.slice F3 a3 b3,.slice F4 a4 b4] (0,0) (0,0) _ _ rfl (blk_drew F3_.out) Try.underlying33 rfl (by kernel_rfl) rfl (blk_drew F4_.out) Try.underlying33 rfl (by kernel_rfl)) rfl ?_
   exact ⟨_,_,_,_,_,_,_,_,_,_,rfl,P1.out.below (below_drew1 (Below.refl _ _)),P2.out.below (below_drew1 (Below.refl _ _)),below_drew1 P3.out⟩
  ·have hl1 : decide ((0 : Int) < (pk.length : Int)) = false:=decide_eq_false (by omega)
   have hl2:=eq_false hl0
   clear hl0
   have HZI:=ö (show spec_l1If.f false = some ((0 : Nat) : Int) from rfl)
   have HZ1:=ö (show 0 ≤ 1 by omega)
   obtain ⟨n2v,hn2,hn3⟩ : ∃ m : Nat,wrap64 ((pk.length : Int)) = (m : Int) ∧ m ≤ pk.length:=⟨pk.length - 0,by
    have h1:=HZ1.out
    have h2:=HLK.out
    skip
    rw [wrap_id (by omega) (by omega)]
    omega,by omega⟩
   have HN3:=ö hn3
   have s1:=eq_true (show (n2v : Int) ≤ (cK : Int) by have:=HCK.out;omega)
   have s2:=eq_true (show n2v ≤ cK by have:=HCK.out;omega)
   clear hn3
   go_wp2_with (first | (go_at_call 17;refine (spec_l1If.calls false ((0 : Nat) : Int) _ HZI.out).mono ?_;rintro e w12 ⟨rfl,hd⟩;have hb:=hd.below;have m1:=ö (blk_below n1.out hb);have m2:=ö (blk_below n2.out hb);have m3:=ö (blk_below n3.out hb);have m4:=ö (below_step n4.out hb);have m7:=ö (Kd.R_below n7.out hb);have m8:=ö (Kd.N_below n8.out hb);have m6:=ö (n6.out.below hb);clear n1 n2 n3 n4 n6 n7 n8 hd hb;have n1:=m1;have n2:=m2;have n3:=m3;have n4:=m4;have n6:=m6;have n7:=m7;have n8:=m8;clear m1 m2 m3 m4 m6 m7 m8) | (go_at_call 14;have hm:=mplay_says k AQ cQ q _ (Kd.N_reads' n8.out).2.2 (Kd.N_reads' n8.out).2.1 HG.out HK.out AP cK (pk.take n2v) (Kd.R_reads' (Kd.R_take n7.out HN3.out)).2.2 (by rw [List.length_take];have:=HN3.out;have:=HCK.out;omega);have el : (pk.take n2v).length = n2v:=(by rw [List.length_take];have:=HN3.out;omega);rw [el] at hm;refine hm.mono ?_;clear hm el;rintro e w13 ⟨u0,u1,u2,u3,u4,vc2,rfl,hpl,hb⟩;have HGB:=ö hpl;have m1:=ö (blk_below n1.out hb);have m2:=ö (blk_below n2.out hb);have m3:=ö (blk_below n3.out hb);have m4:=ö (below_step n4.out hb);have HGA:=ö (n6.out.below hb);clear n1 n2 n3 n4 n6 hpl hb;have n1:=m1;have n2:=m2;have n3:=m3;have n4:=m4;clear m1 m2 m3 m4;obtain ⟨⟨F0,a0,b0,e0⟩,⟨F1,a1,b1,e1⟩,⟨F2,a2,b2,e2⟩,⟨F3,a3,b3,e3⟩,⟨F4,a4,b4,e4⟩⟩:=HGB.out.forms;subst e0;subst e1;subst e2;subst e3;subst e4) | ((with_reducible refine gate_dst (N:=9) rfl ?_);refine box_event ?hg (N:=9) ?hd (cs:=#[.slice none 0 0,.slice none 0 0,.slice none 0 0,.slice none 0 0,.slice none 0 0]) (t:=33) ?hr ?_;(case hd=>rfl);(case hg=>rfl);(case hr=>first | (go_simp;done) | (go_simp;rfl));intro bd hg w14 hbox hb;have NDA:=ö (show ba ≠ bd by rw [hg];exact Nat.ne_of_lt (blk_lt n1.out));have NDB:=ö (show bb ≠ bd by rw [hg];exact Nat.ne_of_lt (blk_lt n2.out));have NDC:=ö (show bc ≠ bd by rw [hg];exact Nat.ne_of_lt (blk_lt n3.out));have GBD:=ö (show w.heap.size ≤ bd by rw [hg];exact n4.out.size);have G14:=ö (Nat.le_of_eq hg.symm);have HB14:=ö hb;have m1:=ö (blk_below n1.out hb);have m2:=ö (blk_below n2.out hb);have m3:=ö (blk_below n3.out hb);have m4:=ö (below_step n4.out hb);clear n1 n2 n3 n4;have n1:=m1;have n2:=m2;have n3:=m3;have n4:=m4;clear m1 m2 m3 m4;have BD:=ö hbox;clear hb hbox hg;obtain ⟨hcy_0,hcy_1,hcy_2,hcy_3,hcy_4,hfy_0,hfy_1,hfy_2,hfy_3,hfy_4⟩:=bz5_ BD))
   have k1:=ö (far_set5 n1.out NDA.out (.slice F0 a0 b0) (.slice F1 a1 b1) (.slice F2 a2 b2) (.slice F3 a3 b3) (.slice F4 a4 b4))
   have k2:=ö (far_set5 n2.out NDB.out (.slice F0 a0 b0) (.slice F1 a1 b1) (.slice F2 a2 b2) (.slice F3 a3 b3) (.slice F4 a4 b4))
   have k3:=ö (far_set5 n3.out NDC.out (.slice F0 a0 b0) (.slice F1 a1 b1) (.slice F2 a2 b2) (.slice F3 a3 b3) (.slice F4 a4 b4))
   have k4:=ö (show (((((w14.setCell ⟨bd,0,none⟩ (.slice F0 a0 b0)).setCell ⟨bd,1,none⟩ (.slice F1 a1 b1)).setCell ⟨bd,2,none⟩ (.slice F2 a2 b2)).setCell ⟨bd,3,none⟩ (.slice F3 a3 b3)).setCell ⟨bd,4,none⟩ (.slice F4 a4 b4)).heap[bd]? = some (.cells #[.slice F0 a0 b0,.slice F1 a1 b1,.slice F2 a2 b2,.slice F3 a3 b3,.slice F4 a4 b4] 33 (0,0)) by apply bp5_4_;apply bp5_3_;apply bp5_2_;apply bp5_1_;apply bp5_0_;exact BD.out)
   have k5:=ö (below_set5 n4.out GBD.out (.slice F0 a0 b0) (.slice F1 a1 b1) (.slice F2 a2 b2) (.slice F3 a3 b3) (.slice F4 a4 b4))
   have k6:=ö (HGB.out.below (below_set5 HB14.out G14.out (.slice F0 a0 b0) (.slice F1 a1 b1) (.slice F2 a2 b2) (.slice F3 a3 b3) (.slice F4 a4 b4)))
   have k7:=ö (HGA.out.below (below_set5 HB14.out G14.out (.slice F0 a0 b0) (.slice F1 a1 b1) (.slice F2 a2 b2) (.slice F3 a3 b3) (.slice F4 a4 b4)))
   clear HGA HGB HB14 n1 n2 n3 n4 BD hcy_0 hcy_1 hcy_2 hcy_3 hcy_4 hfy_0 hfy_1 hfy_2 hfy_3 hfy_4
   generalize (((((w14.setCell ⟨bd,0,none⟩ (.slice F0 a0 b0)).setCell ⟨bd,1,none⟩ (.slice F1 a1 b1)).setCell ⟨bd,2,none⟩ (.slice F2 a2 b2)).setCell ⟨bd,3,none⟩ (.slice F3 a3 b3)).setCell ⟨bd,4,none⟩ (.slice F4 a4 b4)) = w15 at k1 k2 k3 k4 k5 k6 k7 ⊢
   obtain ⟨hcz_0,hcz_1,hcz_2,hcz_3,hcz_4,hfz_0,hfz_1,hfz_2,hfz_3,hfz_4⟩:=bz5_ k1
   obtain ⟨hcx_0,hcx_1,hcx_2,hcx_3,hcx_4,hfx_0,hfx_1,hfx_2,hfx_3,hfx_4⟩:=bz5_ k2
   obtain ⟨hcq_0,hcq_1,hcq_2,hcq_3,hcq_4,hfq_0,hfq_1,hfq_2,hfq_3,hfq_4⟩:=bz5_ k3
   obtain ⟨hcy_0,hcy_1,hcy_2,hcy_3,hcy_4,hfy_0,hfy_1,hfy_2,hfy_3,hfy_4⟩:=bz5_ k4
   have nab:=NAB.out;have nac:=NBCBA.out;have nbc:=NBCBB.out;have nad:=NDA.out;have nbd:=NDB.out;have ncd:=NDC.out
   have nba:=nab.symm;have nca:=nac.symm;have ncb:=nbc.symm;have nda:=nad.symm;have ndb:=nbd.symm;have ndc:=ncd.symm
   go_region_held3 (fun w'=>w'.cell? ⟨bc,0,none⟩ = some (.slice E0 m0 i0) ∧ w'.cell? ⟨bc,1,none⟩ = some (.slice E1 m1 i1) ∧ w'.cell? ⟨bc,2,none⟩ = some (.slice E2 m2 i2) ∧ w'.cell? ⟨bc,3,none⟩ = some (.slice E3 m3 i3) ∧ w'.cell? ⟨bc,4,none⟩ = some (.slice E4 m4 i4) ∧ w'.cell? ⟨bd,0,none⟩ = some (.slice F0 a0 b0) ∧ w'.cell? ⟨bd,1,none⟩ = some (.slice F1 a1 b1) ∧ w'.cell? ⟨bd,2,none⟩ = some (.slice F2 a2 b2) ∧ w'.cell? ⟨bd,3,none⟩ = some (.slice F3 a3 b3) ∧ w'.cell? ⟨bd,4,none⟩ = some (.slice F4 a4 b4)) (go_keep) (fail)
   have f1 : (((((w15.setCell ⟨ba,0,none⟩ (.slice E0 m0 i0)).setCell ⟨ba,1,none⟩ (.slice E1 m1 i1)).setCell ⟨ba,2,none⟩ (.slice E2 m2 i2)).setCell ⟨ba,3,none⟩ (.slice E3 m3 i3)).setCell ⟨ba,4,none⟩ (.slice E4 m4 i4)).heap[ba]? = some (.cells #[.slice E0 m0 i0,.slice E1 m1 i1,.slice E2 m2 i2,.slice E3 m3 i3,.slice E4 m4 i4] 33 (0,0)):=by apply bp5_4_;apply bp5_3_;apply bp5_2_;apply bp5_1_;apply bp5_0_;exact k1.out
   have f2 : (((((w15.setCell ⟨ba,0,none⟩ (.slice E0 m0 i0)).setCell ⟨ba,1,none⟩ (.slice E1 m1 i1)).setCell ⟨ba,2,none⟩ (.slice E2 m2 i2)).setCell ⟨ba,3,none⟩ (.slice E3 m3 i3)).setCell ⟨ba,4,none⟩ (.slice E4 m4 i4)).heap[bb]? = some (.cells #[.slice none 0 0,.slice none 0 0,.slice none 0 0,.slice none 0 0,.slice none 0 0] 33 (0,0)):=far_set5 k2.out nba (.slice E0 m0 i0) (.slice E1 m1 i1) (.slice E2 m2 i2) (.slice E3 m3 i3) (.slice E4 m4 i4)
   have f3 : ((((((((((w15.setCell ⟨ba,0,none⟩ (.slice E0 m0 i0)).setCell ⟨ba,1,none⟩ (.slice E1 m1 i1)).setCell ⟨ba,2,none⟩ (.slice E2 m2 i2)).setCell ⟨ba,3,none⟩ (.slice E3 m3 i3)).setCell ⟨ba,4,none⟩ (.slice E4 m4 i4)).setCell ⟨bb,0,none⟩ (.slice F0 a0 b0)).setCell ⟨bb,1,none⟩ (.slice F1 a1 b1)).setCell ⟨bb,2,none⟩ (.slice F2 a2 b2)).setCell ⟨bb,3,none⟩ (.slice F3 a3 b3)).setCell ⟨bb,4,none⟩ (.slice F4 a4 b4)).heap[ba]? = some (.cells #[.slice E0 m0 i0,.slice E1 m1 i1,.slice E2 m2 i2,.slice E3 m3 i3,.slice E4 m4 i4] 33 (0,0)):=far_set5 f1 nab (.slice F0 a0 b0) (.slice F1 a1 b1) (.slice F2 a2 b2) (.slice F3 a3 b3) (.slice F4 a4 b4)
   have f4 : ((((((((((w15.setCell ⟨ba,0,none⟩ (.slice E0 m0 i0)).setCell ⟨ba,1,none⟩ (.slice E1 m1 i1)).setCell ⟨ba,2,none⟩ (.slice E2 m2 i2)).setCell ⟨ba,3,none⟩ (.slice E3 m3 i3)).setCell ⟨ba,4,none⟩ (.slice E4 m4 i4)).setCell ⟨bb,0,none⟩ (.slice F0 a0 b0)).setCell ⟨bb,1,none⟩ (.slice F1 a1 b1)).setCell ⟨bb,2,none⟩ (.slice F2 a2 b2)).setCell ⟨bb,3,none⟩ (.slice F3 a3 b3)).setCell ⟨bb,4,none⟩ (.slice F4 a4 b4)).heap[bb]? = some (.cells #[.slice F0 a0 b0,.slice F1 a1 b1,.slice F2 a2 b2,.slice F3 a3 b3,.slice F4 a4 b4] 33 (0,0)):=by apply bp5_4_;apply bp5_3_;apply bp5_2_;apply bp5_1_;apply bp5_0_;exact f2
   have F3_:=ö f3
   have F4_:=ö f4
   have P1:=ö (((k7.out.set5 k1.out (.slice E0 m0 i0) (.slice E1 m1 i1) (.slice E2 m2 i2) (.slice E3 m3 i3) (.slice E4 m4 i4)).set5 f2 (.slice F0 a0 b0) (.slice F1 a1 b1) (.slice F2 a2 b2) (.slice F3 a3 b3) (.slice F4 a4 b4)).good HLK.out)
   have P2:=ö (((k6.out.set5 k1.out (.slice E0 m0 i0) (.slice E1 m1 i1) (.slice E2 m2 i2) (.slice E3 m3 i3) (.slice E4 m4 i4)).set5 f2 (.slice F0 a0 b0) (.slice F1 a1 b1) (.slice F2 a2 b2) (.slice F3 a3 b3) (.slice F4 a4 b4)).good (Nat.le_trans HN3.out HLK.out))
   have P3:=ö (below_set5 (below_set5 k5.out GBA.out (.slice E0 m0 i0) (.slice E1 m1 i1) (.slice E2 m2 i2) (.slice E3 m3 i3) (.slice E4 m4 i4)) GBB.out (.slice F0 a0 b0) (.slice F1 a1 b1) (.slice F2 a2 b2) (.slice F3 a3 b3) (.slice F4 a4 b4))
   clear f1 f2 f3 f4
   rename_i hHeld
   clear hHeld
   go_wp2
   refine bodyPost_ret (results_cc rfl _ _ ba bb 33 33 #[.slice E0 m0 i0,.slice E1 m1 i1,.slice E2 m2 i2,.slice E3 m3 i3,.slice E4 m4 i4] #[.slice F0 a0 b0,.slice F1 a1 b1,.slice F2 a2 b2,.slice F3 a3 b3,.slice F4 a4 b4] (0,0) (0,0) _ _ rfl (blk_drew F3_.out) Try.underlying33 rfl (by kernel_rfl) rfl (blk_drew F4_.out) Try.underlying33 rfl (by kernel_rfl)) rfl ?_
   exact ⟨_,_,_,_,_,_,_,_,_,_,rfl,P1.out.below (below_drew1 (Below.refl _ _)),P2.out.below (below_drew1 (Below.refl _ _)),below_drew1 P3.out⟩
end Go.Proofs.Ytfbocgagfodgnaa.P
