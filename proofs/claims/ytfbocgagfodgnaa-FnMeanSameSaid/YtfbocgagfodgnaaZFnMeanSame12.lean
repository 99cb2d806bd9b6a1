/- Parts of the proof of FnMeanSame: plain Lean functions of Go functions, and that the calls come to what they say; no condition beyond those that each theorem names. -/
import Derived.Test.YtfbocgagfodgnaaZFnMeanSame10
import Derived.Test.YtfbocgagfodgnaaZFnMeanSame6
import Derived.Test.YtfbocgagfodgnaaZFnMeanSame8
import Derived.Test.YtfbocgagfodgnaaZFnMeanSame5
import Derived.Test.YtfbocgagfodgnaaZFnMeanSame4
import Derived.Test.YtfbocgagfodgnaaZFnMeanSame11
namespace Go.Proofs.Ytfbocgagfodgnaa.P
open Go.RowKit Go.Proofs.YtfbocgagfodgnaaW.PrintWords Go.Proofs.YtfbocgagfodgnaaW.PrintMore
set_option linter.unusedVariables false
set_option linter.unusedSimpArgs false
def SL (d : Nat) (l : List S69) : Prop:=l.length ≤ 1048576 ∧ ∀ x ∈ l,smallS d x
theorem SL.kids {d : Nat} {l : List S69} (h : SL (d + 1) l) {x : S69} (hx : x ∈ l) : SL d x.f4 ∧ SL d x.f5:=h.2 x hx
def dep : Nat → List S69 → Prop
 | 0,l=>l = []
 | d + 1,l=>∀ x ∈ l,dep d x.f4 ∧ dep d x.f5
def cntL : Nat → List S69 → Nat
 | 0,_=>0
 | d + 1,l=>(l.map fun x=>1 + cntL d x.f4 + cntL d x.f5).sum
theorem wrap_l (a b : Int) : wrap64 (wrap64 a + b) = wrap64 (a + b):=by unfold wrap64;omega
theorem wrap_r (a b : Int) : wrap64 (a + wrap64 b) = wrap64 (a + b):=by unfold wrap64;omega
theorem many_loop (d : Nat) (l : List S69) (hl : l.length ≤ 1048576) (hd : d ≤ 1000) (h : ∀ x ∈ l,Ev (fun k=>spec_l2Many.f k x.f4 (d : Int)) (wrap64 (cntL d x.f4)) ∧ Ev (fun k=>spec_l2Many.f k x.f5 (d : Int)) (wrap64 (cntL d x.f5))) (e : Nat) : ∀ (i n : Nat),i + e = l.length →
  Ev (fun k=>spec_l2Many.l0 k l ((d + 1 : Nat) : Int) (wrap64 (n : Int)) (i : Int)) (wrap64 ((n + ((l.drop i).map fun x=>1 + cntL d x.f4 + cntL d x.f5).sum : Nat) : Int)):=by
 have ew : wrap64 (((d + 1 : Nat) : Int) - 1) = (d : Int):=by rw [wrap_id (by omega) (by omega)];omega
 induction e with
 | zero =>
  intro i n hi
  rw [List.drop_of_length_le (by omega)]
  refine Evs.succ (fun k=>by simp only [spec_l2Many.l0];rfl) ?_
  refine Evs.ite_neg (by omega) (Evs.succ (fun k=>by simp only [spec_l2Many.j1];rfl) (Evs.ite_neg (by simp) ?_))
  simpa using Evs.some_ _
 | succ e ih =>
  intro i n hi
  have hlt : i < l.length:=by omega
  obtain ⟨h4,h5⟩:=h _ (rd_mem hlt)
  rw [drop_rd l hlt]
  rw [List.map_cons,List.sum_cons]
  refine Evs.succ (fun k=>by simp only [spec_l2Many.l0];rfl) ?_
  refine Evs.ite_pos (by omega) ?_
  rw [decide_eq_true (show ((d + 1 : Nat) : Int) > 0 by omega)]
  refine Evs.succ (fun k=>by simp only [spec_l2Many.j1,ew];rfl) ?_
  refine Evs.ite_pos (by trivial) (Evs.ite_pos (by omega) (Evs.ite_pos (by omega) (Evs.bind h4 (Evs.bind h5 ?_))))
  rw [wrap_succ (by omega)]
  have q:=ih (i + 1) (n + (1 + cntL d (rd_T69 l (i : Int)).f4 + cntL d (rd_T69 l (i : Int)).f5)) (by omega)
  have e1 : wrap64 (wrap64 (wrap64 (wrap64 (n : Int) + 1) + wrap64 (cntL d (rd_T69 l (i : Int)).f4)) + wrap64 (cntL d (rd_T69 l (i : Int)).f5)) = wrap64 ((n + (1 + cntL d (rd_T69 l (i : Int)).f4 + cntL d (rd_T69 l (i : Int)).f5) : Nat) : Int):=by
   generalize cntL d (rd_T69 l (i : Int)).f4 = a
   generalize cntL d (rd_T69 l (i : Int)).f5 = b
   have s1 : wrap64 (wrap64 (n : Int) + 1) = wrap64 ((n : Int) + 1):=wrap_l _ _
   have s2 : wrap64 (wrap64 ((n : Int) + 1) + wrap64 (a : Int)) = wrap64 ((n : Int) + 1 + a):=(wrap_l _ _).trans (wrap_r _ _)
   have s3 : wrap64 (wrap64 ((n : Int) + 1 + a) + wrap64 (b : Int)) = wrap64 ((n : Int) + 1 + a + b):=(wrap_l _ _).trans (wrap_r _ _)
   rw [s1,s2,s3]
   congr 1
   push_cast
   omega
  rw [e1,show n + (1 + cntL d (rd_T69 l (i : Int)).f4 + cntL d (rd_T69 l (i : Int)).f5 + (List.map (fun x=>1 + cntL d x.f4 + cntL d x.f5) (List.drop (i + 1) l)).sum) = n + (1 + cntL d (rd_T69 l (i : Int)).f4 + cntL d (rd_T69 l (i : Int)).f5) + (List.map (fun x=>1 + cntL d x.f4 + cntL d x.f5) (List.drop (i + 1) l)).sum by omega]
  exact q
theorem many_ev : ∀ (d : Nat),d ≤ 1000 → ∀ l,SL d l → Ev (fun k=>spec_l2Many.f k l (d : Int)) (wrap64 (cntL d l))
 | 0,_,l,h=>by
  refine Evs.succ (fun k=>by simp only [spec_l2Many.f];rfl) (Evs.succ (fun k=>by simp only [spec_l2Many.l0];rfl) ?_)
  have e : wrap64 ((cntL 0 l : Nat) : Int) = 0:=by simp [cntL,wrap64]
  rw [e]
  have j : Ev (fun k=>spec_l2Many.j1 k l ((0 : Nat) : Int) 0 0 false) 0:=Evs.succ (fun k=>by simp only [spec_l2Many.j1];rfl) (Evs.ite_neg (by simp) (Evs.some_ _))
  by_cases c : (0 : Int) < (l.length : Int)
  ·exact Evs.ite_pos c j
  ·exact Evs.ite_neg c j
 | d + 1,hd,l,h=>by
  refine Evs.succ (fun k=>by simp only [spec_l2Many.f];rfl) ?_
  have q:=many_loop d l h.1 (by omega) (fun x hx=>⟨many_ev d (by omega) x.f4 (h.kids hx).1,many_ev d (by omega) x.f5 (h.kids hx).2⟩) l.length 0 0 (by omega)
  have e : wrap64 ((0 : Nat) : Int) = 0:=by simp [wrap64]
  rw [e] at q
  simpa [cntL] using q
def okList (l : List S69) : Bool:=l.all fun x=>okS 3 x (-1)
def okLst (l : List S69) : Bool:=okList l && decide (wrap64 (cntL 3 l) ≤ 14)
def manyV (l : List S69) : Int:=if okLst l = true then wrap64 (cntL 3 l) else 0
theorem specList3 {l : List S69} (h : SL 3 l) : Ev (fun k=>spec_l2List.f k l 3 (-1)) (okList l):=by
 have e:=specList_of 3 (by omega) (specStmt_ev 3 (by omega)) l (-1) (by omega) h.1 h.2
 rwa [show ((3 : Nat) : Int) = 3 from rfl] at e
theorem many3 {l : List S69} (h : SL 3 l) : Ev (fun k=>spec_l2Many.f k l 3) (wrap64 (cntL 3 l)):=by
 have e:=many_ev 3 (by omega) l h
 rwa [show ((3 : Nat) : Int) = 3 from rfl] at e
theorem specOk {l : List S69} (h : SL 3 l) : Ev (fun k=>spec_StmtsOk.f k l) (okLst l):=by
 unfold spec_StmtsOk.f okLst
 exact Evs.bind (specList3 h) (ev_band fun _=>Evs.bind (many3 h) (Evs.some_ _))
theorem okLst_list {l : List S69} (h : okLst l = true) : okList l = true:=by
 unfold okLst at h
 rw [Bool.and_eq_true] at h
 exact h.1
end Go.Proofs.Ytfbocgagfodgnaa.P

namespace Go.Proofs.Ytfbocgagfodgnaa.P
open Go.RowKit Go.Proofs.YtfbocgagfodgnaaW.PrintWords Go.Proofs.YtfbocgagfodgnaaW.PrintLast Go.Proofs.YtfbocgagfodgnaaW.PrintMore
set_option linter.unusedVariables false
set_option linter.unusedSimpArgs false
def VX (x : S69) (room : Int) : Prop:=∃ d,d ≤ 3 ∧ okS d x room = true ∧ smallS d x
def TOK : List S69 → Int → Prop
 | [],_=>True
 | x :: r,room=>((∃ a : Int,x = ⟨12,a,0,0,[],[]⟩ ∧ 0 ≤ a ∧ a < 2) ∧ TOK r (-1)) ∨ (VX x room ∧ TOK r room)
theorem TOK.app {r : List S69} {room : Int} (h : TOK r room) : ∀ l : List S69,(∀ x ∈ l,VX x room) → TOK (l ++ r) room
 | [],_=>h
 | x :: l,hl=>.inr ⟨hl x (List.mem_cons_self ..),TOK.app h l fun y hy=>hl y (List.mem_cons_of_mem _ hy)⟩
structure PV (p : S51) : Prop where
 md : p.f2 = 0 ∨ p.f2 = 1 ∨ p.f2 = 2
 rm : p.f4 = -1 ∨ (0 ≤ p.f4 ∧ p.f4 < 2)
 wt : p.f2 ≠ 0 → 0 ≤ p.f4
 td : TOK p.f1 p.f4
structure VS (n : Nat) (ps : List S51) (qs : List (List Int)) (ys : List S38) : Prop where
 p0 : 0 < ps.length
 p3 : ps.length ≤ 3
 q2 : qs.length = 2
 pv : ∀ p ∈ ps,PV p
 tl : ∀ p ∈ ps,p.f1.length ≤ (n + 1) * 1100000
 nd : qs.flatten.Nodup
 iq : ∀ x ∈ qs.flatten,∃ i,∃ h : i < ps.length,x = (i : Int) ∧ ps[i].f2 = 1
 ql : ∀ q ∈ qs,q.length ≤ n
 yl : ys.length ≤ n
 yw : ∀ y ∈ ys,0 ≤ y.f0 ∧ y.f0 < ps.length
theorem mem_set {α : Type} {l : List α} {i : Nat} {p x : α} (h : x ∈ l.set i p) : x = p ∨ x ∈ l:=by
 rcases List.mem_or_eq_of_mem_set h with h | h
 ·exact .inr h
 ·exact .inl h
theorem VS.set {n : Nat} {ps : List S51} {qs : List (List Int)} {ys : List S38} (hv : VS n ps qs ys) (who : Nat) (hw : who < ps.length) (p : S51) (hp : PV p) (hl : p.f1.length ≤ (n + 2) * 1100000) (hq : ps[who].f2 = 1 → p.f2 = 1) : VS (n + 1) (ps.set who p) qs ys:=by
 refine ⟨by simpa using hv.p0,by simpa using hv.p3,hv.q2,fun x hx=>?_,fun x hx=>?_,hv.nd,fun x hx=>?_,fun q h=>Nat.le_succ_of_le (hv.ql q h),Nat.le_succ_of_le hv.yl,fun y hy=>by simpa using hv.yw y hy⟩
 ·rcases mem_set hx with rfl | h
  ·exact hp
  ·exact hv.pv x h
 ·rcases mem_set hx with rfl | h
  ·exact hl
  ·exact Nat.le_trans (hv.tl x h) (Nat.mul_le_mul_right _ (by omega))
 ·obtain ⟨i,h,e,e1⟩:=hv.iq x hx
  refine ⟨i,by simpa using h,e,?_⟩
  by_cases ei : who = i
  ·subst ei
   rw [List.getElem_set_self]
   exact hq e1
  ·rw [List.getElem_set_ne ei]
   exact e1
theorem VS.said {n : Nat} {ps : List S51} {qs : List (List Int)} {ys : List S38} (hv : VS (n + 1) ps qs ys) (hy : ys.length ≤ n) (y : S38) (h : 0 ≤ y.f0 ∧ y.f0 < ps.length) : VS (n + 1) ps qs (ys ++ [y]) :=
 ⟨hv.p0,hv.p3,hv.q2,hv.pv,hv.tl,hv.nd,hv.iq,hv.ql,by simp;omega,fun z hz=>by
  rcases List.mem_append.1 hz with hz | hz
  ·exact hv.yw z hz
  ·obtain rfl:=List.mem_singleton.1 hz
   exact h⟩
theorem two_of {α : Type} {l : List α} (h : l.length = 2) : ∃ a b,l = [a,b]:=by
 match l,h with
 | [a,b],_=>exact ⟨a,b,rfl⟩
theorem VS.back {n : Nat} {ps : List S51} {qs : List (List Int)} {ys : List S38} (hv : VS n ps qs ys) (s : Nat) (hs : s < qs.length) (i : Nat) (hi : i < ps.length) (l : List Int) (hq : qs[s] = (i : Int) :: l) : VS n (ps.set i ⟨ps[i].f0,ps[i].f1,2,0,ps[i].f4⟩) (qs.set s l) ys:=by
 have hmem : ∀ x,x ∈ (qs.set s l).flatten → x ∈ qs.flatten ∧ x ≠ (i : Int):=by
  have hn:=hv.nd
  obtain ⟨q0,q1,e⟩:=two_of hv.q2
  subst e
  intro x hx
  rcases (show s = 0 ∨ s = 1 by simp at hs;omega) with rfl | rfl
  ·
   have e0 : q0 = (i : Int) :: l:=hq
   subst e0
   simp only [List.flatten_cons,List.flatten_nil,List.append_nil,List.cons_append,List.nodup_cons,List.mem_append] at hn
   simp only [List.set_cons_zero,List.flatten_cons,List.flatten_nil,List.append_nil,List.mem_append] at hx
   refine ⟨by simp;exact .inr hx,fun e=>?_⟩
   subst e
   exact hn.1 hx
  ·
   have e0 : q1 = (i : Int) :: l:=hq
   subst e0
   simp only [List.flatten_cons,List.flatten_nil,List.append_nil,List.nodup_append,List.nodup_cons] at hn
   simp only [List.set_cons_succ,List.set_cons_zero,List.flatten_cons,List.flatten_nil,List.append_nil,List.mem_append] at hx
   refine ⟨by simp;rcases hx with h | h;exact .inl h;exact .inr (.inr h),fun e=>?_⟩
   subst e
   rcases hx with hx | hx
   ·exact hn.2.2 _ hx _ (List.mem_cons_self ..) rfl
   ·exact hn.2.1.1 hx
 have hin : (i : Int) ∈ qs.flatten:=List.mem_flatten.2 ⟨qs[s],List.getElem_mem hs,by rw [hq];exact List.mem_cons_self ..⟩
 have hf2 : ps[i].f2 = 1:=by
  obtain ⟨j,hj,e,e1⟩:=hv.iq _ hin
  obtain rfl : i = j:=by omega
  exact e1
 have hpi:=hv.pv _ (List.getElem_mem hi)
 refine ⟨by simpa using hv.p0,by simpa using hv.p3,by simpa using hv.q2,fun x hx=>?_,fun x hx=>?_,?_,fun x hx=>?_,fun q h=>?_,hv.yl,fun y hy=>by simpa using hv.yw y hy⟩
 ·rcases mem_set hx with rfl | h
  ·exact ⟨.inr (.inr rfl),hpi.rm,fun _=>hpi.wt (by rw [hf2];decide),hpi.td⟩
  ·exact hv.pv x h
 ·rcases mem_set hx with rfl | h
  ·exact (show ps[i].f1.length ≤ _ from hv.tl _ (List.getElem_mem hi))
  ·exact hv.tl x h
 ·have hn:=hv.nd
  obtain ⟨q0,q1,e⟩:=two_of hv.q2
  subst e
  rcases (show s = 0 ∨ s = 1 by simp at hs;omega) with rfl | rfl
  ·
   have e0 : q0 = (i : Int) :: l:=hq
   subst e0
   simp only [List.flatten_cons,List.flatten_nil,List.append_nil,List.cons_append,List.nodup_cons] at hn
   simpa using hn.2
  ·
   have e0 : q1 = (i : Int) :: l:=hq
   subst e0
   simp only [List.flatten_cons,List.flatten_nil,List.append_nil,List.nodup_append,List.nodup_cons] at hn
   simp only [List.set_cons_succ,List.set_cons_zero,List.flatten_cons,List.flatten_nil,List.append_nil,List.nodup_append]
   exact ⟨hn.1,hn.2.1.2,fun a ha b hb=>hn.2.2 a ha b (List.mem_cons_of_mem _ hb)⟩
 ·obtain ⟨h1,h2⟩:=hmem x hx
  obtain ⟨j,hj,e,e1⟩:=hv.iq x h1
  refine ⟨j,by simpa using hj,e,?_⟩
  rw [List.getElem_set_ne (fun e2=>h2 (by rw [e,e2]))]
  exact e1
 ·rcases mem_set h with rfl | h
  ·have:=hv.ql _ (List.getElem_mem hs)
   rw [hq] at this
   simp at this
   omega
  ·exact hv.ql q h
theorem VS.wait {n : Nat} {ps : List S51} {qs : List (List Int)} {ys : List S38} (hv : VS n ps qs ys) (who : Nat) (hw : who < ps.length) (h0 : ps[who].f2 = 0) (p : S51) (hp : PV p) (h1 : p.f2 = 1) (hl : p.f1.length ≤ (n + 2) * 1100000) (s : Nat) (hs : s < qs.length) : VS (n + 1) (ps.set who p) (qs.set s (qs[s] ++ [(who : Int)])) ys:=by
 have hz:=hv.set who hw p hp hl (fun e=>by omega)
 have hni : (who : Int) ∉ qs.flatten:=fun hm=>by
  obtain ⟨j,hj,e,e1⟩:=hv.iq _ hm
  obtain rfl : who = j:=by omega
  omega
 have hmem : ∀ x,x ∈ (qs.set s (qs[s] ++ [(who : Int)])).flatten → x ∈ qs.flatten ∨ x = (who : Int):=by
  intro x hx
  obtain ⟨q,hq,hxq⟩:=List.mem_flatten.1 hx
  rcases mem_set hq with rfl | h
  ·rcases List.mem_append.1 hxq with h | h
   ·exact .inl (List.mem_flatten.2 ⟨_,List.getElem_mem hs,h⟩)
   ·exact .inr (List.mem_singleton.1 h)
  ·exact .inl (List.mem_flatten.2 ⟨q,h,hxq⟩)
 refine ⟨hz.p0,hz.p3,by simpa using hz.q2,hz.pv,hz.tl,?_,fun x hx=>?_,fun q h=>?_,hz.yl,hz.yw⟩
 ·have hn:=hv.nd
  obtain ⟨q0,q1,e⟩:=two_of hv.q2
  subst e
  simp only [List.flatten_cons,List.flatten_nil,List.append_nil,List.mem_append,not_or] at hni
  simp only [List.flatten_cons,List.flatten_nil,List.append_nil,List.nodup_append] at hn
  rcases (show s = 0 ∨ s = 1 by simp at hs;omega) with rfl | rfl
  ·
   simp only [List.getElem_cons_zero,List.set_cons_zero,List.flatten_cons,List.flatten_nil,List.append_nil,List.nodup_append,List.mem_append,List.mem_singleton]
   refine ⟨⟨hn.1,by simp,fun a ha b hb=>by subst hb;intro e;subst e;exact hni.1 ha⟩,hn.2.1,fun a ha b hb=>?_⟩
   rcases ha with ha | ha
   ·exact hn.2.2 a ha b hb
   ·intro e
    subst e;subst ha
    exact hni.2 hb
  ·
   simp only [List.getElem_cons_succ,List.getElem_cons_zero,List.set_cons_succ,List.set_cons_zero,List.flatten_cons,List.flatten_nil,List.append_nil,List.nodup_append,List.mem_append,List.mem_singleton]
   refine ⟨hn.1,⟨hn.2.1,by simp,fun a ha b hb=>by subst hb;intro e;subst e;exact hni.2 ha⟩,fun a ha b hb=>?_⟩
   rcases hb with hb | hb
   ·exact hn.2.2 a ha b hb
   ·intro e
    subst e;subst hb
    exact hni.1 ha
 ·rcases hmem x hx with h | h
  ·obtain ⟨i,hi,e,e1⟩:=hz.iq x h
   exact ⟨i,hi,e,e1⟩
  ·exact ⟨who,by simpa using hw,h,by rw [List.getElem_set_self];exact h1⟩
 ·rcases mem_set h with rfl | h
  ·have:=hv.ql _ (List.getElem_mem hs)
   simp
   omega
  ·exact Nat.le_succ_of_le (hv.ql q h)
def Stepped (lo : Gr) (ow : Nat → Nat) (w : World) (v0 v1 v2 v3 : Value) (n len : Nat) (e : Ending) (w' : World) : Prop :=
 ∃ ow' v4' ps' qs' ys',e = .returned (.agg #[v0,v1,v2,v3,v4']) ∧ SV lo ow' w' v0 v1 v2 v3 v4' ps' qs' ys' ∧ VS (n + 1) ps' qs' ys' ∧ ps'.length = len ∧ (∀ k,k < w.heap.size → ow' k = ow k) ∧ Fr ow w w'
theorem okS_cases {x : S69} {room : Int} (h : VX x room) : (x.f0 = 6 ∧ 0 ≤ x.f1 ∧ x.f1 < 3 ∧ (∀ y ∈ x.f4,VX y room) ∧ ∀ y ∈ x.f5,VX y room) ∨ (x.f0 = 7 ∧ 0 ≤ x.f1 ∧ x.f1 < 3 ∧ (∀ y ∈ x.f4,VX y room) ∧ x.f5 = []) ∨ (x.f0 = 8 ∧ room < 0 ∧ 0 ≤ x.f1 ∧ x.f1 < 2 ∧ (∀ y ∈ x.f4,VX y x.f1) ∧ x.f5 = []) ∨ (x.f0 = 9 ∧ 0 ≤ room ∧ 0 ≤ x.f1 ∧ x.f1 < 2) ∨ (x.f0 = 10 ∧ 0 ≤ x.f1 ∧ x.f1 < 2) ∨ (LeafIn x.f0 x.f1 x.f2 ∧ x.f0 ≠ 6 ∧ x.f0 ≠ 7 ∧ x.f0 ≠ 8 ∧ x.f0 ≠ 9 ∧ x.f0 ≠ 10 ∧ x.f0 ≠ 12):=by
 obtain ⟨d,hd,ho,hs⟩:=h
 cases d with
 | zero=>simp [okS] at ho
 | succ d =>
  have h4 : ∀ m,(∀ y ∈ x.f4,okS d y m = true) → ∀ y ∈ x.f4,VX y m:=fun m hm y hy=>⟨d,by omega,hm y hy,hs.1.2 y hy⟩
  have h5 : ∀ m,(∀ y ∈ x.f5,okS d y m = true) → ∀ y ∈ x.f5,VX y m:=fun m hm y hy=>⟨d,by omega,hm y hy,hs.2.2 y hy⟩
  rw [okS_succ] at ho
  by_cases k6 : x.f0 = 6
  ·rw [if_pos k6] at ho
   simp only [Bool.and_eq_true,List.all_eq_true,inR,decide_eq_true_eq] at ho
   exact .inl ⟨k6,ho.1.1,ho.1.2,h4 _ ho.2.2.2.1,h5 _ ho.2.2.2.2⟩
  rw [if_neg k6] at ho
  by_cases k5 : x.f5.length = 0
  ·have n5:=List.eq_nil_of_length_eq_zero k5
   rw [if_pos k5] at ho
   by_cases k7 : x.f0 = 7
   ·rw [if_pos k7] at ho
    simp only [Bool.and_eq_true,List.all_eq_true,inR,decide_eq_true_eq] at ho
    exact .inr (.inl ⟨k7,ho.1.1,ho.1.2,h4 _ ho.2.2.2,n5⟩)
   rw [if_neg k7] at ho
   by_cases k8 : x.f0 = 8
   ·rw [if_pos k8] at ho
    simp only [Bool.and_eq_true,List.all_eq_true,inR,decide_eq_true_eq] at ho
    exact .inr (.inr (.inl ⟨k8,ho.1,ho.2.1.1,ho.2.1.2,h4 _ ho.2.2.2.2,n5⟩))
   rw [if_neg k8] at ho
   simp only [Bool.and_eq_true,decide_eq_true_eq] at ho
   have hl:=ho.2
   unfold leafOk at hl
   by_cases k9 : x.f0 = 9
   ·simp [k9,inR] at hl
    exact .inr (.inr (.inr (.inl ⟨k9,hl.1,hl.2.1.1,hl.2.1.2⟩)))
   by_cases k10 : x.f0 = 10
   ·simp [k10,inR] at hl
    exact .inr (.inr (.inr (.inr (.inl ⟨k10,hl.1.1,hl.1.2⟩))))
   refine .inr (.inr (.inr (.inr (.inr ⟨⟨fun e=>?_,fun e=>?_,fun e=>?_,fun e=>?_,fun e=>?_⟩,k6,k7,k8,k9,k10,fun e=>?_⟩))))
   ·simp [e,inR] at hl;exact hl.1
   ·simp [e,inR] at hl;exact ⟨hl.1.1,hl.1.2,hl.2.1.1,hl.2.1.2⟩
   ·simp [e,inR] at hl;exact ⟨hl.1.1,hl.1.2,hl.2.1.1,hl.2.1.2⟩
   ·simp [e,inR] at hl;exact ⟨hl.1.1,hl.1.2,hl.2.1.1,hl.2.1.2⟩
   ·simp [e,inR] at hl;exact hl.1
   ·simp [e] at hl
  ·rw [if_neg k5] at ho
   cases ho
theorem VX.small1 {x : S69} {room : Int} (h : VX x room) : x.f4.length ≤ 1048576 ∧ x.f5.length ≤ 1048576:=by
 obtain ⟨d,hd,ho,hs⟩:=h
 cases d with
 | zero=>simp [okS] at ho
 | succ d=>exact ⟨hs.1.1,hs.2.1⟩
theorem l3step_says (lo : Gr) (ow : Nat → Nat) (w : World) (v0 v1 v2 v3 v4 : Value) (ps : List S51) (qs : List (List Int)) (ys : List S38) (h : SV lo ow w v0 v1 v2 v3 v4 ps qs ys) (n : Nat) (hv : VS n ps qs ys) (hn : n ≤ 300) (who : Nat) (hwho : who < ps.length) (hgo : ps[who].f2 = 2 ∨ (ps[who].f2 = 0 ∧ ps[who].f1 ≠ [])) (hlo : lo.n ≤ w.heap.size) :
  Calls Try.prog 31 #[.agg #[v0,v1,v2,v3,v4],.int .i64 who] w fun e w'=>Stepped lo ow w v0 v1 v2 v3 n ps.length e w':=by
 have hp:=hv.pv _ (List.getElem_mem hwho)
 have hl:=hv.tl _ (List.getElem_mem hwho)
 have hp3:=hv.p3
 have hq2:=hv.q2
 have hyl:=hv.yl
 rcases hgo with hm | ⟨hm,hne⟩
 ·have h0:=hp.wt (by rw [hm];decide)
  have h1:=hp.rm
  obtain ⟨ro,hro⟩:=Int.eq_ofNat_of_zero_le h0
  refine (l3step_back lo ow w v0 v1 v2 v3 v4 ps qs ys h who hwho hlo hm ro hro (by omega)).mono ?_
  rintro e w' ⟨rfl,hsv,hfr⟩
  exact ⟨ow,v4,_,qs,ys,rfl,hsv,hv.set who hwho _ ⟨.inl rfl,hp.rm,fun h=>absurd rfl h,hp.td⟩ (Nat.le_trans hl (Nat.mul_le_mul_right _ (by omega))) (fun e=>by omega),by simp,fun _ _=>rfl,hfr⟩
 ·obtain ⟨x,rest,hx⟩:=List.exists_cons_of_ne_nil hne
  have ht:=hp.td
  rw [hx] at ht hl
  have hl' : rest.length + 1 ≤ (n + 1) * 1100000:=hl
  have lr : rest.length ≤ 400000000:=by
   have : (n + 1) * 1100000 ≤ 301 * 1100000:=Nat.mul_le_mul_right _ (by omega)
   omega
  have hsum : (n + 2) * 1100000 = (n + 1) * 1100000 + 1100000:=by rw [← Nat.succ_mul]
  obtain ⟨k,a,b,m,body,els⟩:=x
  rcases ht with ⟨⟨a',ha,ha0,ha1⟩,htr⟩ | ⟨hvx,htr⟩
  ·injection ha with e0 e1 e2 e3 e4 e5
   subst e0;subst e1;subst e2;subst e3;subst e4;subst e5
   refine (l3step_leave lo ow w v0 v1 v2 v3 v4 ps qs ys h who hwho hlo a 0 0 [] [] rest hx hm lr ha0 ha1 (by simp) (by simp)).mono ?_
   rintro e w' ⟨rfl,hsv,hfr⟩
   exact ⟨ow,v4,_,qs,ys,rfl,hsv,hv.set who hwho _ ⟨hp.md,.inl rfl,fun h=>absurd hm h,htr⟩ (by show rest.length ≤ _;omega) (fun e=>by omega),by simp,fun _ _=>rfl,hfr⟩
  ·have hsm:=hvx.small1
   have l4 : body.length ≤ 1048576:=hsm.1
   have l5 : els.length ≤ 1048576:=hsm.2
   rcases okS_cases hvx with ⟨k6,ha0,ha1,h4,h5⟩ | ⟨k7,ha0,ha1,h4,h5⟩ | ⟨k8,hr,ha0,ha1,h4,h5⟩ | ⟨k9,hr,ha0,ha1⟩ | ⟨k10,ha0,ha1⟩ | ⟨hlf,hks⟩
   ·have k6' : k = 6:=k6
    subst k6'
    refine (l3step_if lo ow w v0 v1 v2 v3 v4 ps qs ys h who hwho hlo a b m body els rest hx hm lr ha0 ha1 (by omega) (by omega)).mono ?_
    rintro e w' ⟨lst,rfl,hsv,hfr,hc⟩
    have hlst : TOK lst ps[who].f4 ∧ lst.length ≤ (n + 2) * 1100000:=by
     rcases hc with rfl | rfl | rfl | rfl
     ·exact ⟨TOK.app (show TOK (_ :: rest) _ from .inr ⟨hvx,htr⟩) _ h4,by simp;omega⟩
     ·exact ⟨TOK.app htr _ h4,by simp;omega⟩
     ·exact ⟨TOK.app htr _ h5,by simp;omega⟩
     ·exact ⟨htr,by omega⟩
    exact ⟨ow,v4,_,qs,ys,rfl,hsv,hv.set who hwho _ ⟨hp.md,hp.rm,hp.wt,hlst.1⟩ hlst.2 (fun e=>e),by simp,fun _ _=>rfl,hfr⟩
   ·have k7' : k = 7:=k7
    subst k7'
    have h5' : els = []:=h5
    refine (l3step_while lo ow w v0 v1 v2 v3 v4 ps qs ys h who hwho hlo a b m body els rest hx hm lr ha0 ha1 (by omega) (by omega)).mono ?_
    rintro e w' ⟨lst,rfl,hsv,hfr,hc⟩
    have hlst : TOK lst ps[who].f4 ∧ lst.length ≤ (n + 2) * 1100000:=by
     rcases hc with rfl | rfl | rfl | rfl
     ·exact ⟨TOK.app (show TOK (_ :: rest) _ from .inr ⟨hvx,htr⟩) _ h4,by simp;omega⟩
     ·exact ⟨TOK.app htr _ h4,by simp;omega⟩
     ·exact ⟨TOK.app htr _ (fun y hy=>by rw [h5'] at hy;cases hy),by simp;omega⟩
     ·exact ⟨htr,by omega⟩
    exact ⟨ow,v4,_,qs,ys,rfl,hsv,hv.set who hwho _ ⟨hp.md,hp.rm,hp.wt,hlst.1⟩ hlst.2 (fun e=>e),by simp,fun _ _=>rfl,hfr⟩
   ·have k8' : k = 8:=k8
    subst k8'
    have hroom : ps[who].f4 = -1:=by have:=hp.rm;omega
    rw [hroom] at htr
    refine (l3step_in lo ow w v0 v1 v2 v3 v4 ps qs ys h who hwho hlo a b m body els rest hx hm lr ha0 ha1 (by omega) (by omega)).mono ?_
    rintro e w' ⟨rfl,hsv,hfr⟩
    exact ⟨ow,v4,_,qs,ys,rfl,hsv,hv.set who hwho _ ⟨hp.md,.inr ⟨ha0,ha1⟩,fun h=>absurd hm h,TOK.app (show TOK (⟨12,a,0,0,[],[]⟩ :: rest) a from .inl ⟨⟨a,rfl,ha0,ha1⟩,htr⟩) _ h4⟩ (by simp;omega) (fun e=>by omega),by simp,fun _ _=>rfl,hfr⟩
   ·have k9' : k = 9:=k9
    subst k9'
    obtain ⟨s,hsa⟩:=Int.eq_ofNat_of_zero_le ha0
    obtain ⟨ro,hro⟩:=Int.eq_ofNat_of_zero_le hr
    have hsa' : a = (s : Int):=hsa
    have ha1' : a < 2:=ha1
    have hs : s < qs.length:=by omega
    have hrm:=hp.rm
    refine (l3step_wait lo ow w v0 v1 v2 v3 v4 ps qs ys h who hwho hlo a b m body els rest hx hm lr ha0 ha1 (by omega) (by omega) s hsa' hs (Nat.le_trans (hv.ql _ (List.getElem_mem hs)) (by omega)) ro hro (by omega)).mono ?_
    rintro e w' ⟨rfl,hfr,ow',hsv,hext⟩
    exact ⟨ow',v4,_,_,ys,rfl,hsv,hv.wait who hwho hm ⟨ps[who].f0,rest,1,a,ps[who].f4⟩ ⟨.inr (.inl rfl),hp.rm,fun _=>hr,htr⟩ rfl (by show rest.length ≤ _;omega) s hs,by simp,hext,hfr⟩
   ·have k10' : k = 10:=k10
    subst k10'
    obtain ⟨s,hsa⟩:=Int.eq_ofNat_of_zero_le ha0
    have hsa' : a = (s : Int):=hsa
    have ha1' : a < 2:=ha1
    have hs : s < qs.length:=by omega
    have hv1:=hv.set who hwho ⟨ps[who].f0,rest,ps[who].f2,ps[who].f3,ps[who].f4⟩ ⟨hp.md,hp.rm,hp.wt,htr⟩ (by show rest.length ≤ _;omega) (fun e=>e)
    refine (l3step_signal lo ow w v0 v1 v2 v3 v4 ps qs ys h who hwho hlo a b m body els rest hx hm lr ha0 ha1 (by omega) (by omega) (by omega) (by omega) s hsa' hs (fun y hy=>?_)).mono ?_
    ·obtain ⟨i,hi,e,_⟩:=hv.iq y (List.mem_flatten.2 ⟨_,List.getElem_mem hs,hy⟩)
     omega
    rintro e w' ⟨rfl,hfr,⟨_,hsv⟩ | ⟨i,hi,l,hq,hsv⟩⟩
    ·exact ⟨ow,v4,_,qs,ys,rfl,hsv,hv1,by simp,fun _ _=>rfl,hfr⟩
    ·exact ⟨ow,v4,_,_,ys,rfl,hsv,hv1.back s hs i hi l hq,by simp,fun _ _=>rfl,hfr⟩
   ·have hv1:=hv.set who hwho ⟨ps[who].f0,rest,ps[who].f2,ps[who].f3,ps[who].f4⟩ ⟨hp.md,hp.rm,hp.wt,htr⟩ (by show rest.length ≤ _;omega) (fun e=>e)
    refine (l3step_leaf lo ow w v0 v1 v2 v3 v4 ps qs ys h who hwho hlo k a b m body els rest hx hm lr hlf hks (by omega) (by omega)).mono ?_
    rintro e w' ⟨ow',v4',ys',rfl,hsv,hext,hfr,hys⟩
    refine ⟨ow',v4',_,qs,ys',rfl,hsv,?_,by simp,hext,hfr⟩
    rcases hys with rfl | ⟨z,rfl⟩
    ·exact hv1
    ·exact hv1.said hyl _ (by simp;omega)
def tyTag (t : Nat) : Nat:=if t = 3 then 1 else if t = 51 then 2 else if t = 26 then 3 else if t = 38 then 4 else 0
def owT (n : Nat) (W : World) (k : Nat) : Nat:=if k < n then 0 else match W.heap[k]? with | some (.cells _ t _)=>tyTag t | _=>0
theorem owT_of {n k t : Nat} {W : World} {cs : Array Value} {z : Nat × Nat} (hn : n ≤ k) (h : W.heap[k]? = some (.cells cs t z)) : owT n W k = tyTag t:=by
 unfold owT
 rw [if_neg (by omega),h]
theorem owT_lt {n k : Nat} {W : World} (h : k < n) : owT n W k = 0:=if_pos h
theorem owT_bd {n k : Nat} {W : World} (h : owT n W k ≠ 0) : n ≤ k ∧ k < W.heap.size:=by
 unfold owT at h
 split at h
 ·exact absurd rfl h
 ·refine ⟨by omega,?_⟩
  split at h
  ·next h1=>exact blk_lt h1
  ·exact absurd rfl h
theorem irow_of {n : Nat} {W : World} {v : Value} {xs : List Int} {len : Nat} {ok : Nat → Prop} (h : (Kd.int .i64).R 3 W n ok v xs) (hl : xs.length = len) (hp : 0 < len) : IRow (owT n W) W v len:=by
 subst hl
 obtain ⟨g,cap,e,hb,_,cells,hh⟩:=Kd.R_form h hp
 subst e
 obtain ⟨_,hc,hC⟩:=Kd.R_reads' h
 refine ⟨g,cap,cells,rfl,owT_of hb hh,hc,hh,fun q hq=>?_⟩
 obtain ⟨ad,e,hx⟩:=Kd.at_int hC (q : Int) (by omega) (by omega)
 injection e with e
 subst e
 rw [add_zero_off,blk_cell hh] at hx
 exact ⟨_,by simpa using hx⟩
theorem todo_of {lo : Gr} {n : Nat} {W : World} {ok : Nat → Prop} {t : Value} {xs : List S69} (h : (kE lo).R 69 W n ok t xs) : (kE lo).R 69 W 0 (fun k=>owT n W k = 0) t xs:=by
 refine Kd.R_lower (Kd.R_mono (Kd.R_bound h) fun k hk=>?_) (Nat.zero_le _)
 obtain ⟨_,hn,_,q,hq,cells,hc⟩:=hk
 rw [owT_of hn hc]
 have e : q ∈ [69]:=hq
 rw [List.mem_singleton.1 e]
 decide
theorem SV.of_RO {kd : Kd S51} {lo : Gr} {n : Nat} {W : World} {x0 : List S51} {x1 x2 : List Int} {x3 : List (List Int)} {x4 : List S38} {v0 v1 v2 v3 v4 : Value} (h : RO kd n W x0 x1 x2 x3 x4 v0 v1 v2 v3 v4) (hsz : kd.sz = 5) (h0 : 0 < x0.length) (h1 : x1.length = 3) (h2 : x2.length = 2) (h3 : 0 < x3.length) (h3e : ∀ q ∈ x3,q = [])
  (hP : ∀ p cs,p ∈ x0 → kd.M W n (fun _=>True) p cs → ∃ r t,cs = [r,t,.int .i64 p.f2,.int .i64 p.f3,.int .i64 p.f4] ∧ (Kd.int .i64).R 3 W n (fun _=>True) r p.f0 ∧ p.f0.length = 3 ∧ (kE lo).R 69 W n (fun _=>True) t p.f1)
  (hn : lo.n ≤ n) (ha : Ag lo W) (hz : ∀ k,lo.S k → k < lo.w.heap.size → k < n ∨ ∃ cells z,W.heap[k]? = some (.cells cells 69 z)) (hs : lo.w.heap.size ≤ W.heap.size) : SV lo (owT n W) W v0 v1 v2 v3 v4 x0 x3 x4:=by
 refine ⟨fun k hk=>⟨Nat.le_trans hn (owT_bd hk).1,(owT_bd hk).2⟩,?_,irow_of h.r1 h1 (by decide),irow_of h.r2 h2 (by decide),?_,?_,ha,fun k hk hl=>?_,hs⟩
 ·obtain ⟨g,cap,e,hb,_,cells,hh⟩:=Kd.R_form h.r0 h0
  have h':=h.r0
  subst e
  obtain ⟨_,hc,hC⟩:=Kd.R_reads' h'
  refine ⟨g,cap,cells,rfl,(owT_of hb hh).trans (by decide),hc,hh,fun i hi=>?_⟩
  obtain ⟨cs,_,hM,hcell,_⟩:=Kd.R_elem h' (x0[i]) (i : Int) (by omega) (by omega)
  have ex : x0.getD (i : Int).toNat x0[i] = x0[i]:=by simp [List.getD_eq_getElem?_getD,List.getElem?_eq_getElem hi]
  rw [ex] at hM
  obtain ⟨r,t,rfl,hr,hl,ht⟩:=hP x0[i] cs (List.getElem_mem hi) (kd.M_mono (fun _ _=>trivial) hM)
  rw [hsz] at hcell
  have hx : ∀ j u,[r,t,Value.int .i64 x0[i].f2,Value.int .i64 x0[i].f3,Value.int .i64 x0[i].f4][j]? = some u → cells[i * 5 + j]? = some u:=fun j u hu=>by
   have:=hcell j u hu
   rw [blk_cell hh] at this
   simpa using this
  exact ⟨r,t,hx 0 _ rfl,hx 1 _ rfl,hx 2 _ rfl,hx 3 _ rfl,hx 4 _ rfl,irow_of hr hl (by decide),todo_of ht⟩
 ·obtain ⟨g,cap,e,hb,_,cells,hh⟩:=Kd.R_form h.r3 h3
  have h':=h.r3
  subst e
  obtain ⟨_,hc,hC⟩:=Kd.R_reads' h'
  refine ⟨g,cap,cells,rfl,(owT_of hb hh).trans (by decide),hc,hh,fun j hj=>?_⟩
  obtain ⟨cs,_,hM,hcell,_⟩:=Kd.R_elem h' (x3[j]) (j : Int) (by omega) (by omega)
  have ex : x3.getD (j : Int).toNat x3[j] = x3[j]:=by simp [List.getD_eq_getElem?_getD,List.getElem?_eq_getElem hj]
  rw [ex] at hM
  have e0:=h3e x3[j] (List.getElem_mem hj)
  obtain ⟨A,rfl⟩:=hM.2 e0
  have hu:=hcell 0 _ rfl
  rw [blk_cell hh] at hu
  refine ⟨.slice A 0 0,?_,.inl ⟨e0,A,rfl⟩⟩
  have e1 : (j : Int).toNat * kQ.sz + 0 = j:=by show (j : Int).toNat * 1 + 0 = j;simp
  rw [e1] at hu
  exact hu
 ·refine Kd.R_lower (Kd.R_mono (Kd.R_bound h.r4) fun k hk=>?_) (Nat.zero_le _)
  obtain ⟨_,hn,_,q,hq,cells,hc⟩:=hk
  rw [owT_of hn hc]
  have e : q ∈ [38]:=hq
  rw [List.mem_singleton.1 e]
  decide
 ·rcases hz k hk hl with h5 | ⟨cells,z,h5⟩
  ·exact owT_lt h5
  ·by_cases hkn : k < n
   ·exact owT_lt hkn
   ·rw [owT_of (by omega) h5]
    decide
theorem R_to {d d' : Kd S69} {n : Nat} {W : World} {ok : Nat → Prop} {v : Value} {xs : List S69} (hsz : d'.sz = d.sz) (h : d.R 69 W n ok v xs) (hM : ∀ x cs,d.M W n (fun k=>ok k ∧ some k ≠ v.ownBlock) x cs → d'.M W n (fun k=>ok k ∧ some k ≠ v.ownBlock) x cs) : d'.R 69 W n ok v xs:=by
 obtain ⟨h0,inner,ho,hr⟩:=h
 refine ⟨h0,inner,?_,?_⟩
 ·rw [hsz];exact ho
 ·rw [hsz];exact hr.imp_ (fun x cs hp=>hM x cs hp)
theorem FK_all {w : World} {x : S69} {cs : List Value} (h : k69.K w x cs) : Kd.FK k69 w (fun _=>True) x cs:=fun W' hW=>k69_heap.K (fun k hlt=>hW k trivial hlt) h
def grOld (n : Nat) (wf : World) : Gr:=⟨n,wf,fun _=>True⟩
theorem kPf_procs {wf W : World} {n m : Nat} (p : S51) (cs : List Value) (h : (kPf wf).M W n (fun _=>True) p cs) : ∃ r t,cs = [r,t,.int .i64 p.f2,.int .i64 p.f3,.int .i64 p.f4] ∧ (Kd.int .i64).R 3 W n (fun _=>True) r p.f0 ∧ (kE (grOld m wf)).R 69 W n (fun _=>True) t p.f1:=by
 obtain ⟨_,_,rfl,⟨r,rfl,hr⟩,⟨_,_,rfl,⟨t,rfl,ht⟩,⟨_,_,rfl,rfl,⟨_,_,rfl,rfl,rfl⟩⟩⟩⟩:=h
 exact ⟨r,t,rfl,hr,R_to (by rfl) ht fun x cs hx=>show Kd.FK k69 wf (fun _=>True) x cs from FK_all (show k69.K wf x cs from hx)⟩
def grOwn (n : Nat) (W : World) : Gr:=⟨n,W,fun k=>n ≤ k ∧ ∃ cells,W.heap[k]? = some (.cells cells 69 (0,0))⟩
theorem k59_procs {W : World} {n : Nat} (p : S51) (cs : List Value) (h : k51.M W n (fun _=>True) p cs) : ∃ r t,cs = [r,t,.int .i64 p.f2,.int .i64 p.f3,.int .i64 p.f4] ∧ (Kd.int .i64).R 3 W n (fun _=>True) r p.f0 ∧ (kE (grOwn n W)).R 69 W n (fun _=>True) t p.f1:=by
 obtain ⟨r,t,rfl,hr,ht⟩:=k51_openM h
 refine ⟨r,t,rfl,hr,R_to (by rfl) ht fun x cs hx=>?_⟩
 refine Kd.FK_mono (Kd.FK_of_M (Kd.M_bound k69 hx)) fun k hk=>⟨hk.2.1,?_⟩
 obtain ⟨_,_,_,q,hq,hc⟩:=hk
 have e : ∀ q,q ∈ k69.E → q = 69:=by decide
 rw [e q hq] at hc
 exact hc
def Goes (ps : List S51) (a : Int) : Prop:=∃ who,∃ h : who < ps.length,a = (who : Int) ∧ (ps[who].f2 = 2 ∨ (ps[who].f2 = 0 ∧ ps[who].f1 ≠ []))
theorem code_key (x0 : List S51) (x1 x2 : List Int) (x3 : List (List Int)) (x4 : List S38) (h2 : x2.length = 2) (f0 : List Int) (p : S51) (hp : PV p) :
  ∃ r,(if p.f2 = 1 then (spec_l3Code.j1 2 true x0 x1 x2 x3 x4 f0 p.f1 p.f2 p.f3 p.f4) else (if p.f2 = 2 then (if 0 ≤ p.f4 then (if p.f4 < (x2.length : Int) then (spec_l3Code.j1 2 (decide ((rd x2 p.f4) > 0)) x0 x1 x2 x3 x4 f0 p.f1 p.f2 p.f3 p.f4) else none) else none) else (spec_l3Code.j1 2 false x0 x1 x2 x3 x4 f0 p.f1 p.f2 p.f3 p.f4))) = some r ∧ (r = 0 → p.f2 = 2 ∨ (p.f2 = 0 ∧ p.f1 ≠ [])):=by
 rcases hp.md with h | h | h
 ·rw [if_neg (by omega),if_neg (by omega)]
  unfold spec_l3Code.j1
  dsimp only
  rw [if_neg (by decide),if_neg (by omega)]
  by_cases c : (p.f1.length : Int) = 0
  ·exact ⟨1,by rw [if_pos c],fun e=>absurd e (by decide)⟩
  ·have hne : p.f1 ≠ []:=fun e=>c (by rw [e];rfl)
   rw [if_neg c,if_pos (by omega)]
   by_cases c8 : (rd_T69 p.f1 0).f0 = 8
   ·obtain ⟨x,r,e⟩:=List.exists_cons_of_ne_nil hne
    have ht:=hp.td
    rw [e] at ht
    have ex : rd_T69 p.f1 0 = x:=by rw [e];rfl
    rw [ex] at c8
    have hr : 0 ≤ x.f1 ∧ x.f1 < 2:=by
     rcases ht with ⟨⟨a,ha,h0,h1⟩,_⟩ | ⟨hvx,_⟩
     ·rw [ha] at c8
      exact absurd (show (12 : Int) = 8 from c8) (by decide)
     ·rcases okS_cases hvx with ⟨h,_⟩ | ⟨h,_⟩ | ⟨h,_,h0,h1,_⟩ | ⟨h,_⟩ | ⟨h,_⟩ | ⟨_,h6,h7,h8,_⟩
      ·omega
      ·omega
      ·exact ⟨h0,h1⟩
      ·omega
      ·omega
      ·exact absurd c8 h8
    rw [ex,if_pos c8,if_pos hr.1,if_pos (by omega)]
    by_cases cz : rd x2 x.f1 > 0
    ·exact ⟨2,by rw [if_pos cz],fun e=>absurd e (by decide)⟩
    ·exact ⟨0,by rw [if_neg cz],fun _=>.inr ⟨h,hne⟩⟩
   ·exact ⟨0,by rw [if_neg c8],fun _=>.inr ⟨h,hne⟩⟩
 ·exact ⟨2,by rw [if_pos h];unfold spec_l3Code.j1;dsimp only;rw [if_pos rfl],fun e=>absurd e (by decide)⟩
 ·have h4:=hp.wt (by omega)
  have h5:=hp.rm
  rw [if_neg (by omega),if_pos h,if_pos h4,if_pos (by omega)]
  by_cases cz : rd x2 p.f4 > 0
  ·exact ⟨2,by rw [decide_eq_true cz];unfold spec_l3Code.j1;dsimp only;rw [if_pos rfl],fun e=>absurd e (by decide)⟩
  ·exact ⟨0,by rw [decide_eq_false cz];unfold spec_l3Code.j1;dsimp only;rw [if_neg (by decide),if_pos h],fun _=>.inl h⟩
theorem code_ev {ps x0 : List S51} (x1 x2 : List Int) (x3 : List (List Int)) (x4 : List S38) (hl : x0.length = ps.length) (hk : ∀ i (hi : i < ps.length) (hx : i < x0.length),Likes ps[i] x0[i]) (h2 : x2.length = 2) (hv : ∀ p ∈ ps,PV p) (a : Int) :
  ∃ r,spec_l3Code.f 3 x0 x1 x2 x3 x4 a = some r ∧ (r = 0 → Goes ps a):=by
 by_cases ha : a < 0
 ·exact ⟨3,by simp [spec_l3Code.f,spec_l3Code.j0,ha],fun e=>absurd e (by decide)⟩
 by_cases hb : a ≥ (x0.length : Int)
 ·exact ⟨3,by simp [spec_l3Code.f,spec_l3Code.j0,ha,hb],fun e=>absurd e (by decide)⟩
 obtain ⟨who,rfl⟩:=Int.eq_ofNat_of_zero_le (show 0 ≤ a by omega)
 have hw : who < ps.length:=by omega
 have hx : who < x0.length:=by omega
 have hq:=hk who hw hx
 have hp:=hv _ (List.getElem_mem hw)
 have ex : rd_T51 x0 (who : Int) = x0[who]:=by
  unfold rd_T51
  simp [List.getD_eq_getElem?_getD,List.getElem?_eq_getElem hx]
 obtain ⟨_,e1,e2,e3,e4⟩:=hq
 have b0 : (0 : Int) ≤ (who : Int):=by omega
 have b1 : (who : Int) < (x0.length : Int):=by omega
 have start : spec_l3Code.f 3 x0 x1 x2 x3 x4 (who : Int) = spec_l3Code.j0 3 (who : Int) false x0 x1 x2 x3 x4:=by
  unfold spec_l3Code.f
  rw [if_neg ha,decide_eq_false hb]
 rw [start]
 unfold spec_l3Code.j0
 dsimp only
 rw [if_neg (by decide),if_pos b0,if_pos b1,ex,e1,e2,e3,e4]
 obtain ⟨r,hr,h0⟩:=code_key x0 x1 x2 x3 x4 h2 x0[who].f0 ps[who] hp
 exact ⟨r,hr,fun e=>⟨who,hw,rfl,h0 e⟩⟩
theorem SV.code {lo : Gr} {ow : Nat → Nat} {w : World} {v0 v1 v2 v3 v4 : Value} {ps : List S51} {qs : List (List Int)} {ys : List S38} (h : SV lo ow w v0 v1 v2 v3 v4 ps qs ys) {n : Nat} (hv : VS n ps qs ys) (a : Int) :
  ∃ r,(∀ W,Below w.heap.size w W → Calls Try.prog 30 #[.agg #[v0,v1,v2,v3,v4],.int .i64 a] W (fun e w'=>e = .returned (.int .i64 r) ∧ Below W.heap.size W w')) ∧ (r = 0 → Goes ps a):=by
 obtain ⟨x0,x1,x2,hl,hk,h1,h2,hw⟩:=h.reads (by have:=hv.p3;omega) (by have:=hv.q2;omega)
 obtain ⟨r,hr,h0⟩:=code_ev x1 x2 qs ys hl hk h2 hv.pv a
 obtain ⟨A0,c0,rfl,l0,g0⟩:=hw.r0
 obtain ⟨A1,c1,rfl,l1,g1⟩:=hw.r1
 obtain ⟨A2,c2,rfl,l2,g2⟩:=hw.r2
 obtain ⟨A3,c3,rfl,l3,g3⟩:=hw.r3
 obtain ⟨A4,c4,rfl,l4,g4⟩:=hw.r4
 exact ⟨r,fun W hb=>spec_l3Code.calls 3 A0 c0 x0 A1 c1 x1 A2 c2 x2 A3 c3 qs A4 c4 ys a r W (Kd.C_below g0 hb) l0 (Kd.C_below g1 hb) l1 (Kd.C_below g2 hb) l2 (Kd.C_below g3 hb) l3 (Kd.C_below g4 hb) l4 hr,h0⟩
theorem can_ev {ps x0 : List S51} (x1 x2 : List Int) (x3 : List (List Int)) (x4 : List S38) (hl : x0.length = ps.length) (hk : ∀ i (hi : i < ps.length) (hx : i < x0.length),Likes ps[i] x0[i]) (h2 : x2.length = 2) (hv : ∀ p ∈ ps,PV p) (h3 : ps.length ≤ 3) (m : Nat) :
  ∀ (out : List Int) (i : Nat),i + m = ps.length → out.length ≤ i → ∃ l : List Int,l.length ≤ 3 ∧ Ev (fun k=>spec_l3Can.l0 k out (i : Int) x0 x1 x2 x3 x4) l:=by
 induction m with
 | zero =>
  intro out i hi ho
  refine ⟨out,by omega,Evs.succ (fun k=>by simp only [spec_l3Can.l0];rfl) ?_⟩
  exact Evs.ite_neg (by omega) (Evs.some_ _)
 | succ m ih =>
  intro out i hi ho
  obtain ⟨r,hr,_⟩:=code_ev x1 x2 x3 x4 hl hk h2 hv (i : Int)
  have hE : Ev (fun k=>spec_l3Code.f k x0 x1 x2 x3 x4 (i : Int)) r:=Ev.of (fun k=>spec_l3Code.mono _ _ _ _ _ _ k) hr
  have ew : wrap64 ((i : Int) + 1) = ((i + 1 : Nat) : Int):=by rw [wrap_id (by omega) (by omega)];omega
  by_cases c : r = 0
  ·obtain ⟨l,h1,h5⟩:=ih (out ++ [(i : Int)]) (i + 1) (by omega) (by simp;omega)
   refine ⟨l,h1,Evs.succ (fun k=>by simp only [spec_l3Can.l0,ew];rfl) ?_⟩
   exact Evs.ite_pos (by omega) (Evs.bind hE (Evs.ite_pos c (Evs.ite_pos (by omega) h5)))
  ·obtain ⟨l,h1,h5⟩:=ih out (i + 1) (by omega) (by omega)
   refine ⟨l,h1,Evs.succ (fun k=>by simp only [spec_l3Can.l0,ew];rfl) ?_⟩
   exact Evs.ite_pos (by omega) (Evs.bind hE (Evs.ite_neg c h5))
theorem SV.can {lo : Gr} {ow : Nat → Nat} {w : World} {v0 v1 v2 v3 v4 : Value} {ps : List S51} {qs : List (List Int)} {ys : List S38} (h : SV lo ow w v0 v1 v2 v3 v4 ps qs ys) {n : Nat} (hv : VS n ps qs ys) :
  ∃ l : List Int,l.length ≤ 3 ∧ ∀ W,Below w.heap.size w W → Calls Try.prog 29 #[.agg #[v0,v1,v2,v3,v4]] W (fun e w'=>∃ v : Value,e = .returned v ∧ Kd.R (Kd.int .i64) 3 w' W.heap.size (fun _=>True) v l ∧ Below W.heap.size W w'):=by
 obtain ⟨x0,x1,x2,hl,hk,h1,h2,hw⟩:=h.reads (by have:=hv.p3;omega) (by have:=hv.q2;omega)
 obtain ⟨l,hl3,hE⟩:=can_ev x1 x2 qs ys hl hk h2 hv.pv hv.p3 ps.length [] 0 (by omega) (by simp)
 obtain ⟨k,hr⟩:=hE.rounds
 obtain ⟨A0,c0,rfl,l0,g0⟩:=hw.r0
 obtain ⟨A1,c1,rfl,l1,g1⟩:=hw.r1
 obtain ⟨A2,c2,rfl,l2,g2⟩:=hw.r2
 obtain ⟨A3,c3,rfl,l3,g3⟩:=hw.r3
 obtain ⟨A4,c4,rfl,l4,g4⟩:=hw.r4
 exact ⟨l,hl3,fun W hb=>spec_l3Can.calls k A0 c0 x0 A1 c1 x1 A2 c2 x2 A3 c3 qs A4 c4 ys l W (Kd.C_below g0 hb) l0 (Kd.C_below g1 hb) l1 (Kd.C_below g2 hb) l2 (Kd.C_below g3 hb) l3 (Kd.C_below g4 hb) l4 hr⟩
end Go.Proofs.Ytfbocgagfodgnaa.P

namespace Go.Proofs.Ytfbocgagfodgnaa.P
open Go.Proofs.YtfbocgagfodgnaaW.PrintWords renaming Aside0.mk → ö
open Go.RowKit Go.Proofs.YtfbocgagfodgnaaW.PrintWords Go.Proofs.YtfbocgagfodgnaaW.PrintLast Go.Proofs.YtfbocgagfodgnaaW.PrintMore
attribute [local go_sem] max2_int min2_int max_two min_two max_three min_three max_four min_four
set_option linter.unusedVariables false
set_option linter.unusedSimpArgs false
structure PL (lo : Gr) (ow : Nat → Nat) (w : World) (v0 v1 v2 v3 : Value) (bw br len n : Nat) (W : World) (vc : Value) (ow' : Nat → Nat) (v4' : Value) (ps' : List S51) (qs' : List (List Int)) (ys' : List S38) (codes : List Int) : Prop where
 sv : SV lo ow' W v0 v1 v2 v3 v4' ps' qs' ys'
 vs : VS n ps' qs' ys'
 ln : ps'.length = len
 ex : ∀ k,k < w.heap.size → ow' k = ow k
 fr : Fr ow w W
 bkw : W.heap[bw]? = some (.cells #[v0,v1,v2,v3,v4'] 33 (0,0))
 bkr : W.heap[br]? = some (.cells #[.slice none 0 0,.slice none 0 0,.slice none 0 0,.slice none 0 0,.slice none 0 0] 33 (0,0))
 gw : w.heap.size ≤ bw
 gr : w.heap.size ≤ br
 nb : bw ≠ br
 ob : ow' bw = 0
 oc : ow' br = 0
 co : Kd.R (Kd.int .i64) 3 W 0 (fun k=>ow' k = 0 ∧ w.heap.size ≤ k) vc codes
 gs : lo.w.heap.size ≤ w.heap.size
section
variable {lo : Gr} {ow : Nat → Nat} {w : World} {v0 v1 v2 v3 : Value} {bw br len n : Nat} {W W' : World} {vc : Value} {ow' : Nat → Nat} {v4' : Value} {ps' : List S51} {qs' : List (List Int)} {ys' : List S38} {codes : List Int}
theorem PL.below (h : PL lo ow w v0 v1 v2 v3 bw br len n W vc ow' v4' ps' qs' ys' codes) (hb : Below W.heap.size W W') : PL lo ow w v0 v1 v2 v3 bw br len n W' vc ow' v4' ps' qs' ys' codes :=
 ⟨h.sv.below hb,h.vs,h.ln,h.ex,h.fr.below hb,blk_below h.bkw hb,blk_below h.bkr hb,h.gw,h.gr,h.nb,h.ob,h.oc,Kd.R_below h.co hb,h.gs⟩
theorem PL.code {vc1 : Value} {codes1 : List Int} (h : PL lo ow w v0 v1 v2 v3 bw br len n W vc ow' v4' ps' qs' ys' codes) (ho : Kd.R (Kd.int .i64) 3 W' 0 (fun k=>ow' k = 0 ∧ w.heap.size ≤ k) vc1 codes1) (hg : W.grownBy W' vc.ownBlock) : PL lo ow w v0 v1 v2 v3 bw br len n W' vc1 ow' v4' ps' qs' ys' codes1:=by
 have hb0 : Below 0 W W':=⟨hg.os,hg.tape,hg.output,hg.size,fun k hk=>absurd hk (Nat.not_lt_zero k)⟩
 have hfr : Fr ow w W':=⟨h.fr.1.trans hb0,fun k hk h0=>(hg.block k (Nat.lt_of_lt_of_le hk h.fr.1.size) (fun e=>by have:=(h.co.1 k e.symm).2;omega)).trans (h.fr.2 k hk h0)⟩
 refine ⟨?_,h.vs,h.ln,h.ex,hfr,blk_grown h.bkw hg (Kd.R_ne h.co h.bkw (by decide)),blk_grown h.bkr hg (Kd.R_ne h.co h.bkr (by decide)),h.gw,h.gr,h.nb,h.ob,h.oc,ho,h.gs⟩
 cases e : vc.ownBlock with
 | none=>exact h.sv.below ⟨hg.os,hg.tape,hg.output,hg.size,fun k hk=>hg.block k hk (by rw [e];simp)⟩
 | some b =>
  obtain ⟨cells,hc⟩:=Kd.R_typed h.co b e
  have hq:=h.co.1 b e
  exact h.sv.other hc (by decide) hq.1 (fun _ hl=>by have:=h.gs;omega) hg.size fun k hk hne=>hg.block k hk (by rw [e];intro z;injection z with z;exact hne z)
theorem PL.step {W2 : World} {ow2 : Nat → Nat} {v42 : Value} {ps2 : List S51} {qs2 : List (List Int)} {ys2 : List S38} (h : PL lo ow w v0 v1 v2 v3 bw br len n W vc ow' v4' ps' qs' ys' codes) (hs : SV lo ow2 W2 v0 v1 v2 v3 v42 ps2 qs2 ys2) (hv2 : VS (n + 1) ps2 qs2 ys2) (hln : ps2.length = ps'.length) (hex : ∀ k,k < W.heap.size → ow2 k = ow' k) (hfr : Fr ow' W W2) : PL lo ow w v0 v1 v2 v3 bw br len (n + 1) (((((W2.setCell ⟨bw,0,none⟩ v0).setCell ⟨bw,1,none⟩ v1).setCell ⟨bw,2,none⟩ v2).setCell ⟨bw,3,none⟩ v3).setCell ⟨bw,4,none⟩ v42) vc ow2 v42 ps2 qs2 ys2 codes:=by
 have hb2 : W2.heap[bw]? = some (.cells #[v0,v1,v2,v3,v4'] 33 (0,0)):=(hfr.2 bw (blk_lt h.bkw) h.ob).trans h.bkw
 have hr2 : W2.heap[br]? = some (.cells #[.slice none 0 0,.slice none 0 0,.slice none 0 0,.slice none 0 0,.slice none 0 0] 33 (0,0)):=(hfr.2 br (blk_lt h.bkr) h.oc).trans h.bkr
 have hsz : w.heap.size ≤ W.heap.size:=h.fr.1.size
 have hco : Kd.R (Kd.int .i64) 3 W2 0 (fun k=>ow2 k = 0 ∧ w.heap.size ≤ k) vc codes:=Kd.R_mono (Kd.R_move (Kd.R_bound h.co) fun k hk=>hfr.2 k hk.2.2.1 hk.1.1) fun k hk=>⟨(hex k hk.2.2.1).trans hk.1.1,hk.1.2⟩
 exact ⟨hs.setW5 (Nat.le_trans h.gs h.gw) hb2 _ _ _ _ _,hv2,hln.trans h.ln,fun k hk=>(hex k (by omega)).trans (h.ex k hk),(h.fr.trans hfr fun k hk h0=>(h.ex k hk).trans h0).set5 h.gw _ _ _ _ _,by apply bp5_4_;apply bp5_3_;apply bp5_2_;apply bp5_1_;apply bp5_0_;exact hb2,far_set5 hr2 h.nb.symm _ _ _ _ _,h.gw,h.gr,h.nb,(hex bw (blk_lt h.bkw)).trans h.ob,(hex br (blk_lt h.bkr)).trans h.oc,set5_ _ _ _ _ _ hco hb2 (by decide),h.gs⟩
theorem VS.mono {ps : List S51} {qs : List (List Int)} {ys : List S38} {a b : Nat} (h : VS a ps qs ys) (hab : a ≤ b) : VS b ps qs ys :=
 ⟨h.p0,h.p3,h.q2,h.pv,fun p hp=>Nat.le_trans (h.tl p hp) (Nat.mul_le_mul_right _ (by omega)),h.nd,h.iq,fun q hq=>Nat.le_trans (h.ql q hq) hab,Nat.le_trans h.yl hab,h.yw⟩
theorem PL.mono {m : Nat} (h : PL lo ow w v0 v1 v2 v3 bw br len n W vc ow' v4' ps' qs' ys' codes) (hm : n ≤ m) : PL lo ow w v0 v1 v2 v3 bw br len m W vc ow' v4' ps' qs' ys' codes :=
 ⟨h.sv,h.vs.mono hm,h.ln,h.ex,h.fr,h.bkw,h.bkr,h.gw,h.gr,h.nb,h.ob,h.oc,h.co,h.gs⟩
end
def play8_T : Bool × List (List Nat × List Nat):=(true,[([],[]),([],[]),([],[]),([1,2],[1,2]),([3],[3]),([0,4],[0,4]),([5,5,0,1,2,3,4,5],[5])])
def play8_B : List Nat:=[0,0,0,6,14,31,63]
theorem play8_tab : rtab .any (opsOf Try.f23 8) = play8_T:=by kernel_rfl
theorem play8_bits : waitsOk play8_T.2 play8_B = true:=by kernel_rfl
set_option maxHeartbeats 2000000 in
set_option maxRecDepth 100000 in
theorem l3play_says (lo : Gr) (ow : Nat → Nat) (w : World) (v0 v1 v2 v3 v4 : Value) (ps : List S51) (qs : List (List Int)) (ys : List S38) (h : SV lo ow w v0 v1 v2 v3 v4 ps qs ys) (hv : VS 0 ps qs ys) (AP : Option Addr) (cP : Nat) (l : List Int) (hr : Kd.F (Kd.int .i64) w (fun k=>ow k = 0) AP l.length l) (hl : l.length ≤ 200) (hlo : lo.n ≤ w.heap.size) :
  Calls Try.prog 23 #[.agg #[v0,v1,v2,v3,v4],.slice AP l.length cP] w fun e w'=>∃ ow' v4' ps' qs' ys' vc,e = .returned (.tuple #[.agg #[v0,v1,v2,v3,v4'],vc]) ∧ SV lo ow' w' v0 v1 v2 v3 v4' ps' qs' ys' ∧ VS l.length ps' qs' ys' ∧ ps'.length = ps.length ∧ (∀ k,k < w.heap.size → ow' k = ow k) ∧ Fr ow w w':=by
 have hu29:=Try.underlying33
 obtain ⟨g0,cap0,cells0,rfl,hg0,_⟩:=h.pr
 obtain ⟨g1,cap1,rfl,hg1,_⟩:=h.ce.form
 obtain ⟨g2,cap2,rfl,hg2,_⟩:=h.ro.form
 obtain ⟨g3,cap3,cells3,rfl,hg3,_⟩:=h.si
 obtain ⟨A,c,rfl⟩:=Kd.R_slice h.sa
 have HS:=ö h
 have HV:=ö hv
 have FREE:=ö h.free
 have HP:=ö hr
 have HL:=ö hl
 have HLO:=ö hlo
 have HB:=ö (Below.refl w.heap.size w)
 clear h hv hr hl hlo hg0 hg1 hg2 hg3
 go_enter Try.func23,Try.ntmps23
 go_wp2_with (first | ((with_reducible refine gate_dst (N:=2) rfl ?_);refine box_event ?hg (N:=2) ?hd (cs:=#[.slice (some ⟨g0,0,none⟩) ps.length cap0,.slice (some ⟨g1,0,none⟩) 3 cap1,.slice (some ⟨g2,0,none⟩) 2 cap2,.slice (some ⟨g3,0,none⟩) qs.length cap3,.slice A ys.length c]) (t:=33) ?hr ?_;(case hd=>rfl);(case hg=>rfl);(case hr=>first | (go_simp;done) | (go_simp;rfl));intro bw hg w5 hbox hb;replace HB:=ö (below_step HB.out hb);have GW:=ö (Nat.le_of_eq hg.symm);have BW:=ö hbox;clear hb hbox hg) | ((with_reducible refine gate_dst (N:=4) rfl ?_);refine box_event ?hg (N:=4) ?hd (cs:=#[.slice none 0 0,.slice none 0 0,.slice none 0 0,.slice none 0 0,.slice none 0 0]) (t:=33) ?hr ?_;(case hd=>rfl);(case hg=>rfl);(case hr=>first | (go_simp;done) | (go_simp;rfl));intro br hg w6 hbox hb;have n1_:=ö (blk_below BW.out hb);have NR:=ö (show bw ≠ br by rw [hg];exact Nat.ne_of_lt (blk_lt BW.out));have GR:=ö (show w.heap.size ≤ br by rw [hg];exact HB.out.size);replace HB:=ö (below_step HB.out hb);clear BW;have BW:=n1_;clear n1_;have BR:=ö hbox;clear hb hbox hg) | ((with_reducible refine gate_dst (N:=9) rfl ?_);refine Kd.R_lit (Kd.int .i64) _ 3 ?hg (N:=9) ?hd (xs:=([] : List Int)) (inner:=[]) (ok:=fun _=>True) (okp:=fun _=>True) ?hr ?hp (fun _ hk=>hk) trivial (Below.refl _ _) (Nat.le_refl _) (by simp) ?_;(case hd=>rfl);(case hg=>rfl);(case hr=>first | (go_simp;done) | (go_simp;rfl));(case hp=>exact (Reps.none _ _));intro v9 w7 ho hb hg_ hnew_;clear hg_ hnew_;have n1_:=ö (blk_below BW.out hb);have n2_:=ö (blk_below BR.out hb);have n3_:=ö (below_step HB.out hb);have HC:=ö (show Kd.R (Kd.int .i64) 3 w7 0 (fun k=>ow k = 0 ∧ w.heap.size ≤ k) v9 [] from Kd.R_lower (Kd.R_mono (Kd.R_bound ho) fun k hk=>⟨FREE.out k (Nat.le_trans HB.out.size hk.2.1),Nat.le_trans HB.out.size hk.2.1⟩) (Nat.zero_le _));clear BW BR HB ho hb;have BW:=n1_;have BR:=n2_;have HB:=n3_;clear n1_ n2_ n3_))
 have kb : PL lo ow w (.slice (some ⟨g0,0,none⟩) ps.length cap0) (.slice (some ⟨g1,0,none⟩) 3 cap1) (.slice (some ⟨g2,0,none⟩) 2 cap2) (.slice (some ⟨g3,0,none⟩) qs.length cap3) bw br ps.length 0 w7 v9 ow (.slice A ys.length c) ps qs ys []:=⟨HS.out.below HB.out,HV.out,rfl,fun _ _=>rfl,(Fr.refl ow w).below HB.out,BW.out,BR.out,GW.out,GR.out,NR.out,FREE.out _ GW.out,FREE.out _ GR.out,HC.out,HS.out.ws⟩
 have KB:=ö kb
 clear kb BW BR HB HC GW GR NR
 go_loopg [6,7] l.length (fun gg v6 v7 wr=>∃ (kk : Nat) (ow' : Nat → Nat) (v4' : Value) (ps' : List S51) (qs' : List (List Int)) (ys' : List S38) (codes : List Int),kk ≤ l.length ∧ l.length - kk ≤ gg ∧ v7 = .int .i64 kk ∧ Aside0 (PL lo ow w (.slice (some ⟨g0,0,none⟩) ps.length cap0) (.slice (some ⟨g1,0,none⟩) 3 cap1) (.slice (some ⟨g2,0,none⟩) 2 cap2) (.slice (some ⟨g3,0,none⟩) qs.length cap3) bw br ps.length kk wr v6 ow' v4' ps' qs' ys' codes) ∧ Aside0 (codes.length = kk))
 case atStart=>exact ⟨0,ow,_,ps,qs,ys,[],Nat.zero_le _,by omega,rfl,KB,⟨rfl⟩⟩
 case round =>
  clear KB
  obtain ⟨kk,ow',v4',ps',qs',ys',codes,hkk,hgk,rfl,KB,CL⟩:=hrel
  obtain ⟨A5,c5,rfl⟩:=Kd.R_slice KB.out.sv.sa
  have BW:=ö KB.out.bkw
  by_cases hlt : kk < l.length
  ·have hltz : decide ((kk : Int) < (l.length : Int)) = true:=decide_eq_true (by omega)
   have HLT:=ö hlt
   have p1 : 0 ≤ (kk : Int):=by omega
   have q1 : (kk : Int) < (l.length : Int):=by omega
   have hpick:=Kd.F_now (Kd.F_step HP.out (W1:=wr) fun k hk hlt=>KB.out.fr.2 k hlt hk)
   obtain ⟨ad,e,hx⟩:=Kd.at_int hpick (kk : Int) p1 q1
   subst e
   rw [Int.toNat_natCast] at hx
   have PK:=ö (show ∀ W,Fr ow w W → W.cell? (ad.add kk) = some (.int .i64 (rd l kk)) from fun W hf=>by
    obtain ⟨ad',e',hx'⟩:=Kd.at_int (Kd.F_now (Kd.F_step HP.out (W1:=W) fun k hk hlt=>hf.2 k hlt hk)) (kk : Int) p1 q1
    injection e' with e'
    rw [Int.toNat_natCast,← e'] at hx'
    exact hx')
   obtain ⟨r,hcode,hgo⟩:=KB.out.sv.code KB.out.vs (rd l kk)
   have HCODE:=ö hcode
   have HGO:=ö hgo
   clear hcode hgo hpick
   replace p1:=eq_true p1
   replace q1:=eq_true q1
   obtain ⟨hcz_0,hcz_1,hcz_2,hcz_3,hcz_4,hfz_0,hfz_1,hfz_2,hfz_3,hfz_4⟩:=bz5_ BW
   go_wp2
   go_region_held3 (fun w'=>w'.cell? ⟨bw,0,none⟩ = some (.slice (some ⟨g0,0,none⟩) ps.length cap0) ∧ w'.cell? ⟨bw,1,none⟩ = some (.slice (some ⟨g1,0,none⟩) 3 cap1) ∧ w'.cell? ⟨bw,2,none⟩ = some (.slice (some ⟨g2,0,none⟩) 2 cap2) ∧ w'.cell? ⟨bw,3,none⟩ = some (.slice (some ⟨g3,0,none⟩) qs.length cap3) ∧ w'.cell? ⟨bw,4,none⟩ = some (.slice A5 ys'.length c5) ∧ w'.cell? (ad.add kk) = some (.int .i64 (rd l kk))) (go_keep) (first | (go_at_call 30;refine (HCODE.out _ (by first | exact below_drew1 (Below.refl _ _) | exact Below.refl _ _)).mono ?_;rintro e w8 ⟨rfl,hb⟩;have HB8:=ö (show Below wr.heap.size wr w8 from below_step (below_drew1 (Below.refl _ _)) hb);have hs_0:=(HB8.out.cell (World.block_lt_of_cell? wr _ hcz_0)).trans hcz_0;have hs_1:=(HB8.out.cell (World.block_lt_of_cell? wr _ hcz_1)).trans hcz_1;have hs_2:=(HB8.out.cell (World.block_lt_of_cell? wr _ hcz_2)).trans hcz_2;have hs_3:=(HB8.out.cell (World.block_lt_of_cell? wr _ hcz_3)).trans hcz_3;have hs_4:=(HB8.out.cell (World.block_lt_of_cell? wr _ hcz_4)).trans hcz_4;have hs_5:=(HB8.out.cell (World.block_lt_of_cell? wr _ hx)).trans hx;clear hb))
   clear hcz_0 hcz_1 hcz_2 hcz_3 hcz_4 hfz_0 hfz_1 hfz_2 hfz_3 hfz_4 hx
   rename_i hHeld
   clear hHeld
   have KB8:=ö (KB.out.below HB8.out)
   clear KB BW HB8 hs_0 hs_1 hs_2 hs_3 hs_4 hs_5
   by_cases hr0 : r = 0
   ·have hr1 : (r == 0) = true:=beq_iff_eq.mpr hr0
    have HR0:=ö hr0
    clear hr0
    go_wp2_with (first | ((with_reducible refine gate_builtin (b:=.append) (xs:=#[.tmp 22,.tmp 24]) rfl ?_);at_builtin;refine Kd.R_append (Kd.int .i64) (w0:=w) 0 rfl (.tmp 22) (.tmp 24) 26 3 (.int .i64 0) 8 rfl Try.underlying26 info3 rfl (by decide) (by omega) u6 codes r [.int .i64 r] (fun k=>ow' k = 0 ∧ w.heap.size ≤ k) (fun _=>False) rfl rfl ?aP (fun _ hk=>hk.elim) ?aF ?aO ?aB ?aS ?aL ?_;(case aP=>exact rfl);(case aB=>exact KB8.out.fr.1);(case aF=>exact (fun k hk=>⟨KB8.out.sv.free k hk,Nat.le_trans KB8.out.fr.1.size hk⟩));(case aO=>exact KB8.out.co);(case aS=>exact Nat.zero_le _);(case aL=>have:=CL.out;have:=HL.out;have:=HLT.out;omega);intro v25 w11 ho hb hg hat;have KB9:=ö (KB8.out.code ho hg);clear KB8 ho hb hg hat))
    have KD:=ö (KB9.out.below (below_drew1 (Below.refl _ _)))
    clear KB9
    refine start_ (n:=7) (S:=fun w'=>w'.cell? ⟨bw,0,none⟩ = some (.slice (some ⟨g0,0,none⟩) ps.length cap0) ∧ w'.cell? ⟨bw,1,none⟩ = some (.slice (some ⟨g1,0,none⟩) 3 cap1) ∧ w'.cell? ⟨bw,2,none⟩ = some (.slice (some ⟨g2,0,none⟩) 2 cap2) ∧ w'.cell? ⟨bw,3,none⟩ = some (.slice (some ⟨g3,0,none⟩) qs.length cap3) ∧ w'.cell? ⟨bw,4,none⟩ = some (.slice A5 ys'.length c5) ∧ w'.cell? (ad.add kk) = some (.int .i64 (rd l kk))) (ds:=[6]) #[false,false,false,false,false,false,false] (by kernel_rfl) rfl rfl ⟨(blk_cell KD.out.bkw 0).trans rfl,(blk_cell KD.out.bkw 1).trans rfl,(blk_cell KD.out.bkw 2).trans rfl,(blk_cell KD.out.bkw 3).trans rfl,(blk_cell KD.out.bkw 4).trans rfl,PK.out _ KD.out.fr⟩ (fun hHeld=>?_)
    refine with_tabW play8_tab play8_bits (fun HT_ HW_=>?_)
    generalize w11.drew = w12 at KD hHeld ⊢
    refine pure_ (i:=1) (N:=some 29) (v:=?_) (a':=?_) #[false,true,false,false,false,false,false] rfl rfl (any_of HT_.out (by kernel_rfl)) (fun _ _ _ h=>h) (Or.inl ⟨by rfl,?_⟩) ?_ ?_
    rotate_left
    ·intro w'
     go_simp
     with_reducible rfl
    rotate_left
    ·(try simp only [Act.put,List.setIfInBounds_toArray,List.set_cons_zero,List.set_cons_succ,i64_w,i32_w])
     rfl
    refine pure_ (i:=2) (N:=some 30) (v:=?_) (a':=?_) #[false,true,true,false,false,false,false] rfl rfl (any_of HT_.out (by kernel_rfl)) (fun _ _ _ h=>h) (Or.inl ⟨by rfl,?_⟩) ?_ ?_
    rotate_left
    ·intro w'
     go_simp
     with_reducible rfl
    rotate_left
    ·(try simp only [Act.put,List.setIfInBounds_toArray,List.set_cons_zero,List.set_cons_succ,i64_w,i32_w])
     rfl
    refine take_ (i:=0) (N:=some 28) (v:=?_) (a':=?_) #[true,true,true,false,false,false,false] rfl rfl (take_ofW HT_.out HW_.out (by kernel_rfl)) (fun _ _ _ h=>h) (Or.inl ⟨by rfl,?_⟩) hHeld ?_ ?_
    rotate_left
    ·rintro w' ⟨s0,s1,s2,s3,s4,s5⟩
     go_simp
     with_reducible rfl
    rotate_left
    ·(try simp only [Act.put,List.setIfInBounds_toArray,List.set_cons_zero,List.set_cons_succ,i64_w,i32_w])
     rfl
    refine pure_ (i:=3) (N:=some 31) (v:=?_) (a':=?_) #[true,true,true,true,false,false,false] rfl rfl (any_of HT_.out (by kernel_rfl)) (fun _ _ _ h=>h) (Or.inl ⟨by rfl,?_⟩) ?_ ?_
    rotate_left
    ·intro w'
     go_simp
     with_reducible rfl
    rotate_left
    ·(try simp only [Act.put,List.setIfInBounds_toArray,List.set_cons_zero,List.set_cons_succ,i64_w,i32_w])
     rfl
    refine take_ (i:=4) (N:=some 32) (v:=?_) (a':=?_) #[true,true,true,true,true,false,false] rfl rfl (take_ofW HT_.out HW_.out (by kernel_rfl)) (fun _ _ _ h=>h) (Or.inl ⟨by rfl,?_⟩) hHeld ?_ ?_
    rotate_left
    ·rintro w' ⟨s0,s1,s2,s3,s4,s5⟩
     go_simp
     with_reducible rfl
    rotate_left
    ·(try simp only [Act.put,List.setIfInBounds_toArray,List.set_cons_zero,List.set_cons_succ,i64_w,i32_w])
     rfl
    refine one_ (i:=5) (N:=some 33) #[true,true,true,true,true,true,false] rfl rfl (one_of HT_.out (by kernel_rfl)) (by decide) (fun K hK=>?_)
    obtain ⟨who,hwho,hpw,hgw⟩:=HGO.out HR0.out
    rw [hpw]
    refine goes_ Try.func31 (by kernel_rfl) rfl #[.agg #[.slice (some ⟨g0,0,none⟩) ps.length cap0,.slice (some ⟨g1,0,none⟩) 3 cap1,.slice (some ⟨g2,0,none⟩) 2 cap2,.slice (some ⟨g3,0,none⟩) qs.length cap3,.slice A5 ys'.length c5],.int .i64 (who : Int)] (by rfl) rfl rfl (by (try simp only [List.map_toArray,List.map_cons,List.map_nil]);first | done | rfl | (simp only [List.length_drop,List.length_take];rfl)) ?_
    refine (l3step_says lo ow' w12 _ _ _ _ _ ps' qs' ys' KD.out.sv kk KD.out.vs (by have:=HL.out;have:=HLT.out;omega) who hwho hgw (Nat.le_trans HLO.out KD.out.fr.1.size)).mono ?_
    rintro e wt ⟨ow2,v42,ps2,qs2,ys2,rfl,hsv,hvs,hln,hex,hfr⟩
    refine ⟨_,rfl,?_⟩
    obtain ⟨A6,c6,rfl⟩:=Kd.R_slice hsv.sa
    have hbt : wt.heap[bw]? = some (.cells #[.slice (some ⟨g0,0,none⟩) ps.length cap0,.slice (some ⟨g1,0,none⟩) 3 cap1,.slice (some ⟨g2,0,none⟩) 2 cap2,.slice (some ⟨g3,0,none⟩) qs.length cap3,.slice A5 ys'.length c5] 33 (0,0)):=(hfr.2 bw (blk_lt KD.out.bkw) KD.out.ob).trans KD.out.bkw
    have hft:=KD.out.fr.trans hfr fun k hk h0=>(KD.out.ex k hk).trans h0
    have BT:=ö hbt
    have FT:=ö hft
    have HSV:=ö hsv
    have HVS:=ö hvs
    have HLN:=ö hln
    have HEX:=ö hex
    have HFR:=ö hfr
    clear hsv hvs hln hex hfr hbt hft hHeld
    refine hK.out _ _ ⟨(blk_cell BT.out 0).trans rfl,(blk_cell BT.out 1).trans rfl,(blk_cell BT.out 2).trans rfl,(blk_cell BT.out 3).trans rfl,(blk_cell BT.out 4).trans rfl,PK.out _ FT.out⟩ (fun hHeld=>?_)
    clear hK K
    refine norm_ (a':=?_) ?_ ?_
    rotate_left
    ·show Act.put _ (some 33) _ = _
     simp only [Act.put,List.setIfInBounds_toArray,List.set_cons_zero,List.set_cons_succ,i64_w,i32_w]
     rfl
    refine last_ (i:=6) (N:=none) #[true,true,true,true,true,true,true] rfl rfl (one_of HT_.out (by kernel_rfl)) (by decide) (fun K hK=>?_)
    obtain ⟨hcq_0,hcq_1,hcq_2,hcq_3,hcq_4,hfq_0,hfq_1,hfq_2,hfq_3,hfq_4⟩:=bz5_ BT
    refine skip_ (w1:=?_) (by rfl) rfl ?_ ?_
    rotate_left
    ·go_simp
     rfl
    refine hK.out _ _ ?_
    clear hK K
    refine done_ (done_of HT_.out (by kernel_rfl)) ?_
    clear HT_ HW_
    try go_wp2
    go_roundg (l.length - (kk + 1))
    case measure=>have:=HLT.out;omega
    case rel=>exact ⟨kk + 1,ow2,_,ps2,qs2,ys2,codes ++ [r],Nat.succ_le_of_lt HLT.out,Nat.le_refl _,(by rw [wrap_succ (by have:=HL.out;have:=HLT.out;omega)]),⟨KD.out.step HSV.out HVS.out HLN.out HEX.out HFR.out⟩,⟨by rw [List.length_append,CL.out];rfl⟩⟩
   ·have hr1 : (r == 0) = false:=beq_eq_false_iff_ne.mpr hr0
    clear hr0
    go_wp2_with (first | ((with_reducible refine gate_builtin (b:=.append) (xs:=#[.tmp 22,.tmp 24]) rfl ?_);at_builtin;refine Kd.R_append (Kd.int .i64) (w0:=w) 0 rfl (.tmp 22) (.tmp 24) 26 3 (.int .i64 0) 8 rfl Try.underlying26 info3 rfl (by decide) (by omega) u6 codes r [.int .i64 r] (fun k=>ow' k = 0 ∧ w.heap.size ≤ k) (fun _=>False) rfl rfl ?aP (fun _ hk=>hk.elim) ?aF ?aO ?aB ?aS ?aL ?_;(case aP=>exact rfl);(case aB=>exact KB8.out.fr.1);(case aF=>exact (fun k hk=>⟨KB8.out.sv.free k hk,Nat.le_trans KB8.out.fr.1.size hk⟩));(case aO=>exact KB8.out.co);(case aS=>exact Nat.zero_le _);(case aL=>have:=CL.out;have:=HL.out;have:=HLT.out;omega);intro v25 w11 ho hb hg hat;have KB9:=ö (KB8.out.code ho hg);clear KB8 ho hb hg hat))
    go_roundg (l.length - (kk + 1))
    case measure=>have:=HLT.out;omega
    case rel=>exact ⟨kk + 1,ow',_,ps',qs',ys',codes ++ [r],Nat.succ_le_of_lt HLT.out,Nat.le_refl _,(by rw [wrap_succ (by have:=HL.out;have:=HLT.out;omega)]),⟨KB9.out.mono (Nat.le_succ _)⟩,⟨by rw [List.length_append,CL.out];rfl⟩⟩
  ·have hltz : decide ((kk : Int) < (l.length : Int)) = false:=decide_eq_false (by omega)
   have e:=show kk = l.length by omega
   have BR:=ö KB.out.bkr
   obtain ⟨hcz_0,hcz_1,hcz_2,hcz_3,hcz_4,hfz_0,hfz_1,hfz_2,hfz_3,hfz_4⟩:=bz5_ BW
   obtain ⟨hcx_0,hcx_1,hcx_2,hcx_3,hcx_4,hfx_0,hfx_1,hfx_2,hfx_3,hfx_4⟩:=bz5_ BR
   have hn1:=KB.out.nb
   have hn2:=hn1.symm
   have HE:=ö e
   clear e
   go_wp2
   refine bodyPost_ret (results_ct rfl _ _ br 33 #[.slice (some ⟨g0,0,none⟩) ps.length cap0,.slice (some ⟨g1,0,none⟩) 3 cap1,.slice (some ⟨g2,0,none⟩) 2 cap2,.slice (some ⟨g3,0,none⟩) qs.length cap3,.slice A5 ys'.length c5] (0,0) _ rfl (by apply bp5_4_;apply bp5_3_;apply bp5_2_;apply bp5_1_;apply bp5_0_;exact BR.out) Try.underlying33 rfl (by kernel_rfl)) rfl ?_
   have hvs:=KB.out.vs
   rw [HE.out] at hvs
   exact ⟨ow',_,ps',qs',ys',_,rfl,KB.out.sv.setW5 (Nat.le_trans KB.out.gs KB.out.gr) BR.out _ _ _ _ _,hvs,KB.out.ln,KB.out.ex,KB.out.fr.set5 KB.out.gr _ _ _ _ _⟩
end Go.Proofs.Ytfbocgagfodgnaa.P

namespace Go.Proofs.Ytfbocgagfodgnaa.P
open Go.RowKit Go.Proofs.YtfbocgagfodgnaaW.PrintWords Go.Proofs.YtfbocgagfodgnaaW.PrintMore
set_option linter.unusedVariables false
set_option linter.unusedSimpArgs false
def progB (p : List (List S69)) : Bool:=p.all okLst && (decide (1 ≤ (p.length : Int)) && decide ((p.length : Int) ≤ 3))
theorem rdl {α : Type} {l : List (List α)} {i : Nat} (h : i < l.length) : l.getD (i : Int).toNat [] ∈ l:=by
 rw [Int.toNat_natCast,List.getD_eq_getElem?_getD,List.getElem?_eq_getElem h]
 exact List.getElem_mem h
theorem dropl {α : Type} (l : List (List α)) {i : Nat} (h : i < l.length) : l.drop i = l.getD (i : Int).toNat [] :: l.drop (i + 1):=by
 rw [List.drop_eq_getElem_cons h,Int.toNat_natCast,List.getD_eq_getElem?_getD,List.getElem?_eq_getElem h]
 rfl
theorem specProg {p : List (List S69)} (hl : p.length ≤ 1048576) (h : ∀ l ∈ p,SL 3 l) : Ev (fun k=>spec_ProgOk.f k p) (progB p):=by
 unfold spec_ProgOk.f
 have key : ∀ e i : Nat,i + e = p.length → Ev (fun k=>spec_ProgOk.l0 k p (i : Int)) ((p.drop i).all okLst && (decide (1 ≤ (p.length : Int)) && decide ((p.length : Int) ≤ 3))):=by
  intro e
  induction e with
  | zero =>
   intro i hi
   rw [List.drop_of_length_le (by omega)]
   refine Evs.succ (fun k=>by simp only [spec_ProgOk.l0];rfl) (Evs.ite_neg (by omega) ?_)
   rw [List.all_nil,Bool.true_and]
   exact ev_and (c:=1 ≤ (p.length : Int)) fun _=>Evs.some_ _
  | succ e ih =>
   intro i hi
   have hlt : i < p.length:=by omega
   rw [dropl p hlt,List.all_cons,Bool.and_assoc]
   refine Evs.succ (fun k=>by simp only [spec_ProgOk.l0];rfl) (Evs.ite_pos (by omega) (Evs.ite_pos (by omega) (Evs.bind (specOk (h _ (rdl hlt))) (ev_band fun _=>?_))))
   rw [wrap_succ (by omega)]
   exact ih (i + 1) (by omega)
 exact key p.length 0 (by omega)
end Go.Proofs.Ytfbocgagfodgnaa.P

namespace Go.Proofs.Ytfbocgagfodgnaa.P
open Go.Proofs.YtfbocgagfodgnaaW.PrintWords renaming Aside0.mk → ö
open Go.RowKit Go.Proofs.YtfbocgagfodgnaaW.PrintWords Go.Proofs.YtfbocgagfodgnaaW.PrintLast Go.Proofs.YtfbocgagfodgnaaW.PrintMore
attribute [local go_sem] max2_int min2_int max_two min_two max_three min_three max_four min_four
set_option linter.unusedVariables false
set_option linter.unusedSimpArgs false
def Fit : Nat → List S69 → Prop
 | 0,l=>l = []
 | d + 1,l=>l.length ≤ 1000000000 ∧ ∀ x ∈ l,Fit d x.f4 ∧ Fit d x.f5
theorem fit_up : ∀ (d : Nat) (l : List S69),Fit d l → Fit (d + 1) l
 | 0,l,h=>by
  have e : l = []:=h
  rw [e]
  exact ⟨by simp,fun x hx=>by cases hx⟩
 | d + 1,l,h=>⟨h.1,fun x hx=>⟨fit_up d _ (h.2 x hx).1,fit_up d _ (h.2 x hx).2⟩⟩
theorem fit_le {d e : Nat} (hd : d ≤ e) (l : List S69) (h : Fit d l) : Fit e l:=by
 obtain ⟨m,rfl⟩:=Nat.exists_eq_add_of_le hd
 clear hd
 induction m with
 | zero=>exact h
 | succ m ih=>exact fit_up _ l ih
theorem copy_ev : ∀ (d e : Nat) (l : List S69),Fit d l → d ≤ e → e ≤ 1000 → Ev (fun k=>spec_l2Copy.f k l (e : Int)) l
 | 0,e,l,h,_,_=>by
  obtain rfl : l = []:=h
  exact Evs.succ (fun k=>by simp only [spec_l2Copy.f];rfl) (Evs.succ (fun k=>by simp only [spec_l2Copy.l0];rfl) (Evs.ite_neg (by simp) (Evs.succ (fun k=>by simp only [spec_l2Copy.j1];rfl) (Evs.ite_neg (by simp) (Evs.some_ _)))))
 | d + 1,e,l,h,hd,he=>by
  obtain ⟨hl,hx⟩:=h
  refine Evs.succ (fun k=>by simp only [spec_l2Copy.f];rfl) ?_
  have key : ∀ (t pre : List S69),pre ++ t = l → Ev (fun k=>spec_l2Copy.l0 k l (e : Int) pre (pre.length : Int)) l:=by
   intro t
   induction t with
   | nil =>
    intro pre hp
    rw [List.append_nil] at hp
    subst hp
    exact Evs.succ (fun k=>by simp only [spec_l2Copy.l0];rfl) (Evs.ite_neg (by omega) (Evs.succ (fun k=>by simp only [spec_l2Copy.j1];rfl) (Evs.ite_neg (by simp) (Evs.some_ _))))
   | cons x t ih =>
    intro pre hp
    have hm : x ∈ l:=by rw [← hp];simp
    have hlen : l.length = pre.length + (t.length + 1):=by rw [← hp];simp
    have e1 : wrap64 ((e : Int) - 1) = ((e - 1 : Nat) : Int):=by rw [wrap_id (by omega) (by omega)];omega
    have k4:=copy_ev d (e - 1) x.f4 (hx x hm).1 (by omega) (by omega)
    have k5:=copy_ev d (e - 1) x.f5 (hx x hm).2 (by omega) (by omega)
    have er : rd_T69 l (pre.length : Int) = x:=by rw [← hp];simp [rd_T69,List.getD_eq_getElem?_getD]
    refine Evs.succ (fun k=>by simp only [spec_l2Copy.l0];rfl) (Evs.ite_pos (by omega) ?_)
    refine Evs.succ (fun k=>by simp only [spec_l2Copy.j1];rfl) ?_
    refine Evs.ite_pos (decide_eq_true (by omega)) (Evs.ite_pos (by omega) (Evs.ite_pos (by omega) ?_))
    simp only [er,e1]
    refine Evs.bind k4 (Evs.bind k5 (Evs.ite_pos (by omega) ?_))
    have z:=ih (pre ++ [x]) (by rw [← hp];simp)
    have ex : (⟨x.f0,x.f1,x.f2,x.f3,x.f4,x.f5⟩ : S69) = x:=by cases x;rfl
    rw [wrap_succ (by omega),ex]
    have el : (pre ++ [x]).length = pre.length + 1:=by simp
    rw [el] at z
    exact z
  exact key l [] rfl
theorem okS_in {d : Nat} {s : S69} {room : Int} (h : okS (d + 1) s room = true) : (∀ y ∈ s.f4,∃ m,okS d y m = true) ∧ ∀ y ∈ s.f5,∃ m,okS d y m = true:=by
 rw [okS_succ] at h
 by_cases k6 : s.f0 = 6
 ·rw [if_pos k6] at h
  simp only [Bool.and_eq_true,List.all_eq_true] at h
  exact ⟨fun y hy=>⟨_,h.2.2.2.1 y hy⟩,fun y hy=>⟨_,h.2.2.2.2 y hy⟩⟩
 rw [if_neg k6] at h
 by_cases k5 : s.f5.length = 0
 ·have n5:=List.eq_nil_of_length_eq_zero k5
  rw [if_pos k5] at h
  refine ⟨?_,fun y hy=>by rw [n5] at hy;cases hy⟩
  by_cases k7 : s.f0 = 7
  ·rw [if_pos k7] at h
   simp only [Bool.and_eq_true,List.all_eq_true] at h
   exact fun y hy=>⟨_,h.2.2.2 y hy⟩
  rw [if_neg k7] at h
  by_cases k8 : s.f0 = 8
  ·rw [if_pos k8] at h
   simp only [Bool.and_eq_true,List.all_eq_true] at h
   exact fun y hy=>⟨_,h.2.2.2.2 y hy⟩
  rw [if_neg k8] at h
  simp only [Bool.and_eq_true,decide_eq_true_eq] at h
  exact fun y hy=>by rw [List.eq_nil_of_length_eq_zero h.1] at hy;cases hy
 ·rw [if_neg k5] at h
  cases h
theorem fit_of : ∀ (d : Nat) (s : S69) (room : Int),okS (d + 1) s room = true → smallS (d + 1) s → Fit d s.f4 ∧ Fit d s.f5
 | 0,s,room,h,_=>by
  obtain ⟨h4,h5⟩:=okS_in h
  have z : ∀ l : List S69,(∀ y ∈ l,∃ m,okS 0 y m = true) → l = []:=fun l hl=>by
   cases l with
   | nil=>rfl
   | cons y t =>
    obtain ⟨m,hm⟩:=hl y (List.mem_cons_self ..)
    simp [okS] at hm
  exact ⟨z _ h4,z _ h5⟩
 | d + 1,s,room,h,hs=>by
  obtain ⟨h4,h5⟩:=okS_in h
  refine ⟨⟨Nat.le_trans hs.1.1 (by decide),fun y hy=>?_⟩,⟨Nat.le_trans hs.2.1 (by decide),fun y hy=>?_⟩⟩
  ·obtain ⟨m,hm⟩:=h4 y hy
   exact fit_of d y m hm (hs.1.2 y hy)
  ·obtain ⟨m,hm⟩:=h5 y hy
   exact fit_of d y m hm (hs.2.2 y hy)
theorem VX.fit {x : S69} {room : Int} (h : VX x room) : Fit 3 x.f4 ∧ Fit 3 x.f5:=by
 obtain ⟨d,hd,ho,hs⟩:=h
 cases d with
 | zero=>simp [okS] at ho
 | succ d =>
  obtain ⟨a,b⟩:=fit_of d x room ho hs
  exact ⟨fit_le (by omega) _ a,fit_le (by omega) _ b⟩
theorem TOK.fit : ∀ (l : List S69) (room : Int),TOK l room → ∀ x ∈ l,Fit 3 x.f4 ∧ Fit 3 x.f5
 | [],_,_,x,hx=>by cases hx
 | y :: r,room,h,x,hx=>by
  rcases h with ⟨⟨a,ha,_,_⟩,hr⟩ | ⟨hv,hr⟩
  ·rcases List.mem_cons.1 hx with rfl | hx
   ·rw [ha]
    exact ⟨fit_le (Nat.zero_le _) _ rfl,fit_le (Nat.zero_le _) _ rfl⟩
   ·exact TOK.fit r _ hr x hx
  ·rcases List.mem_cons.1 hx with rfl | hx
   ·exact hv.fit
   ·exact TOK.fit r _ hr x hx
theorem VS.copies {n : Nat} {ps : List S51} {qs : List (List Int)} {ys : List S38} (h : VS n ps qs ys) (hn : n ≤ 300) : ∃ k,∀ p ∈ ps,spec_l2Copy.f k p.f1 4 = some p.f1:=by
 have one : ∀ p ∈ ps,Ev (fun k=>spec_l2Copy.f k p.f1 ((4 : Nat) : Int)) p.f1:=fun p hp=>copy_ev 4 4 p.f1 ⟨by
  have h1:=h.tl p hp
  have : (n + 1) * 1100000 ≤ 301 * 1100000:=Nat.mul_le_mul_right _ (by omega)
  omega,TOK.fit p.f1 p.f4 (h.pv p hp).td⟩ (Nat.le_refl _) (by decide)
 have all : ∀ l : List S51,(∀ p ∈ l,Ev (fun k=>spec_l2Copy.f k p.f1 ((4 : Nat) : Int)) p.f1) → ∃ K,∀ k,K ≤ k → ∀ p ∈ l,spec_l2Copy.f k p.f1 4 = some p.f1:=by
  intro l
  induction l with
  | nil=>exact fun _=>⟨0,fun _ _ p hp=>by cases hp⟩
  | cons x t ih =>
   intro hl
   obtain ⟨K1,h1⟩:=hl x (List.mem_cons_self ..)
   obtain ⟨K2,h2⟩:=ih fun p hp=>hl p (List.mem_cons_of_mem _ hp)
   refine ⟨K1 + K2,fun k hk p hp=>?_⟩
   rcases List.mem_cons.1 hp with rfl | hp
   ·exact h1 k (by omega)
   ·exact h2 k (by omega) p hp
 obtain ⟨K,hK⟩:=all ps one
 exact ⟨K,hK K (Nat.le_refl _)⟩
structure GoodP (l0 : List (List S69)) : Prop where
 p0 : 0 < l0.length
 p3 : l0.length ≤ 3
 sz : ∀ l ∈ l0,l.length ≤ 1000000
 vx : ∀ l ∈ l0,∀ x ∈ l,VX x (-1)
theorem TOK.all : ∀ (l : List S69) (room : Int),(∀ x ∈ l,VX x room) → TOK l room
 | [],_,_=>trivial
 | x :: r,room,h=>.inr ⟨h x (List.mem_cons_self ..),TOK.all r room fun y hy=>h y (List.mem_cons_of_mem _ hy)⟩
theorem VS.start {l0 : List (List S69)} (h : GoodP l0) : VS 0 (wo0 true l0) (wo3 true) []:=by
 have e : wo0 true l0 = l0.map prO:=rfl
 refine ⟨by rw [e,List.length_map];exact h.p0,by rw [e,List.length_map];exact h.p3,rfl,fun p hp=>?_,fun p hp=>?_,by decide,fun x hx=>by simp [wo3] at hx,fun q hq=>?_,Nat.le_refl _,fun y hy=>by cases hy⟩
 ·rw [e] at hp
  obtain ⟨l,hl,rfl⟩:=List.mem_map.1 hp
  exact ⟨.inl rfl,.inl rfl,fun z=>absurd rfl z,TOK.all l (-1) (h.vx l hl)⟩
 ·rw [e] at hp
  obtain ⟨l,hl,rfl⟩:=List.mem_map.1 hp
  have:=h.sz l hl
  show l.length ≤ _
  omega
 ·have e2 : q = []:=by simpa [wo3] using hq
  rw [e2]
  exact Nat.le_refl _
theorem VS.len3 {n : Nat} {ps x0 : List S51} {x1 x2 : List Int} {qs : List (List Int)} {ys : List S38} (h : VS n ps qs ys) (hn : n ≤ 300) (hl : x0.length = ps.length) (hk : ∀ i (hi : i < ps.length) (hx : i < x0.length),Likes ps[i] x0[i]) (h1 : x1.length = 3) (h2 : x2.length = 2) : Len3 x0 x1 x2 qs ys:=by
 have hp3:=h.p3
 have hq2:=h.q2
 have hyl:=h.yl
 refine ⟨by omega,by omega,by omega,by omega,by omega,fun x hx=>?_,fun x hx=>?_,fun q hq=>?_⟩
 ·obtain ⟨i,hi,rfl⟩:=List.mem_iff_getElem.1 hx
  have:=(hk i (by omega) hi).1
  omega
 ·obtain ⟨i,hi,rfl⟩:=List.mem_iff_getElem.1 hx
  have e:=(hk i (by omega) hi).2.1
  rw [e]
  have h1:=h.tl _ (List.getElem_mem (show i < ps.length by omega))
  have : (n + 1) * 1100000 ≤ 301 * 1100000:=Nat.mul_le_mul_right _ (by omega)
  omega
 ·have:=h.ql q hq
  omega
theorem kPf_now {w : World} {A : Option Addr} {n : Nat} {xs : List S51} (h : Kd.C k51 w A n xs) : Kd.C (kPf w) w A n xs:=h
def Played (n : Nat) (W : World) (len : Nat) (v0 v1 v2 v3 v4 : Value) : Prop :=
 (len ≤ 200 ∧ ∃ (ps : List S51) (qs : List (List Int)) (ys : List S38) (x0 : List S51) (x1 x2 : List Int),VS len ps qs ys ∧ x0.length = ps.length ∧ (∀ i (hi : i < ps.length) (hx : i < x0.length),Likes ps[i] x0[i]) ∧ x1.length = 3 ∧ x2.length = 2 ∧ RO k51 n W x0 x1 x2 qs ys v0 v1 v2 v3 v4) ∨ (200 < len ∧ v0 = .slice none 0 0 ∧ v1 = .slice none 0 0 ∧ v2 = .slice none 0 0 ∧ v3 = .slice none 0 0 ∧ v4 = .slice none 0 0)
theorem SV.begin {w w5 w6 : World} {l0 : List (List S69)} {v0 v1 v2 v3 v4 : Value} (h : RO (kPf w) w5.heap.size w6 (wo0 true l0) (wo1 true) (wo2 true) (wo3 true) [] v0 v1 v2 v3 v4) (hg : GoodP l0) (hb : Below w.heap.size w w5) (hb6 : Below w5.heap.size w5 w6) : SV (grOld w5.heap.size w) (owT w5.heap.size w6) w6 v0 v1 v2 v3 v4 (wo0 true l0) (wo3 true) []:=by
 have e : wo0 true l0 = l0.map prO:=rfl
 have hb':=below_step hb hb6
 refine SV.of_RO h rfl (by rw [e,List.length_map];exact hg.p0) rfl rfl (by decide) (fun q hq=>by simpa [wo3] using hq) (fun p cs hp hM=>?_) (Nat.le_refl _) (fun k _ hk=>hb'.block k hk) (fun k _ hk=>.inl (Nat.lt_of_lt_of_le hk hb.size)) hb'.size
 obtain ⟨r,t,e1,e2,e3⟩:=kPf_procs (m:=w5.heap.size) p cs hM
 rw [e] at hp
 obtain ⟨l,_,rfl⟩:=List.mem_map.1 hp
 exact ⟨r,t,e1,e2,rfl,e3⟩
set_option maxHeartbeats 2000000 in
set_option maxRecDepth 100000 in
theorem mplay_says (k : Nat) (A0 : Option Addr) (c0 : Nat) (l0 : List (List S69)) (w : World) (hr0 : Kd.C (Kd.slice 69 kM) w A0 l0.length l0) (hc0 : l0.length ≤ c0) (hg : GoodP l0) (hk : spec_ProgOk.f k l0 = some true) (AP : Option Addr) (cP : Nat) (l : List Int) (hP : Kd.C (Kd.int .i64) w AP l.length l) (hcP : l.length ≤ cP) :
  Calls Try.prog 14 #[.slice A0 l0.length c0,.slice AP l.length cP] w fun e w'=>∃ v0 v1 v2 v3 v4 vc,e = .returned (.tuple #[.agg #[v0,v1,v2,v3,v4],vc]) ∧ Played w.heap.size w' l.length v0 v1 v2 v3 v4 ∧ Below w.heap.size w w':=by
 have hu29:=Try.underlying33
 have HR0:=ö hr0
 have HC0:=ö hc0
 have HGP:=ö hg
 have A2:=ö hk
 have HP:=ö hP
 have HCP:=ö hcP
 have HB:=ö (Below.refl w.heap.size w)
 clear hr0 hc0 hg hk hP hcP
 by_cases hl : 200 < l.length
 ·have hlz : decide ((l.length : Int) > 200) = true:=decide_eq_true (by omega)
  go_enter Try.func14,Try.ntmps14
  go_wp2_with (first | ((with_reducible refine gate_dst (N:=4) rfl ?_);refine box_event ?hg (N:=4) ?hd (cs:=#[.slice none 0 0,.slice none 0 0,.slice none 0 0,.slice none 0 0,.slice none 0 0]) (t:=33) ?hr ?_;(case hd=>rfl);(case hg=>rfl);(case hr=>first | (go_simp;done) | (go_simp;rfl));intro br hg w5 hbox hb;replace HB:=ö (below_step HB.out hb);have GR:=ö (Nat.le_of_eq hg.symm);have BR:=ö hbox;clear hb hbox hg) | (go_at_call 22;(with_reducible refine (spec_ProgOk.calls k _ _ l0 true _ ?side1 ?side2 A2.out).mono ?_);(case side1=>exact Kd.C_below (kMs_C HR0.out) HB.out);(case side2=>exact HC0.out);rintro e w6 ⟨rfl,hb⟩;have n1_:=ö (blk_below BR.out hb);have n2_:=ö (below_step HB.out hb);clear BR HB;have BR:=n1_;have HB:=n2_;clear n1_ n2_;clear hb;obtain ⟨hcz_0,hcz_1,hcz_2,hcz_3,hcz_4,hfz_0,hfz_1,hfz_2,hfz_3,hfz_4⟩:=bz5_ BR) | ((with_reducible refine gate_dst (N:=17) rfl ?_);refine Kd.R_lit (Kd.int .i64) _ 3 ?hg (N:=17) ?hd (xs:=([] : List Int)) (inner:=[]) (ok:=fun _=>True) (okp:=fun _=>True) ?hr ?hp (fun _ hk=>hk) trivial (Below.refl _ _) (Nat.le_refl _) (by simp) ?_;(case hd=>rfl);(case hg=>rfl);(case hr=>first | (go_simp;done) | (go_simp;rfl));(case hp=>exact (Reps.none _ _));intro v17 w7 ho hb hg_ hnew_;clear hg_ hnew_;clear hcz_0 hcz_1 hcz_2 hcz_3 hcz_4 hfz_0 hfz_1 hfz_2 hfz_3 hfz_4;have n1_:=ö (blk_below BR.out hb);have n2_:=ö (below_step HB.out hb);clear BR HB;have BR:=n1_;have HB:=n2_;clear n1_ n2_;clear ho hb;obtain ⟨hcz_0,hcz_1,hcz_2,hcz_3,hcz_4,hfz_0,hfz_1,hfz_2,hfz_3,hfz_4⟩:=bz5_ BR))
  refine bodyPost_ret (results_ct rfl _ _ br 33 #[.slice none 0 0,.slice none 0 0,.slice none 0 0,.slice none 0 0,.slice none 0 0] (0,0) _ rfl (by apply bp5_4_;apply bp5_3_;apply bp5_2_;apply bp5_1_;apply bp5_0_;exact BR.out) Try.underlying33 rfl (by kernel_rfl)) rfl ?_
  exact ⟨_,_,_,_,_,_,rfl,.inr ⟨hl,rfl,rfl,rfl,rfl,rfl⟩,below_set5 HB.out GR.out _ _ _ _ _⟩
 ·have hlz : decide ((l.length : Int) > 200) = false:=decide_eq_false (by omega)
  have HL2:=ö (show l.length ≤ 200 by omega)
  go_enter Try.func14,Try.ntmps14
  go_wp2_with (first | ((with_reducible refine gate_dst (N:=4) rfl ?_);refine box_event ?hg (N:=4) ?hd (cs:=#[.slice none 0 0,.slice none 0 0,.slice none 0 0,.slice none 0 0,.slice none 0 0]) (t:=33) ?hr ?_;(case hd=>rfl);(case hg=>rfl);(case hr=>first | (go_simp;done) | (go_simp;rfl));intro br hg w5 hbox hb;replace HB:=ö (below_step HB.out hb);have GR:=ö (Nat.le_of_eq hg.symm);have BR:=ö hbox;clear hb hbox hg) | (go_at_call 22;(with_reducible refine (spec_ProgOk.calls k _ _ l0 true _ ?side1 ?side2 A2.out).mono ?_);(case side1=>exact Kd.C_below (kMs_C HR0.out) HB.out);(case side2=>exact HC0.out);rintro e w6 ⟨rfl,hb⟩;have n1_:=ö (blk_below BR.out hb);have n2_:=ö (below_step HB.out hb);clear BR HB;have BR:=n1_;have HB:=n2_;clear n1_ n2_;clear hb;obtain ⟨hcz_0,hcz_1,hcz_2,hcz_3,hcz_4,hfz_0,hfz_1,hfz_2,hfz_3,hfz_4⟩:=bz5_ BR) | (go_at_call 24;refine (l3open_says k A0 c0 l0 true w w6 HB.out HR0.out HC0.out (fun _=>⟨fun x hx=>Nat.le_trans (HGP.out.sz x hx) (by decide),by have:=HGP.out.p3;omega⟩) A2.out).mono ?_;rintro e w7 ⟨v0,v1,v2,v3,v4,rfl,hw,hb⟩;have hsv:=SV.begin (show RO (kPf w) w6.heap.size w7 (wo0 true l0) (wo1 true) (wo2 true) (wo3 true) [] v0 v1 v2 v3 v4 from hw) HGP.out HB.out hb;have HSV:=ö hsv;have OWO:=ö (show ∀ k,k < w6.heap.size → owT w6.heap.size w7 k = 0 from fun k hk=>owT_lt hk);have S6:=ö HB.out.size;have S7:=ö hb.size;have GRL:=ö (blk_lt BR.out);clear hcz_0 hcz_1 hcz_2 hcz_3 hcz_4 hfz_0 hfz_1 hfz_2 hfz_3 hfz_4;have n1_:=ö (blk_below BR.out hb);have n2_:=ö (below_step HB.out hb);clear BR HB;have BR:=n1_;have HB:=n2_;clear n1_ n2_;clear hw hb hsv;generalize owT w6.heap.size w7 = ow at HSV OWO) | (go_at_call 23;refine (l3play_says (grOld w6.heap.size w) ow w7 _ _ _ _ _ (wo0 true l0) (wo3 true) [] HSV.out (VS.start HGP.out) AP cP l (Kd.F_mono (Kd.F_below (Kd.C_F (Kd.heap_int .i64) HP.out) HB.out) fun k hk=>OWO.out k (Nat.lt_of_lt_of_le hk S6.out)) HL2.out S7.out).mono ?_;rintro e w8 ⟨ow2,v42,ps2,qs2,ys2,vc,rfl,hsv,hvs,hln,hex,hfr⟩;have n2_:=ö (HB.out.trans (show Below w.heap.size w7 w8 from ⟨hfr.1.os,hfr.1.tape,hfr.1.output,hfr.1.size,fun k hk=>hfr.2 k (Nat.lt_of_lt_of_le hk HB.out.size) (OWO.out k (Nat.lt_of_lt_of_le hk S6.out))⟩));have n1_:=ö ((hfr.2 br (blk_lt BR.out) (OWO.out br GRL.out)).trans BR.out);clear BR HB;have BR:=n1_;have HB:=n2_;clear n1_ n2_;obtain ⟨x0,x1,x2,hl0,hlk,hx1,hx2,hwc⟩:=hsv.reads (by have:=hvs.p3;omega) (by have:=hvs.q2;omega);have HL3:=ö (hvs.len3 (by have:=HL2.out;omega) hl0 hlk hx1 hx2);obtain ⟨kc,hkc⟩:=hvs.copies (by have:=HL2.out;omega);have HKC:=ö (show ∀ x ∈ x0,spec_l2Copy.f kc x.f1 4 = some x.f1 from fun x hx=>by (obtain ⟨i,hi,rfl⟩:=List.mem_iff_getElem.1 hx;have e:=(hlk i (by omega) hi).2.1;rw [e];exact hkc _ (List.getElem_mem (show i < ps2.length by omega))));have HZ:=ö (show 0 < x0.length by have:=hvs.p0;omega);have HAN:=ö (show ∃ (ps : List S51),VS l.length ps qs2 ys2 ∧ x0.length = ps.length ∧ (∀ i (hi : i < ps.length) (hx : i < x0.length),Likes ps[i] x0[i]) ∧ x1.length = 3 ∧ x2.length = 2 from ⟨ps2,hvs,hl0,hlk,hx1,hx2⟩);obtain ⟨B0,d0,e0,_,r0⟩:=hwc.r0;obtain ⟨B1,d1,e1,_,r1⟩:=hwc.r1;obtain ⟨B2,d2,e2,_,r2⟩:=hwc.r2;obtain ⟨B3,d3,e3,_,r3⟩:=hwc.r3;obtain ⟨B4,d4,e4,_,r4⟩:=hwc.r4;subst e0;subst e1;subst e2;subst e3;subst e4;have R0:=ö r0;have R1:=ö r1;have R2:=ö r2;have R3:=ö r3;have R4:=ö r4;clear r0 r1 r2 r3 r4 hwc hsv hvs hln hex hfr hl0 hlk hx1 hx2 hkc HSV OWO) | ((with_reducible refine gate_dst (N:=6) rfl ?_);refine box_event ?hg (N:=6) ?hd (cs:=#[.slice none 0 0,.slice none 0 0,.slice none 0 0,.slice none 0 0,.slice none 0 0]) (t:=33) ?hr ?_;(case hd=>rfl);(case hg=>rfl);(case hr=>first | (go_simp;done) | (go_simp;rfl));intro bw hg w9 hbox hb;have n1_:=ö (blk_below BR.out hb);have GW:=ö (Nat.le_of_eq hg.symm);have S8:=ö HB.out.size;have HB9:=ö hb;have NR:=ö (show br ≠ bw by rw [hg];exact Nat.ne_of_lt (blk_lt BR.out));replace HB:=ö (below_step HB.out hb);clear BR;have BR:=n1_;clear n1_;have BW:=ö hbox;obtain ⟨hcq_0,hcq_1,hcq_2,hcq_3,hcq_4,hfq_0,hfq_1,hfq_2,hfq_3,hfq_4⟩:=bz5_ BW;clear hb hbox hg) | (go_at_call 25;have HBW:=ö (below_set5 HB9.out GW.out (.slice B0 x0.length d0) (.slice B1 x1.length d1) (.slice B2 x2.length d2) (.slice B3 qs2.length d3) (.slice B4 ys2.length d4));refine (l3out_says kc B0 d0 x0 B1 d1 x1 B2 d2 x2 B3 d3 qs2 B4 d4 ys2 _ _ (Below.refl _ _) HZ.out (kPf_now (Kd.C_below R0.out HBW.out)) (Kd.C_below R1.out HBW.out) (Kd.C_below R2.out HBW.out) (Kd.C_below R3.out HBW.out) (Kd.C_below R4.out HBW.out) HL3.out HKC.out).mono ?_;rintro e w10 ⟨y0,y1,y2,y3,y4,rfl,hro,hb⟩;have n1_:=ö (blk_below (far_set5 BR.out NR.out (.slice B0 x0.length d0) (.slice B1 x1.length d1) (.slice B2 x2.length d2) (.slice B3 qs2.length d3) (.slice B4 ys2.length d4)) hb);have n2_:=ö (below_step (below_set5 HB.out (Nat.le_trans S8.out GW.out) (.slice B0 x0.length d0) (.slice B1 x1.length d1) (.slice B2 x2.length d2) (.slice B3 qs2.length d3) (.slice B4 ys2.length d4)) hb);have hs:=(below_set5 HB.out (Nat.le_trans S8.out GW.out) (.slice B0 x0.length d0) (.slice B1 x1.length d1) (.slice B2 x2.length d2) (.slice B3 qs2.length d3) (.slice B4 ys2.length d4)).size;have HRO:=ö (show RO k51 w.heap.size w10 x0 x1 x2 qs2 ys2 y0 y1 y2 y3 y4 from ⟨Kd.R_lower hro.r0 hs,Kd.R_lower hro.r1 hs,Kd.R_lower hro.r2 hs,Kd.R_lower hro.r3 hs,Kd.R_lower hro.r4 hs⟩);clear hs BR HB hro hb hcq_0 hcq_1 hcq_2 hcq_3 hcq_4 hfq_0 hfq_1 hfq_2 hfq_3 hfq_4;have BR:=n1_;have HB:=n2_;clear n1_ n2_;obtain ⟨E0,i0,e0⟩:=Kd.R_slice HRO.out.r0;obtain ⟨E1,i1,e1⟩:=Kd.R_slice HRO.out.r1;obtain ⟨E2,i2,e2⟩:=Kd.R_slice HRO.out.r2;obtain ⟨E3,i3,e3⟩:=Kd.R_slice HRO.out.r3;obtain ⟨E4,i4,e4⟩:=Kd.R_slice HRO.out.r4;subst e0;subst e1;subst e2;subst e3;subst e4;obtain ⟨hcz_0,hcz_1,hcz_2,hcz_3,hcz_4,hfz_0,hfz_1,hfz_2,hfz_3,hfz_4⟩:=bz5_ BR))
  refine bodyPost_ret (results_ct rfl _ _ br 33 #[.slice E0 x0.length i0,.slice E1 x1.length i1,.slice E2 x2.length i2,.slice E3 qs2.length i3,.slice E4 ys2.length i4] (0,0) _ rfl (by apply bp5_4_;apply bp5_3_;apply bp5_2_;apply bp5_1_;apply bp5_0_;exact BR.out) Try.underlying33 rfl (by kernel_rfl)) rfl ?_
  obtain ⟨ps,h1,h2,h3,h4,h5⟩:=HAN.out
  exact ⟨_,_,_,_,_,_,rfl,.inl ⟨HL2.out,ps,qs2,ys2,x0,x1,x2,h1,h2,h3,h4,h5,⟨set5_ _ _ _ _ _ HRO.out.r0 BR.out k59_29,set5_ _ _ _ _ _ HRO.out.r1 BR.out (by decide),set5_ _ _ _ _ _ HRO.out.r2 BR.out (by decide),set5_ _ _ _ _ _ HRO.out.r3 BR.out (by decide),set5_ _ _ _ _ _ HRO.out.r4 BR.out (by decide)⟩⟩,below_set5 HB.out GR.out _ _ _ _ _⟩
end Go.Proofs.Ytfbocgagfodgnaa.P

namespace Go.Proofs.Ytfbocgagfodgnaa.P
open Go.RowKit Go.Proofs.YtfbocgagfodgnaaW.PrintWords Go.Proofs.YtfbocgagfodgnaaW.PrintMore
theorem tmod_range {x n : Int} (hx : 0 ≤ x) (hn : 0 < n) : 0 ≤ Int.tmod x n ∧ Int.tmod x n < n:=⟨Int.tmod_nonneg _ hx,Int.tmod_lt_of_pos _ hn⟩
theorem pick_ev {xs : List Int} {p n : Int} (hb : Buf xs) (hp0 : 0 ≤ p) (hp : p ≤ 1000000000000) :
  ∃ v,Ev (fun k=>spec_l11Rd_pick.f k xs p n) (v,p + 1) ∧ (1 ≤ n → 0 ≤ v ∧ v < n) ∧ (n < 1 → v = 0):=by
 have hw : wrap64 (p + 1) = p + 1:=wrap_id (by omega) (by omega)
 have hw1 : wrap64 (p + 1 - 1) = p:=by rw [wrap_id (by omega) (by omega)];omega
 by_cases hn : n < 1
 ·refine ⟨0,?_,fun h=>absurd h (by omega),fun _=>rfl⟩
  unfold spec_l11Rd_pick.f
  refine Evs.ite_pos hn (Evs.succ (f:=fun _=>some (0,p + 1)) (fun k=>?_) (Evs.some_ _))
  simp only [spec_l11Rd_pick.j0]
  rw [if_pos trivial,hw]
 ·by_cases h0 : xs.length = 0
  ·refine ⟨0,?_,fun h=>⟨by omega,by omega⟩,fun _=>rfl⟩
   unfold spec_l11Rd_pick.f
   refine Evs.ite_neg hn (Evs.succ (f:=fun _=>some (0,p + 1)) (fun k=>?_) (Evs.some_ _))
   simp only [spec_l11Rd_pick.j0]
   rw [if_pos (by simp [h0]),hw]
  ·have hl : 0 < (xs.length : Int):=by omega
   have hl2 : (xs.length : Int) ≤ 2000:=by have:=hb.1;omega
   have hne : ((xs.length : Int) == 0) = false:=by simp;intro e;rw [e] at h0;simp at h0
   have byte : ∀ i : Int,0 ≤ i → i < (xs.length : Int) → 0 ≤ rd xs i ∧ rd xs i ≤ 255:=fun i a b=>rd_all hb.2 a b
   by_cases hlt : p < (xs.length : Int)
   ·obtain ⟨b0,b1⟩:=byte p hp0 hlt
    refine ⟨Int.tmod (rd xs p) n,?_,fun h=>tmod_range b0 (by omega),fun h=>absurd h (by omega)⟩
    unfold spec_l11Rd_pick.f
    refine Evs.ite_neg hn (Evs.succ (f:=fun _=>some (Int.tmod (rd xs p) n,p + 1)) (fun k=>?_) (Evs.some_ _))
    rw [hne]
    simp only [spec_l11Rd_pick.j0,hw,hw1]
    rw [if_neg (by simp),if_pos hlt,if_pos hp0,if_neg (by omega),wrap_id (by omega) (by omega)]
   ·obtain ⟨i0,i1⟩:=tmod_range hp0 hl
    have e7 : wrap64 (wrap64 (p * 7) + 3) = p * 7 + 3:=by rw [wrap_id (n:=p * 7) (by omega) (by omega),wrap_id (by omega) (by omega)]
    obtain ⟨j0,j1⟩:=tmod_range (x:=p * 7 + 3) (n:=(xs.length : Int)) (by omega) hl
    obtain ⟨b0,b1⟩:=byte _ i0 i1
    obtain ⟨c0,c1⟩:=byte _ j0 j1
    have ed : wrap64 (Int.tdiv p (xs.length : Int)) = p / (xs.length : Int):=by
     rw [Int.tdiv_eq_ediv_of_nonneg hp0]
     have h1 : 0 ≤ p / (xs.length : Int):=Int.ediv_nonneg hp0 (by omega)
     have h2 : p / (xs.length : Int) ≤ p:=Int.ediv_le_self _ hp0
     exact wrap_id (by omega) (by omega)
    have hd0 : 0 ≤ p / (xs.length : Int):=Int.ediv_nonneg hp0 (by omega)
    have hd1 : p / (xs.length : Int) ≤ p:=Int.ediv_le_self _ hp0
    have X : ∃ X : Int,X = rd xs (Int.tmod p (xs.length : Int)) * 131 + rd xs (Int.tmod (p * 7 + 3) (xs.length : Int)) * 1117 + p * 29 + p / (xs.length : Int) * 53:=⟨_,rfl⟩
    obtain ⟨X,hX⟩:=X
    have hX0 : 0 ≤ X:=by omega
    have hX1 : X < 9223372036854775808:=by omega
    refine ⟨Int.tmod (Go.bits .xor .i64 X (X / 64)) n,?_,fun h=>tmod_range (xor_range hX0 hX1 (by omega) (by omega)) (by omega),fun h=>absurd h (by omega)⟩
    unfold spec_l11Rd_pick.f
    refine Evs.ite_neg hn (Evs.succ (f:=fun _=>some (Int.tmod (Go.bits .xor .i64 X (X / 64)) n,p + 1)) (fun k=>?_) (Evs.some_ _))
    rw [hne]
    simp only [spec_l11Rd_pick.j0,hw,hw1,e7,ed]
    rw [if_neg (by simp),if_neg (by omega),if_neg (by omega),if_pos i0,if_pos i1,if_pos j0,if_pos j1,if_neg (by omega)]
    generalize hR : rd xs (Int.tmod p (xs.length : Int)) = R at *
    generalize hS : rd xs (Int.tmod (p * 7 + 3) (xs.length : Int)) = S at *
    generalize hD : p / (xs.length : Int) = D at *
    have e1 : wrap64 (wrap64 R * 131) = R * 131:=by rw [wrap_id (n:=R) (by omega) (by omega),wrap_id (by omega) (by omega)]
    have e2 : wrap64 (wrap64 S * 1117) = S * 1117:=by rw [wrap_id (n:=S) (by omega) (by omega),wrap_id (by omega) (by omega)]
    have e3 : wrap64 (p * 29) = p * 29:=wrap_id (by omega) (by omega)
    have e4 : wrap64 (D * 53) = D * 53:=wrap_id (by omega) (by omega)
    have e5 : wrap64 (R * 131 + S * 1117) = R * 131 + S * 1117:=wrap_id (by omega) (by omega)
    have e6 : wrap64 (R * 131 + S * 1117 + p * 29) = R * 131 + S * 1117 + p * 29:=wrap_id (by omega) (by omega)
    have e8 : wrap64 (R * 131 + S * 1117 + p * 29 + D * 53) = X:=by rw [hX];exact wrap_id (by omega) (by omega)
    simp only [e1,e2,e3,e4,e5,e6,e8]
    have e9 : wrap64 (Int.tdiv X 64) = X / 64:=by rw [Int.tdiv_eq_ediv_of_nonneg hX0];exact wrap_id (by omega) (by omega)
    rw [e9]
theorem num_ev {xs : List Int} {p : Int} {l : List Int} (hb : Buf xs) (hp0 : 0 ≤ p) (hp : p ≤ 1000000000000) (hl : l ≠ []) (hll : l.length ≤ 1000) :
  ∃ v,v ∈ l ∧ Ev (fun k=>spec_l11Rd_num.f k xs p l) (v,p + 1):=by
 have h1 : 1 ≤ (l.length : Int):=by
  have:=List.length_pos_iff.2 hl
  omega
 obtain ⟨v,hv,hr,_⟩:=pick_ev (n:=(l.length : Int)) hb hp0 hp
 obtain ⟨r0,r1⟩:=hr h1
 refine ⟨rd l v,rd_all (p:=fun x=>x ∈ l) (fun x hx=>hx) r0 r1,?_⟩
 unfold spec_l11Rd_num.f
 refine Evs.bind hv ?_
 exact Evs.ite_pos r0 (Evs.ite_pos r1 (Evs.some_ _))
theorem open_eq (xs : List Int) : ∃ ys,spec_l11Open.f xs = some (ys,0) ∧ ((∀ x ∈ xs,(Lit.int .u8 x).wf = true) → Buf ys):=by
 unfold spec_l11Open.f
 by_cases h : (xs.length : Int) > 2000
 ·rw [if_pos h,if_pos (by omega)]
  exact ⟨_,rfl,fun hw=>take_buf hw⟩
 ·rw [if_neg h]
  exact ⟨_,rfl,fun hw=>buf_of_wf (by omega) hw⟩
end Go.Proofs.Ytfbocgagfodgnaa.P

namespace Go.Proofs.Ytfbocgagfodgnaa.P
open Go.Proofs.YtfbocgagfodgnaaW.PrintWords renaming Aside0.mk → ö
open Go.RowKit Go.Proofs.YtfbocgagfodgnaaW.PrintWords Go.Proofs.YtfbocgagfodgnaaW.PrintLast Go.Proofs.YtfbocgagfodgnaaW.PrintMore
attribute [local go_sem] max2_int min2_int max_two min_two max_three min_three max_four min_four
set_option linter.unusedVariables false
set_option linter.unusedSimpArgs false
theorem pick_says {s : List Int} {p : Int} (hb : Buf s) (p0 : 0 ≤ p) (p1 : p ≤ 1000000000000) (n : Int) : ∃ v,(1 ≤ n → 0 ≤ v ∧ v < n) ∧ ∀ (g : Nat) (w0 W : World),IsS53 w0 W g s p → Below w0.heap.size w0 W → Calls Try.prog 16 #[.pointer (some ⟨g,0,none⟩),.int .i64 n] W fun e w'=>e = .returned (.int .i64 v) ∧ IsS53 w0 w' g s (p + 1) ∧ Below w0.heap.size w0 w' ∧ KeepBut W w' g none:=by
 obtain ⟨v,hv,h1,_⟩:=pick_ev (n:=n) hb p0 p1
 obtain ⟨k,hk⟩:=hv.rounds
 exact ⟨v,h1,fun g w0 W hI hB=>spec_l11Rd_pick.calls k g s p n v (p + 1) w0 W hI hB hk⟩
theorem num_says {s : List Int} {p : Int} (hb : Buf s) (p0 : 0 ≤ p) (p1 : p ≤ 1000000000000) (l : List Int) (hl : l ≠ []) (hll : l.length ≤ 1000) : ∃ v,v ∈ l ∧ ∀ (g : Nat) (w0 W : World) (A : Option Addr) (c : Nat),IsS53 w0 W g s p → Below w0.heap.size w0 W → Kd.C (Kd.int .i64) W A l.length l → l.length ≤ c → (∀ ad,A = some ad → 0 < l.length → ad.block ≠ g) → Calls Try.prog 27 #[.pointer (some ⟨g,0,none⟩),.slice A l.length c] W fun e w'=>e = .returned (.int .i64 v) ∧ IsS53 w0 w' g s (p + 1) ∧ Below w0.heap.size w0 w' ∧ KeepBut W w' g none:=by
 obtain ⟨v,h1,hv⟩:=num_ev (l:=l) hb p0 p1 hl hll
 obtain ⟨k,hk⟩:=hv.rounds
 exact ⟨v,h1,fun g w0 W A c hI hB hC hc hf=>spec_l11Rd_num.calls k g s p A c l v (p + 1) w0 W hI hB hC hc hf hk⟩
structure PX (wb w : World) (g : Nat) (s : List Int) (n0 : Nat) (wm : World) (v0 v1 v2 v3 : Value) (bw n : Nat) (W : World) (p : Int) (vc : Value) (ow' : Nat → Nat) (v4' : Value) (ps' : List S51) (qs' : List (List Int)) (ys' : List S38) (codes : List Int) : Prop where
 sv : SV (grOwn n0 wm) ow' W v0 v1 v2 v3 v4' ps' qs' ys'
 vs : VS n ps' qs' ys'
 bkw : W.heap[bw]? = some (.cells #[v0,v1,v2,v3,v4'] 33 (0,0))
 gw : wm.heap.size ≤ bw
 ob : ow' bw = 0
 is : IsS53 wb W g s p
 be : Below wb.heap.size wb W
 kp : KeepBut w W g none
 gn : w.heap.size ≤ n0
 nm : n0 ≤ wm.heap.size
 gg : g < w.heap.size
 co : Kd.R (Kd.int .i64) 3 W 0 (fun k=>ow' k = 0 ∧ w.heap.size ≤ k ∧ (k < n0 ∨ wm.heap.size ≤ k)) vc codes
section
variable {wb w : World} {g : Nat} {s : List Int} {n0 : Nat} {wm : World} {v0 v1 v2 v3 : Value} {bw n : Nat} {W W' : World} {p p' : Int} {vc : Value} {ow' : Nat → Nat} {v4' : Value} {ps' : List S51} {qs' : List (List Int)} {ys' : List S38} {codes : List Int}
theorem PX.below (h : PX wb w g s n0 wm v0 v1 v2 v3 bw n W p vc ow' v4' ps' qs' ys' codes) (hb : Below W.heap.size W W') : PX wb w g s n0 wm v0 v1 v2 v3 bw n W' p vc ow' v4' ps' qs' ys' codes :=
 ⟨h.sv.below hb,h.vs,blk_below h.bkw hb,h.gw,h.ob,h.is.below hb,below_step h.be hb,h.kp.trans (KeepBut.of_below hb g none) (.inl rfl),h.gn,h.nm,h.gg,Kd.R_below h.co hb⟩
theorem PX.og (h : PX wb w g s n0 wm v0 v1 v2 v3 bw n W p vc ow' v4' ps' qs' ys' codes) : ∀ k,k < n0 → ow' k = 0:=fun k hk=>Classical.byContradiction fun z=>by
 have h1 : n0 ≤ k:=(h.sv.bd k z).1
 omega
theorem PX.gb (h : PX wb w g s n0 wm v0 v1 v2 v3 bw n W p vc ow' v4' ps' qs' ys' codes) : bw ≠ g:=by
 have h1:=h.gw;have h2:=h.gn;have h3:=h.nm;have h4:=h.gg
 omega
theorem PX.drawn (h : PX wb w g s n0 wm v0 v1 v2 v3 bw n W p vc ow' v4' ps' qs' ys' codes) (hi : IsS53 wb W' g s p') (hbb : Below wb.heap.size wb W') (hk : KeepBut W W' g none) : PX wb w g s n0 wm v0 v1 v2 v3 bw n W' p' vc ow' v4' ps' qs' ys' codes:=by
 have hg:=h.gg
 have hn:=h.gn
 obtain ⟨A0,c0,hc,_⟩:=h.is
 exact ⟨h.sv.other hc (by decide) (h.og g (by omega)) (fun hS=>by have : n0 ≤ g:=hS.1;omega) hk.1 fun k hlt hne=>hk.2 k hlt hne (by simp),h.vs,(hk.2 bw (blk_lt h.bkw) h.gb (by simp)).trans h.bkw,h.gw,h.ob,hi,hbb,h.kp.trans hk (.inl rfl),hn,h.nm,hg,Kd.R_keep h.co hk fun k hk e=>by have:=hk.2.1;omega⟩
theorem PX.code {vc1 : Value} {codes1 : List Int} (h : PX wb w g s n0 wm v0 v1 v2 v3 bw n W p vc ow' v4' ps' qs' ys' codes) (ho : Kd.R (Kd.int .i64) 3 W' 0 (fun k=>ow' k = 0 ∧ w.heap.size ≤ k ∧ (k < n0 ∨ wm.heap.size ≤ k)) vc1 codes1) (hg : W.grownBy W' vc.ownBlock) : PX wb w g s n0 wm v0 v1 v2 v3 bw n W' p vc1 ow' v4' ps' qs' ys' codes1:=by
 have hgg:=h.gg
 have hgn:=h.gn
 have hgb:=h.is.ge
 have hne : ∀ k,k < w.heap.size → some k ≠ vc.ownBlock:=fun k hk e=>by have:=(h.co.1 k e.symm).2.1;omega
 refine ⟨?_,h.vs,blk_grown h.bkw hg (Kd.R_ne h.co h.bkw (by decide)),h.gw,h.ob,h.is.grown hg (hne g hgg),h.be.trans ⟨hg.os,hg.tape,hg.output,hg.size,fun k hk=>hg.block k (Nat.lt_of_lt_of_le hk h.be.size) (hne k (by omega))⟩,⟨Nat.le_trans h.kp.1 hg.size,fun i hi hig hr=>(hg.block i (Nat.lt_of_lt_of_le hi h.kp.1) (hne i hi)).trans (h.kp.2 i hi hig hr)⟩,hgn,h.nm,hgg,ho⟩
 cases e : vc.ownBlock with
 | none=>exact h.sv.below ⟨hg.os,hg.tape,hg.output,hg.size,fun k hk=>hg.block k hk (by rw [e];simp)⟩
 | some b =>
  obtain ⟨cells,hc⟩:=Kd.R_typed h.co b e
  have hq:=h.co.1 b e
  exact h.sv.other hc (by decide) hq.1 (fun hS hl=>by
   have h1 : n0 ≤ b:=hS.1
   have h2 : b < wm.heap.size:=hl
   omega) hg.size fun k hk hne=>hg.block k hk (by rw [e];intro z;injection z with z;exact hne z)
theorem PX.step {W2 : World} {ow2 : Nat → Nat} {v42 : Value} {ps2 : List S51} {qs2 : List (List Int)} {ys2 : List S38} (h : PX wb w g s n0 wm v0 v1 v2 v3 bw n W p vc ow' v4' ps' qs' ys' codes) (hs : SV (grOwn n0 wm) ow2 W2 v0 v1 v2 v3 v42 ps2 qs2 ys2) (hv2 : VS (n + 1) ps2 qs2 ys2) (hex : ∀ k,k < W.heap.size → ow2 k = ow' k) (hfr : Fr ow' W W2) : PX wb w g s n0 wm v0 v1 v2 v3 bw (n + 1) (((((W2.setCell ⟨bw,0,none⟩ v0).setCell ⟨bw,1,none⟩ v1).setCell ⟨bw,2,none⟩ v2).setCell ⟨bw,3,none⟩ v3).setCell ⟨bw,4,none⟩ v42) p vc ow2 v42 ps2 qs2 ys2 codes:=by
 have hgg:=h.gg
 have hgn:=h.gn
 have hgb:=h.is.ge
 have hwb:=h.gw
 have hnm:=h.nm
 have hne:=h.gb
 have hb2 : W2.heap[bw]? = some (.cells #[v0,v1,v2,v3,v4'] 33 (0,0)):=(hfr.2 bw (blk_lt h.bkw) h.ob).trans h.bkw
 have hsz : w.heap.size ≤ W.heap.size:=h.kp.1
 have hco : Kd.R (Kd.int .i64) 3 W2 0 (fun k=>ow2 k = 0 ∧ w.heap.size ≤ k ∧ (k < n0 ∨ wm.heap.size ≤ k)) vc codes:=Kd.R_mono (Kd.R_move (Kd.R_bound h.co) fun k hk=>hfr.2 k hk.2.2.1 hk.1.1) fun k hk=>⟨(hex k hk.2.2.1).trans hk.1.1,hk.1.2⟩
 have hb : Below wb.heap.size wb W2:=h.be.trans ⟨hfr.1.os,hfr.1.tape,hfr.1.output,hfr.1.size,fun k hk=>hfr.2 k (Nat.lt_of_lt_of_le hk h.be.size) (h.og k (by omega))⟩
 have hk : KeepBut w W2 g none:=⟨Nat.le_trans hsz hfr.1.size,fun i hi hig hr=>(hfr.2 i (by omega) (h.og i (by omega))).trans (h.kp.2 i hi hig hr)⟩
 have hi : IsS53 wb W2 g s p:=by
  obtain ⟨A0,c0,hc,h1,h2⟩:=h.is
  exact ⟨A0,c0,(hfr.2 g (by omega) (h.og g (by omega))).trans hc,h1,h2⟩
 exact ⟨hs.setW5 hwb hb2 _ _ _ _ _,hv2,by apply bp5_4_;apply bp5_3_;apply bp5_2_;apply bp5_1_;apply bp5_0_;exact hb2,hwb,(hex bw (blk_lt h.bkw)).trans h.ob,((((hi.far (p:=⟨bw,0,none⟩) hne.symm _).far (p:=⟨bw,1,none⟩) hne.symm _).far (p:=⟨bw,2,none⟩) hne.symm _).far (p:=⟨bw,3,none⟩) hne.symm _).far (p:=⟨bw,4,none⟩) hne.symm _,below_set5 hb (by omega) _ _ _ _ _,keep_far (p:=⟨bw,4,none⟩) (keep_far (p:=⟨bw,3,none⟩) (keep_far (p:=⟨bw,2,none⟩) (keep_far (p:=⟨bw,1,none⟩) (keep_far (p:=⟨bw,0,none⟩) hk (show w.heap.size ≤ bw by omega) _) (show w.heap.size ≤ bw by omega) _) (show w.heap.size ≤ bw by omega) _) (show w.heap.size ≤ bw by omega) _) (show w.heap.size ≤ bw by omega) _,hgn,hnm,hgg,set5_ _ _ _ _ _ hco hb2 (by decide)⟩
theorem PX.mono {m : Nat} (h : PX wb w g s n0 wm v0 v1 v2 v3 bw n W p vc ow' v4' ps' qs' ys' codes) (hm : n ≤ m) : PX wb w g s n0 wm v0 v1 v2 v3 bw m W p vc ow' v4' ps' qs' ys' codes :=
 ⟨h.sv,h.vs.mono hm,h.bkw,h.gw,h.ob,h.is,h.be,h.kp,h.gn,h.nm,h.gg,h.co⟩
end
theorem SV.beginR {n : Nat} {w6 : World} {l0 : List (List S69)} {v0 v1 v2 v3 v4 : Value} (h : RO k51 n w6 (wo0 true l0) (wo1 true) (wo2 true) (wo3 true) [] v0 v1 v2 v3 v4) (hg : GoodP l0) : SV (grOwn n w6) (owT n w6) w6 v0 v1 v2 v3 v4 (wo0 true l0) (wo3 true) []:=by
 have e : wo0 true l0 = l0.map prO:=rfl
 refine SV.of_RO h rfl (by rw [e,List.length_map];exact hg.p0) rfl rfl (by decide) (fun q hq=>by simpa [wo3] using hq) (fun p cs hp hM=>?_) (Nat.le_refl _) (fun k _ hk=>rfl) (fun k hS hk=>.inr ?_) (Nat.le_refl _)
 ·obtain ⟨r,t,e1,e2,e3⟩:=k59_procs p cs hM
  rw [e] at hp
  obtain ⟨l,_,rfl⟩:=List.mem_map.1 hp
  exact ⟨r,t,e1,e2,rfl,e3⟩
 ·obtain ⟨cells,hc⟩:=hS.2
  exact ⟨cells,(0,0),hc⟩
theorem PX.begin {wb w w5 w6 w7 : World} {g bw : Nat} {s : List Int} {p : Int} {l0 : List (List S69)} {v0 v1 v2 v3 v4 vc : Value} (hI : IsS53 wb w g s p) (hBe : Below wb.heap.size wb w) (h5 : Below w.heap.size w w5) (h6 : Below w5.heap.size w5 w6) (h7 : Below w6.heap.size w6 w7) (hbox : w7.heap[bw]? = some (.cells #[.slice none 0 0,.slice none 0 0,.slice none 0 0,.slice none 0 0,.slice none 0 0] 33 (0,0))) (hbw : w6.heap.size ≤ bw) (hro : RO k51 w5.heap.size w6 (wo0 true l0) (wo1 true) (wo2 true) (wo3 true) [] v0 v1 v2 v3 v4) (hg : GoodP l0) (hc : Kd.R (Kd.int .i64) 3 w5 w.heap.size (fun _=>True) vc []) :
  PX wb w g s w5.heap.size w6 v0 v1 v2 v3 bw 0 (((((w7.setCell ⟨bw,0,none⟩ v0).setCell ⟨bw,1,none⟩ v1).setCell ⟨bw,2,none⟩ v2).setCell ⟨bw,3,none⟩ v3).setCell ⟨bw,4,none⟩ v4) p vc (owT w5.heap.size w6) v4 (wo0 true l0) (wo3 true) [] []:=by
 have sv6:=SV.beginR hro hg
 have s1:=h5.size
 have s2:=h6.size
 have gl:=hI.lt
 have ge:=hI.ge
 have b7 : Below wb.heap.size wb w7:=below_step (below_step (below_step hBe h5) h6) h7
 have k7 : KeepBut w w7 g none:=KeepBut.of_below (below_step (below_step h5 h6) h7) g none
 have i7:=((hI.below h5).below h6).below h7
 have ne : g ≠ bw:=by omega
 have hco : Kd.R (Kd.int .i64) 3 w7 0 (fun k=>owT w5.heap.size w6 k = 0 ∧ w.heap.size ≤ k ∧ (k < w5.heap.size ∨ w6.heap.size ≤ k)) vc []:=Kd.R_below (Kd.R_below (Kd.R_lower (Kd.R_mono (Kd.R_bound hc) fun k hk=>⟨owT_lt hk.2.2.1,hk.2.1,.inl hk.2.2.1⟩) (Nat.zero_le _)) h6) h7
 exact ⟨(sv6.below h7).setW5 hbw hbox _ _ _ _ _,VS.start hg,by apply bp5_4_;apply bp5_3_;apply bp5_2_;apply bp5_1_;apply bp5_0_;exact hbox,hbw,sv6.free bw hbw,((((i7.far (p:=⟨bw,0,none⟩) ne _).far (p:=⟨bw,1,none⟩) ne _).far (p:=⟨bw,2,none⟩) ne _).far (p:=⟨bw,3,none⟩) ne _).far (p:=⟨bw,4,none⟩) ne _,below_set5 b7 (by omega) _ _ _ _ _,keep_far (p:=⟨bw,4,none⟩) (keep_far (p:=⟨bw,3,none⟩) (keep_far (p:=⟨bw,2,none⟩) (keep_far (p:=⟨bw,1,none⟩) (keep_far (p:=⟨bw,0,none⟩) k7 (show w.heap.size ≤ bw by omega) _) (show w.heap.size ≤ bw by omega) _) (show w.heap.size ≤ bw by omega) _) (show w.heap.size ≤ bw by omega) _) (show w.heap.size ≤ bw by omega) _,s1,s2,gl,set5_ _ _ _ _ _ hco hbox (by decide)⟩
set_option maxHeartbeats 2000000 in
set_option maxRecDepth 100000 in
theorem l3picks_says (k : Nat) (A0 : Option Addr) (c0 : Nat) (l0 : List (List S69)) (wb w : World) (g : Nat) (s : List Int) (p : Int) (hI : IsS53 wb w g s p) (hBe : Below wb.heap.size wb w) (hbuf : Buf s) (p0 : 0 ≤ p) (p1 : p ≤ 900000000) (hr0 : Kd.C (Kd.slice 69 kM) w A0 l0.length l0) (hc0 : l0.length ≤ c0) (hg : GoodP l0) (hk : spec_ProgOk.f k l0 = some true) (hco : ∀ x ∈ l0,spec_l2Copy.f k x 4 = some x) :
  Calls Try.prog 15 #[.pointer (some ⟨g,0,none⟩),.slice A0 l0.length c0] w fun e w'=>∃ (v : Value) (picks : List Int) (p' : Int),e = .returned v ∧ Kd.R (Kd.int .i64) 3 w' w.heap.size (fun _=>True) v picks ∧ picks.length ≤ 201 ∧ IsS53 wb w' g s p' ∧ p ≤ p' ∧ p' ≤ p + 2000 ∧ Below wb.heap.size wb w' ∧ KeepBut w w' g none:=by
 have hu29:=Try.underlying33
 have HI:=ö hI
 have HBE:=ö hBe
 have HR0:=ö hr0
 have HC0:=ö hc0
 have HGP:=ö hg
 have A2:=ö hk
 have HCO:=ö hco
 have HBF:=ö hbuf
 have HP0:=ö p0
 have HP1:=ö p1
 obtain ⟨z,hz,hzc⟩:=pick_says hbuf p0 (by omega) 2
 obtain ⟨z0,z1⟩:=hz (by decide)
 have HZC:=ö hzc
 obtain ⟨v,hv,hvc⟩:=num_says hbuf (p:=p + 1) (by omega) (by omega) ([10,20,35,60,5,0,wrap64 (200 + z)] : List Int) (by simp) (by simp)
 have HVC:=ö hvc
 have ez : wrap64 (200 + z) = 200 + z:=wrap_id (by omega) (by omega)
 have hvb : 0 ≤ v ∧ v ≤ 201:=by
  rw [ez] at hv
  simp only [List.mem_cons,List.not_mem_nil,or_false] at hv
  omega
 obtain ⟨N,rfl⟩:=Int.eq_ofNat_of_zero_le hvb.1
 have HN:=ö (show N ≤ 201 by omega)
 clear hI hBe hbuf p0 p1 hr0 hc0 hg hk hco hz hzc hv hvc hvb ez z0 z1
 go_enter Try.func15,Try.ntmps15
 go_wp2_with (first | ((with_reducible refine gate_dst (N:=10) rfl ?_);refine Kd.R_lit (Kd.int .i64) _ 3 ?hg (N:=10) ?hd (xs:=([] : List Int)) (inner:=[]) (ok:=fun _=>True) (okp:=fun _=>True) ?hr ?hp (fun _ hk=>hk) trivial (Below.refl _ _) (Nat.le_refl _) (by simp) ?_;(case hd=>rfl);(case hg=>rfl);(case hr=>first | (go_simp;done) | (go_simp;rfl));(case hp=>exact (Reps.none _ _));intro v10 w5 ho hb hg_ hnew_;clear hg_ hnew_;have HC:=ö ho;have HB5:=ö hb;clear ho hb) | (go_at_call 26;refine (smeanR_says k A0 c0 l0 true w5 (Kd.C_below HR0.out HB5.out) HC0.out (fun _=>⟨fun x hx=>Nat.le_trans (HGP.out.sz x hx) (by decide),by have:=HGP.out.p3;omega⟩) (fun _=>HGP.out.p0) A2.out (fun _=>HCO.out)).mono ?_;rintro e w6 ⟨v0,v1,v2,v3,v4,rfl,hro,hb⟩;have HRO:=ö (show RO k51 w5.heap.size w6 (wo0 true l0) (wo1 true) (wo2 true) (wo3 true) [] v0 v1 v2 v3 v4 from hro);have HB6:=ö hb;clear hro hb;obtain ⟨E0,i0,e0⟩:=Kd.R_slice HRO.out.r0;obtain ⟨E1,i1,e1⟩:=Kd.R_slice HRO.out.r1;obtain ⟨E2,i2,e2⟩:=Kd.R_slice HRO.out.r2;obtain ⟨E3,i3,e3⟩:=Kd.R_slice HRO.out.r3;obtain ⟨E4,i4,e4⟩:=Kd.R_slice HRO.out.r4;subst e0;subst e1;subst e2;subst e3;subst e4) | ((with_reducible refine gate_dst (N:=6) rfl ?_);refine box_event ?hg (N:=6) ?hd (cs:=#[.slice none 0 0,.slice none 0 0,.slice none 0 0,.slice none 0 0,.slice none 0 0]) (t:=33) ?hr ?_;(case hd=>rfl);(case hg=>rfl);(case hr=>first | (go_simp;done) | (go_simp;rfl));intro bw hg w7 hbox hb;have HB7:=ö hb;have BW:=ö hbox;have GW:=ö (Nat.le_of_eq hg.symm);clear hb hbox hg;obtain ⟨hcq_0,hcq_1,hcq_2,hcq_3,hcq_4,hfq_0,hfq_1,hfq_2,hfq_3,hfq_4⟩:=bz5_ BW) | (go_at_call 16;have hkb:=PX.begin HI.out HBE.out HB5.out HB6.out HB7.out BW.out GW.out HRO.out HGP.out HC.out;refine (HZC.out g wb _ hkb.is hkb.be).mono ?_;rintro e w9 ⟨rfl,hi,hbb,hk⟩;have KB:=ö (hkb.drawn hi hbb hk);clear hkb hi hbb hk BW hcq_0 hcq_1 hcq_2 hcq_3 hcq_4 hfq_0 hfq_1 hfq_2 hfq_3 hfq_4) | ((with_reducible refine gate_dst (N:=17) rfl ?_);refine Kd.R_lit (Kd.int .i64) _ 3 ?hg (N:=17) ?hd (xs:=([10,20,35,60,5,0,wrap64 (200 + z)] : List Int)) (inner:=[.int .i64 (10),.int .i64 (20),.int .i64 (35),.int .i64 (60),.int .i64 (5),.int .i64 (0),.int .i64 (wrap64 (200 + z))]) (ok:=fun _=>True) (okp:=fun _=>True) ?hr ?hp (fun _ hk=>hk) trivial (Below.refl _ _) (Nat.le_refl _) (by simp) ?_;(case hd=>rfl);(case hg=>rfl);(case hr=>first | (go_simp;done) | (go_simp;rfl));(case hp=>exact (Reps.one (show Kd.M (Kd.int .i64) _ _ _ (10) [.int .i64 (10)] from rfl) (Reps.one (show Kd.M (Kd.int .i64) _ _ _ (20) [.int .i64 (20)] from rfl) (Reps.one (show Kd.M (Kd.int .i64) _ _ _ (35) [.int .i64 (35)] from rfl) (Reps.one (show Kd.M (Kd.int .i64) _ _ _ (60) [.int .i64 (60)] from rfl) (Reps.one (show Kd.M (Kd.int .i64) _ _ _ (5) [.int .i64 (5)] from rfl) (Reps.one (show Kd.M (Kd.int .i64) _ _ _ (0) [.int .i64 (0)] from rfl) (Reps.one (show Kd.M (Kd.int .i64) _ _ _ (wrap64 (200 + z)) [.int .i64 (wrap64 (200 + z))] from rfl) (Reps.none _ _)))))))));intro v17 w10 ho hb hg_ hnew_;clear hg_ hnew_;have n1_:=ö (KB.out.below hb);have HL:=ö ho;clear KB ho hb;have KB:=n1_;clear n1_;obtain ⟨A17,c17,e17⟩:=Kd.R_slice HL.out;subst e17) | (go_at_call 27;refine (HVC.out g wb _ A17 c17 KB.out.is KB.out.be (Kd.R_reads' HL.out).2.2 (Kd.R_reads' HL.out).2.1 (far_slice (KB.out.is.own_ne HL.out (by decide)))).mono ?_;rintro e w11 ⟨rfl,hi,hbb,hk⟩;have n1_:=ö (KB.out.drawn hi hbb hk);clear KB hi hbb hk;have KB:=n1_;clear n1_))
 have KBa:=KB.out
 generalize owT w5.heap.size w6 = ow0 at KBa
 generalize (wo0 true l0).length = m0 at KBa ⊢
 generalize (wo1 true).length = m1 at KBa ⊢
 generalize (wo2 true).length = m2 at KBa ⊢
 generalize (wo3 true).length = m3 at KBa ⊢
 generalize w5.heap.size = n0 at KBa
 have KB0:=ö KBa
 clear KBa KB HL HZC HVC
 go_loopg [5,7] N (fun gg v5 v7 wr=>∃ (kk m : Nat) (q : Int) (ow' : Nat → Nat) (v4' : Value) (ps' : List S51) (qs' : List (List Int)) (ys' : List S38) (codes : List Int),kk + m = N ∧ kk ≤ gg ∧ v7 = .int .i64 kk ∧ Aside0 (PX wb w g s n0 w6 (.slice E0 m0 i0) (.slice E1 m1 i1) (.slice E2 m2 i2) (.slice E3 m3 i3) bw m wr q v5 ow' v4' ps' qs' ys' codes) ∧ Aside0 (codes.length = m) ∧ Aside0 (p ≤ q ∧ q ≤ p + 2 + 7 * (m : Int)))
 case atStart=>exact ⟨N,0,_,_,_,_,_,_,[],by omega,Nat.le_refl _,rfl,KB0,⟨rfl⟩,⟨by omega⟩⟩
 case round =>
  clear KB0
  obtain ⟨kk,m,q,ow',v4',ps',qs',ys',codes,hkm,hgk,rfl,KB,CL,HQ⟩:=hrel
  obtain ⟨A5,c5,rfl⟩:=Kd.R_slice KB.out.sv.sa
  by_cases hlt : 0 < kk
  ·have hltz : decide ((kk : Int) > 0) = true:=decide_eq_true (by omega)
   have HKK:=ö (show 0 < kk ∧ kk ≤ 201 ∧ m ≤ 201 by have:=HN.out;omega)
   have BW:=ö KB.out.bkw
   obtain ⟨mx,hmx⟩ : ∃ mx,spec_l1Max.f 1 (m0 : Int) = some mx:=by unfold spec_l1Max.f;split;exact ⟨_,rfl⟩;exact ⟨_,rfl⟩
   have HMX:=ö hmx
   clear hmx
   obtain ⟨a,_,hac⟩:=pick_says HBF.out (p:=q) (by have:=HQ.out;have:=HP0.out;omega) (by have:=HQ.out;have:=HP1.out;have:=HKK.out;omega) mx
   have HAC:=ö hac
   clear hac
   have hl3:=eq_true hlt
   clear hlt
   obtain ⟨hcz_0,hcz_1,hcz_2,hcz_3,hcz_4,hfz_0,hfz_1,hfz_2,hfz_3,hfz_4⟩:=bz5_ BW
   go_upto_region 7 with (first | (go_at_call 28;refine (spec_l1Max.calls 1 (m0 : Int) mx _ HMX.out).mono ?_;rintro e w12 ⟨rfl,hd⟩;have n1_:=ö (KB.out.below hd.below);clear KB BW hd hcz_0 hcz_1 hcz_2 hcz_3 hcz_4 hfz_0 hfz_1 hfz_2 hfz_3 hfz_4;have KB:=n1_;clear n1_) | (go_at_call 16;refine (HAC.out g wb _ KB.out.is KB.out.be).mono ?_;rintro e w13 ⟨rfl,hi,hbb,hk⟩;have n1_:=ö (KB.out.drawn hi hbb hk);clear KB hi hbb hk;have KB:=n1_;clear n1_))
   obtain ⟨cl,hcl3,hcan⟩:=KB.out.sv.can KB.out.vs
   have HCAN:=ö (hcan _ (Below.refl _ _))
   have BW:=ö KB.out.bkw
   have HL3:=ö hcl3
   clear hcan hcl3
   obtain ⟨hcz_0,hcz_1,hcz_2,hcz_3,hcz_4,hfz_0,hfz_1,hfz_2,hfz_3,hfz_4⟩:=bz5_ BW
   go_upto_region 8 with (first | (go_at_call 29;refine HCAN.out.mono ?_;rintro e w14 ⟨vcan,rfl,hcr,hb⟩;have n1_:=ö (KB.out.below hb);have HCR:=ö hcr;have SZ:=ö KB.out.kp.1;clear KB hb hcr BW hcz_0 hcz_1 hcz_2 hcz_3 hcz_4 hfz_0 hfz_1 hfz_2 hfz_3 hfz_4;have KB:=n1_;clear n1_;obtain ⟨AC,cC,eC⟩:=Kd.R_slice HCR.out;subst eC))
   go_cut [38] (fun v38 wc=>∃ (b : Bool) (q' : Int),v38 = .bool b ∧ Aside0 (b = true → 0 < cl.length) ∧ Aside0 (q + 1 ≤ q' ∧ q' ≤ q + 2) ∧ Aside0 (Kd.R (Kd.int .i64) 3 wc w.heap.size (fun _=>True) (.slice AC cl.length cC) cl) ∧ Aside0 (PX wb w g s n0 w6 (.slice E0 m0 i0) (.slice E1 m1 i1) (.slice E2 m2 i2) (.slice E3 m3 i3) bw m wc q' u5 ow' (.slice A5 ys'.length c5) ps' qs' ys' codes))
   case first =>
    by_cases hc0 : 0 < cl.length
    ·have hc1:=eq_true hc0
     obtain ⟨t6,_,h6⟩:=pick_says HBF.out (p:=q + 1) (by have:=HQ.out;have:=HP0.out;omega) (by have:=HQ.out;have:=HP1.out;have:=HKK.out;omega) 6
     have H6:=ö h6
     have HC1:=ö hc0
     clear h6 hc0
     go_wp2_with (first | (go_at_call 16;refine (H6.out g wb _ KB.out.is KB.out.be).mono ?_;rintro e w15 ⟨rfl,hi,hbb,hk⟩;have n2_:=ö (Kd.R_keep (Kd.R_mono (Kd.R_bound HCR.out) (fun k hk=>hk.2.1)) hk (fun k hk=>by have h1:=KB.out.gg;have h2:=SZ.out;omega));clear HCR;have HCR:=n2_;clear n2_;have n1_:=ö (KB.out.drawn hi hbb hk);clear KB hi hbb;have KB:=n1_;clear n1_;clear hk))
     go_meet
     case rel=>exact ⟨_,_,rfl,⟨fun _=>HC1.out⟩,⟨by omega⟩,⟨Kd.R_mono (Kd.R_lower HCR.out SZ.out) fun _ _=>trivial⟩,KB⟩
    ·have hc1:=eq_false hc0
     clear hc0
     go_wp2
     go_meet
     case rel=>exact ⟨_,_,rfl,⟨fun e=>by cases e⟩,⟨by omega⟩,⟨Kd.R_lower HCR.out SZ.out⟩,KB⟩
   case rest =>
   clear KB HCR HCAN HL3
   obtain ⟨b8,q8,rfl,HB8,HQ8,HCR,KB⟩:=hcut
   go_upto_if 38 with (fail)
   go_cut [8] (fun v8 wc=>∃ (x q' : Int),v8 = .int .i64 x ∧ Aside0 (q ≤ q' ∧ q' ≤ q + 3) ∧ Aside0 (PX wb w g s n0 w6 (.slice E0 m0 i0) (.slice E1 m1 i1) (.slice E2 m2 i2) (.slice E3 m3 i3) bw m wc q' u5 ow' (.slice A5 ys'.length c5) ps' qs' ys' codes))
   case first =>
    cases b8 with
    | true =>
     obtain ⟨jj,hj,h7⟩:=pick_says HBF.out (p:=q8) (by have:=HQ8.out;have:=HQ.out;have:=HP0.out;omega) (by have:=HQ8.out;have:=HQ.out;have:=HP1.out;have:=HKK.out;omega) (cl.length : Int)
     have HJ:=ö (hj (by have:=HB8.out rfl;omega))
     have H7:=ö h7
     clear h7 hj
     have p2:=eq_true HJ.out.1
     have q2:=eq_true HJ.out.2
     go_wp2_with (first | (go_at_call 16;refine (H7.out g wb _ KB.out.is KB.out.be).mono ?_;rintro e w16 ⟨rfl,hi,hbb,hk⟩;have n2_:=ö (Kd.R_keep (Kd.R_mono (Kd.R_bound HCR.out) (fun k hk=>hk.2.1)) hk (fun k hk=>by have h1:=KB.out.gg;have h2:=SZ.out;omega));clear HCR;have HCR:=n2_;clear n2_;have n1_:=ö (KB.out.drawn hi hbb hk);clear KB hi hbb;have KB:=n1_;clear n1_;clear hk;obtain ⟨ad,eA,hx⟩:=Kd.at_int (Kd.R_reads' HCR.out).2.2 jj HJ.out.1 HJ.out.2;subst eA))
     go_meet
     case rel=>exact ⟨_,_,rfl,⟨by have:=HQ8.out;omega⟩,KB⟩
    | false =>
     go_wp2
     go_meet
     case rel=>exact ⟨_,_,rfl,⟨by have:=HQ8.out;omega⟩,KB⟩
   case rest =>
    clear KB HCR HAC HMX HB8 HQ8
    obtain ⟨x,q1,rfl,HQ1,KB⟩:=hcut
    have HQ2:=ö (show 0 ≤ q1 ∧ q1 ≤ p + 2 + 7 * (m : Int) + 3 ∧ p ≤ q1 ∧ q1 ≤ q + 3 from by have:=HQ1.out;have:=HQ.out;have:=HP0.out;omega)
    clear HQ1
    obtain ⟨t40,_,h40⟩:=pick_says HBF.out (p:=q1) (by have:=HQ2.out;omega) (by have:=HQ2.out;have:=HP1.out;have:=HKK.out;omega) 40
    have H40:=ö h40
    clear h40
    go_upto_if 48 with (first | (go_at_call 16;refine (H40.out g wb _ KB.out.is KB.out.be).mono ?_;rintro e w15 ⟨rfl,hi,hbb,hk⟩;have n1_:=ö (KB.out.drawn hi hbb hk);clear KB hi hbb;have KB:=n1_;clear n1_;clear hk))
    go_cut [8] (fun v8 wc=>∃ (x q' : Int),v8 = .int .i64 x ∧ Aside0 (q1 ≤ q' ∧ q' ≤ q1 + 2) ∧ Aside0 (PX wb w g s n0 w6 (.slice E0 m0 i0) (.slice E1 m1 i1) (.slice E2 m2 i2) (.slice E3 m3 i3) bw m wc q' u5 ow' (.slice A5 ys'.length c5) ps' qs' ys' codes))
    case first =>
     by_cases ht : t40 = 0
     ·have ht1 : (t40 == 0) = true:=beq_iff_eq.mpr ht
      obtain ⟨y,_,hy⟩:=num_says HBF.out (p:=q1 + 1) (by have:=HQ2.out;omega) (by have:=HQ2.out;have:=HP1.out;have:=HKK.out;omega) ([-1,3,9] : List Int) (by simp) (by simp)
      have HY:=ö hy
      clear hy ht
      go_wp2_with (first | ((with_reducible refine gate_dst (N:=50) rfl ?_);refine Kd.R_lit (Kd.int .i64) _ 3 ?hg (N:=50) ?hd (xs:=([-1,3,9] : List Int)) (inner:=[.int .i64 (-1),.int .i64 (3),.int .i64 (9)]) (ok:=fun _=>True) (okp:=fun _=>True) ?hr ?hp (fun _ hk=>hk) trivial (Below.refl _ _) (Nat.le_refl _) (by simp) ?_;(case hd=>rfl);(case hg=>rfl);(case hr=>first | (go_simp;done) | (go_simp;rfl));(case hp=>exact (Reps.one (show Kd.M (Kd.int .i64) _ _ _ (-1) [.int .i64 (-1)] from rfl) (Reps.one (show Kd.M (Kd.int .i64) _ _ _ (3) [.int .i64 (3)] from rfl) (Reps.one (show Kd.M (Kd.int .i64) _ _ _ (9) [.int .i64 (9)] from rfl) (Reps.none _ _)))));intro v50 w16 ho hb hg_ hnew_;clear hg_ hnew_;have n1_:=ö (KB.out.below hb);have HL:=ö ho;clear KB ho hb;have KB:=n1_;clear n1_;obtain ⟨A50,c50,e50⟩:=Kd.R_slice HL.out;subst e50) | (go_at_call 27;refine (HY.out g wb _ A50 c50 KB.out.is KB.out.be (Kd.R_reads' HL.out).2.2 (Kd.R_reads' HL.out).2.1 (far_slice (KB.out.is.own_ne HL.out (by decide)))).mono ?_;rintro e w17 ⟨rfl,hi,hbb,hk⟩;have n1_:=ö (KB.out.drawn hi hbb hk);clear KB hi hbb;have KB:=n1_;clear n1_;clear hk))
      go_meet
      case rel=>exact ⟨_,_,rfl,⟨by omega⟩,KB⟩
     ·have ht1 : (t40 == 0) = false:=beq_eq_false_iff_ne.mpr ht
      clear ht
      go_wp2
      go_meet
      case rel=>exact ⟨_,_,rfl,⟨by omega⟩,KB⟩
    case rest =>
     clear KB
     obtain ⟨x,q2,rfl,HQ3,KB⟩:=hcut
     have HQ4:=ö (show 0 ≤ q2 ∧ p ≤ q2 ∧ q2 ≤ p + 2 + 7 * ((m + 1 : Nat) : Int) from by have:=HQ3.out;have:=HQ2.out;have:=HQ.out;have:=HP0.out;omega)
     clear HQ3 HQ2 HQ
     obtain ⟨r,hcode,hgo⟩:=KB.out.sv.code KB.out.vs x
     have HCODE:=ö (hcode _ (Below.refl _ _))
     have HGO:=ö hgo
     have BW:=ö KB.out.bkw
     clear hcode hgo
     obtain ⟨hcz_0,hcz_1,hcz_2,hcz_3,hcz_4,hfz_0,hfz_1,hfz_2,hfz_3,hfz_4⟩:=bz5_ BW
     go_upto_if 55 with (first | (go_at_call 30;refine HCODE.out.mono ?_;rintro e w15 ⟨rfl,hb⟩;have n1_:=ö (KB.out.below hb);clear KB BW hb hcz_0 hcz_1 hcz_2 hcz_3 hcz_4 hfz_0 hfz_1 hfz_2 hfz_3 hfz_4;have KB:=n1_;clear n1_;have BW:=ö KB.out.bkw;obtain ⟨hcz_0,hcz_1,hcz_2,hcz_3,hcz_4,hfz_0,hfz_1,hfz_2,hfz_3,hfz_4⟩:=bz5_ BW))
     go_cut [8] (fun v8 wc=>v8 = .int .i64 x ∧ ∃ (ow2 : Nat → Nat) (v42 : Value) (ps2 : List S51) (qs2 : List (List Int)) (ys2 : List S38),Aside0 (PX wb w g s n0 w6 (.slice E0 m0 i0) (.slice E1 m1 i1) (.slice E2 m2 i2) (.slice E3 m3 i3) bw (m + 1) wc q2 u5 ow2 v42 ps2 qs2 ys2 codes))
     case first =>
      by_cases hr0 : r = 0
      ·have hr1 : (r == 0) = true:=beq_iff_eq.mpr hr0
       have HR1:=ö hr0
       clear hr0
       go_wp2_with (first | (go_at_call 31;obtain ⟨who,hwho,hpw,hgw⟩:=HGO.out HR1.out;have hst:=l3step_says (grOwn n0 w6) ow' _ _ _ _ _ _ ps' qs' ys' KB.out.sv m KB.out.vs (by have:=HKK.out;omega) who hwho hgw (Nat.le_trans KB.out.nm KB.out.sv.ws);rw [← hpw] at hst;refine hst.mono ?_;clear hst hpw;rintro e w16 ⟨ow2,v42,ps2,qs2,ys2,rfl,hsv,hvs,hln,hex,hfr⟩;obtain ⟨A6,c6,rfl⟩:=Kd.R_slice hsv.sa;have BT:=ö ((hfr.2 bw (blk_lt KB.out.bkw) KB.out.ob).trans KB.out.bkw);have HSV:=ö hsv;have HVS:=ö hvs;have HEX:=ö hex;have HFR:=ö hfr;clear hsv hvs hln hex hfr BW hgw hcz_0 hcz_1 hcz_2 hcz_3 hcz_4 hfz_0 hfz_1 hfz_2 hfz_3 hfz_4;obtain ⟨hcz_0,hcz_1,hcz_2,hcz_3,hcz_4,hfz_0,hfz_1,hfz_2,hfz_3,hfz_4⟩:=bz5_ BT))
       go_meet
       case rel=>exact ⟨rfl,ow2,_,ps2,qs2,ys2,⟨KB.out.step HSV.out HVS.out HEX.out HFR.out⟩⟩
      ·have hr1 : (r == 0) = false:=beq_eq_false_iff_ne.mpr hr0
       clear hr0
       go_wp2
       go_meet
       case rel=>exact ⟨rfl,ow',_,ps',qs',ys',⟨KB.out.mono (Nat.le_succ m)⟩⟩
     case rest =>
      clear KB BW hcz_0 hcz_1 hcz_2 hcz_3 hcz_4 hfz_0 hfz_1 hfz_2 hfz_3 hfz_4 HCODE HGO
      obtain ⟨rfl,ow2,v42,ps2,qs2,ys2,KB⟩:=hcut
      go_wp2_with (first | ((with_reducible refine gate_builtin (b:=.append) (xs:=#[.tmp 59,.tmp 61]) rfl ?_);at_builtin;refine Kd.R_append (Kd.int .i64) (w0:=wb) 0 rfl (.tmp 59) (.tmp 61) 26 3 (.int .i64 0) 8 rfl Try.underlying26 info3 rfl (by decide) (by omega) u5 codes x [.int .i64 x] (fun k=>ow2 k = 0 ∧ w.heap.size ≤ k ∧ (k < n0 ∨ w6.heap.size ≤ k)) (fun _=>False) rfl rfl ?aP (fun _ hk=>hk.elim) ?aF ?aO ?aB ?aS ?aL ?_;(case aP=>exact rfl);(case aB=>exact Below.zero KB.out.be);(case aF=>exact (fun k hk=>⟨KB.out.sv.free k hk,Nat.le_trans KB.out.kp.1 hk,.inr (Nat.le_trans KB.out.sv.ws hk)⟩));(case aO=>exact KB.out.co);(case aS=>exact Nat.zero_le _);(case aL=>have:=CL.out;have:=HKK.out;omega);intro v62 w20 ho hb hg hat;have KB9:=ö (KB.out.code ho hg);clear KB ho hb hg hat))
      go_roundg (kk - 1)
      case measure=>have:=HKK.out;omega
      case rel=>exact ⟨kk - 1,m + 1,q2,ow2,v42,ps2,qs2,ys2,codes ++ [x],by have:=HKK.out;omega,Nat.le_refl _,(by rw [show ((kk : Int) - 1) = ((kk - 1 : Nat) : Int) by have:=HKK.out;omega,wrap_id (by omega) (by have:=HKK.out;omega)]),KB9,⟨by rw [List.length_append,CL.out];rfl⟩,⟨HQ4.out.2⟩⟩
  ·have e : kk = 0:=by omega
   subst e
   go_wp2
   go_ret
   refine ⟨_,codes,q,rfl,?_,by have:=CL.out;have:=HN.out;omega,KB.out.is,HQ.out.1,by have:=HQ.out;have:=HN.out;omega,KB.out.be,KB.out.kp⟩
   obtain ⟨h0,inner,ho,hr⟩:=KB.out.co
   exact ⟨fun _ _=>trivial,inner,Kd.own_raise ho fun k hk=>(h0 k hk).2.1,hr.imp_ fun _ _ hp=>hp⟩
end Go.Proofs.Ytfbocgagfodgnaa.P
