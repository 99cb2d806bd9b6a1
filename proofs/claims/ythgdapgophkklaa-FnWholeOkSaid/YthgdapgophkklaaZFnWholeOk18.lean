/- Parts of the proof of FnWholeOk: plain Lean functions of Go functions, and that the calls come to what they say; no condition beyond those that each theorem names. -/
import Derived.Test.YthgdapgophkklaaZFnWholeOk17
import Derived.Test.YthgdapgophkklaaZFnWholeOk14
import Derived.Test.YthgdapgophkklaaZFnWholeOk12
import Derived.Test.YthgdapgophkklaaZFnWholeOk6
import Derived.Test.YthgdapgophkklaaZFnWholeOk9
import Derived.Test.YthgdapgophkklaaZFnWholeOk11
import Derived.Test.YthgdapgophkklaaZFnWholeOk4
namespace Go.Proofs.Ythgdapgophkklaa.P
open Go.RowKit Go.Proofs.YthgdapgophkklaaW.PrintWords Go.Proofs.YthgdapgophkklaaW.PrintMore
set_option linter.unusedVariables false
set_option linter.unusedSimpArgs false
def SL (d : Nat) (l : List S41) : Prop:=l.length ≤ 1048576 ∧ ∀ x ∈ l,smallS d x
theorem SL.kids {d : Nat} {l : List S41} (h : SL (d + 1) l) {x : S41} (hx : x ∈ l) : SL d x.f4 ∧ SL d x.f5:=h.2 x hx
def dep : Nat → List S41 → Prop
 | 0,l=>l = []
 | d + 1,l=>∀ x ∈ l,dep d x.f4 ∧ dep d x.f5
def cntL : Nat → List S41 → Nat
 | 0,_=>0
 | d + 1,l=>(l.map fun x=>1 + cntL d x.f4 + cntL d x.f5).sum
def flatL : Nat → List S41 → Int → List I5
 | 0,_,_=>[]
 | d + 1,l,rm=>l.flatMap fun x=>(x.f0,x.f1,x.f2,x.f3,rm) :: (flatL d x.f4 (innR x rm) ++ flatL d x.f5 (innR x rm))
theorem flat_len : ∀ (d : Nat) (l : List S41) (rm : Int),(flatL d l rm).length = cntL d l
 | 0,_,_=>rfl
 | d + 1,l,rm=>by
  unfold flatL cntL
  rw [List.length_flatMap]
  congr 1
  refine List.map_congr_left fun x _=>?_
  simp only [List.length_cons,List.length_append,flat_len d]
  omega
theorem all_ev : ∀ (d : Nat) (l : List S41) (rm : Int),dep d l → Ev (fun k=>allK k l rm) (flatL d l rm)
 | 0,l,rm,h=>by
  obtain rfl : l = []:=h
  exact Evs.succ (fun k=>rfl) (Evs.some_ _)
 | d + 1,l,rm,h=>by
  refine Evs.succ (fun k=>rfl) ?_
  show Ev (fun k=>allL (allT (allK k)) rm l) (flatL (d + 1) l rm)
  have h' : ∀ x ∈ l,dep d x.f4 ∧ dep d x.f5:=h
  clear h
  unfold flatL
  induction l with
  | nil=>exact Evs.some_ _
  | cons x t ih =>
   have hx:=h' x (List.mem_cons_self ..)
   rw [List.flatMap_cons]
   exact Evs.bind (Evs.bind (all_ev d x.f4 (innR x rm) hx.1) (Evs.bind (all_ev d x.f5 (innR x rm) hx.2) (Evs.some_ _))) (Evs.bind (ih fun y hy=>h' y (List.mem_cons_of_mem _ hy)) (Evs.some_ _))
theorem okS_kids2 {d : Nat} {t : S41} {rm : Int} (h : okS (d + 1) t rm = true) : ∃ m : Int,(∀ x ∈ t.f4,okS d x m = true) ∧ (∀ x ∈ t.f5,okS d x m = true):=by
 rw [okS_succ] at h
 by_cases h6 : t.f0 = 6
 ·rw [if_pos h6] at h
  simp only [Bool.and_eq_true,List.all_eq_true] at h
  exact ⟨rm,h.2.2.2.1,h.2.2.2.2⟩
 rw [if_neg h6] at h
 by_cases h5 : t.f5.length = 0
 ·have n5:=List.eq_nil_of_length_eq_zero h5
  rw [if_pos h5] at h
  rw [n5]
  by_cases h7 : t.f0 = 7
  ·rw [if_pos h7] at h
   simp only [Bool.and_eq_true,List.all_eq_true] at h
   exact ⟨rm,h.2.2.2,fun _ h=>by cases h⟩
  rw [if_neg h7] at h
  by_cases h8 : t.f0 = 8
  ·rw [if_pos h8] at h
   simp only [Bool.and_eq_true,List.all_eq_true,decide_eq_true_eq] at h
   exact ⟨t.f1,h.2.2.2.2,fun _ h=>by cases h⟩
  rw [if_neg h8] at h
  simp only [Bool.and_eq_true,decide_eq_true_eq] at h
  rw [List.eq_nil_of_length_eq_zero h.1]
  exact ⟨rm,(fun _ h=>by cases h),(fun _ h=>by cases h)⟩
 ·rw [if_neg h5] at h
  cases h
theorem dep_of : ∀ (d : Nat) (l : List S41) (rm : Int),(∀ x ∈ l,okS d x rm = true) → dep d l
 | 0,[],_,_=>rfl
 | 0,x :: t,rm,h=>by cases h x (List.mem_cons_self ..)
 | d + 1,l,rm,h=>fun x hx=>by
  obtain ⟨m,h4,h5⟩:=okS_kids2 (h x hx)
  exact ⟨dep_of d x.f4 m h4,dep_of d x.f5 m h5⟩
theorem wrap_l (a b : Int) : wrap64 (wrap64 a + b) = wrap64 (a + b):=by unfold wrap64;omega
theorem wrap_r (a b : Int) : wrap64 (a + wrap64 b) = wrap64 (a + b):=by unfold wrap64;omega
theorem many_loop (d : Nat) (l : List S41) (hl : l.length ≤ 1048576) (hd : d ≤ 1000) (h : ∀ x ∈ l,Ev (fun k=>spec_l2Many.f k x.f4 (d : Int)) (wrap64 (cntL d x.f4)) ∧ Ev (fun k=>spec_l2Many.f k x.f5 (d : Int)) (wrap64 (cntL d x.f5))) (e : Nat) : ∀ (i n : Nat),i + e = l.length →
  Ev (fun k=>spec_l2Many.l0 k l ((d + 1 : Nat) : Int) (wrap64 (n : Int)) (i : Int)) (wrap64 ((n + ((l.drop i).map fun x=>1 + cntL d x.f4 + cntL d x.f5).sum : Nat) : Int)):=by
 have ew : wrap64 (((d + 1 : Nat) : Int) - 1) = (d : Int):=by rw [wrap_id (by omega) (by omega)];omega
 induction e with
 | zero =>
  intro i n hi
  rw [List.drop_of_length_le (by omega)]
  refine Evs.succ (fun k=>by simp only [spec_l2Many.l0];rfl) ?_
  refine Evs.ite_neg (by omega) (Evs.succ (fun k=>by simp only [spec_l2Many.j1];rfl) (Evs.ite_neg (by simp) ?_))
  simpa using Evs.some_ _
 | succ e ih =>
  intro i n hi
  have hlt : i < l.length:=by omega
  obtain ⟨h4,h5⟩:=h _ (rd_mem hlt)
  rw [drop_rd l hlt]
  rw [List.map_cons,List.sum_cons]
  refine Evs.succ (fun k=>by simp only [spec_l2Many.l0];rfl) ?_
  refine Evs.ite_pos (by omega) ?_
  rw [decide_eq_true (show ((d + 1 : Nat) : Int) > 0 by omega)]
  refine Evs.succ (fun k=>by simp only [spec_l2Many.j1,ew];rfl) ?_
  refine Evs.ite_pos (by trivial) (Evs.ite_pos (by omega) (Evs.ite_pos (by omega) (Evs.bind h4 (Evs.bind h5 ?_))))
  rw [wrap_succ (by omega)]
  have q:=ih (i + 1) (n + (1 + cntL d (rd_T41 l (i : Int)).f4 + cntL d (rd_T41 l (i : Int)).f5)) (by omega)
  have e1 : wrap64 (wrap64 (wrap64 (wrap64 (n : Int) + 1) + wrap64 (cntL d (rd_T41 l (i : Int)).f4)) + wrap64 (cntL d (rd_T41 l (i : Int)).f5)) = wrap64 ((n + (1 + cntL d (rd_T41 l (i : Int)).f4 + cntL d (rd_T41 l (i : Int)).f5) : Nat) : Int):=by
   generalize cntL d (rd_T41 l (i : Int)).f4 = a
   generalize cntL d (rd_T41 l (i : Int)).f5 = b
   have s1 : wrap64 (wrap64 (n : Int) + 1) = wrap64 ((n : Int) + 1):=wrap_l _ _
   have s2 : wrap64 (wrap64 ((n : Int) + 1) + wrap64 (a : Int)) = wrap64 ((n : Int) + 1 + a):=(wrap_l _ _).trans (wrap_r _ _)
   have s3 : wrap64 (wrap64 ((n : Int) + 1 + a) + wrap64 (b : Int)) = wrap64 ((n : Int) + 1 + a + b):=(wrap_l _ _).trans (wrap_r _ _)
   rw [s1,s2,s3]
   congr 1
   push_cast
   omega
  rw [e1,show n + (1 + cntL d (rd_T41 l (i : Int)).f4 + cntL d (rd_T41 l (i : Int)).f5 + (List.map (fun x=>1 + cntL d x.f4 + cntL d x.f5) (List.drop (i + 1) l)).sum) = n + (1 + cntL d (rd_T41 l (i : Int)).f4 + cntL d (rd_T41 l (i : Int)).f5) + (List.map (fun x=>1 + cntL d x.f4 + cntL d x.f5) (List.drop (i + 1) l)).sum by omega]
  exact q
theorem many_ev : ∀ (d : Nat),d ≤ 1000 → ∀ l,SL d l → Ev (fun k=>spec_l2Many.f k l (d : Int)) (wrap64 (cntL d l))
 | 0,_,l,h=>by
  refine Evs.succ (fun k=>by simp only [spec_l2Many.f];rfl) (Evs.succ (fun k=>by simp only [spec_l2Many.l0];rfl) ?_)
  have e : wrap64 ((cntL 0 l : Nat) : Int) = 0:=by simp [cntL,wrap64]
  rw [e]
  have j : Ev (fun k=>spec_l2Many.j1 k l ((0 : Nat) : Int) 0 0 false) 0:=Evs.succ (fun k=>by simp only [spec_l2Many.j1];rfl) (Evs.ite_neg (by simp) (Evs.some_ _))
  by_cases c : (0 : Int) < (l.length : Int)
  ·exact Evs.ite_pos c j
  ·exact Evs.ite_neg c j
 | d + 1,hd,l,h=>by
  refine Evs.succ (fun k=>by simp only [spec_l2Many.f];rfl) ?_
  have q:=many_loop d l h.1 (by omega) (fun x hx=>⟨many_ev d (by omega) x.f4 (h.kids hx).1,many_ev d (by omega) x.f5 (h.kids hx).2⟩) l.length 0 0 (by omega)
  have e : wrap64 ((0 : Nat) : Int) = 0:=by simp [wrap64]
  rw [e] at q
  simpa [cntL] using q
def okList (l : List S41) : Bool:=l.all fun x=>okS 3 x (-1)
def okLst (l : List S41) : Bool:=okList l && decide (wrap64 (cntL 3 l) ≤ 14)
def manyV (l : List S41) : Int:=if okLst l = true then wrap64 (cntL 3 l) else 0
theorem dep3 {l : List S41} (h : okList l = true) : dep 3 l:=dep_of 3 l (-1) (by unfold okList at h;rwa [List.all_eq_true] at h)
theorem specList3 {l : List S41} (h : SL 3 l) : Ev (fun k=>spec_l2List.f k l 3 (-1)) (okList l):=by
 have e:=specList_of 3 (by omega) (specStmt_ev 3 (by omega)) l (-1) (by omega) h.1 h.2
 rwa [show ((3 : Nat) : Int) = 3 from rfl] at e
theorem many3 {l : List S41} (h : SL 3 l) : Ev (fun k=>spec_l2Many.f k l 3) (wrap64 (cntL 3 l)):=by
 have e:=many_ev 3 (by omega) l h
 rwa [show ((3 : Nat) : Int) = 3 from rfl] at e
theorem specOk {l : List S41} (h : SL 3 l) : Ev (fun k=>spec_StmtsOk.f k l) (okLst l):=by
 unfold spec_StmtsOk.f okLst
 exact Evs.bind (specList3 h) (ev_band fun _=>Evs.bind (many3 h) (Evs.some_ _))
theorem implList3 (l : List S41) : Ev (fun k=>impl_listOk.f k l 3 (-1)) (okList l):=by
 refine implList_of 3 (-1) stmtOkS 3 l fun x _=>?_
 have e:=implStmt_ev 3 (by omega) x (-1) (by omega)
 rwa [show ((3 : Nat) : Int) = 3 from rfl] at e
theorem implOk (l : List S41) : Ev (fun k=>impl_StmtsOk.f k l) (okLst l):=by
 unfold impl_StmtsOk.f okLst
 refine Evs.bind (implList3 l) (ev_band fun h=>?_)
 refine Evs.bind (all_ev 3 l (-1) (dep3 h)) ?_
 rw [flat_len]
 exact Evs.some_ _
theorem okLst_list {l : List S41} (h : okLst l = true) : okList l = true:=by
 unfold okLst at h
 rw [Bool.and_eq_true] at h
 exact h.1
end Go.Proofs.Ythgdapgophkklaa.P

namespace Go.Proofs.Ythgdapgophkklaa.P
open Go.RowKit Go.Proofs.YthgdapgophkklaaW.PrintWords Go.Proofs.YthgdapgophkklaaW.PrintMore
abbrev TSt:=S41
def ownV (own : List Int) (x : I5) : Bool :=
 if x.1 = 3 then x.2.2.2.2 == rd own x.2.2.1 else if x.1 = 4 then x.2.2.2.2 == rd own x.2.1 else if x.1 = 9 ∨ x.1 = 10 then x.2.2.2.2 == rd own (3 + x.2.1) else true
def fitI (a0 a1 a2 : Int) : Prop:=(a0 = 3 → 0 ≤ a2 ∧ a2 < 3) ∧ (a0 = 4 → 0 ≤ a1 ∧ a1 < 3) ∧ (a0 = 9 ∨ a0 = 10 → 0 ≤ a1 ∧ a1 < 2)
def fitD : Nat → List TSt → Prop
 | 0,_=>True
 | d + 1,l=>∀ x ∈ l,fitI x.f0 x.f1 x.f2 ∧ fitD d x.f4 ∧ fitD d x.f5
def owD (own : List Int) : Nat → List TSt → Int → Bool
 | 0,_,_=>true
 | d + 1,l,rm=>l.all fun x=>ownV own (x.f0,x.f1,x.f2,x.f3,rm) && (owD own d x.f4 (innR x rm) && owD own d x.f5 (innR x rm))
theorem ownB_V {own : List Int} (h5 : own.length = 5) {x : I5} (h : fitI x.1 x.2.1 x.2.2.1) : ownB x own = some (ownV own x):=by
 obtain ⟨a0,a1,a2,a3,rm⟩:=x
 obtain ⟨p,q,r⟩:=h
 simp only at p q r
 unfold ownB ownV
 simp only [h5]
 by_cases h3 : a0 = 3
 ·have:=p h3
  rw [if_pos h3,if_pos h3,if_pos (by omega)]
 rw [if_neg h3,if_neg h3]
 by_cases h4 : a0 = 4
 ·have:=q h4
  rw [if_pos h4,if_pos h4,if_pos (by omega)]
 rw [if_neg h4,if_neg h4]
 by_cases h9 : a0 = 9 ∨ a0 = 10
 ·have:=r h9
  rw [if_pos h9,if_pos h9,if_pos (by omega)]
 rw [if_neg h9,if_neg h9]
theorem ownL_V {own : List Int} (h5 : own.length = 5) : ∀ {xs : List I5},(∀ x ∈ xs,fitI x.1 x.2.1 x.2.2.1) → ownL own xs = some (xs.all (ownV own))
 | [],_=>rfl
 | y :: t,h=>by
  unfold ownL
  rw [ownB_V h5 (h y (List.mem_cons_self ..)),ownL_V h5 fun x hx=>h x (List.mem_cons_of_mem _ hx)]
  rfl
theorem leaf_fit {a0 a1 a2 a3 room : Int} (h : leafOk a0 a1 a2 a3 room = true) : fitI a0 a1 a2:=by
 refine ⟨?_,?_,?_⟩
 ·rintro rfl
  simp [leafOk,inR] at h
  exact h.2.1
 ·rintro rfl
  simp [leafOk,inR] at h
  exact h.1
 ·rintro (rfl | rfl)
  ·simp [leafOk,inR] at h
   exact h.2.1
  ·simp [leafOk,inR] at h
   exact h.1
theorem okS_fit {d : Nat} {s : TSt} {rm : Int} (h : okS (d + 1) s rm = true) : fitI s.f0 s.f1 s.f2:=by
 rw [okS_succ] at h
 by_cases h6 : s.f0 = 6
 ·exact ⟨fun e=>by omega,fun e=>by omega,fun e=>by omega⟩
 rw [if_neg h6] at h
 by_cases h5 : s.f5.length = 0
 ·rw [if_pos h5] at h
  by_cases h7 : s.f0 = 7
  ·exact ⟨fun e=>by omega,fun e=>by omega,fun e=>by omega⟩
  rw [if_neg h7] at h
  by_cases h8 : s.f0 = 8
  ·exact ⟨fun e=>by omega,fun e=>by omega,fun e=>by omega⟩
  rw [if_neg h8,Bool.and_eq_true] at h
  exact leaf_fit h.2
 ·rw [if_neg h5] at h
  cases h
theorem fit_of : ∀ (d : Nat) (l : List TSt) (rm : Int),(∀ x ∈ l,okS d x rm = true) → fitD d l
 | 0,_,_,_=>trivial
 | d + 1,l,rm,h=>fun x hx=>by
  obtain ⟨m,h4,h5⟩:=okS_kids2 (h x hx)
  exact ⟨okS_fit (h x hx),fit_of d x.f4 m h4,fit_of d x.f5 m h5⟩
theorem flat_fit : ∀ (d : Nat) (l : List TSt) (rm : Int),fitD d l → ∀ y ∈ flatL d l rm,fitI y.1 y.2.1 y.2.2.1
 | 0,_,_,_,y,hy=>by cases hy
 | d + 1,l,rm,h,y,hy=>by
  unfold flatL at hy
  obtain ⟨x,hx,hy⟩:=List.mem_flatMap.1 hy
  obtain ⟨a,b,c⟩:=h x hx
  rcases List.mem_cons.1 hy with e | hy
  ·rw [e];exact a
  rcases List.mem_append.1 hy with hy | hy
  ·exact flat_fit d _ _ b y hy
  ·exact flat_fit d _ _ c y hy
theorem flat_all (own : List Int) : ∀ (d : Nat) (l : List TSt) (rm : Int),(flatL d l rm).all (ownV own) = owD own d l rm
 | 0,_,_=>rfl
 | d + 1,l,rm=>by
  unfold flatL owD
  rw [List.all_flatMap]
  congr 1
  funext x
  rw [List.all_cons,List.all_append,flat_all own d,flat_all own d]
theorem owns_loop (own : List Int) (h5 : own.length = 5) (d : Nat) (hd : d + 1 ≤ 1000) (l : List TSt) (rm : Int) (hl : l.length ≤ 1048576) (hf : ∀ x ∈ l,fitI x.f0 x.f1 x.f2)
  (h : ∀ x ∈ l,∀ m,Ev (fun k=>spec_l6Owns.f k x.f4 own m (d : Int)) (owD own d x.f4 m) ∧ Ev (fun k=>spec_l6Owns.f k x.f5 own m (d : Int)) (owD own d x.f5 m)) (e : Nat) :
  ∀ i : Nat,i + e = l.length → Ev (fun k=>spec_l6Owns.l0 k l own rm ((d + 1 : Nat) : Int) (i : Int)) ((l.drop i).all fun x=>ownV own (x.f0,x.f1,x.f2,x.f3,rm) && (owD own d x.f4 (innR x rm) && owD own d x.f5 (innR x rm))):=by
 induction e with
 | zero =>
  intro i hi
  refine Evs.succ (fun k=>by simp only [spec_l6Owns.l0];rfl) (Evs.ite_neg (by omega) ?_)
  rw [List.drop_of_length_le (by omega)]
  exact Evs.succ (fun k=>by simp only [spec_l6Owns.j1];rfl) (Evs.ite_neg (by simp) (Evs.some_ _))
 | succ e ih =>
  intro i hi
  have hi' : i < l.length:=by omega
  refine Evs.succ (fun k=>by simp only [spec_l6Owns.l0];rfl) (Evs.ite_pos (by omega) ?_)
  rw [decide_eq_true (show ((d + 1 : Nat) : Int) > 0 by omega)]
  refine Evs.succ (fun k=>by simp only [spec_l6Owns.j1];rfl) (Evs.ite_pos (by simp) (Evs.ite_pos (by omega) (Evs.ite_pos (by omega) ?_)))
  have er : rd_T41 l (i : Int) = l[i]:=by
   have:=rd_mem hi'
   unfold rd_T41
   simp [List.getD_eq_getElem?_getD,hi']
  have hx : l[i] ∈ l:=List.getElem_mem hi'
  rw [er,List.drop_eq_getElem_cons hi',List.all_cons]
  have hn:=ih (i + 1) (by omega)
  generalize (l.drop (i + 1)).all (fun x=>ownV own (x.f0,x.f1,x.f2,x.f3,rm) && (owD own d x.f4 (innR x rm) && owD own d x.f5 (innR x rm))) = q at *
  have hfx:=hf _ hx
  have hk:=h _ hx
  generalize l[i] = x at *
  have hw : wrap64 (((d + 1 : Nat) : Int) - 1) = (d : Int):=by unfold wrap64;omega
  have j3 : ∀ (b : Bool) (m : Int) (a b' c' d' : Int),m = innR x rm → Ev (fun k=>spec_l6Owns.j3 k l own rm ((d + 1 : Nat) : Int) (i : Int) m b a b' c' d' x.f4 x.f5) ((!b) && (owD own d x.f4 (innR x rm) && owD own d x.f5 (innR x rm)) && q):=by
   intro b m a b' c' d' hm
   refine Evs.succ (fun k=>by simp only [spec_l6Owns.j3];rfl) ?_
   rw [hw,hm]
   cases b with
   | true=>exact Evs.ite_pos rfl (Evs.some_ _)
   | false =>
    refine Evs.ite_neg (by simp) ?_
    rw [Bool.not_false,Bool.true_and,Bool.and_assoc]
    refine Evs.bind (hk _).1 (ev_band fun _=>Evs.bind (hk _).2 (ev_band fun _=>?_))
    rw [wrap_succ (by omega)]
    exact hn
  have j2 : ∀ (t m : Int) (a b' c' d' : Int),m = innR x rm → (0 ≤ t → t < 5) → Ev (fun k=>spec_l6Owns.j2 k l own rm ((d + 1 : Nat) : Int) (i : Int) m t a b' c' d' x.f4 x.f5) ((if 0 ≤ t then rm == rd own t else true) && (owD own d x.f4 (innR x rm) && owD own d x.f5 (innR x rm)) && q):=by
   intro t m a b' c' d' hm ht
   refine Evs.succ (fun k=>by simp only [spec_l6Owns.j2];rfl) ?_
   by_cases h0 : 0 ≤ t
   ·rw [if_pos h0]
    have e : (rm == rd own t) = !(rd own t != rm):=by
     rw [Bool.eq_iff_iff]
     simp only [beq_iff_eq,Bool.not_eq_true',bne_eq_false_iff_eq]
     exact ⟨Eq.symm,Eq.symm⟩
    rw [e]
    exact Evs.ite_pos h0 (Evs.ite_pos h0 (Evs.ite_pos (by have:=ht h0;omega) (j3 _ _ _ _ _ _ hm)))
   ·rw [if_neg h0]
    exact Evs.ite_neg h0 (j3 false _ _ _ _ _ hm)
  obtain ⟨p3,p4,p9⟩:=hfx
  have w3 : ∀ a : Int,0 ≤ a → a < 2 → wrap64 (3 + a) = 3 + a:=fun a _ _=>by unfold wrap64;omega
  have ew : ∀ t : Int,0 ≤ t → (if 0 ≤ t then rm == rd own t else true) = (rm == rd own t):=fun t h=>if_pos h
  by_cases h8 : x.f0 = 8
  ·refine Evs.ite_pos h8 ?_
   have:=j2 (-1) x.f1 x.f0 x.f1 x.f2 x.f3 (by unfold innR;rw [if_pos h8]) (by omega)
   rw [if_neg (by omega)] at this
   rwa [show ownV own (x.f0,x.f1,x.f2,x.f3,rm) = true by unfold ownV;simp [h8]]
  have hin : rm = innR x rm:=by unfold innR;rw [if_neg h8]
  refine Evs.ite_neg h8 ?_
  by_cases h3 : x.f0 = 3
  ·refine Evs.ite_pos h3 ?_
   have:=j2 x.f2 rm x.f0 x.f1 x.f2 x.f3 hin (by have:=p3 h3;omega)
   rw [ew _ (p3 h3).1] at this
   rwa [show ownV own (x.f0,x.f1,x.f2,x.f3,rm) = (rm == rd own x.f2) by unfold ownV;simp [h3]]
  refine Evs.ite_neg h3 ?_
  by_cases h4 : x.f0 = 4
  ·refine Evs.ite_pos h4 ?_
   have:=j2 x.f1 rm x.f0 x.f1 x.f2 x.f3 hin (by have:=p4 h4;omega)
   rw [ew _ (p4 h4).1] at this
   rwa [show ownV own (x.f0,x.f1,x.f2,x.f3,rm) = (rm == rd own x.f1) by unfold ownV;simp [h4]]
  refine Evs.ite_neg h4 ?_
  by_cases h9 : x.f0 = 9
  ·have hp:=p9 (.inl h9)
   refine Evs.ite_pos h9 ?_
   rw [w3 _ hp.1 hp.2]
   have:=j2 (3 + x.f1) rm x.f0 x.f1 x.f2 x.f3 hin (by omega)
   rw [ew _ (by omega)] at this
   rwa [show ownV own (x.f0,x.f1,x.f2,x.f3,rm) = (rm == rd own (3 + x.f1)) by unfold ownV;simp [h9]]
  refine Evs.ite_neg h9 ?_
  by_cases h10 : x.f0 = 10
  ·have hp:=p9 (.inr h10)
   refine Evs.ite_pos h10 ?_
   rw [w3 _ hp.1 hp.2]
   have:=j2 (3 + x.f1) rm x.f0 x.f1 x.f2 x.f3 hin (by omega)
   rw [ew _ (by omega)] at this
   rwa [show ownV own (x.f0,x.f1,x.f2,x.f3,rm) = (rm == rd own (3 + x.f1)) by unfold ownV;simp [h10]]
  refine Evs.ite_neg h10 ?_
  have:=j2 (-1) rm x.f0 x.f1 x.f2 x.f3 hin (by omega)
  rw [if_neg (by omega)] at this
  rwa [show ownV own (x.f0,x.f1,x.f2,x.f3,rm) = true by unfold ownV;simp [h3,h4,h9,h10]]
theorem owns_ev (own : List Int) (h5 : own.length = 5) : ∀ (d : Nat),d ≤ 1000 → ∀ (l : List TSt) (rm : Int),SL d l → fitD d l → Ev (fun k=>spec_l6Owns.f k l own rm (d : Int)) (owD own d l rm)
 | 0,_,l,rm,h,_=>by
  refine Evs.succ (fun k=>by simp only [spec_l6Owns.f];rfl) (Evs.succ (fun k=>by simp only [spec_l6Owns.l0];rfl) ?_)
  have j : Ev (fun k=>spec_l6Owns.j1 k l own rm ((0 : Nat) : Int) 0 false) true:=Evs.succ (fun k=>by simp only [spec_l6Owns.j1];rfl) (Evs.ite_neg (by simp) (Evs.some_ _))
  by_cases c : (0 : Int) < (l.length : Int)
  ·exact Evs.ite_pos c j
  ·exact Evs.ite_neg c j
 | d + 1,hd,l,rm,h,hf=>by
  refine Evs.succ (fun k=>by simp only [spec_l6Owns.f];rfl) ?_
  have q:=owns_loop own h5 d hd l rm h.1 (fun x hx=>(hf x hx).1) (fun x hx m=>⟨owns_ev own h5 d (by omega) x.f4 m (h.kids hx).1 (hf x hx).2.1,owns_ev own h5 d (by omega) x.f5 m (h.kids hx).2 (hf x hx).2.2⟩) l.length 0 (by omega)
  exact q
def wholeV (b : Bool) (p : List (List TSt)) (own : List Int) : Bool:=b && (decide (own.length = 5) && (!(own.any ownOff) && p.all fun l=>owD own 3 l (-1)))
theorem specOwn_loop (p : List (List TSt)) (own : List Int) (hl : own.length ≤ 1048576) (q : Bool) (h : Ev (fun k=>spec_WholeOk.l1 k p own 0) q) (e : Nat) : ∀ i : Nat,i + e = own.length → Ev (fun k=>spec_WholeOk.l0 k p own (i : Int)) (!((own.drop i).any ownOff) && q):=by
 induction e with
 | zero =>
  intro i hi
  refine Evs.succ (fun k=>by simp only [spec_WholeOk.l0];rfl) (Evs.ite_neg (by omega) ?_)
  rw [List.drop_of_length_le (by omega),List.any_nil,Bool.not_false,Bool.true_and]
  exact h
 | succ e ih =>
  intro i hi
  refine Evs.succ (fun k=>by simp only [spec_WholeOk.l0];rfl) (Evs.ite_pos (by omega) (Evs.ite_pos (by omega) ?_))
  have er : rd own (i : Int) = own[i]:=by unfold rd;simp [List.getD_eq_getElem?_getD,show i < own.length by omega]
  rw [wrap_succ (by omega),er,List.drop_eq_getElem_cons (by omega),List.any_cons]
  by_cases h1 : own[i] < 0
  ·rw [show ownOff own[i] = true by unfold ownOff;rw [decide_eq_true h1];rfl,Bool.true_or,Bool.not_true,Bool.false_and]
   exact Evs.ite_pos h1 (Evs.some_ _)
  ·refine Evs.ite_neg h1 ?_
   by_cases h2 : own[i] ≥ 2
   ·rw [show ownOff own[i] = true by unfold ownOff;rw [decide_eq_true h2,Bool.or_true],Bool.true_or,Bool.not_true,Bool.false_and]
    exact Evs.ite_pos h2 (Evs.some_ _)
   ·rw [show ownOff own[i] = false by unfold ownOff;rw [decide_eq_false h1,decide_eq_false h2];rfl,Bool.false_or]
    exact Evs.ite_neg h2 (ih (i + 1) (by omega))
theorem rdlo {α : Type} {l : List (List α)} {i : Nat} (h : i < l.length) : l.getD (i : Int).toNat [] ∈ l:=by
 rw [Int.toNat_natCast,List.getD_eq_getElem?_getD,List.getElem?_eq_getElem h]
 exact List.getElem_mem h
theorem droplo {α : Type} (l : List (List α)) {i : Nat} (h : i < l.length) : l.drop i = l.getD (i : Int).toNat [] :: l.drop (i + 1):=by
 rw [Int.toNat_natCast,List.getD_eq_getElem?_getD,List.getElem?_eq_getElem h,List.drop_eq_getElem_cons h]
 rfl
theorem specList_loop (p : List (List TSt)) (own : List Int) (hl : p.length ≤ 1048576) (h : ∀ l ∈ p,Ev (fun k=>spec_l6Owns.f k l own (-1) 3) (owD own 3 l (-1))) (e : Nat) : ∀ i : Nat,i + e = p.length → Ev (fun k=>spec_WholeOk.l1 k p own (i : Int)) ((p.drop i).all fun l=>owD own 3 l (-1)):=by
 induction e with
 | zero =>
  intro i hi
  refine Evs.succ (fun k=>by simp only [spec_WholeOk.l1];rfl) (Evs.ite_neg (by omega) ?_)
  rw [List.drop_of_length_le (by omega)]
  exact Evs.some_ _
 | succ e ih =>
  intro i hi
  refine Evs.succ (fun k=>by simp only [spec_WholeOk.l1];rfl) (Evs.ite_pos (by omega) (Evs.ite_pos (by omega) ?_))
  rw [wrap_succ (by omega),droplo p (by omega),List.all_cons]
  exact Evs.bind (h _ (rdlo (by omega))) (ev_band fun _=>ih (i + 1) (by omega))
theorem specWhole {b : Bool} {p : List (List TSt)} {own : List Int} (hl : p.length ≤ 1048576) (hs : ∀ l ∈ p,SL 3 l) (hk : b = true → ∀ l ∈ p,okList l = true) (h : Ev (fun k=>spec_ProgOk.f k p) b) : Ev (fun k=>spec_WholeOk.f k p own) (wholeV b p own):=by
 unfold spec_WholeOk.f wholeV
 have e5 : ((own.length : Int) != 5) = !decide (own.length = 5):=by
  by_cases h : own.length = 5
  ·rw [decide_eq_true h,bne_eq_false_iff_eq.mpr (by omega)];rfl
  ·rw [decide_eq_false h,bne_iff_ne.mpr (by omega)];rfl
 refine Evs.bind h ?_
 cases b with
 | false=>exact Evs.ite_neg (by simp) (Evs.succ (fun k=>by simp only [spec_WholeOk.j0];rfl) (Evs.ite_pos (by simp) (Evs.some_ _)))
 | true =>
  refine Evs.ite_pos rfl (Evs.succ (fun k=>by simp only [spec_WholeOk.j0];rfl) ?_)
  rw [e5]
  by_cases h5 : own.length = 5
  ·rw [decide_eq_true h5]
   refine Evs.ite_neg (by simp) ?_
   rw [Bool.true_and,Bool.true_and]
   refine specOwn_loop p own (by omega) _ ?_ own.length 0 (Nat.zero_add _)
   refine specList_loop p own hl (fun l hx=>?_) p.length 0 (Nat.zero_add _)
   have q:=owns_ev own h5 3 (by omega) l (-1) (hs l hx) (fit_of 3 l (-1) (by have:=hk rfl l hx;unfold okList at this;rwa [List.all_eq_true] at this))
   rwa [show ((3 : Nat) : Int) = 3 from rfl] at q
  ·rw [decide_eq_false h5]
   exact Evs.ite_pos rfl (Evs.some_ _)
theorem wholeL_ev (own : List Int) (h5 : own.length = 5) : ∀ p : List (List TSt),(∀ l ∈ p,okList l = true) → Ev (fun k=>wholeL k own p) (p.all fun l=>owD own 3 l (-1))
 | [],_=>Evs.some_ _
 | l :: t,h=>by
  have hl:=h l (List.mem_cons_self ..)
  have hf:=fit_of 3 l (-1) (by unfold okList at hl;rwa [List.all_eq_true] at hl)
  rw [List.all_cons,← flat_all]
  exact Evs.bind (all_ev 3 l (-1) (dep3 hl)) (Evs.bind0 (ownL_V h5 (flat_fit 3 l (-1) hf)) (ev_band fun _=>wholeL_ev own h5 t fun x hx=>h x (List.mem_cons_of_mem _ hx)))
theorem implWhole {b : Bool} {p : List (List TSt)} {own : List Int} (hk : b = true → ∀ l ∈ p,okList l = true) (h : Ev (fun k=>impl_ProgOk.f k p) b) : Ev (fun k=>impl_WholeOk.f k p own) (wholeV b p own):=by
 unfold impl_WholeOk.f wholeV
 refine Evs.bind h (ev_band fun hb=>?_)
 by_cases h5 : own.length = 5
 ·rw [decide_eq_true h5,Bool.true_and]
  refine Evs.ite_pos h5 ?_
  cases ha : own.any ownOff with
  | true=>exact Evs.ite_pos rfl (Evs.some_ _)
  | false=>exact Evs.ite_neg (by simp) (wholeL_ev own h5 p (hk hb))
 ·rw [decide_eq_false h5]
  exact Evs.ite_neg h5 (Evs.some_ _)
end Go.Proofs.Ythgdapgophkklaa.P

namespace Go.Proofs.Ythgdapgophkklaa.P
open Go.RowKit Go.Proofs.YthgdapgophkklaaW.PrintWords Go.Proofs.YthgdapgophkklaaW.PrintMore
set_option linter.unusedVariables false
set_option linter.unusedSimpArgs false
theorem smL_sl {l : List S41} (h : SmL l) (d : Nat) : SL d l:=⟨by have:=h.1;omega,fun t ht=>h.2 t ht d⟩
theorem some_loop {xs : List Int} (hb : Buf xs) (n : Nat) : ∀ (out : List S41) (p : Int),out.length + n ≤ 6 → (∀ t ∈ out,Sm t) → okLst out = true → 0 ≤ p → p + (n : Int) * 100000 ≤ 1000000000 →
  ∃ (l : List S41) (p' : Int),l.length ≤ 6 ∧ (∀ t ∈ l,Sm t) ∧ okLst l = true ∧ p ≤ p' ∧ p' ≤ p + (n : Int) * 100000 ∧ Ev (fun k=>spec_l2Some.l0 k out (n : Int) xs p) (l,p'):=by
 induction n with
 | zero =>
  intro out p hn ho hk h0 h1
  refine ⟨out,p,by omega,ho,hk,by omega,by omega,?_⟩
  refine Evs.succ (fun k=>by simp only [spec_l2Some.l0];rfl) ?_
  exact Evs.ite_neg (by omega) (Evs.some_ _)
 | succ n ih =>
  intro out p hn ho hk h0 h1
  have c3 : cst 3 = 100000:=by unfold cst;simp
  obtain ⟨t,q,ht,q0,q1,he⟩:=drawn_all hb 3 (by omega) (by omega) (-1) p h0 (by omega)
  have ew : wrap64 (((n + 1 : Nat) : Int) - 1) = (n : Int):=by rw [wrap_id (by omega) (by omega)];omega
  have hs : ∀ u ∈ out ++ [t],Sm u:=fun u hu=>by
   rcases List.mem_append.1 hu with hu | hu
   ·exact ho u hu
   ·rw [List.mem_singleton.1 hu]
    exact ht
  have ok:=specOk (l:=out ++ [t]) ⟨by simp;omega,fun u hu=>hs u hu 3⟩
  obtain ⟨b0,b1,b2,b3,b4,b5⟩:=t
  have hgo : ∀ r,Ev (fun k=>if okLst (out ++ [⟨b0,b1,b2,b3,b4,b5⟩]) = true then spec_l2Some.l0 k (out ++ [⟨b0,b1,b2,b3,b4,b5⟩]) (n : Int) xs q else spec_l2Some.l0 k out (n : Int) xs q) r → Ev (fun k=>spec_l2Some.l0 k out ((n + 1 : Nat) : Int) xs p) r:=by
   intro r hr
   refine Evs.succ (fun k=>by simp only [spec_l2Some.l0,ew];rfl) ?_
   refine Evs.ite_pos (by omega) (Evs.bind0 rfl (Evs.ite_pos (by simp only [List.length_nil];omega) (Evs.bind0 rfl (Evs.bind he (Evs.ite_pos (by simp only [List.nil_append];omega) (Evs.bind0 rfl ?_))))))
   exact Evs.bind ok hr
  cases c : okLst (out ++ [⟨b0,b1,b2,b3,b4,b5⟩]) with
  | true =>
   obtain ⟨l,p',a1,a2,a3,a4,a5,a6⟩:=ih (out ++ [⟨b0,b1,b2,b3,b4,b5⟩]) q (by simp;omega) hs c (by omega) (by omega)
   exact ⟨l,p',a1,a2,a3,by omega,by omega,hgo _ (Evs.ite_pos c a6)⟩
  | false =>
   obtain ⟨l,p',a1,a2,a3,a4,a5,a6⟩:=ih out q (by omega) ho hk (by omega) (by omega)
   exact ⟨l,p',a1,a2,a3,by omega,by omega,hgo _ (Evs.ite_neg (by rw [c];simp) a6)⟩
theorem okLst_nil : okLst [] = true:=by simp [okLst,okList,cntL,wrap64]
theorem some_ev {xs : List Int} (hb : Buf xs) (p : Int) (p0 : 0 ≤ p) (p1 : p ≤ 900000000) : ∃ (l : List S41) (p' : Int),l.length ≤ 6 ∧ (∀ t ∈ l,Sm t) ∧ okLst l = true ∧ p ≤ p' ∧ p' ≤ p + 700000 ∧ Ev (fun k=>spec_l2Some.f k xs p) (l,p'):=by
 obtain ⟨v,hm,hv⟩:=num_ev (l:=[3,4,5,6,2,0]) hb p0 (by omega) (by simp) (by simp)
 have hv6 : 0 ≤ v ∧ v ≤ 6:=by simp at hm;omega
 obtain ⟨n,rfl⟩:=Int.eq_ofNat_of_zero_le hv6.1
 obtain ⟨l,p',a1,a2,a3,a4,a5,a6⟩:=some_loop hb n [] (p + 1) (by simp;omega) (fun _ h=>by cases h) okLst_nil (by omega) (by omega)
 exact ⟨l,p',a1,a2,a3,by omega,by omega,Evs.bind hv a6⟩
def Rt (l : List S41) : Prop:=l.length ≤ 6 ∧ (∀ t ∈ l,Sm t) ∧ okLst l = true
theorem prog_loop {xs : List Int} (hb : Buf xs) (n : Nat) : ∀ (out : List (List S41)) (p : Int),out.length + n ≤ 3 → (∀ l ∈ out,Rt l) → 0 ≤ p → p + (n : Int) * 700000 ≤ 900000000 →
  ∃ (q : List (List S41)) (p' : Int),q.length = out.length + n ∧ (∀ l ∈ q,Rt l) ∧ p ≤ p' ∧ p' ≤ p + (n : Int) * 700000 ∧ Ev (fun k=>spec_l2Prog.l0 k out (n : Int) xs p) (q,p'):=by
 induction n with
 | zero =>
  intro out p hn ho h0 h1
  refine ⟨out,p,by omega,ho,by omega,by omega,?_⟩
  refine Evs.succ (fun k=>by simp only [spec_l2Prog.l0];rfl) ?_
  exact Evs.ite_neg (by omega) (Evs.some_ _)
 | succ n ih =>
  intro out p hn ho h0 h1
  obtain ⟨l,p1,a1,a2,a3,a4,a5,a6⟩:=some_ev hb p h0 (by omega)
  obtain ⟨q,p',b1,b2,b3,b4,b5⟩:=ih (out ++ [l]) p1 (by simp;omega) (fun u hu=>by
   rcases List.mem_append.1 hu with hu | hu
   ·exact ho u hu
   ·rw [List.mem_singleton.1 hu]
    exact ⟨a1,a2,a3⟩) (by omega) (by omega)
  have ew : wrap64 (((n + 1 : Nat) : Int) - 1) = (n : Int):=by rw [wrap_id (by omega) (by omega)];omega
  refine ⟨q,p',by rw [b1,List.length_append,List.length_singleton];omega,b2,by omega,by omega,?_⟩
  refine Evs.succ (fun k=>by simp only [spec_l2Prog.l0,ew];rfl) ?_
  exact Evs.ite_pos (by omega) (Evs.bind a6 (Evs.ite_pos (by omega) b5))
theorem prog_ev {xs : List Int} (hb : Buf xs) (p : Int) (p0 : 0 ≤ p) (p1 : p ≤ 800000000) :
  ∃ (q : List (List S41)) (p' : Int),1 ≤ q.length ∧ q.length ≤ 3 ∧ (∀ l ∈ q,Rt l) ∧ p ≤ p' ∧ p' ≤ p + 2100001 ∧ Ev (fun k=>spec_l2Prog.f k xs p) (q,p'):=by
 obtain ⟨i,hi,hr,_⟩:=pick_ev (n:=3) hb p0 (by omega)
 obtain ⟨i0,i1⟩:=hr (by omega)
 obtain ⟨n,rfl⟩:=Int.eq_ofNat_of_zero_le i0
 have ew : wrap64 (1 + (n : Int)) = ((n + 1 : Nat) : Int):=by rw [wrap_id (by omega) (by omega)];omega
 obtain ⟨q,p',b1,b2,b3,b4,b5⟩:=prog_loop hb (n + 1) [] (p + 1) (by simp;omega) (fun _ h=>by cases h) (by omega) (by omega)
 refine ⟨q,p',by simp at b1;omega,by simp at b1;omega,b2,by omega,by omega,?_⟩
 unfold spec_l2Prog.f
 refine Evs.bind hi ?_
 show Ev (fun k=>spec_l2Prog.l0 k [] (wrap64 (1 + (n : Int))) xs (p + 1)) _
 rw [ew]
 exact b5
theorem rt_sm {l : List S41} (h : Rt l) : SmL l:=⟨by have:=h.1;omega,h.2.1⟩
def TOut (n : Nat) (f : Nat → Option (List TSt)) : Prop:=∃ ts : List TSt,ts.length ≤ n ∧ (∀ t ∈ ts,Sm t) ∧ Ev f ts
theorem TOut.of {n : Nat} {f g : Nat → Option (List TSt)} (h : TOut n f) (hg : ∀ r,Ev f r → Ev g r) : TOut n g:=by
 obtain ⟨ts,a,b,c⟩:=h
 exact ⟨ts,a,b,hg _ c⟩
theorem tame_nil (own : List Int) (m d : Int) : Ev (fun k=>spec_l6Tame.f k [] own m d) []:=by
 refine Evs.succ (fun k=>by simp only [spec_l6Tame.f];rfl) (Evs.succ (fun k=>by simp only [spec_l6Tame.l0];rfl) (Evs.ite_neg (by simp) ?_))
 exact Evs.succ (fun k=>by simp only [spec_l6Tame.j1];rfl) (Evs.ite_neg (by simp) (Evs.some_ _))
theorem tame_loop (own : List Int) (h5 : own.length = 5) (d : Nat) (hd : d + 1 ≤ 1000) (l : List TSt) (rm : Int) (hl : l.length ≤ 1048576) (hf : ∀ x ∈ l,fitI x.f0 x.f1 x.f2)
  (h : ∀ x ∈ l,∀ m,TOut 1048576 (fun k=>spec_l6Tame.f k x.f4 own m (d : Int)) ∧ TOut 1048576 (fun k=>spec_l6Tame.f k x.f5 own m (d : Int))) (e : Nat) :
  ∀ (i : Nat) (acc : List TSt),i + e = l.length → acc.length + e ≤ l.length → (∀ t ∈ acc,Sm t) → TOut l.length (fun k=>spec_l6Tame.l0 k l own rm ((d + 1 : Nat) : Int) acc (i : Int)):=by
 induction e with
 | zero =>
  intro i acc hi ha hs
  refine ⟨acc,by omega,hs,Evs.succ (fun k=>by simp only [spec_l6Tame.l0];rfl) (Evs.ite_neg (by omega) ?_)⟩
  exact Evs.succ (fun k=>by simp only [spec_l6Tame.j1];rfl) (Evs.ite_neg (by simp) (Evs.some_ _))
 | succ e ih =>
  intro i acc hi ha hs
  have hi' : i < l.length:=by omega
  have hw : wrap64 (((d + 1 : Nat) : Int) - 1) = (d : Int):=by unfold wrap64;omega
  have hx:=rd_mem hi'
  have hfx:=hf _ hx
  have hk:=h _ hx
  suffices key : ∀ x : TSt,rd_T41 l (i : Int) = x → TOut l.length (fun k=>spec_l6Tame.l0 k l own rm ((d + 1 : Nat) : Int) acc (i : Int)) from key _ rfl
  intro x ex
  rw [ex] at hfx hk
  have fin : ∀ (a b c n : Int) (t4 t5 : List TSt),t4.length ≤ 1048576 → (∀ t ∈ t4,Sm t) → t5.length ≤ 1048576 → (∀ t ∈ t5,Sm t) → TOut l.length (fun k=>if acc.length < 1759218604441 then spec_l6Tame.l0 k l own rm ((d + 1 : Nat) : Int) (acc ++ [⟨a,b,c,n,t4,t5⟩]) (wrap64 ((i : Int) + 1)) else none):=by
   intro a b c n t4 t5 q4 g4 q5 g5
   rw [wrap_succ (by omega)]
   refine (ih (i + 1) (acc ++ [⟨a,b,c,n,t4,t5⟩]) (by omega) (by simp;omega) (fun t ht=>?_)).of fun r hr=>Evs.ite_pos (by omega) hr
   rcases List.mem_append.1 ht with ht | ht
   ·exact hs t ht
   ·rw [List.mem_singleton.1 ht]
    exact sm_mk q4 g4 q5 g5
  have nil : ∀ (m : Int) (a b c n : Int),TOut l.length (fun k=>(spec_l6Tame.f k [] own m (wrap64 (((d + 1 : Nat) : Int) - 1))).bind fun t243=>(spec_l6Tame.f k [] own m (wrap64 (((d + 1 : Nat) : Int) - 1))).bind fun t246=>if acc.length < 1759218604441 then spec_l6Tame.l0 k l own rm ((d + 1 : Nat) : Int) (acc ++ [⟨a,b,c,n,t243,t246⟩]) (wrap64 ((i : Int) + 1)) else none):=fun m a b c n =>
   (fin a b c n [] [] (by simp) (fun _ h=>by cases h) (by simp) (fun _ h=>by cases h)).of fun r hr=>Evs.bind (tame_nil _ _ _) (Evs.bind (tame_nil _ _ _) hr)
  have kids : ∀ (m : Int) (a b c n : Int),TOut l.length (fun k=>(spec_l6Tame.f k x.f4 own m (wrap64 (((d + 1 : Nat) : Int) - 1))).bind fun t243=>(spec_l6Tame.f k x.f5 own m (wrap64 (((d + 1 : Nat) : Int) - 1))).bind fun t246=>if acc.length < 1759218604441 then spec_l6Tame.l0 k l own rm ((d + 1 : Nat) : Int) (acc ++ [⟨a,b,c,n,t243,t246⟩]) (wrap64 ((i : Int) + 1)) else none):=fun m a b c n=>by
   obtain ⟨⟨t4,q4,g4,e4⟩,t5,q5,g5,e5⟩:=hk m
   rw [hw]
   exact (fin a b c n t4 t5 q4 g4 q5 g5).of fun r hr=>Evs.bind e4 (Evs.bind e5 hr)
  have j6 : ∀ (m : Int) (v : Bool) (a b c n : Int),TOut l.length (fun k=>spec_l6Tame.j6 k l own rm ((d + 1 : Nat) : Int) acc (i : Int) m v a b c n):=by
   intro m v a b c n
   cases v with
   | true=>exact (nil m 11 0 0 0).of fun r hr=>Evs.succ (fun k=>by simp only [spec_l6Tame.j6];rfl) (Evs.ite_pos (by trivial) hr)
   | false=>exact (nil m a b c n).of fun r hr=>Evs.succ (fun k=>by simp only [spec_l6Tame.j6];rfl) (Evs.ite_neg (by simp) hr)
  have j8 : ∀ (m : Int) (v : Bool) (a b c n : Int),TOut l.length (fun k=>spec_l6Tame.j8 k l own rm ((d + 1 : Nat) : Int) acc (i : Int) m v a b c n):=by
   intro m v a b c n
   cases v with
   | true=>exact (nil m 11 0 0 0).of fun r hr=>Evs.succ (fun k=>by simp only [spec_l6Tame.j8];rfl) (Evs.ite_pos (by trivial) hr)
   | false=>exact (nil m a b c n).of fun r hr=>Evs.succ (fun k=>by simp only [spec_l6Tame.j8];rfl) (Evs.ite_neg (by simp) hr)
  have j9 : ∀ (m : Int) (v : Bool) (a b c n : Int),TOut l.length (fun k=>spec_l6Tame.j9 k l own rm ((d + 1 : Nat) : Int) acc (i : Int) m v a b c n x.f4 x.f5):=by
   intro m v a b c n
   cases v with
   | true=>exact (nil m 11 0 0 0).of fun r hr=>Evs.succ (fun k=>by simp only [spec_l6Tame.j9];rfl) (Evs.ite_pos (by trivial) hr)
   | false=>exact (kids m a b c n).of fun r hr=>Evs.succ (fun k=>by simp only [spec_l6Tame.j9];rfl) (Evs.ite_neg (by simp) hr)
  have j4 : ∀ (m b n : Int),TOut l.length (fun k=>spec_l6Tame.j4 k l own rm ((d + 1 : Nat) : Int) acc (i : Int) m false 1 b 0 n):=fun m b n =>
   (j6 m false 1 b 0 n).of fun r hr=>Evs.succ (fun k=>by simp only [spec_l6Tame.j4];rfl) (Evs.ite_neg (by simp) (Evs.succ (fun k=>by simp only [spec_l6Tame.j5];rfl) (Evs.ite_neg (by omega) (Evs.ite_neg (by omega) hr))))
  obtain ⟨p3,p4,p9⟩:=hfx
  have w3 : ∀ a : Int,0 ≤ a → a < 2 → wrap64 (3 + a) = 3 + a:=fun a _ _=>by unfold wrap64;omega
  have j7 : ∀ (m : Int) (v : Bool),TOut l.length (fun k=>spec_l6Tame.j7 k l own rm ((d + 1 : Nat) : Int) acc (i : Int) m v x.f0 x.f1 x.f2 x.f3 x.f4 x.f5):=by
   intro m v
   cases v with
   | true=>exact (j8 m false 5 x.f2 0 0).of fun r hr=>Evs.succ (fun k=>by simp only [spec_l6Tame.j7];rfl) (Evs.ite_pos (by trivial) (Evs.ite_neg (by omega) (Evs.ite_neg (by omega) hr)))
   | false =>
    by_cases h9 : x.f0 = 9
    ·have hp:=p9 (.inl h9)
     have hv:=w3 _ hp.1 hp.2
     exact (j9 m _ x.f0 x.f1 x.f2 x.f3).of fun r hr=>Evs.succ (fun k=>by simp only [spec_l6Tame.j7];rfl) (Evs.ite_neg (by simp) (Evs.ite_pos h9 (Evs.ite_pos (by omega) (Evs.ite_pos (by omega) hr))))
    by_cases h10 : x.f0 = 10
    ·have hp:=p9 (.inr h10)
     have hv:=w3 _ hp.1 hp.2
     exact (j9 m _ x.f0 x.f1 x.f2 x.f3).of fun r hr=>Evs.succ (fun k=>by simp only [spec_l6Tame.j7];rfl) (Evs.ite_neg (by simp) (Evs.ite_neg h9 (Evs.ite_pos h10 (Evs.ite_pos (by omega) (Evs.ite_pos (by omega) hr)))))
    ·exact (j9 m false x.f0 x.f1 x.f2 x.f3).of fun r hr=>Evs.succ (fun k=>by simp only [spec_l6Tame.j7];rfl) (Evs.ite_neg (by simp) (Evs.ite_neg h9 (Evs.ite_neg h10 hr)))
  have j3 : ∀ (m : Int) (v : Bool),TOut l.length (fun k=>spec_l6Tame.j3 k l own rm ((d + 1 : Nat) : Int) acc (i : Int) m v x.f0 x.f1 x.f2 x.f3 x.f4 x.f5):=by
   intro m v
   cases v with
   | true=>exact (j4 m x.f1 x.f2).of fun r hr=>Evs.succ (fun k=>by simp only [spec_l6Tame.j3];rfl) (Evs.ite_pos (by trivial) (Evs.ite_neg (by omega) hr))
   | false =>
    by_cases h4 : x.f0 = 4
    ·have hp:=p4 h4
     exact (j7 m _).of fun r hr=>Evs.succ (fun k=>by simp only [spec_l6Tame.j3];rfl) (Evs.ite_neg (by simp) (Evs.ite_pos h4 (Evs.ite_pos hp.1 (Evs.ite_pos (by omega) hr))))
    ·exact (j7 m false).of fun r hr=>Evs.succ (fun k=>by simp only [spec_l6Tame.j3];rfl) (Evs.ite_neg (by simp) (Evs.ite_neg h4 hr))
  have j2 : ∀ (m : Int),TOut l.length (fun k=>spec_l6Tame.j2 k l own rm ((d + 1 : Nat) : Int) acc (i : Int) m x.f0 x.f1 x.f2 x.f3 x.f4 x.f5):=by
   intro m
   by_cases h3 : x.f0 = 3
   ·have hp:=p3 h3
    exact (j3 m _).of fun r hr=>Evs.succ (fun k=>by simp only [spec_l6Tame.j2];rfl) (Evs.ite_pos h3 (Evs.ite_pos hp.1 (Evs.ite_pos (by omega) hr)))
   ·exact (j3 m false).of fun r hr=>Evs.succ (fun k=>by simp only [spec_l6Tame.j2];rfl) (Evs.ite_neg h3 hr)
  have j1 : TOut l.length (fun k=>spec_l6Tame.j1 k l own rm ((d + 1 : Nat) : Int) acc (i : Int) true):=by
   by_cases h8 : x.f0 = 8
   ·exact (j2 x.f1).of fun r hr=>Evs.succ (fun k=>by simp only [spec_l6Tame.j1,ex];rfl) (Evs.ite_pos (by trivial) (Evs.ite_pos (by omega) (Evs.ite_pos (by omega) (Evs.ite_pos h8 hr))))
   ·exact (j2 rm).of fun r hr=>Evs.succ (fun k=>by simp only [spec_l6Tame.j1,ex];rfl) (Evs.ite_pos (by trivial) (Evs.ite_pos (by omega) (Evs.ite_pos (by omega) (Evs.ite_neg h8 hr))))
  refine j1.of fun r hr=>Evs.succ (fun k=>by simp only [spec_l6Tame.l0];rfl) (Evs.ite_pos (by omega) ?_)
  rw [decide_eq_true (show ((d + 1 : Nat) : Int) > 0 by omega)]
  exact hr
theorem tame_ev (own : List Int) (h5 : own.length = 5) : ∀ (d : Nat),d ≤ 1000 → ∀ (l : List TSt) (rm : Int),l.length ≤ 1048576 → (∀ t ∈ l,Sm t) → fitD d l → TOut l.length (fun k=>spec_l6Tame.f k l own rm (d : Int))
 | 0,_,l,rm,hl,_,_=>by
  refine ⟨[],by simp,(fun _ h=>by cases h),Evs.succ (fun k=>by simp only [spec_l6Tame.f];rfl) (Evs.succ (fun k=>by simp only [spec_l6Tame.l0];rfl) ?_)⟩
  have j : Ev (fun k=>spec_l6Tame.j1 k l own rm ((0 : Nat) : Int) [] 0 false) []:=Evs.succ (fun k=>by simp only [spec_l6Tame.j1];rfl) (Evs.ite_neg (by simp) (Evs.some_ _))
  by_cases c : (0 : Int) < (l.length : Int)
  ·exact Evs.ite_pos c j
  ·exact Evs.ite_neg c j
 | d + 1,hd,l,rm,hl,hs,hf=>by
  have big : ∀ (n : Nat) (f : Nat → Option (List TSt)),n ≤ 1048576 → TOut n f → TOut 1048576 f:=fun n f hn ⟨ts,a,b,c⟩=>⟨ts,by omega,b,c⟩
  refine (tame_loop own h5 d hd l rm hl (fun x hx=>(hf x hx).1) (fun x hx m=>?_) l.length 0 [] (by omega) (by simp) (fun _ h=>by cases h)).of fun r hr=>Evs.succ (fun k=>by simp only [spec_l6Tame.f];rfl) hr
  obtain ⟨⟨q4,g4⟩,q5,g5⟩:=sm_parts (hs x hx)
  exact ⟨big _ _ q4 (tame_ev own h5 d (by omega) x.f4 m q4 g4 (hf x hx).2.1),big _ _ q5 (tame_ev own h5 d (by omega) x.f5 m q5 g5 (hf x hx).2.2)⟩
def OutW (f : Nat → Option (List (List TSt) × List Int × Int)) : Prop:=∃ (q : List (List TSt)) (own : List Int) (p' : Int),q.length ≤ 3 ∧ (∀ l ∈ q,SmL l) ∧ own.length ≤ 5 ∧ Ev f (q,own,p')
theorem OutW.of {f g : Nat → Option (List (List TSt) × List Int × Int)} (h : OutW f) (hg : ∀ r,Ev f r → Ev g r) : OutW g:=by
 obtain ⟨q,own,p',a,b,b2,c⟩:=h
 exact ⟨q,own,p',a,b,b2,hg _ c⟩
theorem some6_end {xs : List Int} (hb : Buf xs) (own : List Int) (h5 : own.length = 5) (q : List (List TSt)) (h1 : 1 ≤ q.length) (h3 : q.length ≤ 3) (hq : ∀ l ∈ q,SmL l) (p : Int) (p0 : 0 ≤ p) (p1 : p ≤ 900000000) : OutW (fun k=>spec_l6Some.j2 k own q xs p):=by
 obtain ⟨i,hi,hr,_⟩:=pick_ev (n:=40) hb (p:=p) (by omega) (by omega)
 by_cases k0 : i = 0
 ·obtain ⟨v,_,hv⟩:=num_ev (l:=[-1,2]) hb (p:=p + 1) (by omega) (by omega) (by simp) (by simp)
  exact ⟨q,own.set (0 : Int).toNat v,p + 1 + 1,h3,hq,by simp;omega,(by refine Evs.succ (fun k=>by simp only [spec_l6Some.j2];rfl) ?_;exact Evs.bind hi (Evs.ite_pos k0 (Evs.bind hv (Evs.ite_pos (by omega) (Evs.some_ _)))))⟩
 by_cases k1 : i = 1
 ·exact ⟨q,own.drop (1 : Int).toNat,p + 1,h3,hq,by simp;omega,(by refine Evs.succ (fun k=>by simp only [spec_l6Some.j2];rfl) ?_;exact Evs.bind hi (Evs.ite_neg k0 (Evs.ite_pos k1 (Evs.ite_pos (by omega) (Evs.some_ _)))))⟩
 by_cases k2 : i = 2
 ·have hm : SmL (q.getD (0 : Int).toNat []):=hq _ (rdlo (i:=0) (by omega))
  obtain ⟨l1,p2,t1,n1,q3,q4,e1⟩:=bent_ev hb _ hm (p + 1) (by omega) (by omega)
  obtain ⟨l2,p3,t2,n2,q5,q6,e2⟩:=bent_ev hb l1 t1 p2 (by omega) (by omega)
  obtain ⟨l3,p4,t3,n3,q7,q8,e3⟩:=bent_ev hb l2 t2 p3 (by omega) (by omega)
  refine ⟨q.set (0 : Int).toNat l3,own,p4,by simpa using h3,fun l hl=>?_,by omega,(by refine Evs.succ (fun k=>by simp only [spec_l6Some.j2];rfl) ?_;exact Evs.bind hi (Evs.ite_neg k0 (Evs.ite_neg k1 (Evs.ite_pos k2 (Evs.ite_pos (by omega) (Evs.bind e1 (Evs.bind e2 (Evs.bind e3 (Evs.some_ _)))))))))⟩
  rcases List.mem_or_eq_of_mem_set hl with hl | rfl
  ·exact hq l hl
  ·exact t3
 ·exact ⟨q,own,p + 1,h3,hq,by omega,(by refine Evs.succ (fun k=>by simp only [spec_l6Some.j2];rfl) ?_;exact Evs.bind hi (Evs.ite_neg k0 (Evs.ite_neg k1 (Evs.ite_neg k2 (Evs.some_ _)))))⟩
theorem some6_tame {xs : List Int} (hb : Buf xs) (own : List Int) (h5 : own.length = 5) (p : Int) (p0 : 0 ≤ p) (p1 : p ≤ 900000000) (e : Nat) : ∀ (i : Nat) (q : List (List TSt)),i + e = q.length → 1 ≤ q.length → q.length ≤ 3 → (∀ l ∈ q,SmL l) → (∀ l ∈ q.drop i,fitD 3 l) → OutW (fun k=>spec_l6Some.l1 k own q (i : Int) xs p):=by
 induction e with
 | zero =>
  intro i q hi h1 h3 hq _
  exact (some6_end hb own h5 q h1 h3 hq p p0 p1).of fun r hr=>(by refine Evs.succ (fun k=>by simp only [spec_l6Some.l1];rfl) ?_;exact Evs.ite_neg (by omega) hr)
 | succ e ih =>
  intro i q hi h1 h3 hq hf
  have hi' : i < q.length:=by omega
  rw [droplo q hi'] at hf
  have hm:=hq _ (rdlo hi')
  obtain ⟨ts,a,b,c⟩:=tame_ev own h5 3 (by omega) (q.getD (i : Int).toNat []) (-1) (by have:=hm.1;omega) hm.2 (hf _ (List.mem_cons_self ..))
  refine (ih (i + 1) (q.set i ts) (by simp;omega) (by simpa using h1) (by simpa using h3) (fun l hl=>?_) (fun l hl=>?_)).of fun r hr=>?_
  ·rcases List.mem_or_eq_of_mem_set hl with hl | rfl
   ·exact hq l hl
   ·exact ⟨by have:=hm.1;omega,b⟩
  ·rw [List.drop_set_of_lt (by omega)] at hl
   exact hf l (List.mem_cons_of_mem _ hl)
  ·refine Evs.succ (fun k=>by simp only [spec_l6Some.l1];rfl) ?_
   refine Evs.ite_pos (by omega) (Evs.ite_pos (by omega) (Evs.bind c ?_))
   rw [wrap_succ (by omega),Int.toNat_natCast]
   exact hr
theorem some6_own {xs : List Int} (hb : Buf xs) (e : Nat) : ∀ (i : Nat) (own : List Int) (p : Int),i + e = 5 → own.length = i → 0 ≤ p → p + e ≤ 5 → OutW (fun k=>spec_l6Some.l0 k own (i : Int) xs p):=by
 induction e with
 | zero =>
  intro i own p hi hl p0 p1
  obtain ⟨q,p2,a1,a2,a3,a4,a5,a6⟩:=prog_ev hb p p0 (by omega)
  obtain ⟨v,hv,hr,_⟩:=pick_ev (n:=8) hb (p:=p2) (by omega) (by omega)
  have hq : ∀ l ∈ q,SmL l:=fun l hl=>rt_sm (a3 l hl)
  have go : ∀ r,Ev (fun k=>if v > 0 then spec_l6Some.l1 k own q 0 xs (p2 + 1) else spec_l6Some.j2 k own q xs (p2 + 1)) r → Ev (fun k=>spec_l6Some.l0 k own (i : Int) xs p) r:=fun r hr=>(by refine Evs.succ (fun k=>by simp only [spec_l6Some.l0];rfl) ?_;exact Evs.ite_neg (by omega) (Evs.bind a6 (Evs.bind hv hr)))
  by_cases c : v > 0
  ·exact (some6_tame hb own (by omega) (p2 + 1) (by omega) (by omega) q.length 0 q (by omega) a1 a2 hq (fun l hl=>fit_of 3 l (-1) (by have:=okLst_list (a3 l hl).2.2;unfold okList at this;rwa [List.all_eq_true] at this))).of fun r hr=>go r (Evs.ite_pos c hr)
  ·exact (some6_end hb own (by omega) q a1 a2 hq (p2 + 1) (by omega) (by omega)).of fun r hr=>go r (Evs.ite_neg c hr)
 | succ e ih =>
  intro i own p hi hl p0 p1
  obtain ⟨v,hv,hr,_⟩:=pick_ev (n:=2) hb (p:=p) (by omega) (by omega)
  refine (ih (i + 1) (own ++ [v]) (p + 1) (by omega) (by simp;omega) (by omega) (by omega)).of fun r hr=>?_
  refine Evs.succ (fun k=>by simp only [spec_l6Some.l0];rfl) ?_
  refine Evs.ite_pos (by omega) (Evs.bind hv (Evs.ite_pos (by omega) ?_))
  rw [wrap_succ (by omega)]
  exact hr
theorem some6_ev {xs : List Int} (hb : Buf xs) : OutW (fun k=>spec_l6Some.f k xs 0):=some6_own hb 5 0 [] 0 rfl rfl (by omega) (by omega)
def progB (p : List (List S41)) : Bool:=p.all okLst && (decide (1 ≤ (p.length : Int)) && decide ((p.length : Int) ≤ 3))
theorem rdl {α : Type} {l : List (List α)} {i : Nat} (h : i < l.length) : l.getD (i : Int).toNat [] ∈ l:=by
 rw [Int.toNat_natCast,List.getD_eq_getElem?_getD,List.getElem?_eq_getElem h]
 exact List.getElem_mem h
theorem dropl {α : Type} (l : List (List α)) {i : Nat} (h : i < l.length) : l.drop i = l.getD (i : Int).toNat [] :: l.drop (i + 1):=by
 rw [List.drop_eq_getElem_cons h,Int.toNat_natCast,List.getD_eq_getElem?_getD,List.getElem?_eq_getElem h]
 rfl
theorem specProg {p : List (List S41)} (hl : p.length ≤ 1048576) (h : ∀ l ∈ p,SL 3 l) : Ev (fun k=>spec_ProgOk.f k p) (progB p):=by
 unfold spec_ProgOk.f
 have key : ∀ e i : Nat,i + e = p.length → Ev (fun k=>spec_ProgOk.l0 k p (i : Int)) ((p.drop i).all okLst && (decide (1 ≤ (p.length : Int)) && decide ((p.length : Int) ≤ 3))):=by
  intro e
  induction e with
  | zero =>
   intro i hi
   rw [List.drop_of_length_le (by omega)]
   refine Evs.succ (fun k=>by simp only [spec_ProgOk.l0];rfl) (Evs.ite_neg (by omega) ?_)
   rw [List.all_nil,Bool.true_and]
   exact ev_and (c:=1 ≤ (p.length : Int)) fun _=>Evs.some_ _
  | succ e ih =>
   intro i hi
   have hlt : i < p.length:=by omega
   rw [dropl p hlt,List.all_cons,Bool.and_assoc]
   refine Evs.succ (fun k=>by simp only [spec_ProgOk.l0];rfl) (Evs.ite_pos (by omega) (Evs.ite_pos (by omega) (Evs.bind (specOk (h _ (rdl hlt))) (ev_band fun _=>?_))))
   rw [wrap_succ (by omega)]
   exact ih (i + 1) (by omega)
 exact key p.length 0 (by omega)
theorem listG_ev : ∀ p : List (List S41),Ev (fun k=>listG (impl_StmtsOk.f k) p) (p.all okLst)
 | []=>Evs.some_ _
 | x :: t=>by
  rw [List.all_cons]
  exact Evs.bind (implOk x) (ev_band fun _=>listG_ev t)
theorem implProg (p : List (List S41)) : Ev (fun k=>impl_ProgOk.f k p) (progB p):=by
 unfold impl_ProgOk.f progB
 rw [Bool.and_comm,Bool.and_assoc]
 exact ev_and (c:=1 ≤ (p.length : Int)) fun _=>ev_and (c:=(p.length : Int) ≤ 3) fun _=>listG_ev p
end Go.Proofs.Ythgdapgophkklaa.P

namespace Go.Proofs.Ythgdapgophkklaa.Pure
open Go.RowKit Go.Proofs.Ythgdapgophkklaa.P Go.Proofs.YthgdapgophkklaaW.PrintWords Go.Proofs.YthgdapgophkklaaW.PrintLast
open Go.Proofs.Ythgdapgophkklaa.P Go.Proofs.YthgdapgophkklaaW.PrintMore
set_option linter.unusedVariables false
set_option linter.unusedSimpArgs false
theorem progB_ok {p : List (List TSt)} (h : progB p = true) : ∀ l ∈ p,okList l = true:=fun l hl=>by
 unfold progB at h
 rw [Bool.and_eq_true,List.all_eq_true] at h
 exact okLst_list (h.1 l hl)
def tcV (c : Int) (a0 a1 a2 : Int) : Bool:=decide (((a0 = 9 ∨ a0 = 10) ∧ 3 + a1 = c) ∨ (a0 = 3 ∧ a2 = c) ∨ (a0 = 4 ∧ a1 = c))
def tcD (c : Int) : Nat → List TSt → Bool
 | 0,_=>false
 | d + 1,l=>l.any fun x=>tcV c x.f0 x.f1 x.f2 || (tcD c d x.f4 || tcD c d x.f5)
theorem ev_or {f : Nat → Option Bool} {b r : Bool} (h : b = false → Ev f r) : Ev (fun k=>if b = true then some true else f k) (b || r):=by
 cases b with
 | true=>exact Evs.ite_pos rfl (Evs.some_ _)
 | false=>exact Evs.ite_neg (by simp) (h rfl)
theorem cell_loop (c : Int) (d : Nat) (hd : d + 1 ≤ 1000) (l : List TSt) (hl : l.length ≤ 1048576) (hf : ∀ x ∈ l,fitI x.f0 x.f1 x.f2)
  (h : ∀ x ∈ l,Ev (fun k=>laws_wpCell.f k x.f4 c (d : Int)) (tcD c d x.f4) ∧ Ev (fun k=>laws_wpCell.f k x.f5 c (d : Int)) (tcD c d x.f5)) (e : Nat) :
  ∀ i : Nat,i + e = l.length → Ev (fun k=>laws_wpCell.l0 k l c ((d + 1 : Nat) : Int) (i : Int)) ((l.drop i).any fun x=>tcV c x.f0 x.f1 x.f2 || (tcD c d x.f4 || tcD c d x.f5)):=by
 induction e with
 | zero =>
  intro i hi
  refine Evs.succ (fun k=>by simp only [laws_wpCell.l0];rfl) (Evs.ite_neg (by omega) ?_)
  rw [List.drop_of_length_le (by omega)]
  exact Evs.succ (fun k=>by simp only [laws_wpCell.j1];rfl) (Evs.ite_neg (by simp) (Evs.some_ _))
 | succ e ih =>
  intro i hi
  have hi' : i < l.length:=by omega
  refine Evs.succ (fun k=>by simp only [laws_wpCell.l0];rfl) (Evs.ite_pos (by omega) ?_)
  rw [decide_eq_true (show ((d + 1 : Nat) : Int) > 0 by omega)]
  have er : rd_T41 l (i : Int) = l[i]:=by
   unfold rd_T41
   simp [List.getD_eq_getElem?_getD,hi']
  have hx : l[i] ∈ l:=List.getElem_mem hi'
  have hn:=ih (i + 1) (by omega)
  have hfx:=hf _ hx
  have hk:=h _ hx
  rw [List.drop_eq_getElem_cons hi',List.any_cons]
  generalize (l.drop (i + 1)).any (fun x=>tcV c x.f0 x.f1 x.f2 || (tcD c d x.f4 || tcD c d x.f5)) = q at *
  generalize l[i] = x at *
  have hw : wrap64 (((d + 1 : Nat) : Int) - 1) = (d : Int):=by unfold wrap64;omega
  have tail : Ev (fun k=>(laws_wpCell.f k x.f4 c (wrap64 (((d + 1 : Nat) : Int) - 1))).bind fun t419=>if t419 = true then some true else (laws_wpCell.f k x.f5 c (wrap64 (((d + 1 : Nat) : Int) - 1))).bind fun t420=>if t420 = true then some true else laws_wpCell.l0 k l c ((d + 1 : Nat) : Int) (wrap64 ((i : Int) + 1))) (tcD c d x.f4 || (tcD c d x.f5 || q)):=by
   rw [hw,wrap_succ (by omega)]
   exact Evs.bind hk.1 (ev_or fun _=>Evs.bind hk.2 (ev_or fun _=>hn))
  have j2 : ∀ b : Bool,Ev (fun k=>laws_wpCell.j2 k l c ((d + 1 : Nat) : Int) (i : Int) b x.f0 x.f1 x.f2 x.f3 x.f4 x.f5) (b || (decide (x.f0 = 3 ∧ x.f2 = c) || (decide (x.f0 = 4 ∧ x.f1 = c) || (tcD c d x.f4 || (tcD c d x.f5 || q))))):=by
   intro b
   refine Evs.succ (fun k=>by simp only [laws_wpCell.j2];rfl) (ev_or fun _=>?_)
   have four : Ev (fun k=>if x.f0 = 4 then (if x.f1 = c then some true else (laws_wpCell.f k x.f4 c (wrap64 (((d + 1 : Nat) : Int) - 1))).bind fun t419=>if t419 = true then some true else (laws_wpCell.f k x.f5 c (wrap64 (((d + 1 : Nat) : Int) - 1))).bind fun t420=>if t420 = true then some true else laws_wpCell.l0 k l c ((d + 1 : Nat) : Int) (wrap64 ((i : Int) + 1))) else (laws_wpCell.f k x.f4 c (wrap64 (((d + 1 : Nat) : Int) - 1))).bind fun t419=>if t419 = true then some true else (laws_wpCell.f k x.f5 c (wrap64 (((d + 1 : Nat) : Int) - 1))).bind fun t420=>if t420 = true then some true else laws_wpCell.l0 k l c ((d + 1 : Nat) : Int) (wrap64 ((i : Int) + 1))) (decide (x.f0 = 4 ∧ x.f1 = c) || (tcD c d x.f4 || (tcD c d x.f5 || q))):=by
    by_cases h4 : x.f0 = 4
    ·refine Evs.ite_pos h4 ?_
     by_cases h1 : x.f1 = c
     ·rw [decide_eq_true ⟨h4,h1⟩]
      exact Evs.ite_pos h1 (Evs.some_ _)
     ·rw [decide_eq_false (fun h=>h1 h.2)]
      exact Evs.ite_neg h1 tail
    ·rw [decide_eq_false (fun h=>h4 h.1)]
     exact Evs.ite_neg h4 tail
   by_cases h3 : x.f0 = 3
   ·refine Evs.ite_pos h3 ?_
    by_cases h1 : x.f2 = c
    ·rw [decide_eq_true (show x.f0 = 3 ∧ x.f2 = c from ⟨h3,h1⟩)]
     exact Evs.ite_pos h1 (Evs.some_ _)
    ·rw [decide_eq_false (show ¬ (x.f0 = 3 ∧ x.f2 = c) from fun h=>h1 h.2)]
     exact Evs.ite_neg h1 four
   ·rw [decide_eq_false (show ¬ (x.f0 = 3 ∧ x.f2 = c) from fun h=>h3 h.1)]
    exact Evs.ite_neg h3 four
  obtain ⟨p3,p4,p9⟩:=hfx
  have w3 : ∀ a : Int,0 ≤ a → a < 2 → wrap64 (3 + a) = 3 + a:=fun a _ _=>by unfold wrap64;omega
  have form : ∀ b : Bool,b = decide ((x.f0 = 9 ∨ x.f0 = 10) ∧ 3 + x.f1 = c) → (b || (decide (x.f0 = 3 ∧ x.f2 = c) || (decide (x.f0 = 4 ∧ x.f1 = c) || (tcD c d x.f4 || (tcD c d x.f5 || q))))) = (tcV c x.f0 x.f1 x.f2 || (tcD c d x.f4 || tcD c d x.f5) || q):=by
   rintro b rfl
   unfold tcV
   rw [Bool.decide_or,Bool.decide_or]
   simp only [Bool.or_assoc]
  refine Evs.succ (fun k=>by simp only [laws_wpCell.j1,er];rfl) (Evs.ite_pos (by simp) (Evs.ite_pos (by omega) (Evs.ite_pos (by omega) ?_)))
  by_cases h9 : x.f0 = 9
  ·refine Evs.ite_pos h9 ?_
   have hp:=p9 (.inl h9)
   rw [← form (wrap64 (3 + x.f1) == c) (by rw [w3 _ hp.1 hp.2,Bool.eq_iff_iff];simp [h9])]
   exact j2 _
  refine Evs.ite_neg h9 ?_
  by_cases h10 : x.f0 = 10
  ·refine Evs.ite_pos h10 ?_
   have hp:=p9 (.inr h10)
   rw [← form (wrap64 (3 + x.f1) == c) (by rw [w3 _ hp.1 hp.2,Bool.eq_iff_iff];simp [h10])]
   exact j2 _
  refine Evs.ite_neg h10 ?_
  rw [← form false (by simp [h9,h10])]
  exact j2 false
theorem cell_ev (c : Int) : ∀ (d : Nat),d ≤ 1000 → ∀ l : List TSt,SL d l → fitD d l → Ev (fun k=>laws_wpCell.f k l c (d : Int)) (tcD c d l)
 | 0,_,l,h,_=>by
  refine Evs.succ (fun k=>by simp only [laws_wpCell.f];rfl) (Evs.succ (fun k=>by simp only [laws_wpCell.l0];rfl) ?_)
  have j : Ev (fun k=>laws_wpCell.j1 k l c ((0 : Nat) : Int) 0 false) false:=Evs.succ (fun k=>by simp only [laws_wpCell.j1];rfl) (Evs.ite_neg (by simp) (Evs.some_ _))
  by_cases c : (0 : Int) < (l.length : Int)
  ·exact Evs.ite_pos c j
  ·exact Evs.ite_neg c j
 | d + 1,hd,l,h,hf=>by
  refine Evs.succ (fun k=>by simp only [laws_wpCell.f];rfl) ?_
  exact cell_loop c d hd l h.1 (fun x hx=>(hf x hx).1) (fun x hx=>⟨cell_ev c d (by omega) x.f4 (h.kids hx).1 (hf x hx).2.1,cell_ev c d (by omega) x.f5 (h.kids hx).2 (hf x hx).2.2⟩) l.length 0 (by omega)
theorem touch_ev (c : Int) (p : List (List TSt)) (hl : p.length ≤ 1048576) (h : ∀ l ∈ p,SL 3 l ∧ fitD 3 l) : Ev (fun k=>laws_wpTouches.f k p c) (p.any fun l=>tcD c 3 l):=by
 unfold laws_wpTouches.f
 have key : ∀ e i : Nat,i + e = p.length → Ev (fun k=>laws_wpTouches.l0 k p c (i : Int)) ((p.drop i).any fun l=>tcD c 3 l):=by
  intro e
  induction e with
  | zero =>
   intro i hi
   refine Evs.succ (fun k=>by simp only [laws_wpTouches.l0];rfl) (Evs.ite_neg (by omega) ?_)
   rw [List.drop_of_length_le (by omega)]
   exact Evs.some_ _
  | succ e ih =>
   intro i hi
   have hi' : i < p.length:=by omega
   rw [droplo p hi',List.any_cons]
   have hm:=h _ (rdlo hi')
   have q:=cell_ev c 3 (by omega) _ hm.1 hm.2
   rw [show ((3 : Nat) : Int) = 3 from rfl] at q
   refine Evs.succ (fun k=>by simp only [laws_wpTouches.l0];rfl) (Evs.ite_pos (by omega) (Evs.ite_pos (by omega) (Evs.bind q (ev_or fun _=>?_))))
   rw [wrap_succ (by omega)]
   exact ih (i + 1) (by omega)
 exact key p.length 0 (by omega)
theorem all_not_any {α : Type} {f g : α → Bool} : ∀ l : List α,(∀ x ∈ l,f x = !g x) → l.all f = !l.any g
 | [],_=>rfl
 | x :: t,h=>by
  rw [List.all_cons,List.any_cons,h x (List.mem_cons_self ..),all_not_any t fun y hy=>h y (List.mem_cons_of_mem _ hy),Bool.not_or]
theorem rd_set (own : List Int) (i : Nat) (hi : i < own.length) (v t : Int) (ht : 0 ≤ t) : rd (own.set i v) t = if t = (i : Int) then v else rd own t:=by
 unfold rd
 obtain ⟨n,rfl⟩:=Int.eq_ofNat_of_zero_le ht
 by_cases h : (n : Int) = (i : Int)
 ·rw [if_pos h]
  have : n = i:=by omega
  subst this
  simp [List.getD_eq_getElem?_getD,hi]
 ·rw [if_neg h]
  have : i ≠ n:=by omega
  simp [List.getD_eq_getElem?_getD,List.getElem?_set_ne this]
theorem turned_own {own : List Int} {i : Nat} (h5 : own.length = 5) (hi : i < 5) {v : Int} (hv : v ≠ rd own (i : Int)) {x : I5} (hf : fitI x.1 x.2.1 x.2.2.1) (h : ownV own x = true) : ownV (own.set i v) x = !tcV (i : Int) x.1 x.2.1 x.2.2.1:=by
 obtain ⟨a0,a1,a2,a3,rm⟩:=x
 obtain ⟨p,q,r⟩:=hf
 simp only at p q r
 have main : ∀ t : Int,0 ≤ t → (rm == rd own t) = true → (rm == rd (own.set i v) t) = !decide (t = (i : Int)):=by
  intro t ht he
  rw [rd_set own i (by omega) v t ht]
  have he:=beq_iff_eq.1 he
  by_cases c : t = (i : Int)
  ·rw [if_pos c,decide_eq_true c]
   refine beq_eq_false_iff_ne.mpr fun e=>hv ?_
   rw [← e,he,c]
  ·rw [if_neg c,decide_eq_false c,he]
   simp
 unfold ownV at h ⊢
 unfold tcV
 simp only at h ⊢
 by_cases h3 : a0 = 3
 ·rw [if_pos h3] at h ⊢
  rw [main a2 (p h3).1 h]
  congr 1
  rw [Bool.eq_iff_iff]
  simp [h3]
 rw [if_neg h3] at h ⊢
 by_cases h4 : a0 = 4
 ·rw [if_pos h4] at h ⊢
  rw [main a1 (q h4).1 h]
  congr 1
  rw [Bool.eq_iff_iff]
  simp [h4]
 rw [if_neg h4] at h ⊢
 by_cases h9 : a0 = 9 ∨ a0 = 10
 ·rw [if_pos h9] at h ⊢
  rw [main (3 + a1) (by have:=r h9;omega) h]
  congr 1
  rw [Bool.eq_iff_iff]
  simp [h3,h4,h9]
 rw [if_neg h9]
 simp [h3,h4,h9]
theorem turned_list {own : List Int} {i : Nat} (h5 : own.length = 5) (hi : i < 5) {v : Int} (hv : v ≠ rd own (i : Int)) : ∀ (d : Nat) (l : List TSt) (rm : Int),fitD d l → owD own d l rm = true → owD (own.set i v) d l rm = !tcD (i : Int) d l
 | 0,_,_,_,_=>rfl
 | d + 1,l,rm,hf,h=>by
  unfold owD at h ⊢
  unfold tcD
  rw [List.all_eq_true] at h
  refine all_not_any l fun x hx=>?_
  have hx1:=h x hx
  simp only [Bool.and_eq_true] at hx1
  obtain ⟨f1,f2,f3⟩:=hf x hx
  rw [turned_own h5 hi hv (x:=(x.f0,x.f1,x.f2,x.f3,rm)) f1 hx1.1,turned_list h5 hi hv d x.f4 _ f2 hx1.2.1,turned_list h5 hi hv d x.f5 _ f3 hx1.2.2,Bool.not_or,Bool.not_or]
theorem FnWholeOk : laws_FnWholeOk.Pure:=by
 intro l _ _ hw
 refine Ev.rounds (g:=fun k=>laws_FnWholeOk.f k l) ?_
 unfold laws_FnWholeOk.f
 by_cases c0 : (l.length : Int) > 1048576
 ·exact Evs.ite_pos c0 (Evs.some_ _)
 refine Evs.ite_neg c0 ?_
 obtain ⟨ys,ho,hb⟩:=open_eq l
 obtain ⟨p,own,p',a1,a2,a3,a4⟩:=some6_ev (hb hw)
 have hd : Ev (fun k=>spec_DrawWholeOk.f k l) (p,own):=by
  unfold spec_DrawWholeOk.f
  exact Evs.bind0 ho (Evs.bind a4 (Evs.some_ _))
 have hs : ∀ u ∈ p,SL 3 u:=fun u hu=>smL_sl (a2 u hu) 3
 have im : ∀ own',Ev (fun k=>impl_WholeOk.f k p own') (wholeV (progB p) p own'):=fun own'=>implWhole progB_ok (implProg p)
 have sm : Ev (fun k=>spec_WholeOk.f k p own) (wholeV (progB p) p own):=specWhole (by omega) hs progB_ok (specProg (by omega) hs)
 refine Evs.bind hd (Evs.bind (im own) (Evs.bind sm (Evs.ite_neg (by simp) ?_)))
 cases hV : wholeV (progB p) p own with
 | false =>
  rw [hV] at sm
  exact Evs.succ (fun k=>by simp only [laws_FnWholeOk.j0];rfl) (Evs.ite_pos (by simp) (Evs.bind sm (Evs.some_ _)))
 | true =>
  refine Evs.succ (fun k=>by simp only [laws_FnWholeOk.j0];rfl) (Evs.ite_neg (by simp) ?_)
  unfold wholeV at hV
  simp only [Bool.and_eq_true,decide_eq_true_eq,Bool.not_eq_true',List.all_eq_true] at hV
  obtain ⟨hp,h5,hoff,hall⟩:=hV
  have hfit : ∀ u ∈ p,fitD 3 u:=fun u hu=>fit_of 3 u (-1) (by have:=progB_ok hp u hu;unfold okList at this;rwa [List.all_eq_true] at this)
  have rng : ∀ x ∈ own,0 ≤ x ∧ x < 2:=fun x hx=>by
   have:=List.any_eq_false.1 hoff x hx
   unfold ownOff at this
   simp only [Bool.not_eq_true,Bool.or_eq_false_iff,decide_eq_false_iff_not] at this
   omega
  have key : ∀ e i : Nat,i + e = 5 → Ev (fun k=>laws_FnWholeOk.l0 k p own (i : Int)) true:=by
   intro e
   induction e with
   | zero =>
    intro i hi
    refine Evs.succ (fun k=>by simp only [laws_FnWholeOk.l0];rfl) (Evs.ite_neg (by omega) (Evs.ite_pos (by omega) (Evs.bind (im _) ?_)))
    have : wholeV (progB p) p (own.drop 1) = false:=by
     unfold wholeV
     rw [decide_eq_false (by simp;omega),Bool.false_and,Bool.and_false]
    rw [this]
    exact Evs.some_ _
   | succ e ih =>
    intro i hi
    have hi5 : i < own.length:=by omega
    have hri:=rd_all (p:=fun x=>0 ≤ x ∧ x < 2) rng (i:=(i : Int)) (by omega) (by omega)
    have hwr : wrap64 (1 - rd own (i : Int)) = 1 - rd own (i : Int):=by unfold wrap64;omega
    have ht:=touch_ev (i : Int) p (by omega) fun u hu=>⟨hs u hu,hfit u hu⟩
    have hne : (1 - rd own (i : Int)) ≠ rd own (i : Int):=by omega
    have hoff2 : (own.set i (1 - rd own (i : Int))).any ownOff = false:=by
     rw [List.any_eq_false]
     intro x hx
     have : 0 ≤ x ∧ x < 2:=by
      rcases List.mem_or_eq_of_mem_set hx with hx | rfl
      ·exact rng x hx
      ·omega
     unfold ownOff
     simp only [Bool.not_eq_true,Bool.or_eq_false_iff,decide_eq_false_iff_not]
     omega
    have hval : wholeV (progB p) p (own.set i (1 - rd own (i : Int))) = !(p.any fun u=>tcD (i : Int) 3 u):=by
     unfold wholeV
     rw [hp,hoff2,decide_eq_true (by simpa using h5),Bool.true_and,Bool.true_and,Bool.not_false,Bool.true_and]
     exact all_not_any p fun u hu=>turned_list h5 (by omega) hne 3 u (-1) (hfit u hu) (hall u hu)
    refine Evs.succ (fun k=>by simp only [laws_FnWholeOk.l0];rfl) (Evs.ite_pos (by omega) (Evs.bind0 rfl (Evs.ite_pos (by simp;omega) (Evs.bind0 rfl (Evs.ite_pos (by omega) (Evs.ite_pos (by simp;omega) ?_))))))
    rw [List.nil_append,Int.toNat_natCast,hwr]
    refine Evs.bind (im _) (Evs.bind ht (Evs.ite_neg (by rw [hval];simp) ?_))
    rw [wrap_succ (by omega)]
    exact ih (i + 1) (by omega)
  exact key 5 0 rfl
end Go.Proofs.Ythgdapgophkklaa.Pure
