/- Parts of the proof of FnCodeEnd: plain Lean functions of Go functions, and that the calls come to what they say; no condition beyond those that each theorem names. -/
import Derived.Test.YtphbdoljkpdflaaZFnCodeEnd21
import Derived.Test.YtphbdoljkpdflaaZFnCodeEnd7
import Derived.Test.YtphbdoljkpdflaaZFnCodeEnd5
import Derived.Test.YtphbdoljkpdflaaZFnCodeEnd14
import Derived.Test.YtphbdoljkpdflaaZFnCodeEnd18
namespace Go.Proofs.Ytphbdoljkpdflaa.P
open Go.RowKit Go.Proofs.YtphbdoljkpdflaaW.PrintWords Go.Proofs.YtphbdoljkpdflaaW.PrintMore
set_option linter.unusedVariables false
set_option linter.unusedSimpArgs false
def SL (d : Nat) (l : List S46) : Prop:=l.length ≤ 1048576 ∧ ∀ x ∈ l,smallS d x
theorem SL.kids {d : Nat} {l : List S46} (h : SL (d + 1) l) {x : S46} (hx : x ∈ l) : SL d x.f4 ∧ SL d x.f5:=h.2 x hx
def dep : Nat → List S46 → Prop
 | 0,l=>l = []
 | d + 1,l=>∀ x ∈ l,dep d x.f4 ∧ dep d x.f5
def cntL : Nat → List S46 → Nat
 | 0,_=>0
 | d + 1,l=>(l.map fun x=>1 + cntL d x.f4 + cntL d x.f5).sum
def flatL : Nat → List S46 → Int → List I5
 | 0,_,_=>[]
 | d + 1,l,rm=>l.flatMap fun x=>(x.f0,x.f1,x.f2,x.f3,rm) :: (flatL d x.f4 (innR x rm) ++ flatL d x.f5 (innR x rm))
theorem flat_len : ∀ (d : Nat) (l : List S46) (rm : Int),(flatL d l rm).length = cntL d l
 | 0,_,_=>rfl
 | d + 1,l,rm=>by
  unfold flatL cntL
  rw [List.length_flatMap]
  congr 1
  refine List.map_congr_left fun x _=>?_
  simp only [List.length_cons,List.length_append,flat_len d]
  omega
theorem all_ev : ∀ (d : Nat) (l : List S46) (rm : Int),dep d l → Ev (fun k=>allK k l rm) (flatL d l rm)
 | 0,l,rm,h=>by
  obtain rfl : l = []:=h
  exact Evs.succ (fun k=>rfl) (Evs.some_ _)
 | d + 1,l,rm,h=>by
  refine Evs.succ (fun k=>rfl) ?_
  show Ev (fun k=>allL (allT (allK k)) rm l) (flatL (d + 1) l rm)
  have h' : ∀ x ∈ l,dep d x.f4 ∧ dep d x.f5:=h
  clear h
  unfold flatL
  induction l with
  | nil=>exact Evs.some_ _
  | cons x t ih =>
   have hx:=h' x (List.mem_cons_self ..)
   rw [List.flatMap_cons]
   exact Evs.bind (Evs.bind (all_ev d x.f4 (innR x rm) hx.1) (Evs.bind (all_ev d x.f5 (innR x rm) hx.2) (Evs.some_ _))) (Evs.bind (ih fun y hy=>h' y (List.mem_cons_of_mem _ hy)) (Evs.some_ _))
theorem okS_kids2 {d : Nat} {t : S46} {rm : Int} (h : okS (d + 1) t rm = true) : ∃ m : Int,(∀ x ∈ t.f4,okS d x m = true) ∧ (∀ x ∈ t.f5,okS d x m = true):=by
 rw [okS_succ] at h
 by_cases h6 : t.f0 = 6
 ·rw [if_pos h6] at h
  simp only [Bool.and_eq_true,List.all_eq_true] at h
  exact ⟨rm,h.2.2.2.1,h.2.2.2.2⟩
 rw [if_neg h6] at h
 by_cases h5 : t.f5.length = 0
 ·have n5:=List.eq_nil_of_length_eq_zero h5
  rw [if_pos h5] at h
  rw [n5]
  by_cases h7 : t.f0 = 7
  ·rw [if_pos h7] at h
   simp only [Bool.and_eq_true,List.all_eq_true] at h
   exact ⟨rm,h.2.2.2,fun _ h=>by cases h⟩
  rw [if_neg h7] at h
  by_cases h8 : t.f0 = 8
  ·rw [if_pos h8] at h
   simp only [Bool.and_eq_true,List.all_eq_true,decide_eq_true_eq] at h
   exact ⟨t.f1,h.2.2.2.2,fun _ h=>by cases h⟩
  rw [if_neg h8] at h
  simp only [Bool.and_eq_true,decide_eq_true_eq] at h
  rw [List.eq_nil_of_length_eq_zero h.1]
  exact ⟨rm,(fun _ h=>by cases h),(fun _ h=>by cases h)⟩
 ·rw [if_neg h5] at h
  cases h
theorem dep_of : ∀ (d : Nat) (l : List S46) (rm : Int),(∀ x ∈ l,okS d x rm = true) → dep d l
 | 0,[],_,_=>rfl
 | 0,x :: t,rm,h=>by cases h x (List.mem_cons_self ..)
 | d + 1,l,rm,h=>fun x hx=>by
  obtain ⟨m,h4,h5⟩:=okS_kids2 (h x hx)
  exact ⟨dep_of d x.f4 m h4,dep_of d x.f5 m h5⟩
theorem wrap_l (a b : Int) : wrap64 (wrap64 a + b) = wrap64 (a + b):=by unfold wrap64;omega
theorem wrap_r (a b : Int) : wrap64 (a + wrap64 b) = wrap64 (a + b):=by unfold wrap64;omega
theorem many_loop (d : Nat) (l : List S46) (hl : l.length ≤ 1048576) (hd : d ≤ 1000) (h : ∀ x ∈ l,Ev (fun k=>spec_l2Many.f k x.f4 (d : Int)) (wrap64 (cntL d x.f4)) ∧ Ev (fun k=>spec_l2Many.f k x.f5 (d : Int)) (wrap64 (cntL d x.f5))) (e : Nat) : ∀ (i n : Nat),i + e = l.length →
  Ev (fun k=>spec_l2Many.l0 k l ((d + 1 : Nat) : Int) (wrap64 (n : Int)) (i : Int)) (wrap64 ((n + ((l.drop i).map fun x=>1 + cntL d x.f4 + cntL d x.f5).sum : Nat) : Int)):=by
 have ew : wrap64 (((d + 1 : Nat) : Int) - 1) = (d : Int):=by rw [wrap_id (by omega) (by omega)];omega
 induction e with
 | zero =>
  intro i n hi
  rw [List.drop_of_length_le (by omega)]
  refine Evs.succ (fun k=>by simp only [spec_l2Many.l0];rfl) ?_
  refine Evs.ite_neg (by omega) (Evs.succ (fun k=>by simp only [spec_l2Many.j1];rfl) (Evs.ite_neg (by simp) ?_))
  simpa using Evs.some_ _
 | succ e ih =>
  intro i n hi
  have hlt : i < l.length:=by omega
  obtain ⟨h4,h5⟩:=h _ (rd_mem hlt)
  rw [drop_rd l hlt]
  rw [List.map_cons,List.sum_cons]
  refine Evs.succ (fun k=>by simp only [spec_l2Many.l0];rfl) ?_
  refine Evs.ite_pos (by omega) ?_
  rw [decide_eq_true (show ((d + 1 : Nat) : Int) > 0 by omega)]
  refine Evs.succ (fun k=>by simp only [spec_l2Many.j1,ew];rfl) ?_
  refine Evs.ite_pos (by trivial) (Evs.ite_pos (by omega) (Evs.ite_pos (by omega) (Evs.bind h4 (Evs.bind h5 ?_))))
  rw [wrap_succ (by omega)]
  have q:=ih (i + 1) (n + (1 + cntL d (rd_T46 l (i : Int)).f4 + cntL d (rd_T46 l (i : Int)).f5)) (by omega)
  have e1 : wrap64 (wrap64 (wrap64 (wrap64 (n : Int) + 1) + wrap64 (cntL d (rd_T46 l (i : Int)).f4)) + wrap64 (cntL d (rd_T46 l (i : Int)).f5)) = wrap64 ((n + (1 + cntL d (rd_T46 l (i : Int)).f4 + cntL d (rd_T46 l (i : Int)).f5) : Nat) : Int):=by
   generalize cntL d (rd_T46 l (i : Int)).f4 = a
   generalize cntL d (rd_T46 l (i : Int)).f5 = b
   have s1 : wrap64 (wrap64 (n : Int) + 1) = wrap64 ((n : Int) + 1):=wrap_l _ _
   have s2 : wrap64 (wrap64 ((n : Int) + 1) + wrap64 (a : Int)) = wrap64 ((n : Int) + 1 + a):=(wrap_l _ _).trans (wrap_r _ _)
   have s3 : wrap64 (wrap64 ((n : Int) + 1 + a) + wrap64 (b : Int)) = wrap64 ((n : Int) + 1 + a + b):=(wrap_l _ _).trans (wrap_r _ _)
   rw [s1,s2,s3]
   congr 1
   push_cast
   omega
  rw [e1,show n + (1 + cntL d (rd_T46 l (i : Int)).f4 + cntL d (rd_T46 l (i : Int)).f5 + (List.map (fun x=>1 + cntL d x.f4 + cntL d x.f5) (List.drop (i + 1) l)).sum) = n + (1 + cntL d (rd_T46 l (i : Int)).f4 + cntL d (rd_T46 l (i : Int)).f5) + (List.map (fun x=>1 + cntL d x.f4 + cntL d x.f5) (List.drop (i + 1) l)).sum by omega]
  exact q
theorem many_ev : ∀ (d : Nat),d ≤ 1000 → ∀ l,SL d l → Ev (fun k=>spec_l2Many.f k l (d : Int)) (wrap64 (cntL d l))
 | 0,_,l,h=>by
  refine Evs.succ (fun k=>by simp only [spec_l2Many.f];rfl) (Evs.succ (fun k=>by simp only [spec_l2Many.l0];rfl) ?_)
  have e : wrap64 ((cntL 0 l : Nat) : Int) = 0:=by simp [cntL,wrap64]
  rw [e]
  have j : Ev (fun k=>spec_l2Many.j1 k l ((0 : Nat) : Int) 0 0 false) 0:=Evs.succ (fun k=>by simp only [spec_l2Many.j1];rfl) (Evs.ite_neg (by simp) (Evs.some_ _))
  by_cases c : (0 : Int) < (l.length : Int)
  ·exact Evs.ite_pos c j
  ·exact Evs.ite_neg c j
 | d + 1,hd,l,h=>by
  refine Evs.succ (fun k=>by simp only [spec_l2Many.f];rfl) ?_
  have q:=many_loop d l h.1 (by omega) (fun x hx=>⟨many_ev d (by omega) x.f4 (h.kids hx).1,many_ev d (by omega) x.f5 (h.kids hx).2⟩) l.length 0 0 (by omega)
  have e : wrap64 ((0 : Nat) : Int) = 0:=by simp [wrap64]
  rw [e] at q
  simpa [cntL] using q
def okList (l : List S46) : Bool:=l.all fun x=>okS 3 x (-1)
def okLst (l : List S46) : Bool:=okList l && decide (wrap64 (cntL 3 l) ≤ 14)
def manyV (l : List S46) : Int:=if okLst l = true then wrap64 (cntL 3 l) else 0
theorem dep3 {l : List S46} (h : okList l = true) : dep 3 l:=dep_of 3 l (-1) (by unfold okList at h;rwa [List.all_eq_true] at h)
theorem specList3 {l : List S46} (h : SL 3 l) : Ev (fun k=>spec_l2List.f k l 3 (-1)) (okList l):=by
 have e:=specList_of 3 (by omega) (specStmt_ev 3 (by omega)) l (-1) (by omega) h.1 h.2
 rwa [show ((3 : Nat) : Int) = 3 from rfl] at e
theorem many3 {l : List S46} (h : SL 3 l) : Ev (fun k=>spec_l2Many.f k l 3) (wrap64 (cntL 3 l)):=by
 have e:=many_ev 3 (by omega) l h
 rwa [show ((3 : Nat) : Int) = 3 from rfl] at e
theorem specOk {l : List S46} (h : SL 3 l) : Ev (fun k=>spec_StmtsOk.f k l) (okLst l):=by
 unfold spec_StmtsOk.f okLst
 exact Evs.bind (specList3 h) (ev_band fun _=>Evs.bind (many3 h) (Evs.some_ _))
theorem implList3 (l : List S46) : Ev (fun k=>impl_listOk.f k l 3 (-1)) (okList l):=by
 refine implList_of 3 (-1) stmtOkS 3 l fun x _=>?_
 have e:=implStmt_ev 3 (by omega) x (-1) (by omega)
 rwa [show ((3 : Nat) : Int) = 3 from rfl] at e
theorem implOk (l : List S46) : Ev (fun k=>impl_StmtsOk.f k l) (okLst l):=by
 unfold impl_StmtsOk.f okLst
 refine Evs.bind (implList3 l) (ev_band fun h=>?_)
 refine Evs.bind (all_ev 3 l (-1) (dep3 h)) ?_
 rw [flat_len]
 exact Evs.some_ _
theorem okLst_list {l : List S46} (h : okLst l = true) : okList l = true:=by
 unfold okLst at h
 rw [Bool.and_eq_true] at h
 exact h.1
end Go.Proofs.Ytphbdoljkpdflaa.P

namespace Go.Proofs.Ytphbdoljkpdflaa.P
set_option linter.unusedVariables false
set_option linter.unusedSimpArgs false
def LeafI (i : S42) (rm : Int) : Prop :=
 (i.f0 = 1 ∧ 0 ≤ i.f1 ∧ i.f1 < 3 ∧ i.f2 = 0 ∧ -999 ≤ i.f3 ∧ i.f3 ≤ 999) ∨ (i.f0 = 2 ∧ 0 ≤ i.f1 ∧ i.f1 < 3 ∧ 0 ≤ i.f2 ∧ i.f2 < 3 ∧ 1 ≤ i.f3 ∧ i.f3 ≤ 5) ∨
 ((i.f0 = 3 ∨ i.f0 = 4) ∧ 0 ≤ i.f1 ∧ i.f1 < 3 ∧ 0 ≤ i.f2 ∧ i.f2 < 3 ∧ i.f3 = 0) ∨ (i.f0 = 5 ∧ 0 ≤ i.f1 ∧ i.f1 < 3 ∧ i.f2 = 0 ∧ i.f3 = 0) ∨
 (i.f0 = 10 ∧ 0 ≤ rm ∧ 0 ≤ i.f1 ∧ i.f1 < 2 ∧ i.f2 = 0 ∧ i.f3 = 0) ∨ (i.f0 = 11 ∧ 0 ≤ i.f1 ∧ i.f1 < 2 ∧ i.f2 = 0 ∧ i.f3 = 0) ∨ (i.f0 = 12 ∧ i.f1 = 0 ∧ i.f2 = 0 ∧ i.f3 = 0)
inductive Blk (c : List S42) : Int → Nat → Nat → Prop
 | nil (rm : Int) (p : Nat) : Blk c rm p p
 | app {rm : Int} {p q r : Nat} : Blk c rm p q → Blk c rm q r → Blk c rm p r
 | leaf {rm : Int} {p : Nat} {i : S42} : c[p]? = some i → LeafI i rm → Blk c rm p (p + 1)
 | cond {rm a : Int} {p q r : Nat} : c[p]? = some ⟨6,a,0,((q + 1 : Nat) : Int)⟩ → 0 ≤ a → a < 3 → Blk c rm (p + 1) q → c[q]? = some ⟨7,0,0,(r : Int)⟩ → Blk c rm (q + 1) r → Blk c rm p r
 | loop {rm a : Int} {p q : Nat} : c[p]? = some ⟨6,a,0,((q + 1 : Nat) : Int)⟩ → 0 ≤ a → a < 3 → Blk c rm (p + 1) q → c[q]? = some ⟨7,0,0,(p : Int)⟩ → Blk c rm p (q + 1)
 | room {a : Int} {p q : Nat} : c[p]? = some ⟨8,a,0,0⟩ → 0 ≤ a → a < 2 → Blk c a (p + 1) q → c[q]? = some ⟨9,a,0,0⟩ → Blk c (-1) p (q + 1)
theorem Blk.le {c : List S42} {rm : Int} {p q : Nat} (h : Blk c rm p q) : p ≤ q:=by
 induction h <;> omega
def labI (c : List S42) : Nat → Int
 | 0=>-1
 | j + 1=>match c[j]? with
  | none=>labI c j
  | some i=>if i.f0 = 8 then i.f1 else if i.f0 = 9 then -1 else labI c j
theorem lab_step {c : List S42} {j : Nat} {i : S42} (h : c[j]? = some i) : labI c (j + 1) = if i.f0 = 8 then i.f1 else if i.f0 = 9 then -1 else labI c j:=by
 rw [labI,h]
def movI (i : S42) (rm : Int) : Int × Bool :=
 if i.f0 = 8 then (i.f1,decide (rm = -1)) else if i.f0 = 9 then (-1,decide (rm = i.f1)) else if i.f0 = 10 then (rm,decide (rm ≠ -1)) else if i.f0 = 13 then (rm,decide (rm = -1)) else (rm,true)
def sucI (i : S42) (j : Nat) : List Int :=
 if i.f0 = 13 then [] else if i.f0 = 7 then [i.f3] else if i.f0 = 6 then [((j + 1 : Nat) : Int),i.f3] else [((j + 1 : Nat) : Int)]
def FitI (c : List S42) (p q j : Nat) : Prop:=∃ i,c[j]? = some i ∧ (movI i (labI c j)).2 = true ∧ ∀ t ∈ sucI i j,∃ n : Nat,t = (n : Int) ∧ p ≤ n ∧ n ≤ q ∧ labI c n = (movI i (labI c j)).1
theorem FitI.mono {c : List S42} {p q p' q' j : Nat} (h : FitI c p q j) (hp : p' ≤ p) (hq : q ≤ q') : FitI c p' q' j:=by
 obtain ⟨i,h1,h2,h3⟩:=h
 exact ⟨i,h1,h2,fun t ht=>by obtain ⟨n,e,a,b,l⟩:=h3 t ht;exact ⟨n,e,by omega,by omega,l⟩⟩
theorem Blk.fit {c : List S42} {rm : Int} {p q : Nat} (h : Blk c rm p q) : labI c p = rm → labI c q = rm ∧ ∀ j,p ≤ j → j < q → FitI c p q j:=by
 induction h with
 | nil=>exact fun h=>⟨h,fun j _ _=>by omega⟩
 | @app rm p q r h1 h2 ih1 ih2 =>
  intro h
  have:=h1.le
  have:=h2.le
  obtain ⟨e1,f1⟩:=ih1 h
  obtain ⟨e2,f2⟩:=ih2 e1
  refine ⟨e2,fun j a b=>?_⟩
  rcases Nat.lt_or_ge j q with hj | hj
  ·exact (f1 j a hj).mono (by omega) (by omega)
  ·exact (f2 j hj b).mono (by omega) (by omega)
 | @leaf rm p i hc hl =>
  intro h
  have e:=lab_step hc
  have n8 : ¬ i.f0 = 8:=by unfold LeafI at hl;omega
  have n9 : ¬ i.f0 = 9:=by unfold LeafI at hl;omega
  have n13 : ¬ i.f0 = 13:=by unfold LeafI at hl;omega
  have n6 : ¬ i.f0 = 6:=by unfold LeafI at hl;omega
  have n7 : ¬ i.f0 = 7:=by unfold LeafI at hl;omega
  rw [if_neg n8,if_neg n9,h] at e
  refine ⟨e,fun j a b=>?_⟩
  obtain rfl : j = p:=by omega
  have hm : movI i (labI c j) = (rm,true):=by
   unfold movI
   rw [if_neg n8,if_neg n9,if_neg n13,h]
   by_cases n10 : i.f0 = 10
   ·rw [if_pos n10]
    have : rm ≠ -1:=by unfold LeafI at hl;omega
    rw [decide_eq_true this]
   ·rw [if_neg n10]
  refine ⟨i,hc,by rw [hm],fun t ht=>?_⟩
  unfold sucI at ht
  rw [if_neg n13,if_neg n7,if_neg n6] at ht
  obtain rfl:=List.mem_singleton.1 ht
  exact ⟨j + 1,rfl,by omega,by omega,by rw [hm,e]⟩
 | @cond rm a p q r hc ha hb h1 hd h2 ih1 ih2 =>
  intro h
  have l1:=h1.le
  have l2:=h2.le
  have e1 : labI c (p + 1) = rm:=(lab_step hc).trans (by simpa using h)
  obtain ⟨e2,f2⟩:=ih1 e1
  have e3 : labI c (q + 1) = rm:=(lab_step hd).trans (by simpa using e2)
  obtain ⟨e4,f4⟩:=ih2 e3
  refine ⟨e4,fun j a b=>?_⟩
  rcases Nat.lt_trichotomy j q with hj | rfl | hj
  ·by_cases hp : j = p
   ·subst hp
    refine ⟨_,hc,by simp [movI],fun t ht=>?_⟩
    have hm : movI ⟨6,‹Int›,0,((q + 1 : Nat) : Int)⟩ (labI c j) = (rm,true):=by simp [movI,h]
    simp only [sucI] at ht
    simp at ht
    rcases ht with rfl | rfl
    ·exact ⟨j + 1,by simp,by omega,by omega,by simp [movI,h,e1]⟩
    ·exact ⟨q + 1,by simp,by omega,by omega,by simp [movI,h,e3]⟩
   ·exact (f2 j (by omega) hj).mono (by omega) (by omega)
  ·refine ⟨_,hd,by simp [movI],fun t ht=>?_⟩
   simp [sucI] at ht
   subst ht
   exact ⟨r,rfl,by omega,by omega,by simp [movI,e2,e4]⟩
  ·exact (f4 j (by omega) b).mono (by omega) (by omega)
 | @loop rm a p q hc ha hb h1 hd ih1 =>
  intro h
  have l1:=h1.le
  have e1 : labI c (p + 1) = rm:=(lab_step hc).trans (by simpa using h)
  obtain ⟨e2,f2⟩:=ih1 e1
  have e3 : labI c (q + 1) = rm:=(lab_step hd).trans (by simpa using e2)
  refine ⟨e3,fun j a b=>?_⟩
  rcases Nat.lt_trichotomy j q with hj | rfl | hj
  ·by_cases hp : j = p
   ·subst hp
    refine ⟨_,hc,by simp [movI],fun t ht=>?_⟩
    simp [sucI] at ht
    rcases ht with rfl | rfl
    ·exact ⟨j + 1,by simp,by omega,by omega,by simp [movI,h,e1]⟩
    ·exact ⟨q + 1,by simp,by omega,by omega,by simp [movI,h,e3]⟩
   ·exact (f2 j (by omega) hj).mono (by omega) (by omega)
  ·refine ⟨_,hd,by simp [movI],fun t ht=>?_⟩
   simp [sucI] at ht
   subst ht
   exact ⟨p,rfl,by omega,by omega,by simp [movI,e2,h]⟩
  ·omega
 | @room a p q hc ha hb h1 hd ih1 =>
  intro h
  have l1:=h1.le
  have e1 : labI c (p + 1) = a:=(lab_step hc).trans (by simp)
  obtain ⟨e2,f2⟩:=ih1 e1
  have e3 : labI c (q + 1) = -1:=(lab_step hd).trans (by simp)
  refine ⟨e3,fun j a b=>?_⟩
  rcases Nat.lt_trichotomy j q with hj | rfl | hj
  ·by_cases hp : j = p
   ·subst hp
    refine ⟨_,hc,by simp [movI,h],fun t ht=>?_⟩
    simp [sucI] at ht
    subst ht
    exact ⟨j + 1,by simp,by omega,by omega,by simp [movI,e1]⟩
   ·exact (f2 j (by omega) hj).mono (by omega) (by omega)
  ·refine ⟨_,hd,by simp [movI,e2],fun t ht=>?_⟩
   simp [sucI] at ht
   subst ht
   exact ⟨j + 1,by simp,by omega,by omega,by simp [movI,e3]⟩
  ·omega
def InsI (i : S42) (n : Nat) : Prop :=
 LeafI i 0 ∨ (i.f0 = 6 ∧ 0 ≤ i.f1 ∧ i.f1 < 3 ∧ i.f2 = 0 ∧ 0 ≤ i.f3 ∧ i.f3 < n) ∨ (i.f0 = 7 ∧ i.f1 = 0 ∧ i.f2 = 0 ∧ 0 ≤ i.f3 ∧ i.f3 < n) ∨
 ((i.f0 = 8 ∨ i.f0 = 9) ∧ 0 ≤ i.f1 ∧ i.f1 < 2 ∧ i.f2 = 0 ∧ i.f3 = 0) ∨ (i.f0 = 13 ∧ i.f1 = 0 ∧ i.f2 = 0 ∧ i.f3 = 0)
def JmpI (c : List S42) (p q j : Nat) : Prop:=∃ i,c[j]? = some i ∧ (i.f0 = 6 → ∃ t : Nat,i.f3 = (t : Int) ∧ j < t ∧ t ≤ q ∧ ∃ i',c[t - 1]? = some i' ∧ i'.f0 = 7) ∧
 (i.f0 = 7 → ∃ t : Nat,i.f3 = (t : Int) ∧ p ≤ t ∧ ((j < t ∧ t ≤ q) ∨ (t < j ∧ ∃ i',c[t]? = some i' ∧ i'.f0 = 6)))
theorem JmpI.mono {c : List S42} {p q p' q' j : Nat} (h : JmpI c p q j) (hp : p' ≤ p) (hq : q ≤ q') : JmpI c p' q' j:=by
 obtain ⟨i,h1,h2,h3⟩:=h
 refine ⟨i,h1,fun e=>?_,fun e=>?_⟩
 ·obtain ⟨t,a,b,c,d⟩:=h2 e
  exact ⟨t,a,b,by omega,d⟩
 ·obtain ⟨t,a,b,c⟩:=h3 e
  exact ⟨t,a,by omega,c.imp (fun c=>⟨c.1,by omega⟩) id⟩
def balI (c : List S42) (p : Nat) : Nat → Int
 | 0=>0
 | n + 1=>balI c p n + match c[p + n]? with
  | none=>0
  | some i=>if i.f0 = 6 then 1 else if i.f0 = 7 then -1 else 0
def scanI (c : List S42) (m : Int) (p : Nat) (s : Bool) : Nat → Option Bool
 | 0=>some s
 | n + 1=>(scanI c m p s n).bind fun b=>match c[p + n]? with
  | none=>none
  | some i=>if i.f1 = m then if i.f0 = 8 then if b = true then none else some true else if i.f0 = 9 then if b = true then some false else none else some b else some b
def seqC (f : S46 → Nat → List S42) : List S46 → Nat → List S42
 | [],_=>[]
 | x :: t,p=>f x p ++ seqC f t (p + (f x p).length)
def leafC (s : S46) : S42:=if s.f0 = 9 then ⟨10,s.f1,0,0⟩ else if s.f0 = 10 then ⟨11,s.f1,0,0⟩ else if s.f0 = 1 ∨ s.f0 = 2 ∨ s.f0 = 3 ∨ s.f0 = 4 ∨ s.f0 = 5 then ⟨s.f0,s.f1,s.f2,s.f3⟩ else ⟨12,0,0,0⟩
def oneC (g : List S46 → Nat → List S42) (s : S46) (p : Nat) : List S42 :=
 if s.f0 = 6 then ⟨6,s.f1,0,((p + 2 + (g s.f4 (p + 1)).length : Nat) : Int)⟩ :: (g s.f4 (p + 1) ++ ⟨7,0,0,((p + 2 + (g s.f4 (p + 1)).length + (g s.f5 (p + 2 + (g s.f4 (p + 1)).length)).length : Nat) : Int)⟩ :: g s.f5 (p + 2 + (g s.f4 (p + 1)).length))
 else if s.f0 = 7 then ⟨6,s.f1,0,((p + 2 + (g s.f4 (p + 1)).length : Nat) : Int)⟩ :: (g s.f4 (p + 1) ++ [⟨7,0,0,(p : Int)⟩])
 else if s.f0 = 8 then ⟨8,s.f1,0,0⟩ :: (g s.f4 (p + 1) ++ [⟨9,s.f1,0,0⟩])
 else [leafC s]
def codL : Nat → List S46 → Nat → List S42
 | 0=>fun _ _=>[]
 | d + 1=>seqC (oneC (codL d))
def Emb (c : List S42) (p : Nat) (s : List S42) : Prop:=∃ a b,c = a ++ (s ++ b) ∧ a.length = p
theorem Emb.app {c : List S42} {p : Nat} {s t : List S42} (h : Emb c p (s ++ t)) : Emb c p s ∧ Emb c (p + s.length) t:=by
 obtain ⟨a,b,e,l⟩:=h
 exact ⟨⟨a,t ++ b,by rw [e,List.append_assoc],l⟩,⟨a ++ s,b,by rw [e];simp,by simp [l]⟩⟩
theorem Emb.cons {c : List S42} {p : Nat} {i : S42} {t : List S42} (h : Emb c p (i :: t)) : c[p]? = some i ∧ Emb c (p + 1) t:=by
 obtain ⟨a,b,e,l⟩:=h
 refine ⟨?_,a ++ [i],b,by rw [e];simp,by simp [l]⟩
 rw [e,List.getElem?_append_right (by omega),l]
 simp
theorem Emb.all (c : List S42) : Emb c 0 c:=⟨[],[],by simp,rfl⟩
def codF (l : List S46) : List S42:=codL 3 l 0 ++ [⟨13,0,0,0⟩]
theorem codF_len (l : List S46) : (codF l).length = (codL 3 l 0).length + 1:=by simp [codF]
def shfI (n : Nat) (i : S42) : S42:=if i.f0 = 6 ∨ i.f0 = 7 then ⟨i.f0,i.f1,i.f2,i.f3 + n⟩ else i
end Go.Proofs.Ytphbdoljkpdflaa.P

namespace Go.Proofs.Ytphbdoljkpdflaa.P
open Go.RowKit Go.Proofs.YtphbdoljkpdflaaW.PrintWords Go.Proofs.YtphbdoljkpdflaaW.PrintMore
set_option linter.unusedVariables false
set_option linter.unusedSimpArgs false
theorem smL_sl {l : List S46} (h : SmL l) (d : Nat) : SL d l:=⟨by have:=h.1;omega,fun t ht=>h.2 t ht d⟩
theorem cnt_bound {d B : Nat} : ∀ l : List S46,(∀ x ∈ l,cntL d x.f4 ≤ B ∧ cntL d x.f5 ≤ B) → cntL (d + 1) l ≤ l.length * (1 + 2 * B)
 | [],_=>by simp [cntL]
 | x :: t,h=>by
  have hx:=h x (List.mem_cons_self ..)
  have ht:=cnt_bound t fun y hy=>h y (List.mem_cons_of_mem _ hy)
  have e : cntL (d + 1) (x :: t) = (1 + cntL d x.f4 + cntL d x.f5) + cntL (d + 1) t:=by
   show (List.map _ (x :: t)).sum = _
   rw [List.map_cons,List.sum_cons]
   rfl
  rw [e,List.length_cons,Nat.succ_mul]
  omega
theorem cnt1 {l : List S46} (h : l.length ≤ 1048576) : cntL 1 l ≤ 1048576:=by
 have:=cnt_bound (d:=0) (B:=0) l fun x _=>⟨Nat.le_refl _,Nat.le_refl _⟩
 change cntL 1 l ≤ _ at this
 omega
theorem cnt2 {l : List S46} (h : SL 1 l) : cntL 2 l ≤ 2199024304128:=by
 have:=cnt_bound (d:=1) (B:=1048576) l fun x hx=>⟨cnt1 (h.kids hx).1.1,cnt1 (h.kids hx).2.1⟩
 change cntL 2 l ≤ _ at this
 have h1:=h.1
 have : l.length * (1 + 2 * 1048576) ≤ 1048576 * (1 + 2 * 1048576):=Nat.mul_le_mul_right _ h1
 omega
theorem cnt3 {l : List S46} (h : SL 2 l) (hl : l.length ≤ 1000) : cntL 3 l ≤ 5000000000000000:=by
 have:=cnt_bound (d:=2) (B:=2199024304128) l fun x hx=>⟨cnt2 (h.kids hx).1,cnt2 (h.kids hx).2⟩
 change cntL 3 l ≤ _ at this
 have : l.length * (1 + 2 * 2199024304128) ≤ 1000 * (1 + 2 * 2199024304128):=Nat.mul_le_mul_right _ hl
 omega
theorem some_loop {xs : List Int} (hb : Buf xs) (n : Nat) : ∀ (out : List S46) (p : Int),out.length + n ≤ 6 → (∀ t ∈ out,Sm t) → okLst out = true → 0 ≤ p → p + (n : Int) * 100000 ≤ 1000000000 →
  ∃ (l : List S46) (p' : Int),l.length ≤ 6 ∧ (∀ t ∈ l,Sm t) ∧ okLst l = true ∧ p ≤ p' ∧ p' ≤ p + (n : Int) * 100000 ∧ Ev (fun k=>spec_l2Some.l0 k out (n : Int) xs p) (l,p'):=by
 induction n with
 | zero =>
  intro out p hn ho hk h0 h1
  refine ⟨out,p,by omega,ho,hk,by omega,by omega,?_⟩
  refine Evs.succ (fun k=>by simp only [spec_l2Some.l0];rfl) ?_
  exact Evs.ite_neg (by omega) (Evs.some_ _)
 | succ n ih =>
  intro out p hn ho hk h0 h1
  have c3 : cst 3 = 100000:=by unfold cst;simp
  obtain ⟨t,q,ht,q0,q1,he⟩:=drawn_all hb 3 (by omega) (by omega) (-1) p h0 (by omega)
  have ew : wrap64 (((n + 1 : Nat) : Int) - 1) = (n : Int):=by rw [wrap_id (by omega) (by omega)];omega
  have hs : ∀ u ∈ out ++ [t],Sm u:=fun u hu=>by
   rcases List.mem_append.1 hu with hu | hu
   ·exact ho u hu
   ·rw [List.mem_singleton.1 hu]
    exact ht
  have ok:=specOk (l:=out ++ [t]) ⟨by simp;omega,fun u hu=>hs u hu 3⟩
  obtain ⟨b0,b1,b2,b3,b4,b5⟩:=t
  have hgo : ∀ r,Ev (fun k=>if okLst (out ++ [⟨b0,b1,b2,b3,b4,b5⟩]) = true then spec_l2Some.l0 k (out ++ [⟨b0,b1,b2,b3,b4,b5⟩]) (n : Int) xs q else spec_l2Some.l0 k out (n : Int) xs q) r → Ev (fun k=>spec_l2Some.l0 k out ((n + 1 : Nat) : Int) xs p) r:=by
   intro r hr
   refine Evs.succ (fun k=>by simp only [spec_l2Some.l0,ew];rfl) ?_
   refine Evs.ite_pos (by omega) (Evs.bind0 rfl (Evs.ite_pos (by simp only [List.length_nil];omega) (Evs.bind0 rfl (Evs.bind he (Evs.ite_pos (by simp only [List.nil_append];omega) (Evs.bind0 rfl ?_))))))
   exact Evs.bind ok hr
  cases c : okLst (out ++ [⟨b0,b1,b2,b3,b4,b5⟩]) with
  | true =>
   obtain ⟨l,p',a1,a2,a3,a4,a5,a6⟩:=ih (out ++ [⟨b0,b1,b2,b3,b4,b5⟩]) q (by simp;omega) hs c (by omega) (by omega)
   exact ⟨l,p',a1,a2,a3,by omega,by omega,hgo _ (Evs.ite_pos c a6)⟩
  | false =>
   obtain ⟨l,p',a1,a2,a3,a4,a5,a6⟩:=ih out q (by omega) ho hk (by omega) (by omega)
   exact ⟨l,p',a1,a2,a3,by omega,by omega,hgo _ (Evs.ite_neg (by rw [c];simp) a6)⟩
theorem okLst_nil : okLst [] = true:=by simp [okLst,okList,cntL,wrap64]
theorem some_ev {xs : List Int} (hb : Buf xs) (p : Int) (p0 : 0 ≤ p) (p1 : p ≤ 900000000) : ∃ (l : List S46) (p' : Int),l.length ≤ 6 ∧ (∀ t ∈ l,Sm t) ∧ okLst l = true ∧ p ≤ p' ∧ p' ≤ p + 700000 ∧ Ev (fun k=>spec_l2Some.f k xs p) (l,p'):=by
 obtain ⟨v,hm,hv⟩:=num_ev (l:=[3,4,5,6,2,0]) hb p0 (by omega) (by simp) (by simp)
 have hv6 : 0 ≤ v ∧ v ≤ 6:=by simp at hm;omega
 obtain ⟨n,rfl⟩:=Int.eq_ofNat_of_zero_le hv6.1
 obtain ⟨l,p',a1,a2,a3,a4,a5,a6⟩:=some_loop hb n [] (p + 1) (by simp;omega) (fun _ h=>by cases h) okLst_nil (by omega) (by omega)
 exact ⟨l,p',a1,a2,a3,by omega,by omega,Evs.bind hv a6⟩
end Go.Proofs.Ytphbdoljkpdflaa.P
