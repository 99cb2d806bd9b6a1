/- Parts of the proof of FnExactMeanOpen: plain Lean functions of Go functions, and that the calls come to what they say; no condition beyond those that each theorem names. -/
import Derived.Test.YtdjkmnkgaacmfaaZFnExactMeanOpen9
import Derived.Test.YtdjkmnkgaacmfaaZFnExactMeanOpen11
import Derived.Test.YtdjkmnkgaacmfaaZFnExactMeanOpen10
import Derived.Test.YtdjkmnkgaacmfaaZFnExactMeanOpen13
import Derived.Test.YtdjkmnkgaacmfaaZFnExactMeanOpen6
import Derived.Test.YtdjkmnkgaacmfaaZFnExactMeanOpen14
import Derived.Test.YtdjkmnkgaacmfaaZFnExactMeanOpen15
namespace Go.Proofs.Ytdjkmnkgaacmfaa.P
open Go.RowKit Go.Proofs.YtdjkmnkgaacmfaaW.PrintWords Go.Proofs.YtdjkmnkgaacmfaaW.PrintMore
set_option linter.unusedVariables false
set_option linter.unusedSimpArgs false
def SL (d : Nat) (l : List S61) : Prop:=l.length ≤ 1048576 ∧ ∀ x ∈ l,smallS d x
theorem SL.kids {d : Nat} {l : List S61} (h : SL (d + 1) l) {x : S61} (hx : x ∈ l) : SL d x.f4 ∧ SL d x.f5:=h.2 x hx
def dep : Nat → List S61 → Prop
  | 0,l=>l = []
  | d + 1,l=>∀ x ∈ l,dep d x.f4 ∧ dep d x.f5
def cntL : Nat → List S61 → Nat
  | 0,_=>0
  | d + 1,l=>(l.map fun x=>1 + cntL d x.f4 + cntL d x.f5).sum
def flatL : Nat → List S61 → Int → List I5
  | 0,_,_=>[]
  | d + 1,l,rm=>l.flatMap fun x=>(x.f0,x.f1,x.f2,x.f3,rm) :: (flatL d x.f4 (innR x rm) ++ flatL d x.f5 (innR x rm))
theorem flat_len : ∀ (d : Nat) (l : List S61) (rm : Int),(flatL d l rm).length = cntL d l
  | 0,_,_=>rfl
  | d + 1,l,rm=>by
    unfold flatL cntL
    rw [List.length_flatMap]
    congr 1
    refine List.map_congr_left fun x _=>?_
    simp only [List.length_cons,List.length_append,flat_len d]
    omega
theorem all_ev : ∀ (d : Nat) (l : List S61) (rm : Int),dep d l → Ev (fun k=>allK k l rm) (flatL d l rm)
  | 0,l,rm,h=>by
    obtain rfl : l = []:=h
    exact Evs.succ (fun k=>rfl) (Evs.some_ _)
  | d + 1,l,rm,h=>by
    refine Evs.succ (fun k=>rfl) ?_
    show Ev (fun k=>allL (allT (allK k)) rm l) (flatL (d + 1) l rm)
    have h' : ∀ x ∈ l,dep d x.f4 ∧ dep d x.f5:=h
    clear h
    unfold flatL
    induction l with
    | nil=>exact Evs.some_ _
    | cons x t ih =>
      have hx:=h' x (List.mem_cons_self ..)
      rw [List.flatMap_cons]
      exact Evs.bind (Evs.bind (all_ev d x.f4 (innR x rm) hx.1) (Evs.bind (all_ev d x.f5 (innR x rm) hx.2) (Evs.some_ _))) (Evs.bind (ih fun y hy=>h' y (List.mem_cons_of_mem _ hy)) (Evs.some_ _))
theorem okS_kids2 {d : Nat} {t : S61} {rm : Int} (h : okS (d + 1) t rm = true) : ∃ m : Int,(∀ x ∈ t.f4,okS d x m = true) ∧ (∀ x ∈ t.f5,okS d x m = true):=by
  rw [okS_succ] at h
  by_cases h6 : t.f0 = 6
  · rw [if_pos h6] at h
    simp only [Bool.and_eq_true,List.all_eq_true] at h
    exact ⟨rm,h.2.2.2.1,h.2.2.2.2⟩
  rw [if_neg h6] at h
  by_cases h5 : t.f5.length = 0
  · have n5:=List.eq_nil_of_length_eq_zero h5
    rw [if_pos h5] at h
    rw [n5]
    by_cases h7 : t.f0 = 7
    · rw [if_pos h7] at h
      simp only [Bool.and_eq_true,List.all_eq_true] at h
      exact ⟨rm,h.2.2.2,fun _ h=>by cases h⟩
    rw [if_neg h7] at h
    by_cases h8 : t.f0 = 8
    · rw [if_pos h8] at h
      simp only [Bool.and_eq_true,List.all_eq_true,decide_eq_true_eq] at h
      exact ⟨t.f1,h.2.2.2.2,fun _ h=>by cases h⟩
    rw [if_neg h8] at h
    simp only [Bool.and_eq_true,decide_eq_true_eq] at h
    rw [List.eq_nil_of_length_eq_zero h.1]
    exact ⟨rm,(fun _ h=>by cases h),(fun _ h=>by cases h)⟩
  · rw [if_neg h5] at h
    cases h
theorem dep_of : ∀ (d : Nat) (l : List S61) (rm : Int),(∀ x ∈ l,okS d x rm = true) → dep d l
  | 0,[],_,_=>rfl
  | 0,x :: t,rm,h=>by cases h x (List.mem_cons_self ..)
  | d + 1,l,rm,h=>fun x hx=>by
    obtain ⟨m,h4,h5⟩:=okS_kids2 (h x hx)
    exact ⟨dep_of d x.f4 m h4,dep_of d x.f5 m h5⟩
theorem wrap_l (a b : Int) : wrap64 (wrap64 a + b) = wrap64 (a + b):=by unfold wrap64;omega
theorem wrap_r (a b : Int) : wrap64 (a + wrap64 b) = wrap64 (a + b):=by unfold wrap64;omega
theorem many_loop (d : Nat) (l : List S61) (hl : l.length ≤ 1048576) (hd : d ≤ 1000) (h : ∀ x ∈ l,Ev (fun k=>spec_l2Many.f k x.f4 (d : Int)) (wrap64 (cntL d x.f4)) ∧ Ev (fun k=>spec_l2Many.f k x.f5 (d : Int)) (wrap64 (cntL d x.f5))) (e : Nat) : ∀ (i n : Nat),i + e = l.length →
    Ev (fun k=>spec_l2Many.l0 k l ((d + 1 : Nat) : Int) (wrap64 (n : Int)) (i : Int)) (wrap64 ((n + ((l.drop i).map fun x=>1 + cntL d x.f4 + cntL d x.f5).sum : Nat) : Int)):=by
  have ew : wrap64 (((d + 1 : Nat) : Int) - 1) = (d : Int):=by rw [wrap_id (by omega) (by omega)];omega
  induction e with
  | zero =>
    intro i n hi
    rw [List.drop_of_length_le (by omega)]
    refine Evs.succ (fun k=>by simp only [spec_l2Many.l0];rfl) ?_
    refine Evs.ite_neg (by omega) (Evs.succ (fun k=>by simp only [spec_l2Many.j1];rfl) (Evs.ite_neg (by simp) ?_))
    simpa using Evs.some_ _
  | succ e ih =>
    intro i n hi
    have hlt : i < l.length:=by omega
    obtain ⟨h4,h5⟩:=h _ (rd_mem hlt)
    rw [drop_rd l hlt]
    rw [List.map_cons,List.sum_cons]
    refine Evs.succ (fun k=>by simp only [spec_l2Many.l0];rfl) ?_
    refine Evs.ite_pos (by omega) ?_
    rw [decide_eq_true (show ((d + 1 : Nat) : Int) > 0 by omega)]
    refine Evs.succ (fun k=>by simp only [spec_l2Many.j1,ew];rfl) ?_
    refine Evs.ite_pos (by trivial) (Evs.ite_pos (by omega) (Evs.ite_pos (by omega) (Evs.bind h4 (Evs.bind h5 ?_))))
    rw [wrap_succ (by omega)]
    have q:=ih (i + 1) (n + (1 + cntL d (rd_T61 l (i : Int)).f4 + cntL d (rd_T61 l (i : Int)).f5)) (by omega)
    have e1 : wrap64 (wrap64 (wrap64 (wrap64 (n : Int) + 1) + wrap64 (cntL d (rd_T61 l (i : Int)).f4)) + wrap64 (cntL d (rd_T61 l (i : Int)).f5)) = wrap64 ((n + (1 + cntL d (rd_T61 l (i : Int)).f4 + cntL d (rd_T61 l (i : Int)).f5) : Nat) : Int):=by
      generalize cntL d (rd_T61 l (i : Int)).f4 = a
      generalize cntL d (rd_T61 l (i : Int)).f5 = b
      have s1 : wrap64 (wrap64 (n : Int) + 1) = wrap64 ((n : Int) + 1):=wrap_l _ _
      have s2 : wrap64 (wrap64 ((n : Int) + 1) + wrap64 (a : Int)) = wrap64 ((n : Int) + 1 + a):=(wrap_l _ _).trans (wrap_r _ _)
      have s3 : wrap64 (wrap64 ((n : Int) + 1 + a) + wrap64 (b : Int)) = wrap64 ((n : Int) + 1 + a + b):=(wrap_l _ _).trans (wrap_r _ _)
      rw [s1,s2,s3]
      congr 1
      push_cast
      omega
    rw [e1,show n + (1 + cntL d (rd_T61 l (i : Int)).f4 + cntL d (rd_T61 l (i : Int)).f5 + (List.map (fun x=>1 + cntL d x.f4 + cntL d x.f5) (List.drop (i + 1) l)).sum) = n + (1 + cntL d (rd_T61 l (i : Int)).f4 + cntL d (rd_T61 l (i : Int)).f5) + (List.map (fun x=>1 + cntL d x.f4 + cntL d x.f5) (List.drop (i + 1) l)).sum by omega]
    exact q
theorem many_ev : ∀ (d : Nat),d ≤ 1000 → ∀ l,SL d l → Ev (fun k=>spec_l2Many.f k l (d : Int)) (wrap64 (cntL d l))
  | 0,_,l,h=>by
    refine Evs.succ (fun k=>by simp only [spec_l2Many.f];rfl) (Evs.succ (fun k=>by simp only [spec_l2Many.l0];rfl) ?_)
    have e : wrap64 ((cntL 0 l : Nat) : Int) = 0:=by simp [cntL,wrap64]
    rw [e]
    have j : Ev (fun k=>spec_l2Many.j1 k l ((0 : Nat) : Int) 0 0 false) 0:=Evs.succ (fun k=>by simp only [spec_l2Many.j1];rfl) (Evs.ite_neg (by simp) (Evs.some_ _))
    by_cases c : (0 : Int) < (l.length : Int)
    · exact Evs.ite_pos c j
    · exact Evs.ite_neg c j
  | d + 1,hd,l,h=>by
    refine Evs.succ (fun k=>by simp only [spec_l2Many.f];rfl) ?_
    have q:=many_loop d l h.1 (by omega) (fun x hx=>⟨many_ev d (by omega) x.f4 (h.kids hx).1,many_ev d (by omega) x.f5 (h.kids hx).2⟩) l.length 0 0 (by omega)
    have e : wrap64 ((0 : Nat) : Int) = 0:=by simp [wrap64]
    rw [e] at q
    simpa [cntL] using q
def okList (l : List S61) : Bool:=l.all fun x=>okS 3 x (-1)
def okLst (l : List S61) : Bool:=okList l && decide (wrap64 (cntL 3 l) ≤ 14)
def manyV (l : List S61) : Int:=if okLst l = true then wrap64 (cntL 3 l) else 0
theorem dep3 {l : List S61} (h : okList l = true) : dep 3 l:=dep_of 3 l (-1) (by unfold okList at h;rwa [List.all_eq_true] at h)
theorem specList3 {l : List S61} (h : SL 3 l) : Ev (fun k=>spec_l2List.f k l 3 (-1)) (okList l):=by
  have e:=specList_of 3 (by omega) (specStmt_ev 3 (by omega)) l (-1) (by omega) h.1 h.2
  rwa [show ((3 : Nat) : Int) = 3 from rfl] at e
theorem many3 {l : List S61} (h : SL 3 l) : Ev (fun k=>spec_l2Many.f k l 3) (wrap64 (cntL 3 l)):=by
  have e:=many_ev 3 (by omega) l h
  rwa [show ((3 : Nat) : Int) = 3 from rfl] at e
theorem specOk {l : List S61} (h : SL 3 l) : Ev (fun k=>spec_StmtsOk.f k l) (okLst l):=by
  unfold spec_StmtsOk.f okLst
  exact Evs.bind (specList3 h) (ev_band fun _=>Evs.bind (many3 h) (Evs.some_ _))
theorem implList3 (l : List S61) : Ev (fun k=>impl_listOk.f k l 3 (-1)) (okList l):=by
  refine implList_of 3 (-1) stmtOkS 3 l fun x _=>?_
  have e:=implStmt_ev 3 (by omega) x (-1) (by omega)
  rwa [show ((3 : Nat) : Int) = 3 from rfl] at e
theorem implOk (l : List S61) : Ev (fun k=>impl_StmtsOk.f k l) (okLst l):=by
  unfold impl_StmtsOk.f okLst
  refine Evs.bind (implList3 l) (ev_band fun h=>?_)
  refine Evs.bind (all_ev 3 l (-1) (dep3 h)) ?_
  rw [flat_len]
  exact Evs.some_ _
def BdS (x : S56) : Prop:=∃ (w : World) (cs : List Value),k56.K w x cs
def BdL (l : List S56) : Prop:=∃ (w : World) (A : Option Addr),Kd.C (k56) w A l.length l
theorem bdL_len {l : List S56} (h : BdL l) : l.length ≤ 9223372036854775807:=by
  obtain ⟨w,A,h⟩:=h
  exact h.2.1
theorem bdL_elem {l : List S56} (h : BdL l) (i : Nat) (hi : i < l.length) : BdS (rd_T56 l (i : Int)):=by
  obtain ⟨w,A,h⟩:=h
  obtain ⟨ad,c,e,_,hK,_⟩:=Kd.C_get h z56 (i : Int) (by omega) (by omega)
  exact ⟨w,c,hK⟩
theorem bdS_lists {x : S56} (h : BdS x) : BdL x.f4 ∧ BdL x.f5:=by
  obtain ⟨w,cs,h⟩:=h
  obtain ⟨A4,c4,A5,c5,_,_,g4,_,g5⟩:=k56_open h
  exact ⟨⟨w,A4,g4⟩,⟨w,A5,g5⟩⟩
def CopyOf (x : S56) (t : S61) : Prop:=Ev (fun k=>laws_toStmt.f k x.f0 x.f1 x.f2 x.f3 x.f4 x.f5) (t.f0,t.f1,t.f2,t.f3,t.f4,t.f5) ∧ (∀ d,smallS d t) ∧ Ev (fun k=>laws_eqStmt.f k t.f0 t.f1 t.f2 t.f3 t.f4 t.f5 t.f0 t.f1 t.f2 t.f3 t.f4 t.f5) true
def CopyL (l : List S56) (ts : List S61) : Prop:=Ev (fun k=>laws_toStmtS.f k l) ts ∧ ts.length ≤ 1048576 ∧ (∀ t ∈ ts,∀ d,smallS d t) ∧ Ev (fun k=>laws_eqStmtS.f k ts ts) true
def MkV (F : Nat → Int → Option Int) (c : Int) : Prop:=∀ a : Int,0 ≤ a → a + 4 * c ≤ 9000000000000000000 → ∃ b,Ev (fun k=>F k a) b ∧ a ≤ b ∧ b ≤ a + 4 * c
def Kids (t : S61) (k : Nat) (a : Int) : Option Int:=(mkF k t.f4 a).bind fun b=>mkF k t.f5 b
theorem copy_unique {x : S56} {t u : S61} (h : CopyOf x t) (k : CopyOf x u) : t = u:=by
  have e:=Evs.unique h.1 k.1
  obtain ⟨a0,a1,a2,a3,a4,a5⟩:=t
  obtain ⟨b0,b1,b2,b3,b4,b5⟩:=u
  simp only [Prod.mk.injEq] at e
  obtain ⟨rfl,rfl,rfl,rfl,rfl,rfl⟩:=e
  rfl
open Classical in
noncomputable def cpy (x : S56) : S61:=if h : ∃ t,CopyOf x t then h.choose else z61
theorem cpy_of {x : S56} (h : ∃ t,CopyOf x t) : CopyOf x (cpy x):=by
  unfold cpy
  rw [dif_pos h]
  exact h.choose_spec
def Goes (x : S56) : Prop:=∀ m : Int,0 ≤ m → m ≤ 1048576 → ∃ r : Int,Ev (fun k=>laws_szStmt.f k x.f0 x.f1 x.f2 x.f3 x.f4 x.f5 m) r ∧ (r < 0 ∨ (0 ≤ r ∧ r ≤ m ∧ ∃ t,CopyOf x t ∧ MkV (Kids t) (m - r)))
theorem sz_loop (l : List S56) (hl : l.length ≤ 1048576) (h : ∀ i : Nat,i < l.length → Goes (rd_T56 l (i : Int))) (d : Nat) : ∀ (i : Nat) (m : Int),i + d = l.length → 0 ≤ m → m ≤ 1048576 →
    ∃ r : Int,Ev (fun k=>laws_szStmtS.l0 k l m (i : Int)) r ∧ (r < 0 ∨ (0 ≤ r ∧ r ≤ m ∧ (∀ j : Nat,i ≤ j → j < l.length → ∃ t,CopyOf (rd_T56 l (j : Int)) t) ∧ MkV (fun k a=>mkL (mkF k) ((l.drop i).map cpy) a) (((l.length : Int) - (i : Int)) + (m - r)))):=by
  induction d with
  | zero =>
    intro i m hi h0 h1
    refine ⟨m,?_,.inr ⟨h0,Int.le_refl _,fun j h1 h2=>absurd h2 (by omega),fun a a0 a1=>⟨a,by rw [List.drop_of_length_le (by omega)];exact Evs.some_ _,Int.le_refl _,by omega⟩⟩⟩
    refine Evs.succ (fun k=>by simp only [laws_szStmtS.l0];rfl) ?_
    exact Evs.ite_neg (by omega) (Evs.some_ _)
  | succ d ih =>
    intro i m hi h0 h1
    obtain ⟨r,hr,c⟩:=h i (by omega) m h0 h1
    rcases c with c | ⟨c0,c1,t,c2,c3⟩
    · refine ⟨-1,?_,.inl (by omega)⟩
      refine Evs.succ (fun k=>by simp only [laws_szStmtS.l0];rfl) ?_
      exact Evs.ite_pos (by omega) (Evs.ite_pos (by omega) (Evs.bind hr (Evs.ite_pos c (Evs.some_ _))))
    · obtain ⟨q,hq,e⟩:=ih (i + 1) r (by omega) c0 (by omega)
      refine ⟨q,?_,?_⟩
      · refine Evs.succ (fun k=>by simp only [laws_szStmtS.l0];rfl) ?_
        refine Evs.ite_pos (by omega) (Evs.ite_pos (by omega) (Evs.bind hr (Evs.ite_neg (by omega) ?_)))
        rw [wrap_succ (by omega)]
        exact hq
      · rcases e with e | ⟨e0,e1,e2,e3⟩
        · exact .inl e
        · refine .inr ⟨e0,by omega,fun j h1 h2=>?_,?_⟩
          · by_cases hj : j = i
            · rw [hj]
              exact ⟨t,c2⟩
            · exact e2 j (by omega) h2
          · have hi' : i < l.length:=by omega
            have ed : (l.drop i).map cpy = t :: (l.drop (i + 1)).map cpy:=by
              have er : rd_T56 l (i : Int) = l[i]:=by
                unfold rd_T56
                rw [Int.toNat_natCast,List.getD_eq_getElem?_getD,List.getElem?_eq_getElem hi']
                rfl
              rw [List.drop_eq_getElem_cons hi',List.map_cons,← er,copy_unique (cpy_of ⟨t,c2⟩) c2]
            rw [ed]
            intro a a0 a1
            have ew : wrap64 (wrap64 (wrap64 (wrap64 (a + 1) + 1) + 1) + 1) = a + 4:=by unfold wrap64;omega
            obtain ⟨b,hb,b0,b1⟩:=c3 (a + 4) (by omega) (by omega)
            obtain ⟨c,hc,d0,d1⟩:=e3 b (by omega) (by omega)
            refine ⟨c,?_,by omega,by omega⟩
            refine Evs.congr_ (f:=fun k=>(Kids t k (a + 4)).bind fun b=>mkL (mkF k) ((l.drop (i + 1)).map cpy) b) (fun k=>?_) (Evs.bind hb hc)
            unfold Kids
            rw [Option.bind_assoc]
            show ((mkF k t.f4 (wrap64 (wrap64 (wrap64 (wrap64 (a + 1) + 1) + 1) + 1))).bind fun b=>(mkF k t.f5 b).bind fun c=>mkL (mkF k) _ c) = _
            rw [ew]
theorem copyL_of (l : List S56) (hl : l.length ≤ 1048576) (h : ∀ j : Nat,j < l.length → ∃ t,CopyOf (rd_T56 l (j : Int)) t) : CopyL l (l.map cpy):=by
  have hx : ∀ x ∈ l,CopyOf x (cpy x):=by
    intro x hx
    obtain ⟨i,hi,rfl⟩:=List.mem_iff_getElem.1 hx
    have:=h i hi
    unfold rd_T56 at this
    rw [Int.toNat_natCast,List.getD_eq_getElem?_getD,List.getElem?_eq_getElem hi] at this
    exact cpy_of this
  have hi' : ∀ i : Nat,i < l.length → CopyOf (rd_T56 l (i : Int)) (cpy (l.getD i z56)):=by
    intro i hi
    have e : rd_T56 l (i : Int) = l.getD i z56:=by unfold rd_T56;rw [Int.toNat_natCast]
    rw [e]
    refine hx _ ?_
    rw [List.getD_eq_getElem?_getD,List.getElem?_eq_getElem hi]
    exact List.getElem_mem hi
  refine ⟨?_,by simpa using hl,fun t ht d=>?_,?_⟩
  · refine Evs.succ (fun k=>by simp only [laws_toStmtS.f];rfl) ?_
    refine Evs.ite_pos (by omega) (Evs.ite_pos (by omega) ?_)
    rw [Int.toNat_natCast]
    refine map_loop (fun k acc i=>laws_toStmtS.l0 k l acc i) l z56 _ cpy (fun i acc r hi ha hr=>?_) (fun acc ha=>?_)
    · have hc:=(hi' i hi).1
      revert hr
      generalize cpy (l.getD i z56) = t at hc ⊢
      obtain ⟨b0,b1,b2,b3,b4,b5⟩:=t
      intro hr
      refine Evs.succ (fun k=>by simp only [laws_toStmtS.l0];rfl) ?_
      refine Evs.ite_pos (by omega) (Evs.ite_pos (by omega) (Evs.bind hc (Evs.ite_pos (by omega) ?_)))
      rw [wrap_succ (by omega),Int.toNat_natCast]
      exact hr
    · refine Evs.succ (fun k=>by simp only [laws_toStmtS.l0];rfl) ?_
      exact Evs.ite_neg (by omega) (Evs.some_ _)
  · obtain ⟨x,hx1,rfl⟩:=List.mem_map.1 ht
    exact (hx x hx1).2.1 d
  · refine Evs.succ (fun k=>by simp only [laws_eqStmtS.f];rfl) ?_
    refine Evs.ite_pos (by trivial) ?_
    refine all_true_loop (fun k i=>laws_eqStmtS.l0 k (l.map cpy) (l.map cpy) i) (l.map cpy).length (fun i r hi hr=>?_) ?_
    · have hi2 : i < l.length:=by simpa using hi
      have e : rd_T61 (l.map cpy) (i : Int) = cpy (l.getD i z56):=by
        unfold rd_T61
        rw [Int.toNat_natCast,List.getD_eq_getElem?_getD,List.getElem?_map,List.getElem?_eq_getElem hi2,List.getD_eq_getElem?_getD,List.getElem?_eq_getElem hi2]
        rfl
      refine Evs.succ (fun k=>by simp only [laws_eqStmtS.l0,e];rfl) ?_
      refine Evs.ite_pos (by omega) (Evs.ite_pos (by omega) (Evs.ite_pos (by omega) (Evs.bind (hi' i hi2).2.2 (Evs.ite_pos rfl ?_))))
      rw [wrap_succ (by rw [List.length_map] at hi;omega)]
      exact hr
    · refine Evs.succ (fun k=>by simp only [laws_eqStmtS.l0];rfl) ?_
      exact Evs.ite_neg (by omega) (Evs.some_ _)
theorem szL (l : List S56) (hb : BdL l) (h : ∀ i : Nat,i < l.length → Goes (rd_T56 l (i : Int))) (m : Int) (h0 : 0 ≤ m) (h1 : m ≤ 1048576) : ∃ r : Int,Ev (fun k=>laws_szStmtS.f k l m) r ∧ (r < 0 ∨ (0 ≤ r ∧ r ≤ m ∧ ∃ ts,CopyL l ts ∧ MkV (fun k a=>mkF k ts a) (m - r))):=by
  have hl:=bdL_len hb
  have ew : wrap64 (m - (l.length : Int)) = m - (l.length : Int):=wrap_id (by omega) (by omega)
  by_cases c : m - (l.length : Int) < 0
  · refine ⟨-1,?_,.inl (by omega)⟩
    refine Evs.succ (fun k=>by simp only [laws_szStmtS.f,ew];rfl) ?_
    exact Evs.ite_pos c (Evs.some_ _)
  · obtain ⟨r,hr,e⟩:=sz_loop l (by omega) h l.length 0 (m - (l.length : Int)) (by omega) (by omega) (by omega)
    refine ⟨r,?_,?_⟩
    · refine Evs.succ (fun k=>by simp only [laws_szStmtS.f,ew];rfl) ?_
      exact Evs.ite_neg c hr
    · rcases e with e | ⟨e0,e1,e2,e3⟩
      · exact .inl e
      · refine .inr ⟨e0,by omega,_,copyL_of l (by omega) fun j hj=>e2 j (by omega) hj,fun a a0 a1=>?_⟩
        obtain ⟨b,hb,b0,b1⟩:=e3 a a0 (by omega)
        exact ⟨b,Evs.succ (fun k=>rfl) hb,b0,by omega⟩
theorem rd_sizeOf {l : List S56} {i : Nat} (h : i < l.length) : SizeOf.sizeOf (rd_T56 l (i : Int)) < SizeOf.sizeOf l:=by
  unfold rd_T56
  rw [Int.toNat_natCast,List.getD_eq_getElem?_getD,List.getElem?_eq_getElem h]
  exact List.sizeOf_lt_of_mem (List.getElem_mem h)
theorem goes_all : ∀ (n : Nat) (x : S56),SizeOf.sizeOf x ≤ n → BdL x.f4 → BdL x.f5 → Goes x
  | 0,⟨a0,a1,a2,a3,l4,l5⟩,hn,_,_=>by simp at hn
  | n + 1,⟨a0,a1,a2,a3,l4,l5⟩,hn,b4,b5=>by
    have b4 : BdL l4:=b4
    have b5 : BdL l5:=b5
    have z : SizeOf.sizeOf l4 + SizeOf.sizeOf l5 ≤ n:=by simp at hn;omega
    have g4 : ∀ i : Nat,i < l4.length → Goes (rd_T56 l4 (i : Int)):=fun i hi=>goes_all n _ (by have:=rd_sizeOf hi;omega) (bdS_lists (bdL_elem b4 i hi)).1 (bdS_lists (bdL_elem b4 i hi)).2
    have g5 : ∀ i : Nat,i < l5.length → Goes (rd_T56 l5 (i : Int)):=fun i hi=>goes_all n _ (by have:=rd_sizeOf hi;omega) (bdS_lists (bdL_elem b5 i hi)).1 (bdS_lists (bdL_elem b5 i hi)).2
    intro m h0 h1
    obtain ⟨r,hr,c⟩:=szL l4 b4 g4 m h0 h1
    rcases c with c | ⟨c0,c1,ts4,c2,k4⟩
    · refine ⟨-1,?_,.inl (by omega)⟩
      refine Evs.succ (fun k=>by simp only [laws_szStmt.f];rfl) ?_
      exact Evs.bind hr (Evs.ite_pos c (Evs.some_ _))
    obtain ⟨q,hq,e⟩:=szL l5 b5 g5 r c0 (by omega)
    rcases e with e | ⟨e0,e1,ts5,e2,k5⟩
    · refine ⟨-1,?_,.inl (by omega)⟩
      refine Evs.succ (fun k=>by simp only [laws_szStmt.f];rfl) ?_
      exact Evs.bind hr (Evs.ite_neg (by omega) (Evs.bind hq (Evs.ite_pos e (Evs.some_ _))))
    refine ⟨q,?_,.inr ⟨e0,by omega,⟨a0,a1,a2,a3,ts4,ts5⟩,⟨?_,fun d=>?_,?_⟩,fun a p0 p1=>?_⟩⟩
    · refine Evs.succ (fun k=>by simp only [laws_szStmt.f];rfl) ?_
      exact Evs.bind hr (Evs.ite_neg (by omega) (Evs.bind hq (Evs.ite_neg (by omega) (Evs.some_ _))))
    · refine Evs.succ (fun k=>by simp only [laws_toStmt.f];rfl) ?_
      exact Evs.bind c2.1 (Evs.bind e2.1 (Evs.some_ _))
    · cases d with
      | zero=>trivial
      | succ d=>exact ⟨⟨c2.2.1,fun t ht=>c2.2.2.1 t ht d⟩,e2.2.1,fun t ht=>e2.2.2.1 t ht d⟩
    · refine Evs.succ (fun k=>by simp only [laws_eqStmt.f];rfl) ?_
      exact Evs.ite_pos (by trivial) (Evs.ite_pos (by trivial) (Evs.ite_pos (by trivial) (Evs.ite_pos (by trivial) (Evs.bind c2.2.2.2 (Evs.ite_pos rfl (Evs.bind e2.2.2.2 (Evs.ite_pos rfl (Evs.some_ _))))))))
    · obtain ⟨b,hb,b0,b1⟩:=k4 a p0 (by omega)
      obtain ⟨c,hc,d0,d1⟩:=k5 b (by omega) (by omega)
      exact ⟨c,Evs.bind hb hc,by omega,by omega⟩
end Go.Proofs.Ytdjkmnkgaacmfaa.P
namespace Go.Proofs.Ytdjkmnkgaacmfaa.P
open Go.RowKit Go.Proofs.YtdjkmnkgaacmfaaW.PrintWords Go.Proofs.YtdjkmnkgaacmfaaW.PrintMore
set_option linter.unusedVariables false
set_option linter.unusedSimpArgs false
theorem lawL (l : List S56) (hb : BdL l) (m : Int) (h0 : 0 ≤ m) (h1 : m ≤ 1048576) : ∃ r : Int,Ev (fun k=>laws_szStmtS.f k l m) r ∧ (r < 0 ∨ (0 ≤ r ∧ r ≤ m ∧ ∃ ts,CopyL l ts ∧ MkV (fun k a=>mkF k ts a) (m - r))) :=
  szL l hb (fun i hi=>goes_all _ _ (Nat.le_refl _) (bdS_lists (bdL_elem hb i hi)).1 (bdS_lists (bdL_elem hb i hi)).2) m h0 h1
theorem CopyL.sl {l : List S56} {ts : List S61} (c : CopyL l ts) (d : Nat) : SL d ts:=⟨c.2.1,fun t ht=>c.2.2.1 t ht d⟩
theorem CopyL.eq {l : List S56} {ts : List S61} (c : CopyL l ts) : Ev (fun k=>laws_eqStmtS.f k ts ts) true:=c.2.2.2
end Go.Proofs.Ytdjkmnkgaacmfaa.P

namespace Go.Proofs.Ytdjkmnkgaacmfaa.P
open Go.RowKit Go.Proofs.YtdjkmnkgaacmfaaW.PrintWords Go.Proofs.YtdjkmnkgaacmfaaW.PrintLast Go.Proofs.YtdjkmnkgaacmfaaW.PrintMore
attribute [local go_sem] max2_int min2_int max_two min_two max_three min_three max_four min_four
set_option linter.unusedVariables false
set_option linter.unusedSimpArgs false
theorem RowP.slice {d : Nat} {W : World} {P : Nat → Prop} {v : Value} {xs : List S59} (h : RowP d W P v xs) : ∃ A c,v = .slice A xs.length c:=by
  obtain ⟨A,c,e,_⟩:=h
  exact ⟨A,c,e⟩
def WorldR (d n : Nat) (x0 : List S59) (x1 x2 : List Int) (x3 : List (List Int)) (v0 v1 v2 v3 : Value) (w' : World) : Prop:=∃ P0 : Nat → Prop,RowP d w' P0 v0 x0 ∧ RowI w' (fun k=>some k = v1.ownBlock) v1 x1 ∧ RowI w' (fun k=>some k = v2.ownBlock) v2 x2 ∧ Kd.S (Kd.slice 3 (Kd.int .i64)) 25 w' n (fun k=>¬ P0 k ∧ some k ≠ v1.ownBlock ∧ some k ≠ v2.ownBlock) v3 x3 ∧ (∀ k,P0 k → n ≤ k ∧ k < w'.heap.size ∧ some k ≠ v1.ownBlock ∧ some k ≠ v2.ownBlock) ∧ (∀ k,some k = v1.ownBlock → n ≤ k ∧ some k ≠ v2.ownBlock) ∧ (∀ k,some k = v2.ownBlock → n ≤ k) ∧ ∀ q ∈ x3,q = []
theorem OpenR.world {d n : Nat} {l : List (List S61)} {v0 v1 v2 v3 : Value} {w' : World} (h : OpenR d n l v0 v1 v2 v3 w') : WorldR d n (l.map prO) (List.replicate 3 0) (List.replicate 2 0) (List.replicate 2 []) v0 v1 v2 v3 w':=by
  obtain ⟨P,a,b,c,e,f,g,i⟩:=h
  exact ⟨P,a,b,c,e,f,g,i,fun q hq=>(List.mem_replicate.1 hq).2⟩
theorem WorldR.lower {d n m : Nat} {x0 : List S59} {x1 x2 : List Int} {x3 : List (List Int)} {v0 v1 v2 v3 : Value} {w : World} (h : WorldR d n x0 x1 x2 x3 v0 v1 v2 v3 w) (hm : m ≤ n) : WorldR d m x0 x1 x2 x3 v0 v1 v2 v3 w:=by
  obtain ⟨P,a,b,c,e,f,g,i,j⟩:=h
  exact ⟨P,a,b,c,Kd.S_lower e hm,fun k hk=>⟨Nat.le_trans hm (f k hk).1,(f k hk).2⟩,fun k hk=>⟨Nat.le_trans hm (g k hk).1,(g k hk).2⟩,fun k hk=>Nat.le_trans hm (i k hk),j⟩
theorem WorldR.nil (d n : Nat) (w : World) : WorldR d n [] [] [] [] (.slice none 0 0) (.slice none 0 0) (.slice none 0 0) (.slice none 0 0) w :=
  ⟨fun _=>False,⟨none,0,rfl,Nat.le_refl _,by simp,.inl rfl⟩,⟨none,0,rfl,Nat.le_refl _,by simp,.inl rfl⟩,⟨none,0,rfl,Nat.le_refl _,by simp,.inl rfl⟩,Kd.S_nil _ _ _ _ _,fun _ h=>h.elim,fun k h=>by simp [Value.ownBlock] at h,fun k h=>by simp [Value.ownBlock] at h,fun q h=>by simp at h⟩
theorem RowI.lt {W : World} {v : Value} {xs : List Int} (h : RowI W (fun k=>some k = v.ownBlock) v xs) : RowI W (fun k=>some k = v.ownBlock ∧ k < W.heap.size) v xs:=by
  obtain ⟨A,c,e,h1,h2,h3⟩:=h
  refine ⟨A,c,e,h1,h2,h3.imp_right ?_⟩
  rintro ⟨g,ea,hq,cells,hb,hr⟩
  exact ⟨g,ea,⟨hq,blk_lt hb⟩,cells,hb,hr⟩
theorem WorldR.far {d n g : Nat} {x0 : List S59} {x1 x2 : List Int} {x3 : List (List Int)} {v0 v1 v2 v3 : Value} {w w' : World} (h : WorldR d n x0 x1 x2 x3 v0 v1 v2 v3 w) (hg : g < n) (hs : w.heap.size ≤ w'.heap.size) (hf : ∀ k,k ≠ g → w'.heap[k]? = w.heap[k]?) : WorldR d n x0 x1 x2 x3 v0 v1 v2 v3 w':=by
  obtain ⟨P,a,b,c,e,f,i,j,m⟩:=h
  refine ⟨P,a.frame fun k hk=>hf k (by have:=(f k hk).1;omega),b.frame fun k hk=>hf k (by have:=(i k hk).1;omega),c.frame fun k hk=>hf k (by have:=j k hk;omega),?_,fun k hk=>⟨(f k hk).1,Nat.lt_of_lt_of_le (f k hk).2.1 hs,(f k hk).2.2⟩,i,j,m⟩
  exact Kd.S_mono (Kd.S_move (Kd.S_bound e) (fun k hk=>hf k (by have:=hk.2.1;omega))) (fun k hk=>hk.1)
def wo0 (r : Bool) (l : List (List S61)) : List S59:=if r then l.map prO else []
def wo1 (r : Bool) : List Int:=if r then List.replicate 3 0 else []
def wo2 (r : Bool) : List Int:=if r then List.replicate 2 0 else []
def wo3 (r : Bool) : List (List Int):=if r then List.replicate 2 [] else []
set_option maxHeartbeats 8000000 in
set_option maxRecDepth 100000 in
theorem meanopen_says (k d : Nat) (A0 : Option Addr) (c0 : Nat) (l0 : List (List S61)) (r : Bool) (w : World) (hr0 : Kd.C (Kd.slice 61 k61) w A0 l0.length l0) (hc0 : l0.length ≤ c0) (hfit : r = true → (∀ x ∈ l0,Fits d x) ∧ l0.length ≤ 1000000000) (h : impl_ProgOk.f k l0 = some r) :
    Calls Try.prog 7 #[.slice A0 l0.length c0] w fun e w'=>∃ v0 v1 v2 v3 : Value,e = .returned (.agg #[v0,v1,v2,v3,.slice none 0 0]) ∧ WorldR d w.heap.size (wo0 r l0) (wo1 r) (wo2 r) (wo3 r) v0 v1 v2 v3 w' ∧ Below w.heap.size w w':=by
  have hu29:=Try.underlying29
  have HR0:=Aside0.mk hr0
  have HC0:=Aside0.mk hc0
  have A2:=Aside0.mk h
  clear hr0 hc0 h
  have HB:=Aside0.mk (Below.refl w.heap.size w)
  cases r with
  | true =>
    have HF0:=Aside0.mk (hfit rfl)
    clear hfit
    go_enter Try.func7,Try.ntmps7
    go_wp2_with (first | ((with_reducible refine gate_dst (N:=2) rfl ?_);refine box_event ?hg (N:=2) ?hd (cs:=#[.slice none 0 0,.slice none 0 0,.slice none 0 0,.slice none 0 0,.slice none 0 0]) (t:=29) ?hr ?_;(case hd=>rfl);(case hg=>rfl);(case hr=>first | (go_simp;done) | (go_simp;rfl));intro gb hg w5 hbox hb;have n0_:=Aside0.mk (below_step (q0_ HB) hb);have n1_:=Aside0.mk (hbox);have GE:=Aside0.mk ((by rw [hg];exact (below_size (q0_ HB)) : w.heap.size ≤ gb));clear HB;have HB:=n0_;have BK:=n1_;clear n0_ n1_;clear hb hbox hg) | (go_at_call 17;(with_reducible refine (impl_ProgOk.calls k _ _ l0 true _ ?side1 ?side2 A2.out).mono ?_);(case side1=>repeat (first | exact (Kd.C_below HR0.out HB.out) | (with_reducible refine Kd.C_alloc ?_ _) | (with_reducible refine Kd.C_drewN ?_ _) | (with_reducible refine Kd.C_drew ?_)));(case side2=>exact HC0.out);rintro e w6 ⟨rfl,hb⟩;have n0_:=Aside0.mk (blk_below (g:=gb) (o:=.cells #[.slice none 0 0,.slice none 0 0,.slice none 0 0,.slice none 0 0,.slice none 0 0] 29 (0,0)) (q1_ BK) hb);have n1_:=Aside0.mk (below_step (q2_ HB GE) hb);clear BK;clear HB;have BK:=n0_;have HB:=n1_;clear n0_ n1_ hb) | (go_at_call 18;(with_reducible refine (open_says d _ _ l0 _ ?side1 ?side2 ?side3 ?side4).mono ?_);(case side1=>repeat (first | exact (Kd.C_below HR0.out HB.out) | (with_reducible refine Kd.C_alloc ?_ _) | (with_reducible refine Kd.C_drewN ?_ _) | (with_reducible refine Kd.C_drew ?_)));(case side2=>exact HC0.out);(case side3=>exact HF0.out.1);(case side4=>exact HF0.out.2);rintro e w7 ⟨v0,v1,v2,v3,rfl,ho,hb⟩;have n0_:=Aside0.mk (blk_below (g:=gb) (o:=.cells #[.slice none 0 0,.slice none 0 0,.slice none 0 0,.slice none 0 0,.slice none 0 0] 29 (0,0)) (q1_ BK) hb);have n1_:=Aside0.mk (below_step (q2_ HB GE) hb);have HW:=Aside0.mk ho.world;have HL:=Aside0.mk (show gb < _ from blk_lt (g:=gb) (o:=.cells #[.slice none 0 0,.slice none 0 0,.slice none 0 0,.slice none 0 0,.slice none 0 0] 29 (0,0)) (q1_ BK));have HS:=Aside0.mk (below_size (q2_ HB GE));clear BK;clear HB;have BK:=n0_;have HB:=n1_;clear n0_ n1_ hb ho;have sl:=HW.out;obtain ⟨P0,s0,s1,s2,s3,_⟩:=sl;obtain ⟨Aa,ca,e0⟩:=s0.slice;obtain ⟨Ab,cb,e1⟩:=s1.slice;obtain ⟨Ac,cc,e2⟩:=s2.slice;obtain ⟨Ad,cd,e3⟩:=Kd.S_slice s3;rw [List.length_map] at e0;rw [List.length_replicate] at e1 e2 e3;subst e0;subst e1;subst e2;subst e3;clear s0 s1 s2 s3;obtain ⟨hcz_0,hcz_1,hcz_2,hcz_3,hcz_4,hfz_0,hfz_1,hfz_2,hfz_3,hfz_4⟩:=bz5_ BK))
    refine bodyPost_ret (results_cell_row rfl _ _ gb 29 #[.slice Aa l0.length ca,.slice Ab 3 cb,.slice Ac 2 cc,.slice Ad 2 cd,.slice none 0 0] (0,0) _ rfl (q11_ BK) Try.underlying29 rfl (by kernel_rfl)) rfl ?_
    refine ⟨_,_,_,_,rfl,(HW.out.far HL.out (by simp [World.setCell]) (fun k hk=>?_)).lower HS.out,by repeat (first | (with_reducible first | exact HB.out | apply below_alloc | apply pw_below_drewN | apply below_drew1 | refine below_set ?_ GE.out) | exact HB.out)⟩
    rw [Below.heap_setCell _ ⟨gb,4,none⟩ _ k hk,Below.heap_setCell _ ⟨gb,3,none⟩ _ k hk,Below.heap_setCell _ ⟨gb,2,none⟩ _ k hk,Below.heap_setCell _ ⟨gb,1,none⟩ _ k hk,Below.heap_setCell _ ⟨gb,0,none⟩ _ k hk]
  | false =>
    clear hfit
    go_enter Try.func7,Try.ntmps7
    go_wp2_with (first | ((with_reducible refine gate_dst (N:=2) rfl ?_);refine box_event ?hg (N:=2) ?hd (cs:=#[.slice none 0 0,.slice none 0 0,.slice none 0 0,.slice none 0 0,.slice none 0 0]) (t:=29) ?hr ?_;(case hd=>rfl);(case hg=>rfl);(case hr=>first | (go_simp;done) | (go_simp;rfl));intro gb hg w5 hbox hb;have n0_:=Aside0.mk (below_step (q0_ HB) hb);have n1_:=Aside0.mk (hbox);have GE:=Aside0.mk ((by rw [hg];exact (below_size (q0_ HB)) : w.heap.size ≤ gb));clear HB;have HB:=n0_;have BK:=n1_;clear n0_ n1_;clear hb hbox hg) | (go_at_call 17;(with_reducible refine (impl_ProgOk.calls k _ _ l0 false _ ?side1 ?side2 A2.out).mono ?_);(case side1=>repeat (first | exact (Kd.C_below HR0.out HB.out) | (with_reducible refine Kd.C_alloc ?_ _) | (with_reducible refine Kd.C_drewN ?_ _) | (with_reducible refine Kd.C_drew ?_)));(case side2=>exact HC0.out);rintro e w6 ⟨rfl,hb⟩;have n0_:=Aside0.mk (blk_below (g:=gb) (o:=.cells #[.slice none 0 0,.slice none 0 0,.slice none 0 0,.slice none 0 0,.slice none 0 0] 29 (0,0)) (q1_ BK) hb);have n1_:=Aside0.mk (below_step (q2_ HB GE) hb);clear BK;clear HB;have BK:=n0_;have HB:=n1_;clear n0_ n1_ hb;obtain ⟨hcz_0,hcz_1,hcz_2,hcz_3,hcz_4,hfz_0,hfz_1,hfz_2,hfz_3,hfz_4⟩:=bz5_ BK))
    refine bodyPost_ret (results_cell_row rfl _ _ gb 29 #[.slice none 0 0,.slice none 0 0,.slice none 0 0,.slice none 0 0,.slice none 0 0] (0,0) _ rfl (q11_ BK) Try.underlying29 rfl (by kernel_rfl)) rfl ?_
    exact ⟨_,_,_,_,rfl,WorldR.nil _ _ _,by repeat (first | (with_reducible first | exact HB.out | apply below_alloc | apply pw_below_drewN | apply below_drew1 | refine below_set ?_ GE.out) | exact HB.out)⟩
def l3open_T7 : Bool × List (List Nat × List Nat):=(true,[([],[]),([0],[0]),([],[]),([],[]),([],[]),([],[]),([4,5],[4,5]),([6],[6]),([3,7],[3,7]),([2,8],[2,8]),([9],[9]),([1,10,8],[1,10]),([0,1,2,3,4,5,6,7,8,9,10,11],[]),([12,11,11,0,1,2,3,4,5,6,7,8,9,10,11],[11,12])])
def l3open_B7 : List Nat:=[0,1,0,0,0,0,48,112,248,508,1020,2047,4095,8191]
theorem l3open_tab7 : rtab .any (opsOf Try.f15 7) = l3open_T7:=by kernel_rfl
theorem l3open_bits7 : waitsOk l3open_T7.2 l3open_B7 = true:=by kernel_rfl
def kT (w : World) : Kd (List S61):=Kd.or_ (Kd.slice 61 (Kd.fixed k61 w)) (Kd.slice 61 k61) rfl
def kP (w : World) : Kd S59:=Kd.iso (Kd.pair (Kd.slice 3 (Kd.int .i64)) (Kd.pair (kT w) (Kd.pair (Kd.int .i64) (Kd.pair (Kd.int .i64) (Kd.int .i64))))) (fun x : S59=>(x.f0,x.f1,x.f2,x.f3,x.f4))
theorem kP_mkM (w W : World) (base : Nat) (ok : Nat → Prop) (x : S59) {v0 v1 : Value} (g0 : (Kd.int .i64).R 3 W base ok v0 x.f0) (g1 : (kT w).M W base ok x.f1 [v1]) : (kP w).M W base ok x [v0,v1,.int .i64 x.f2,.int .i64 x.f3,.int .i64 x.f4]:=⟨[v0],[v1,.int .i64 x.f2,.int .i64 x.f3,.int .i64 x.f4],rfl,⟨v0,rfl,g0⟩,⟨[v1],[.int .i64 x.f2,.int .i64 x.f3,.int .i64 x.f4],rfl,g1,⟨[.int .i64 x.f2],[.int .i64 x.f3,.int .i64 x.f4],rfl,rfl,⟨[.int .i64 x.f3],[.int .i64 x.f4],rfl,rfl,rfl⟩⟩⟩⟩
def kPf (w : World) : Kd S59:=Kd.iso (Kd.pair (Kd.slice 3 (Kd.int .i64)) (Kd.pair (Kd.slice 61 (Kd.fixed k61 w)) (Kd.pair (Kd.int .i64) (Kd.pair (Kd.int .i64) (Kd.int .i64))))) (fun x : S59=>(x.f0,x.f1,x.f2,x.f3,x.f4))
theorem kPf_mkM (w W : World) (base : Nat) (ok : Nat → Prop) (x : S59) {v0 v1 : Value} (g0 : (Kd.int .i64).R 3 W base ok v0 x.f0) (g1 : (Kd.fixed k61 w).R 61 W base ok v1 x.f1) : (kPf w).M W base ok x [v0,v1,.int .i64 x.f2,.int .i64 x.f3,.int .i64 x.f4]:=⟨[v0],[v1,.int .i64 x.f2,.int .i64 x.f3,.int .i64 x.f4],rfl,⟨v0,rfl,g0⟩,⟨[v1],[.int .i64 x.f2,.int .i64 x.f3,.int .i64 x.f4],rfl,⟨v1,rfl,g1⟩,⟨[.int .i64 x.f2],[.int .i64 x.f3,.int .i64 x.f4],rfl,rfl,⟨[.int .i64 x.f3],[.int .i64 x.f4],rfl,rfl,rfl⟩⟩⟩⟩
theorem kPf_29 (w : World) : ∀ q,q ∈ 59 :: (kPf w).E → q ≠ 29:=show ∀ q,q ∈ [59,3,61] → q ≠ 29 by decide
theorem kPf_open {w W : World} {x : S59} {cs : List Value} (h : (kPf w).K W x cs) : ∃ A0 c0 A1 c1,cs = [.slice A0 x.f0.length c0,.slice A1 x.f1.length c1,.int .i64 x.f2,.int .i64 x.f3,.int .i64 x.f4] ∧ x.f0.length ≤ c0 ∧ (Kd.int .i64).C W A0 x.f0.length x.f0 ∧ x.f1.length ≤ c1 ∧ (Kd.fixed k61 w).C W A1 x.f1.length x.f1:=by
  obtain ⟨_,_,rfl,⟨A0,c0,rfl,l0,g0⟩,⟨_,_,rfl,⟨A1,c1,rfl,l1,g1⟩,⟨_,_,rfl,rfl,⟨_,_,rfl,rfl,rfl⟩⟩⟩⟩:=h
  exact ⟨A0,c0,A1,c1,rfl,l0,g0,l1,g1⟩
structure RO (kd : Kd S59) (n : Nat) (W : World) (x0 : List S59) (x1 x2 : List Int) (x3 : List (List Int)) (x4 : List S69) (v0 v1 v2 v3 v4 : Value) : Prop where
  r0 : Kd.R kd 59 W n (fun _=>True) v0 x0
  r1 : Kd.R (Kd.int .i64) 3 W n (fun _=>True) v1 x1
  r2 : Kd.R (Kd.int .i64) 3 W n (fun _=>True) v2 x2
  r3 : Kd.R (Kd.slice 3 (Kd.int .i64)) 25 W n (fun _=>True) v3 x3
  r4 : Kd.R k69 69 W n (fun _=>True) v4 x4
theorem fixed_C {w W : World} (hb : Below w.heap.size w W) {A : Option Addr} {n : Nat} {xs : List S61} (h : (Kd.fixed k61 w).C W A n xs) : k61.C W A n xs :=
  ⟨h.1,h.2.1,fun hn=>by
    obtain ⟨ad,e,hc⟩:=h.2.2 hn
    refine ⟨ad,e,fun j p hj=>?_⟩
    obtain ⟨c,hs,hr,hcell⟩:=hc j p hj
    exact ⟨c,hs,k61.K_below hb hr,hcell⟩⟩
theorem kP_K {w W : World} (hb : Below w.heap.size w W) {x : S59} {cs : List Value} (h : (kP w).K W x cs) : k59.K W x cs:=by
  obtain ⟨c0,c1,rfl,h0,d0,d1,rfl,h1,h2⟩:=h
  refine ⟨c0,d0 ++ d1,rfl,h0,d0,d1,rfl,?_,h2⟩
  rcases h1 with ⟨A,c,e,hl,hc⟩ | h1
  · exact ⟨A,c,e,hl,fixed_C hb hc⟩
  · exact h1
theorem kP_29 (w : World) : ∀ q,q ∈ 59 :: (kP w).E → q ≠ 29:=show ∀ q,q ∈ [59,3,61,61,61] → q ≠ 29 by decide
theorem kP_C {w W : World} (hb : Below w.heap.size w W) {A : Option Addr} {n : Nat} {xs : List S59} (h : (kP w).C W A n xs) : k59.C W A n xs :=
  ⟨h.1,h.2.1,fun hn=>by
    obtain ⟨ad,e,hc⟩:=h.2.2 hn
    refine ⟨ad,e,fun j p hj=>?_⟩
    obtain ⟨c,hs,hr,hcell⟩:=hc j p hj
    exact ⟨c,hs,kP_K hb hr,hcell⟩⟩
def Rd {α : Type} (d : Kd α) (w : World) (v : Value) (xs : List α) : Prop:=∃ A c,v = .slice A xs.length c ∧ xs.length ≤ c ∧ d.C w A xs.length xs
theorem Rd.of_R {α : Type} {d : Kd α} {e : Nat} {w : World} {base : Nat} {ok : Nat → Prop} {v : Value} {xs : List α} (h : d.R e w base ok v xs) : Rd d w v xs:=Kd.R_reads h
theorem Rd.below {α : Type} {d : Kd α} {w w' : World} {v : Value} {xs : List α} (h : Rd d w v xs) (hb : Below w.heap.size w w') : Rd d w' v xs:=by
  obtain ⟨A,c,e,hl,hc⟩:=h
  exact ⟨A,c,e,hl,Kd.C_below hc hb⟩
theorem Rd.nil {α : Type} (d : Kd α) (w : World) : Rd d w (.slice none 0 0) []:=⟨none,0,rfl,Nat.le_refl _,⟨rfl,by simp,fun h=>absurd h (Nat.lt_irrefl 0)⟩⟩
structure WC (w : World) (x0 : List S59) (x1 x2 : List Int) (x3 : List (List Int)) (x4 : List S69) (v0 v1 v2 v3 v4 : Value) : Prop where
  r0 : Rd k59 w v0 x0
  r1 : Rd (Kd.int .i64) w v1 x1
  r2 : Rd (Kd.int .i64) w v2 x2
  r3 : Rd (Kd.slice 3 (Kd.int .i64)) w v3 x3
  r4 : Rd k69 w v4 x4
theorem WC.below {w w' : World} {x0 : List S59} {x1 x2 : List Int} {x3 : List (List Int)} {x4 : List S69} {v0 v1 v2 v3 v4 : Value} (h : WC w x0 x1 x2 x3 x4 v0 v1 v2 v3 v4) (hb : Below w.heap.size w w') : WC w' x0 x1 x2 x3 x4 v0 v1 v2 v3 v4:=⟨h.r0.below hb,h.r1.below hb,h.r2.below hb,h.r3.below hb,h.r4.below hb⟩
theorem WC.nil (w : World) : WC w [] [] [] [] [] (.slice none 0 0) (.slice none 0 0) (.slice none 0 0) (.slice none 0 0) (.slice none 0 0):=⟨Rd.nil _ _,Rd.nil _ _,Rd.nil _ _,Rd.nil _ _,Rd.nil _ _⟩
theorem set5_ {W : World} {α : Type} {d : Kd α} {e base gb : Nat} {ok : Nat → Prop} {v : Value} {xs : List α} {cells : Array Value} (u0 u1 u2 u3 u4 : Value) (h : d.R e W base ok v xs) (hb : W.heap[gb]? = some (.cells cells 29 (0,0))) (ht : ∀ q,q ∈ e :: d.E → q ≠ 29) : d.R e (((((W.setCell ⟨gb,0,none⟩ u0).setCell ⟨gb,1,none⟩ u1).setCell ⟨gb,2,none⟩ u2).setCell ⟨gb,3,none⟩ u3).setCell ⟨gb,4,none⟩ u4) base ok v xs :=
  Kd.R_set (Kd.R_set (Kd.R_set (Kd.R_set (Kd.R_set h hb ht 0 u0) (blk_set hb 0 u0) ht 1 u1) (blk_set (blk_set hb 0 u0) 1 u1) ht 2 u2) (blk_set (blk_set (blk_set hb 0 u0) 1 u1) 2 u2) ht 3 u3) (blk_set (blk_set (blk_set (blk_set hb 0 u0) 1 u1) 2 u2) 3 u3) ht 4 u4
def nils5 : Array Value:=#[.slice none 0 0,.slice none 0 0,.slice none 0 0,.slice none 0 0,.slice none 0 0]
def gO (n0 m0 i : Nat) (vs : Nat → Value) (w : World) (v : Value) : Prop :=
  match i with
  | 0=>Kd.R (Kd.int .i64) 3 w n0 (fun _=>True) v (List.replicate 3 0)
  | 1=>Kd.R (Kd.int .i64) 3 w n0 (fun _=>True) v (List.replicate 2 0)
  | 2=>Kd.R (Kd.slice 3 (Kd.int .i64)) 25 w n0 (fun _=>True) v (List.replicate 2 [])
  | 3=>Kd.R k69 69 w n0 (fun _=>True) v []
  | 4=>v = .agg #[.slice none 0 0,vs 0,vs 1,vs 2,vs 3]
  | _=>∃ gb,v = .pointer (some ⟨gb,0,none⟩) ∧ m0 ≤ gb ∧ w.heap[gb]? = some (.cells nils5 29 (0,0))
theorem gO_mono (n0 m0 i : Nat) (vs : Nat → Value) (w w' : World) (v : Value) (hb : Below w.heap.size w w') (h : gO n0 m0 i vs w v) : gO n0 m0 i vs w' v:=by
  match i,h with
  | 0,h=>exact Kd.R_below h hb
  | 1,h=>exact Kd.R_below h hb
  | 2,h=>exact Kd.R_below h hb
  | 3,h=>exact Kd.R_below h hb
  | 4,h=>exact h
  | _ + 5,⟨gb,e,hg,hh⟩=>exact ⟨gb,e,hg,blk_below hh hb⟩
def gL (w : World) (n : Nat) (x : List S61) (i : Nat) (vs : Nat → Value) (W : World) (v : Value) : Prop :=
  match i with
  | 2=>Kd.R (Kd.int .i64) 3 W n (fun _=>True) v (List.replicate 3 0)
  | 3=>∃ g,v = .slice (some ⟨g,0,none⟩) 0 0 ∧ Kd.R (Kd.fixed k61 w) 61 W n (fun _=>True) v []
  | _=>Kd.R (Kd.fixed k61 w) 61 W n (fun _=>True) v x
theorem gL_mono (w : World) (n : Nat) (x : List S61) (i : Nat) (vs : Nat → Value) (W W' : World) (v : Value) (hb : Below W.heap.size W W') (h : gL w n x i vs W v) : gL w n x i vs W' v:=by
  match i,h with
  | 2,h=>exact Kd.R_below h hb
  | 3,⟨g,e,h⟩=>exact ⟨g,e,Kd.R_below h hb⟩
  | 0,h=>exact Kd.R_below h hb
  | 1,h=>exact Kd.R_below h hb
  | _ + 4,h=>exact Kd.R_below h hb
set_option maxHeartbeats 8000000 in
set_option maxRecDepth 100000 in
theorem l3open_says (k : Nat) (A0 : Option Addr) (c0 : Nat) (l0 : List (List S61)) (r : Bool) (wf w : World) (hwf : Below wf.heap.size wf w) (hr0 : Kd.C (Kd.slice 61 k61) wf A0 l0.length l0) (hc0 : l0.length ≤ c0) (hlen : r = true → (∀ x ∈ l0,x.length ≤ 1000000000) ∧ l0.length ≤ 1000000000) (h : spec_ProgOk.f k l0 = some r) :
    Calls Try.prog 15 #[.slice A0 l0.length c0] w fun e w'=>∃ v0 v1 v2 v3 v4 : Value,e = .returned (.agg #[v0,v1,v2,v3,v4]) ∧ (if r = true then RO (kPf wf) w.heap.size w' (wo0 r l0) (wo1 r) (wo2 r) (wo3 r) [] v0 v1 v2 v3 v4 else v0 = .slice none 0 0 ∧ v1 = .slice none 0 0 ∧ v2 = .slice none 0 0 ∧ v3 = .slice none 0 0 ∧ v4 = .slice none 0 0) ∧ Below w.heap.size w w':=by
  have hu29:=Try.underlying29
  have hu59:=Try.underlying59
  have HR0:=Aside0.mk hr0
  have HWF:=Aside0.mk hwf
  have HC0:=Aside0.mk hc0
  have A2:=Aside0.mk h
  clear hr0 hc0 h hwf
  have HB:=Aside0.mk (Below.refl w.heap.size w)
  cases r with
  | true =>
    have HF0:=Aside0.mk (hlen rfl)
    clear hlen
    go_enter Try.func15,Try.ntmps15
    go_wp2_with (first | ((with_reducible refine gate_dst (N:=2) rfl ?_);refine box_event ?hg (N:=2) ?hd (cs:=#[.slice none 0 0,.slice none 0 0,.slice none 0 0,.slice none 0 0,.slice none 0 0]) (t:=29) ?hr ?_;(case hd=>rfl);(case hg=>rfl);(case hr=>first | (go_simp;done) | (go_simp;rfl));intro gb hg w5 hbox hb;have n0_:=Aside0.mk (below_step (q0_ HB) hb);have n1_:=Aside0.mk (hbox);have GE:=Aside0.mk ((by rw [hg];exact (below_size (q0_ HB)) : w.heap.size ≤ gb));clear HB;have HB:=n0_;have BK:=n1_;clear n0_ n1_;clear hb hbox hg) | (go_at_call 36;(with_reducible refine (spec_ProgOk.calls k _ _ l0 true _ ?side1 ?side2 A2.out).mono ?_);(case side1=>repeat (first | exact (Kd.C_below (Kd.C_below HR0.out HWF.out) HB.out) | (with_reducible refine Kd.C_alloc ?_ _) | (with_reducible refine Kd.C_drewN ?_ _) | (with_reducible refine Kd.C_drew ?_)));(case side2=>exact HC0.out);rintro e w6 ⟨rfl,hb⟩;have n0_:=Aside0.mk (blk_below (g:=gb) (o:=.cells #[.slice none 0 0,.slice none 0 0,.slice none 0 0,.slice none 0 0,.slice none 0 0] 29 (0,0)) (q1_ BK) hb);have n1_:=Aside0.mk (below_step (q2_ HB GE) hb);clear BK;clear HB;have BK:=n0_;have HB:=n1_;clear n0_ n1_ hb))
    have n0_:=Aside0.mk (blk_drew BK.out)
    have n1_:=Aside0.mk (below_drew1 HB.out)
    clear BK HB
    have BK:=n0_
    have HB:=n1_
    clear n0_ n1_
    refine start_ (n:=7) (S:=fun w'=>True) (ds:=[]) #[false,false,false,false,false,false,false] (by kernel_rfl) rfl rfl trivial (fun hHeld=>?_)
    clear hHeld
    generalize w6.drew = w7 at BK HB ⊢
    refine grow_ [(0,9),(1,10),(2,11),(3,12),(4,13),(5,3)] #[true,true,true,true,true,true,false] 34 rfl (by kernel_rfl) (fuel:=1) rfl (gO w.heap.size w7.heap.size) (gO_mono w.heap.size w7.heap.size) ?cong (fun _ _=>trivial) ?step ?done
    case cong =>
      intro g hg oi hoi vs vs' w8 v hq h
      simp only [List.mem_cons,List.not_mem_nil,or_false] at hg
      rcases hg with rfl | rfl | rfl | rfl | rfl | rfl
      · exact h
      · exact h
      · exact h
      · exact h
      · obtain rfl:=same_ hoi rfl
        have h' : v = .agg #[.slice none 0 0,vs 0,vs 1,vs 2,vs 3]:=h
        show v = .agg #[.slice none 0 0,vs' 0,vs' 1,vs' 2,vs' 3]
        rw [h',hq 0 (by decide),hq 1 (by decide),hq 2 (by decide),hq 3 (by decide)]
      · exact h
    case step =>
      intro g hg oi hoi a w8 vs hB hdep htm K hK
      have hS : w.heap.size ≤ w8.heap.size:=Nat.le_trans HB.out.size hB.size
      simp only [List.mem_cons,List.not_mem_nil,or_false] at hg
      rcases hg with rfl | rfl | rfl | rfl | rfl | rfl
      · obtain rfl:=same_ hoi rfl
        refine Kd.R_make_step (Kd.int .i64) w.heap.size 3 (by rfl) (N:=9) rfl 25 _ _ rfl 3 rfl rfl Try.underlying25 (.int .i64 0) 8 info3 rfl (by decide) (by omega) 0 (ok:=fun _=>True) (okp:=fun _=>True) rfl (fun _ hk=>hk) trivial (by omega) (by omega) (Below.refl _ _) hS ?_
        intro v1 w9 ho hb hg_ hnew_
        exact hK v1 w9 ⟨hg_.os,hg_.tape,hg_.output,hg_.size,fun k hk=>hg_.block k hk (by simp)⟩ ho
      · obtain rfl:=same_ hoi rfl
        refine Kd.R_make_step (Kd.int .i64) w.heap.size 3 (by rfl) (N:=10) rfl 25 _ _ rfl 2 rfl rfl Try.underlying25 (.int .i64 0) 8 info3 rfl (by decide) (by omega) 0 (ok:=fun _=>True) (okp:=fun _=>True) rfl (fun _ hk=>hk) trivial (by omega) (by omega) (Below.refl _ _) hS ?_
        intro v1 w9 ho hb hg_ hnew_
        exact hK v1 w9 ⟨hg_.os,hg_.tape,hg_.output,hg_.size,fun k hk=>hg_.block k hk (by simp)⟩ ho
      · obtain rfl:=same_ hoi rfl
        refine Kd.R_make_step (Kd.slice 3 (Kd.int .i64)) w.heap.size 25 (by rfl) (N:=11) rfl 26 _ _ rfl 2 rfl rfl Try.underlying26 (.slice none 0 0) 24 info25 rfl (by decide) (by omega) [] (ok:=fun _=>True) (okp:=fun _=>True) ⟨_,rfl,Kd.R_nil _ _ _ _ _⟩ (fun _ hk=>hk) trivial (by omega) (by omega) (Below.refl _ _) hS ?_
        intro v1 w9 ho hb hg_ hnew_
        exact hK v1 w9 ⟨hg_.os,hg_.tape,hg_.output,hg_.size,fun k hk=>hg_.block k hk (by simp)⟩ ho
      · obtain rfl:=same_ hoi rfl
        refine Kd.R_lit_step k69 w.heap.size 69 (by rfl) (N:=12) rfl (xs:=([] : List S69)) (inner:=[]) (ok:=fun _=>True) (okp:=fun _=>True) ?hr (Reps.none _ _) (fun _ hk=>hk) trivial (Below.refl _ _) hS (by simp) ?_
        case hr=>first | (go_simp;done) | (go_simp;rfl)
        intro v1 w9 ho hb hg_ hnew_
        exact hK v1 w9 ⟨hg_.os,hg_.tape,hg_.output,hg_.size,fun k hk=>hg_.block k hk (by simp)⟩ ho
      · obtain rfl:=same_ hoi rfl
        obtain ⟨g0,e0⟩:=hdep (0,9) (by simp) (by decide)
        obtain ⟨g1,e1⟩:=hdep (1,10) (by simp) (by decide)
        obtain ⟨g2,e2⟩:=hdep (2,11) (by simp) (by decide)
        obtain ⟨g3,e3⟩:=hdep (3,12) (by simp) (by decide)
        obtain ⟨B0,d0,f0⟩:=Kd.R_slice (g0 : Kd.R (Kd.int .i64) 3 w8 w.heap.size (fun _=>True) (vs 0) (List.replicate 3 0))
        obtain ⟨B1,d1,f1⟩:=Kd.R_slice (g1 : Kd.R (Kd.int .i64) 3 w8 w.heap.size (fun _=>True) (vs 1) (List.replicate 2 0))
        obtain ⟨B2,d2,f2⟩:=Kd.R_slice (g2 : Kd.R (Kd.slice 3 (Kd.int .i64)) 25 w8 w.heap.size (fun _=>True) (vs 2) (List.replicate 2 []))
        obtain ⟨B3,d3,f3⟩:=Kd.R_slice (g3 : Kd.R k69 69 w8 w.heap.size (fun _=>True) (vs 3) [])
        refine value_ (N:=some 13) (w1:=w8) (v:=.agg #[.slice none 0 0,vs 0,vs 1,vs 2,vs 3]) (by rfl) rfl ?_ (hK _ _ (Below.refl _ _) rfl)
        simp only at e0 e1 e2 e3
        rw [f0] at e0 ⊢
        rw [f1] at e1 ⊢
        rw [f2] at e2 ⊢
        rw [f3] at e3 ⊢
        clear hK hdep htm
        generalize a.eval = ρ at e0 e1 e2 e3 ⊢
        clear hB g0 g1 g2 g3 f0 f1 f2 f3
        go_simp
        try simp only [e0,e1,e2,e3]
        try rfl
      · obtain rfl:=same_ hoi rfl
        refine box_step (by rfl) (N:=3) rfl (cs:=nils5) (t:=29) ?hr ?_
        case hr=>first | (go_simp;done) | (go_simp;rfl)
        intro g1 hg1 w9 hbox hb
        exact hK _ w9 hb ⟨g1,rfl,by rw [hg1];exact hB.size,hbox⟩
    case done =>
      intro vs w8 hB hG
      have G0 : Kd.R (Kd.int .i64) 3 w8 w.heap.size (fun _=>True) (vs 0) (List.replicate 3 0):=hG (0,9) (by simp)
      have G1 : Kd.R (Kd.int .i64) 3 w8 w.heap.size (fun _=>True) (vs 1) (List.replicate 2 0):=hG (1,10) (by simp)
      have G2 : Kd.R (Kd.slice 3 (Kd.int .i64)) 25 w8 w.heap.size (fun _=>True) (vs 2) (List.replicate 2 []):=hG (2,11) (by simp)
      have G3 : Kd.R k69 69 w8 w.heap.size (fun _=>True) (vs 3) []:=hG (3,12) (by simp)
      have G4 : vs 4 = .agg #[.slice none 0 0,vs 0,vs 1,vs 2,vs 3]:=hG (4,13) (by simp)
      obtain ⟨gb1,G5,GW1,hb1⟩:=(hG (5,3) (by simp) : ∃ gb,vs 5 = .pointer (some ⟨gb,0,none⟩) ∧ w7.heap.size ≤ gb ∧ w8.heap[gb]? = some (.cells nils5 29 (0,0)))
      refine norm_ (a':=?_) ?_ ?_
      rotate_left
      · simp only [puts,List.map_cons,List.map_nil,putAll,Act.put,List.setIfInBounds_toArray,List.set_cons_zero,List.set_cons_succ,G4,G5]
        rfl
      generalize vs 0 = u0 at G0 ⊢
      generalize vs 1 = u1 at G1 ⊢
      generalize vs 2 = u2 at G2 ⊢
      generalize vs 3 = u3 at G3 ⊢
      clear G4 G5 hG vs
      obtain ⟨B0,d0,e0⟩:=Kd.R_slice G0
      obtain ⟨B1,d1,e1⟩:=Kd.R_slice G1
      obtain ⟨B2,d2,e2⟩:=Kd.R_slice G2
      obtain ⟨B3,d3,e3⟩:=Kd.R_slice G3
      rw [List.length_replicate] at e0 e1 e2
      subst e0;subst e1;subst e2;subst e3
      have HC:=Aside0.mk G0
      have HR:=Aside0.mk G1
      have HZ:=Aside0.mk G2
      have HD:=Aside0.mk G3
      have BK1:=Aside0.mk (show w8.heap[gb1]? = some (.cells #[.slice none 0 0,.slice none 0 0,.slice none 0 0,.slice none 0 0,.slice none 0 0] 29 (0,0)) from hb1)
      have NB:=Aside0.mk (show gb ≠ gb1 from by have:=blk_lt BK.out;omega)
      have NC:=Aside0.mk (show gb1 ≠ gb from by have:=blk_lt BK.out;omega)
      have GE1:=Aside0.mk (Nat.le_trans HB.out.size GW1)
      have n0_:=Aside0.mk (blk_below BK.out hB)
      have n1_:=Aside0.mk (below_step HB.out hB)
      clear BK HB G0 G1 G2 G3 GW1 hb1 hB
      have BK:=n0_
      have HB:=n1_
      clear n0_ n1_
      refine one_ (i:=6) (N:=none) #[true,true,true,true,true,true,true] rfl rfl (by kernel_rfl) (by decide) (fun K hK=>?_)
      obtain ⟨hcz_0,hcz_1,hcz_2,hcz_3,hcz_4,hfz_0,hfz_1,hfz_2,hfz_3,hfz_4⟩:=bz5_ BK1
      refine skip_ (w1:=?_) (by rfl) rfl ?_ ?_
      rotate_left
      · go_simp
        rfl
      refine hK.out _ _ trivial (fun hHeld=>?_)
      clear hK K
      refine done_ (by kernel_rfl) ?_
      try go_wp2
      have n0_ : Aside0 ((((((w8.setCell ⟨gb1,0,none⟩ (.slice none 0 0)).setCell ⟨gb1,1,none⟩ (.slice B0 3 d0)).setCell ⟨gb1,2,none⟩ (.slice B1 2 d1)).setCell ⟨gb1,3,none⟩ (.slice B2 2 d2)).setCell ⟨gb1,4,none⟩ (.slice B3 ([] : List S69).length d3)).heap[gb1]? = some (.cells #[.slice none 0 0,.slice B0 3 d0,.slice B1 2 d1,.slice B2 2 d2,.slice B3 ([] : List S69).length d3] 29 (0,0))):=⟨by apply bp5_4_;apply bp5_3_;apply bp5_2_;apply bp5_1_;apply bp5_0_;exact BK1.out⟩
      have n1_:=Aside0.mk (set5_ (.slice none 0 0) (.slice B0 3 d0) (.slice B1 2 d1) (.slice B2 2 d2) (.slice B3 ([] : List S69).length d3) HC.out BK1.out (by decide))
      have n2_:=Aside0.mk (set5_ (.slice none 0 0) (.slice B0 3 d0) (.slice B1 2 d1) (.slice B2 2 d2) (.slice B3 ([] : List S69).length d3) HR.out BK1.out (by decide))
      have n3_:=Aside0.mk (set5_ (.slice none 0 0) (.slice B0 3 d0) (.slice B1 2 d1) (.slice B2 2 d2) (.slice B3 ([] : List S69).length d3) HZ.out BK1.out (by decide))
      have n4_:=Aside0.mk (set5_ (.slice none 0 0) (.slice B0 3 d0) (.slice B1 2 d1) (.slice B2 2 d2) (.slice B3 ([] : List S69).length d3) HD.out BK1.out (by decide))
      have n5_:=Aside0.mk (blk_far (p:=⟨gb1,4,none⟩) (blk_far (p:=⟨gb1,3,none⟩) (blk_far (p:=⟨gb1,2,none⟩) (blk_far (p:=⟨gb1,1,none⟩) (blk_far (p:=⟨gb1,0,none⟩) BK.out NB.out (.slice none 0 0)) NB.out (.slice B0 3 d0)) NB.out (.slice B1 2 d1)) NB.out (.slice B2 2 d2)) NB.out (.slice B3 ([] : List S69).length d3))
      have n6_:=Aside0.mk (below_set (v:=.slice B3 ([] : List S69).length d3) (j:=4) (below_set (v:=.slice B2 2 d2) (j:=3) (below_set (v:=.slice B1 2 d1) (j:=2) (below_set (v:=.slice B0 3 d0) (j:=1) (below_set (v:=.slice none 0 0) (j:=0) HB.out GE1.out) GE1.out) GE1.out) GE1.out) GE1.out)
      clear HC HR HZ HD BK BK1 HB hcz_0 hcz_1 hcz_2 hcz_3 hcz_4 hfz_0 hfz_1 hfz_2 hfz_3 hfz_4 hHeld
      generalize (((((w8.setCell ⟨gb1,0,none⟩ (.slice none 0 0)).setCell ⟨gb1,1,none⟩ (.slice B0 3 d0)).setCell ⟨gb1,2,none⟩ (.slice B1 2 d1)).setCell ⟨gb1,3,none⟩ (.slice B2 2 d2)).setCell ⟨gb1,4,none⟩ (.slice B3 ([] : List S69).length d3)) = w9 at n0_ n1_ n2_ n3_ n4_ n5_ n6_ ⊢
      go_loopg [4] l0.length (fun gg v4 wr=>∃ (kk : Nat) (u : Value) (ys : List S59),kk ≤ l0.length ∧ l0.length - kk ≤ gg ∧ v4 = .int .i64 kk ∧ Aside0 (ys = (l0.take kk).map prO ∧ ys.length = kk) ∧ Aside0 (Kd.R (kPf wf) 59 wr w.heap.size (fun _=>True) u ys) ∧ Aside0 (Kd.R (Kd.int .i64) 3 wr w.heap.size (fun _=>True) (.slice B0 3 d0) (List.replicate 3 0)) ∧ Aside0 (Kd.R (Kd.int .i64) 3 wr w.heap.size (fun _=>True) (.slice B1 2 d1) (List.replicate 2 0)) ∧ Aside0 (Kd.R (Kd.slice 3 (Kd.int .i64)) 25 wr w.heap.size (fun _=>True) (.slice B2 2 d2) (List.replicate 2 [])) ∧ Aside0 (Kd.R k69 69 wr w.heap.size (fun _=>True) (.slice B3 ([] : List S69).length d3) []) ∧ Aside0 (wr.heap[gb]? = some (.cells #[.slice none 0 0,.slice none 0 0,.slice none 0 0,.slice none 0 0,.slice none 0 0] 29 (0,0))) ∧ Aside0 (wr.heap[gb1]? = some (.cells #[u,.slice B0 3 d0,.slice B1 2 d1,.slice B2 2 d2,.slice B3 ([] : List S69).length d3] 29 (0,0))) ∧ Aside0 (Below w.heap.size w wr))
      case atStart=>exact ⟨0,_,[],Nat.zero_le _,by omega,rfl,⟨rfl,rfl⟩,⟨Kd.R_nil _ _ _ _ _⟩,n1_,n2_,n3_,n4_,n5_,n0_,n6_⟩
      case round =>
        clear n0_ n1_ n2_ n3_ n4_ n5_ n6_
        obtain ⟨kk,uu,ys,hkk,hgk,rfl,HY,HU,HC,HR,HZ,HD,BK,BK1,HB⟩:=hrel
        obtain ⟨Av,cv,eu⟩:=Kd.R_slice HU.out
        subst eu
        by_cases hlt : kk < l0.length
        · have hltz : decide ((kk : Int) < (l0.length : Int)) = true:=decide_eq_true (by omega)
          have HLT:=Aside0.mk hlt
          have p1 : 0 ≤ (kk : Int):=by omega
          have q1 : (kk : Int) < (l0.length : Int):=by omega
          obtain ⟨ad,Al,cl,ea,hx,hl,hi⟩:=at_L5 HR0.out (kk : Int) p1 q1
          cases ea
          replace hx:=(HWF.out.cell (World.block_lt_of_cell? wf _ hx)).trans hx
          have hxo:=hx
          replace hx:=(HB.out.cell (World.block_lt_of_cell? w _ hx)).trans hx
          have hgx : rd_L5 l0 (kk : Int) = l0[kk]'hlt:=by simp [rd_L5,List.getD_eq_getElem?_getD,List.getElem?_eq_getElem hlt]
          have hmem : rd_L5 l0 (kk : Int) ∈ l0:=by rw [hgx];exact List.getElem_mem hlt
          have hdrop : (l0.take (kk + 1)).map prO = ys ++ [prO (rd_L5 l0 (kk : Int))]:=by rw [HY.out.1,hgx,List.take_succ_eq_append_getElem hlt,List.map_append];rfl
          generalize rd_L5 l0 (kk : Int) = x at hx hxo hl hi hmem hdrop
          have HLX:=Aside0.mk hi
          have HCX:=Aside0.mk hl
          have HFX:=Aside0.mk (HF0.out.1 x hmem)
          have HGR:=Aside0.mk hdrop
          simp only [Int.toNat_natCast] at hx hxo
          have HXO:=Aside0.mk hxo
          clear hi hl hgx hmem hdrop hxo
          replace p1:=eq_true p1
          replace q1:=eq_true q1
          obtain ⟨hcz_0,hcz_1,hcz_2,hcz_3,hcz_4,hfz_0,hfz_1,hfz_2,hfz_3,hfz_4⟩:=bz5_ BK1
          try go_wp2
          have m0_:=Aside0.mk (Kd.R_drew HU.out);have m1_:=Aside0.mk (Kd.R_drew HC.out);have m2_:=Aside0.mk (Kd.R_drew HR.out);have m3_:=Aside0.mk (Kd.R_drew HZ.out);have m4_:=Aside0.mk (Kd.R_drew HD.out);have m5_:=Aside0.mk (blk_drew BK.out);have m6_:=Aside0.mk (blk_drew BK1.out);have m7_:=Aside0.mk (below_drew1 HB.out)
          clear HU HC HR HZ HD BK BK1 HB
          refine start_ (n:=14) (S:=fun w'=>(w'.cell? ⟨gb1,0,none⟩ = some (.slice Av ys.length cv) ∧ w'.cell? ⟨gb1,1,none⟩ = some (.slice B0 3 d0) ∧ w'.cell? ⟨gb1,2,none⟩ = some (.slice B1 2 d1) ∧ w'.cell? ⟨gb1,3,none⟩ = some (.slice B2 2 d2) ∧ w'.cell? ⟨gb1,4,none⟩ = some (.slice B3 ([] : List S69).length d3)) ∧ w'.cell? (ad.add kk) = some (.slice Al x.length cl)) (ds:=[13]) #[false,false,false,false,false,false,false,false,false,false,false,false,false,false] (by kernel_rfl) rfl rfl ⟨⟨(blk_cell m6_.out 0).trans rfl,(blk_cell m6_.out 1).trans rfl,(blk_cell m6_.out 2).trans rfl,(blk_cell m6_.out 3).trans rfl,(blk_cell m6_.out 4).trans rfl⟩,hx⟩ (fun hHeld=>?_)
          refine with_tabW l3open_tab7 l3open_bits7 (fun HT_ HW_=>?_)
          refine pure_ (i:=0) (N:=some 20) (v:=?_) (a':=?_) #[true,false,false,false,false,false,false,false,false,false,false,false,false,false] rfl rfl (any_of HT_.out (by kernel_rfl)) (fun _ _ _ h=>h) (Or.inl ⟨by rfl,?_⟩) ?_ ?_
          rotate_left
          · intro w'
            go_simp
            with_reducible rfl
          rotate_left
          · (try simp only [Act.put,List.setIfInBounds_toArray,List.set_cons_zero,List.set_cons_succ,i64_w,i32_w])
            rfl
          refine pure_ (i:=4) (N:=some 24) (v:=?_) (a':=?_) #[true,false,false,false,true,false,false,false,false,false,false,false,false,false] rfl rfl (any_of HT_.out (by kernel_rfl)) (fun _ _ _ h=>h) (Or.inl ⟨by rfl,?_⟩) ?_ ?_
          rotate_left
          · intro w'
            go_simp
            with_reducible rfl
          rotate_left
          · (try simp only [Act.put,List.setIfInBounds_toArray,List.set_cons_zero,List.set_cons_succ,i64_w,i32_w])
            rfl
          refine pure_ (i:=5) (N:=some 25) (v:=?_) (a':=?_) #[true,false,false,false,true,true,false,false,false,false,false,false,false,false] rfl rfl (any_of HT_.out (by kernel_rfl)) (fun _ _ _ h=>h) (Or.inl ⟨by rfl,?_⟩) ?_ ?_
          rotate_left
          · intro w'
            go_simp
            with_reducible rfl
          rotate_left
          · (try simp only [Act.put,List.setIfInBounds_toArray,List.set_cons_zero,List.set_cons_succ,i64_w,i32_w])
            rfl
          refine pure_ (i:=6) (N:=some 26) (v:=?_) (a':=?_) #[true,false,false,false,true,true,true,false,false,false,false,false,false,false] rfl rfl (any_of HT_.out (by kernel_rfl)) (fun _ _ _ h=>h) (Or.inl ⟨by rfl,?_⟩) ?_ ?_
          rotate_left
          · intro w'
            go_simp
            with_reducible rfl
          rotate_left
          · (try simp only [Act.put,List.setIfInBounds_toArray,List.set_cons_zero,List.set_cons_succ,i64_w,i32_w])
            rfl
          refine take_ (i:=1) (N:=some 21) (v:=?_) (a':=?_) #[true,true,false,false,true,true,true,false,false,false,false,false,false,false] rfl rfl (take_ofW HT_.out HW_.out (by kernel_rfl)) (fun _ _ _ h=>h) (Or.inl ⟨by rfl,?_⟩) hHeld ?_ ?_
          rotate_left
          · rintro w' ⟨⟨s0,s1,s2,s3,s4⟩,s5⟩
            go_simp
            with_reducible rfl
          rotate_left
          · (try simp only [Act.put,List.setIfInBounds_toArray,List.set_cons_zero,List.set_cons_succ,i64_w,i32_w])
            rfl
          refine take_ (i:=7) (N:=some 27) (v:=?_) (a':=?_) #[true,true,false,false,true,true,true,true,false,false,false,false,false,false] rfl rfl (take_ofW HT_.out HW_.out (by kernel_rfl)) (fun _ _ _ h=>h) (Or.inl ⟨by rfl,?_⟩) hHeld ?_ ?_
          rotate_left
          · rintro w' ⟨⟨s0,s1,s2,s3,s4⟩,s5⟩
            go_simp
            with_reducible rfl
          rotate_left
          · (try simp only [Act.put,List.setIfInBounds_toArray,List.set_cons_zero,List.set_cons_succ,i64_w,i32_w])
            rfl
          generalize wr.drew = w10 at m0_ m1_ m2_ m3_ m4_ m5_ m6_ m7_ hHeld ⊢
          refine grow_ [(2,22),(3,23),(8,28)] #[true,true,true,true,true,true,true,true,true,false,false,false,false,false] 34 rfl (by kernel_rfl) (fuel:=5) rfl (gL wf w.heap.size x) (gL_mono wf w.heap.size x) ?cong ?held ?step ?done
          case cong =>
            intro g hg oi hoi vs vs' w8 v hq h
            simp only [List.mem_cons,List.not_mem_nil,or_false] at hg
            rcases hg with rfl | rfl | rfl
            · exact h
            · exact h
            · exact h
          case held =>
            intro W hb
            refine ⟨⟨?_,?_,?_,?_,?_⟩,?_⟩
            · exact (hb.cell (World.block_lt_of_cell? _ _ ((blk_cell m6_.out 0).trans rfl))).trans ((blk_cell m6_.out 0).trans rfl)
            · exact (hb.cell (World.block_lt_of_cell? _ _ ((blk_cell m6_.out 1).trans rfl))).trans ((blk_cell m6_.out 1).trans rfl)
            · exact (hb.cell (World.block_lt_of_cell? _ _ ((blk_cell m6_.out 2).trans rfl))).trans ((blk_cell m6_.out 2).trans rfl)
            · exact (hb.cell (World.block_lt_of_cell? _ _ ((blk_cell m6_.out 3).trans rfl))).trans ((blk_cell m6_.out 3).trans rfl)
            · exact (hb.cell (World.block_lt_of_cell? _ _ ((blk_cell m6_.out 4).trans rfl))).trans ((blk_cell m6_.out 4).trans rfl)
            · exact (hb.cell (World.block_lt_of_cell? _ _ hHeld.2)).trans hHeld.2
          case step =>
            intro g hg oi hoi a w8 vs hB hdep htm K hK
            have hS : w.heap.size ≤ w8.heap.size:=Nat.le_trans m7_.out.size hB.size
            simp only [List.mem_cons,List.not_mem_nil,or_false] at hg
            rcases hg with rfl | rfl | rfl
            · obtain rfl:=same_ hoi rfl
              refine Kd.R_make_step (Kd.int .i64) w.heap.size 3 (by rfl) (N:=22) rfl 25 _ _ rfl 3 rfl rfl Try.underlying25 (.int .i64 0) 8 info3 rfl (by decide) (by omega) 0 (ok:=fun _=>True) (okp:=fun _=>True) rfl (fun _ hk=>hk) trivial (by omega) (by omega) (Below.refl _ _) hS ?_
              intro v1 w9 ho hb hg_ hnew_
              exact hK v1 w9 ⟨hg_.os,hg_.tape,hg_.output,hg_.size,fun k hk=>hg_.block k hk (by simp)⟩ ho
            · obtain rfl:=same_ hoi rfl
              refine lit0_step (Kd.fixed k61 wf) w.heap.size 61 (by rfl) ?hr hS ?_
              case hr=>first | (go_simp;done) | (go_simp;rfl)
              intro g w9 hg ho hb
              exact hK _ w9 hb ⟨g,rfl,ho⟩
            · obtain rfl:=same_ hoi rfl
              obtain ⟨⟨g3,e3,ho3⟩,f3⟩:=hdep (3,23) (by simp) (by decide)
              have f7:=htm 27 (by decide)
              rw [e3] at f3
              have ho4 : Kd.R (Kd.fixed k61 wf) 61 w8 w.heap.size (fun _=>True) (.slice (some ⟨g3,0,none⟩) 0 0) []:=by rw [← e3];exact ho3
              refine lit_append_step (Kd.fixed k61 wf) w.heap.size (by rfl) (.tmp 23) (.tmp 27) 41 61 (.agg #[(.int .i64 0),(.int .i64 0),(.int .i64 0),(.int .i64 0),(.slice none 0 0),(.slice none 0 0)]) 80 rfl Try.underlying41 info61 rfl (show 0 < 6 by decide) g3 x Al x.length cl (fun _=>True) f3 (f7.trans rfl) ho4 ?hread (fun _ _ h=>h) hS ?hlen (by decide) ?_
              case hread=>exact Kd.C_below (d:=Kd.fixed k61 wf) (Kd.C_below (d:=Kd.fixed k61 wf) (Kd.C_below (d:=Kd.fixed k61 wf) HLX.out HWF.out) m7_.out) hB
              case hlen=>have:=HFX.out;omega
              intro v1 w9 ho hb
              exact hK v1 w9 hb ho
          case done =>
            intro vs w8 hB hG
            have G2 : Kd.R (Kd.int .i64) 3 w8 w.heap.size (fun _=>True) (vs 2) (List.replicate 3 0):=hG (2,22) (by simp)
            have G8 : Kd.R (Kd.fixed k61 wf) 61 w8 w.heap.size (fun _=>True) (vs 8) x:=hG (8,28) (by simp)
            obtain ⟨g3,e3,hz_⟩ : ∃ g,vs 3 = .slice (some ⟨g,0,none⟩) 0 0 ∧ Kd.R (Kd.fixed k61 wf) 61 w8 w.heap.size (fun _=>True) (vs 3) []:=hG (3,23) (by simp)
            refine norm_ (a':=?_) ?_ ?_
            rotate_left
            · simp only [puts,List.map_cons,List.map_nil,putAll,Act.put,List.setIfInBounds_toArray,List.set_cons_zero,List.set_cons_succ,e3]
              rfl
            generalize vs 2 = ua at G2 ⊢
            generalize vs 8 = ub at G8 ⊢
            clear e3 hz_ hG vs
            obtain ⟨Aa,ca,ea⟩:=Kd.R_slice G2
            obtain ⟨Ab,cb,eb⟩:=Kd.R_slice G8
            subst ea;subst eb
            have HA:=Aside0.mk G2
            have HT:=Aside0.mk G8
            have n0_:=Aside0.mk (Kd.R_below m0_.out hB);have n1_:=Aside0.mk (Kd.R_below m1_.out hB);have n2_:=Aside0.mk (Kd.R_below m2_.out hB);have n3_:=Aside0.mk (Kd.R_below m3_.out hB);have n4_:=Aside0.mk (Kd.R_below m4_.out hB);have n5_:=Aside0.mk (blk_below m5_.out hB);have n6_:=Aside0.mk (blk_below m6_.out hB);have n7_:=Aside0.mk (below_step m7_.out hB)
            clear m0_ m1_ m2_ m3_ m4_ m5_ m6_ m7_ hHeld hB G2 G8
            have HW8:=Aside0.mk (show w.heap.size ≤ w8.heap.size from n7_.out.size)
            refine pure_ (i:=9) (N:=some 29) (v:=?_) (a':=?_) #[true,true,true,true,true,true,true,true,true,true,false,false,false,false] rfl rfl (any_of HT_.out (by kernel_rfl)) (fun _ _ _ h=>h) (Or.inl ⟨by rfl,?_⟩) ?_ ?_
            rotate_left
            · intro w'
              go_simp
              with_reducible rfl
            rotate_left
            · (try simp only [Act.put,List.setIfInBounds_toArray,List.set_cons_zero,List.set_cons_succ,i64_w,i32_w])
              rfl
            refine one_ (i:=10) (N:=some 30) #[true,true,true,true,true,true,true,true,true,true,true,false,false,false] rfl rfl (one_of HT_.out (by kernel_rfl)) (by decide) (fun K hK=>?_)
            refine value_ (w1:=?_) (v:=?_) (by rfl) rfl ?_ ?_
            rotate_left 2
            · go_simp
              constructor
              · rfl
              · rfl
            refine hK.out _ _ ⟨⟨(blk_cell (blk_alloc n6_.out _) 0).trans rfl,(blk_cell (blk_alloc n6_.out _) 1).trans rfl,(blk_cell (blk_alloc n6_.out _) 2).trans rfl,(blk_cell (blk_alloc n6_.out _) 3).trans rfl,(blk_cell (blk_alloc n6_.out _) 4).trans rfl⟩,?_⟩ (fun hHeld=>?_)
            · exact ((below_alloc n7_.out _).cell (World.block_lt_of_cell? w _ HXO.out)).trans HXO.out
            clear hK K
            refine norm_ (a':=?_) ?_ ?_
            rotate_left
            · show Act.put _ (some 30) _ = _
              simp only [Act.put,List.setIfInBounds_toArray,List.set_cons_zero,List.set_cons_succ,i64_w,i32_w]
              rfl
            refine one_ (i:=11) (N:=some 31) #[true,true,true,true,true,true,true,true,true,true,true,true,false,false] rfl rfl (one_of HT_.out (by kernel_rfl)) (by decide) (fun K hK=>?_)
            refine Kd.R_append_step (kPf wf) (w0:=w) w.heap.size (by rfl) (.tmp 21) (.tmp 30) 24 59 (.agg #[(.slice none 0 0),(.slice none 0 0),(.int .i64 0),(.int .i64 0),(.int .i64 0)]) 72 rfl Try.underlying24 info59 rfl (show 0 < 5 by decide) (by omega) (.slice Av ys.length cv) ys (prO x) [.slice Aa (List.replicate 3 (0 : Int)).length ca,.slice Ab x.length cb,.int .i64 0,.int .i64 0,.int .i64 (-1)] (fun _=>True) (fun k_=>True ∧ some k_ ≠ (.slice Av ys.length cv : Value).ownBlock) rfl rfl ?aP (fun _ hk=>hk) (fun _ _=>trivial) n0_.out n7_.out HW8.out ?aL ?_
            case aP=>exact kPf_mkM wf _ _ _ (prO x) (Kd.R_apart' HA.out (Kd.R_typed n0_.out) (by decide)) (Kd.R_apart' HT.out (Kd.R_typed n0_.out) (show ∀ q,q ∈ [61] → q ≠ 59 by decide))
            case aL=>have:=HF0.out.2;have:=HLT.out;have:=HY.out.2;omega
            intro v1 w9 ho hb hg hat
            have k0_:=Aside0.mk ho
            have k1_:=Aside0.mk (Kd.R_over' n1_.out (Kd.R_typed n0_.out) (by decide) hg)
            have k2_:=Aside0.mk (Kd.R_over' n2_.out (Kd.R_typed n0_.out) (by decide) hg)
            have k3_:=Aside0.mk (Kd.R_over' n3_.out (Kd.R_typed n0_.out) (by decide) hg)
            have k4_:=Aside0.mk (Kd.R_over' n4_.out (Kd.R_typed n0_.out) (by decide) hg)
            have k5_:=Aside0.mk (blk_grown n5_.out hg (Kd.R_ne n0_.out n5_.out (by decide)))
            have k6_:=Aside0.mk (blk_grown n6_.out hg (Kd.R_ne n0_.out n6_.out (by decide)))
            have k7_:=Aside0.mk hb
            clear n0_ n1_ n2_ n3_ n4_ n5_ n6_ n7_ HA HT ho hb hg hat hHeld
            obtain ⟨A1,c1,e1⟩:=Kd.R_slice k0_.out
            subst e1
            refine hK.out _ _ ⟨⟨(blk_cell k6_.out 0).trans rfl,(blk_cell k6_.out 1).trans rfl,(blk_cell k6_.out 2).trans rfl,(blk_cell k6_.out 3).trans rfl,(blk_cell k6_.out 4).trans rfl⟩,(k7_.out.cell (World.block_lt_of_cell? w _ HXO.out)).trans HXO.out⟩ (fun hHeld=>?_)
            clear hK K
            refine norm_ (a':=?_) ?_ ?_
            rotate_left
            · show Act.put _ (some 31) _ = _
              simp only [Act.put,List.setIfInBounds_toArray,List.set_cons_zero,List.set_cons_succ,i64_w,i32_w]
              rfl
            refine pure_ (i:=12) (N:=some 32) (v:=?_) (a':=?_) #[true,true,true,true,true,true,true,true,true,true,true,true,true,false] rfl rfl (any_of HT_.out (by kernel_rfl)) (fun _ _ _ h=>h) (Or.inl ⟨by rfl,?_⟩) ?_ ?_
            rotate_left
            · intro w'
              go_simp
              with_reducible rfl
            rotate_left
            · (try simp only [Act.put,List.setIfInBounds_toArray,List.set_cons_zero,List.set_cons_succ,i64_w,i32_w])
              rfl
            refine last_ (i:=13) (N:=none) #[true,true,true,true,true,true,true,true,true,true,true,true,true,true] rfl rfl (one_of HT_.out (by kernel_rfl)) (by decide) (fun K hK=>?_)
            have hs44 : w9.cell? ⟨gb1,0,none⟩ = some (.slice Av ys.length cv):=(blk_cell k6_.out 0).trans rfl
            have hfs44:=blk_frozen k6_.out 0
            refine skip_ (w1:=?_) (by rfl) rfl ?_ ?_
            rotate_left
            · go_simp
              rfl
            refine hK.out _ _ ?_
            clear hK K
            refine done_ (done_of HT_.out (by kernel_rfl)) ?_
            try go_wp2
            go_roundg (l0.length - (kk + 1))
            case measure=>omega
            case rel =>
              have el : (ys ++ [prO x]).length = ys.length + 1:=by simp
              refine ⟨kk + 1,_,ys ++ [prO x],Nat.succ_le_of_lt HLT.out,Nat.le_refl _,(by rw [wrap_succ (by have:=HF0.out.2;have:=HLT.out;omega)]),⟨HGR.out.symm,by rw [el,HY.out.2]⟩,⟨?_⟩,⟨Kd.R_set k1_.out k6_.out (by decide) 0 _⟩,⟨Kd.R_set k2_.out k6_.out (by decide) 0 _⟩,⟨Kd.R_set k3_.out k6_.out (by decide) 0 _⟩,⟨Kd.R_set k4_.out k6_.out (by decide) 0 _⟩,⟨blk_far (p:=⟨gb1,0,none⟩) k5_.out NB.out _⟩,⟨bp5_0_ k6_.out⟩,⟨below_set k7_.out GE1.out⟩⟩
              have z:=Kd.R_set k0_.out k6_.out (kPf_29 wf) 0 (.slice A1 (ys.length + 1) c1)
              rw [el] at z
              exact z
        · have hltz : decide ((kk : Int) < (l0.length : Int)) = false:=decide_eq_false (by omega)
          have e : ys = l0.map prO:=by rw [HY.out.1,show kk = l0.length by omega,List.take_length]
          have HE:=Aside0.mk e
          clear e
          obtain ⟨hcz_0,hcz_1,hcz_2,hcz_3,hcz_4,hfz_0,hfz_1,hfz_2,hfz_3,hfz_4⟩:=bz5_ BK1
          obtain ⟨hcy_0,hcy_1,hcy_2,hcy_3,hcy_4,hfy_0,hfy_1,hfy_2,hfy_3,hfy_4⟩:=bz5_ BK
          have hnb:=NB.out;have hnc:=NC.out
          go_wp2
          refine bodyPost_ret (results_cell_row rfl _ _ gb 29 #[.slice Av ys.length cv,.slice B0 3 d0,.slice B1 2 d1,.slice B2 2 d2,.slice B3 ([] : List S69).length d3] (0,0) _ rfl (by apply bp5_4_;apply bp5_3_;apply bp5_2_;apply bp5_1_;apply bp5_0_;exact BK.out) Try.underlying29 rfl (by kernel_rfl)) rfl ?_
          have z0:=set5_ (.slice Av ys.length cv) (.slice B0 3 d0) (.slice B1 2 d1) (.slice B2 2 d2) (.slice B3 ([] : List S69).length d3) HU.out BK.out (kPf_29 wf)
          have z1:=set5_ (.slice Av ys.length cv) (.slice B0 3 d0) (.slice B1 2 d1) (.slice B2 2 d2) (.slice B3 ([] : List S69).length d3) HC.out BK.out (by decide)
          have z2:=set5_ (.slice Av ys.length cv) (.slice B0 3 d0) (.slice B1 2 d1) (.slice B2 2 d2) (.slice B3 ([] : List S69).length d3) HR.out BK.out (by decide)
          have z3:=set5_ (.slice Av ys.length cv) (.slice B0 3 d0) (.slice B1 2 d1) (.slice B2 2 d2) (.slice B3 ([] : List S69).length d3) HZ.out BK.out (by decide)
          have z4:=set5_ (.slice Av ys.length cv) (.slice B0 3 d0) (.slice B1 2 d1) (.slice B2 2 d2) (.slice B3 ([] : List S69).length d3) HD.out BK.out (by decide)
          have zb:=below_set (v:=.slice B3 ([] : List S69).length d3) (j:=4) (below_set (v:=.slice B2 2 d2) (j:=3) (below_set (v:=.slice B1 2 d1) (j:=2) (below_set (v:=.slice B0 3 d0) (j:=1) (below_set (v:=.slice Av ys.length cv) (j:=0) HB.out GE.out) GE.out) GE.out) GE.out) GE.out
          rw [HE.out] at z0
          refine ⟨_,_,_,_,_,rfl,⟨?_,z1,z2,z3,z4⟩,zb⟩
          rw [HE.out]
          exact z0
  | false =>
    clear hlen
    go_enter Try.func15,Try.ntmps15
    go_wp2_with (first | ((with_reducible refine gate_dst (N:=2) rfl ?_);refine box_event ?hg (N:=2) ?hd (cs:=#[.slice none 0 0,.slice none 0 0,.slice none 0 0,.slice none 0 0,.slice none 0 0]) (t:=29) ?hr ?_;(case hd=>rfl);(case hg=>rfl);(case hr=>first | (go_simp;done) | (go_simp;rfl));intro gb hg w5 hbox hb;have n0_:=Aside0.mk (below_step (q0_ HB) hb);have n1_:=Aside0.mk (hbox);have GE:=Aside0.mk ((by rw [hg];exact (below_size (q0_ HB)) : w.heap.size ≤ gb));clear HB;have HB:=n0_;have BK:=n1_;clear n0_ n1_;clear hb hbox hg) | (go_at_call 36;(with_reducible refine (spec_ProgOk.calls k _ _ l0 false _ ?side1 ?side2 A2.out).mono ?_);(case side1=>repeat (first | exact (Kd.C_below (Kd.C_below HR0.out HWF.out) HB.out) | (with_reducible refine Kd.C_alloc ?_ _) | (with_reducible refine Kd.C_drewN ?_ _) | (with_reducible refine Kd.C_drew ?_)));(case side2=>exact HC0.out);rintro e w6 ⟨rfl,hb⟩;have n0_:=Aside0.mk (blk_below (g:=gb) (o:=.cells #[.slice none 0 0,.slice none 0 0,.slice none 0 0,.slice none 0 0,.slice none 0 0] 29 (0,0)) (q1_ BK) hb);have n1_:=Aside0.mk (below_step (q2_ HB GE) hb);clear BK;clear HB;have BK:=n0_;have HB:=n1_;clear n0_ n1_ hb;obtain ⟨hcz_0,hcz_1,hcz_2,hcz_3,hcz_4,hfz_0,hfz_1,hfz_2,hfz_3,hfz_4⟩:=bz5_ BK))
    refine bodyPost_ret (results_cell_row rfl _ _ gb 29 #[.slice none 0 0,.slice none 0 0,.slice none 0 0,.slice none 0 0,.slice none 0 0] (0,0) _ rfl (by apply bp5_4_;apply bp5_3_;apply bp5_2_;apply bp5_1_;apply bp5_0_;exact BK.out) Try.underlying29 rfl (by kernel_rfl)) rfl ?_
    exact ⟨_,_,_,_,_,rfl,⟨rfl,rfl,rfl,rfl,rfl⟩,below_set (below_set (below_set (below_set (below_set HB.out GE.out) GE.out) GE.out) GE.out) GE.out⟩
end Go.Proofs.Ytdjkmnkgaacmfaa.P
