/- Parts of the proof of FnExactCpuTwin: plain Lean functions of Go functions, and that the calls come to what they say; no condition beyond those that each theorem names. -/
import Derived.Test.YthbflhimmmfonaaZFnExactCpuTwin15
import Derived.Test.YthbflhimmmfonaaZFnExactCpuTwin6
import Derived.Test.YthbflhimmmfonaaZFnExactCpuTwin9
import Derived.Test.YthbflhimmmfonaaZFnExactCpuTwin7
import Derived.Test.YthbflhimmmfonaaZFnExactCpuTwin10
import Derived.Test.YthbflhimmmfonaaZFnExactCpuTwin8
namespace Go.Proofs.Ythbflhimmmfonaa.P
open Go.RowKit Go.Proofs.YthbflhimmmfonaaW.PrintWords Go.Proofs.YthbflhimmmfonaaW.PrintMore
set_option linter.unusedVariables false
set_option linter.unusedSimpArgs false
def smallS : Nat → S104 → Prop
  | 0,_=>True
  | d + 1,s=>(s.f4.length ≤ 1048576 ∧ ∀ x ∈ s.f4,smallS d x) ∧ (s.f5.length ≤ 1048576 ∧ ∀ x ∈ s.f5,smallS d x)
def BdS (x : S122) : Prop:=∃ (w : World) (cs : List Value),k122.K w x cs
def BdL (l : List S122) : Prop:=∃ (w : World) (A : Option Addr),Kd.C (k122) w A l.length l
theorem bdL_len {l : List S122} (h : BdL l) : l.length ≤ 9223372036854775807:=by
  obtain ⟨w,A,h⟩:=h
  exact h.2.1
theorem bdL_elem {l : List S122} (h : BdL l) (i : Nat) (hi : i < l.length) : BdS (rd_T122 l (i : Int)):=by
  obtain ⟨w,A,h⟩:=h
  obtain ⟨ad,c,e,_,hK,_⟩:=Kd.C_get h z122 (i : Int) (by omega) (by omega)
  exact ⟨w,c,hK⟩
theorem bdS_lists {x : S122} (h : BdS x) : BdL x.f4 ∧ BdL x.f5:=by
  obtain ⟨w,cs,h⟩:=h
  obtain ⟨A4,c4,A5,c5,_,_,g4,_,g5⟩:=k122_open h
  exact ⟨⟨w,A4,g4⟩,⟨w,A5,g5⟩⟩
def CopyOf (x : S122) (t : S104) : Prop:=Ev (fun k=>laws_toStmt.f k x.f0 x.f1 x.f2 x.f3 x.f4 x.f5) (t.f0,t.f1,t.f2,t.f3,t.f4,t.f5) ∧ (∀ d,smallS d t) ∧ Ev (fun k=>laws_eqStmt.f k t.f0 t.f1 t.f2 t.f3 t.f4 t.f5 t.f0 t.f1 t.f2 t.f3 t.f4 t.f5) true
def CopyL (l : List S122) (ts : List S104) : Prop:=Ev (fun k=>laws_toStmtS.f k l) ts ∧ ts.length ≤ 1048576 ∧ (∀ t ∈ ts,∀ d,smallS d t) ∧ Ev (fun k=>laws_eqStmtS.f k ts ts) true
def Goes (x : S122) : Prop:=∀ m : Int,0 ≤ m → m ≤ 1048576 → ∃ r : Int,Ev (fun k=>laws_szStmt.f k x.f0 x.f1 x.f2 x.f3 x.f4 x.f5 m) r ∧ (r < 0 ∨ (0 ≤ r ∧ r ≤ m ∧ ∃ t,CopyOf x t))
theorem sz_loop (l : List S122) (hl : l.length ≤ 1048576) (h : ∀ i : Nat,i < l.length → Goes (rd_T122 l (i : Int))) (d : Nat) : ∀ (i : Nat) (m : Int),i + d = l.length → 0 ≤ m → m ≤ 1048576 →
    ∃ r : Int,Ev (fun k=>laws_szStmtS.l0 k l m (i : Int)) r ∧ (r < 0 ∨ (0 ≤ r ∧ r ≤ m ∧ ∀ j : Nat,i ≤ j → j < l.length → ∃ t,CopyOf (rd_T122 l (j : Int)) t)):=by
  induction d with
  | zero =>
    intro i m hi h0 h1
    refine ⟨m,?_,.inr ⟨h0,Int.le_refl _,fun j h1 h2=>absurd h2 (by omega)⟩⟩
    refine Evs.succ (fun k=>by simp only [laws_szStmtS.l0];rfl) ?_
    exact Evs.ite_neg (by omega) (Evs.some_ _)
  | succ d ih =>
    intro i m hi h0 h1
    obtain ⟨r,hr,c⟩:=h i (by omega) m h0 h1
    rcases c with c | ⟨c0,c1,c2⟩
    · refine ⟨-1,?_,.inl (by omega)⟩
      refine Evs.succ (fun k=>by simp only [laws_szStmtS.l0];rfl) ?_
      exact Evs.ite_pos (by omega) (Evs.ite_pos (by omega) (Evs.bind hr (Evs.ite_pos c (Evs.some_ _))))
    · obtain ⟨q,hq,e⟩:=ih (i + 1) r (by omega) c0 (by omega)
      refine ⟨q,?_,?_⟩
      · refine Evs.succ (fun k=>by simp only [laws_szStmtS.l0];rfl) ?_
        refine Evs.ite_pos (by omega) (Evs.ite_pos (by omega) (Evs.bind hr (Evs.ite_neg (by omega) ?_)))
        rw [wrap_succ (by omega)]
        exact hq
      · rcases e with e | ⟨e0,e1,e2⟩
        · exact .inl e
        · refine .inr ⟨e0,by omega,fun j h1 h2=>?_⟩
          by_cases hj : j = i
          · rw [hj]
            exact c2
          · exact e2 j (by omega) h2
open Classical in
noncomputable def cpy (x : S122) : S104:=if h : ∃ t,CopyOf x t then h.choose else z104
theorem cpy_of {x : S122} (h : ∃ t,CopyOf x t) : CopyOf x (cpy x):=by
  unfold cpy
  rw [dif_pos h]
  exact h.choose_spec
theorem copyL_of (l : List S122) (hl : l.length ≤ 1048576) (h : ∀ j : Nat,j < l.length → ∃ t,CopyOf (rd_T122 l (j : Int)) t) : CopyL l (l.map cpy):=by
  have hx : ∀ x ∈ l,CopyOf x (cpy x):=by
    intro x hx
    obtain ⟨i,hi,rfl⟩:=List.mem_iff_getElem.1 hx
    have:=h i hi
    unfold rd_T122 at this
    rw [Int.toNat_natCast,List.getD_eq_getElem?_getD,List.getElem?_eq_getElem hi] at this
    exact cpy_of this
  have hi' : ∀ i : Nat,i < l.length → CopyOf (rd_T122 l (i : Int)) (cpy (l.getD i z122)):=by
    intro i hi
    have e : rd_T122 l (i : Int) = l.getD i z122:=by unfold rd_T122;rw [Int.toNat_natCast]
    rw [e]
    refine hx _ ?_
    rw [List.getD_eq_getElem?_getD,List.getElem?_eq_getElem hi]
    exact List.getElem_mem hi
  refine ⟨?_,by simpa using hl,fun t ht d=>?_,?_⟩
  · refine Evs.succ (fun k=>by simp only [laws_toStmtS.f];rfl) ?_
    refine Evs.ite_pos (by omega) (Evs.ite_pos (by omega) ?_)
    rw [Int.toNat_natCast]
    refine map_loop (fun k acc i=>laws_toStmtS.l0 k l acc i) l z122 _ cpy (fun i acc r hi ha hr=>?_) (fun acc ha=>?_)
    · have hc:=(hi' i hi).1
      revert hr
      generalize cpy (l.getD i z122) = t at hc ⊢
      obtain ⟨b0,b1,b2,b3,b4,b5⟩:=t
      intro hr
      refine Evs.succ (fun k=>by simp only [laws_toStmtS.l0];rfl) ?_
      refine Evs.ite_pos (by omega) (Evs.ite_pos (by omega) (Evs.bind hc (Evs.ite_pos (by omega) ?_)))
      rw [wrap_succ (by omega),Int.toNat_natCast]
      exact hr
    · refine Evs.succ (fun k=>by simp only [laws_toStmtS.l0];rfl) ?_
      exact Evs.ite_neg (by omega) (Evs.some_ _)
  · obtain ⟨x,hx1,rfl⟩:=List.mem_map.1 ht
    exact (hx x hx1).2.1 d
  · refine Evs.succ (fun k=>by simp only [laws_eqStmtS.f];rfl) ?_
    refine Evs.ite_pos (by trivial) ?_
    refine all_true_loop (fun k i=>laws_eqStmtS.l0 k (l.map cpy) (l.map cpy) i) (l.map cpy).length (fun i r hi hr=>?_) ?_
    · have hi2 : i < l.length:=by simpa using hi
      have e : rd_T104 (l.map cpy) (i : Int) = cpy (l.getD i z122):=by
        unfold rd_T104
        rw [Int.toNat_natCast,List.getD_eq_getElem?_getD,List.getElem?_map,List.getElem?_eq_getElem hi2,List.getD_eq_getElem?_getD,List.getElem?_eq_getElem hi2]
        rfl
      refine Evs.succ (fun k=>by simp only [laws_eqStmtS.l0,e];rfl) ?_
      refine Evs.ite_pos (by omega) (Evs.ite_pos (by omega) (Evs.ite_pos (by omega) (Evs.bind (hi' i hi2).2.2 (Evs.ite_pos rfl ?_))))
      rw [wrap_succ (by rw [List.length_map] at hi;omega)]
      exact hr
    · refine Evs.succ (fun k=>by simp only [laws_eqStmtS.l0];rfl) ?_
      exact Evs.ite_neg (by omega) (Evs.some_ _)
theorem szL (l : List S122) (hb : BdL l) (h : ∀ i : Nat,i < l.length → Goes (rd_T122 l (i : Int))) (m : Int) (h0 : 0 ≤ m) (h1 : m ≤ 1048576) : ∃ r : Int,Ev (fun k=>laws_szStmtS.f k l m) r ∧ (r < 0 ∨ (0 ≤ r ∧ r ≤ m ∧ ∃ ts,CopyL l ts)):=by
  have hl:=bdL_len hb
  have ew : wrap64 (m - (l.length : Int)) = m - (l.length : Int):=wrap_id (by omega) (by omega)
  by_cases c : m - (l.length : Int) < 0
  · refine ⟨-1,?_,.inl (by omega)⟩
    refine Evs.succ (fun k=>by simp only [laws_szStmtS.f,ew];rfl) ?_
    exact Evs.ite_pos c (Evs.some_ _)
  · obtain ⟨r,hr,e⟩:=sz_loop l (by omega) h l.length 0 (m - (l.length : Int)) (by omega) (by omega) (by omega)
    refine ⟨r,?_,?_⟩
    · refine Evs.succ (fun k=>by simp only [laws_szStmtS.f,ew];rfl) ?_
      exact Evs.ite_neg c hr
    · rcases e with e | ⟨e0,e1,e2⟩
      · exact .inl e
      · exact .inr ⟨e0,by omega,_,copyL_of l (by omega) fun j hj=>e2 j (by omega) hj⟩
theorem rd_sizeOf {l : List S122} {i : Nat} (h : i < l.length) : SizeOf.sizeOf (rd_T122 l (i : Int)) < SizeOf.sizeOf l:=by
  unfold rd_T122
  rw [Int.toNat_natCast,List.getD_eq_getElem?_getD,List.getElem?_eq_getElem h]
  exact List.sizeOf_lt_of_mem (List.getElem_mem h)
theorem goes_all : ∀ (n : Nat) (x : S122),SizeOf.sizeOf x ≤ n → BdL x.f4 → BdL x.f5 → Goes x
  | 0,⟨a0,a1,a2,a3,l4,l5⟩,hn,_,_=>by simp at hn
  | n + 1,⟨a0,a1,a2,a3,l4,l5⟩,hn,b4,b5=>by
    have b4 : BdL l4:=b4
    have b5 : BdL l5:=b5
    have z : SizeOf.sizeOf l4 + SizeOf.sizeOf l5 ≤ n:=by simp at hn;omega
    have g4 : ∀ i : Nat,i < l4.length → Goes (rd_T122 l4 (i : Int)):=fun i hi=>goes_all n _ (by have:=rd_sizeOf hi;omega) (bdS_lists (bdL_elem b4 i hi)).1 (bdS_lists (bdL_elem b4 i hi)).2
    have g5 : ∀ i : Nat,i < l5.length → Goes (rd_T122 l5 (i : Int)):=fun i hi=>goes_all n _ (by have:=rd_sizeOf hi;omega) (bdS_lists (bdL_elem b5 i hi)).1 (bdS_lists (bdL_elem b5 i hi)).2
    intro m h0 h1
    obtain ⟨r,hr,c⟩:=szL l4 b4 g4 m h0 h1
    rcases c with c | ⟨c0,c1,ts4,c2⟩
    · refine ⟨-1,?_,.inl (by omega)⟩
      refine Evs.succ (fun k=>by simp only [laws_szStmt.f];rfl) ?_
      exact Evs.bind hr (Evs.ite_pos c (Evs.some_ _))
    obtain ⟨q,hq,e⟩:=szL l5 b5 g5 r c0 (by omega)
    rcases e with e | ⟨e0,e1,ts5,e2⟩
    · refine ⟨-1,?_,.inl (by omega)⟩
      refine Evs.succ (fun k=>by simp only [laws_szStmt.f];rfl) ?_
      exact Evs.bind hr (Evs.ite_neg (by omega) (Evs.bind hq (Evs.ite_pos e (Evs.some_ _))))
    refine ⟨q,?_,.inr ⟨e0,by omega,⟨a0,a1,a2,a3,ts4,ts5⟩,?_,fun d=>?_,?_⟩⟩
    · refine Evs.succ (fun k=>by simp only [laws_szStmt.f];rfl) ?_
      exact Evs.bind hr (Evs.ite_neg (by omega) (Evs.bind hq (Evs.ite_neg (by omega) (Evs.some_ _))))
    · refine Evs.succ (fun k=>by simp only [laws_toStmt.f];rfl) ?_
      exact Evs.bind c2.1 (Evs.bind e2.1 (Evs.some_ _))
    · cases d with
      | zero=>trivial
      | succ d=>exact ⟨⟨c2.2.1,fun t ht=>c2.2.2.1 t ht d⟩,e2.2.1,fun t ht=>e2.2.2.1 t ht d⟩
    · refine Evs.succ (fun k=>by simp only [laws_eqStmt.f];rfl) ?_
      exact Evs.ite_pos (by trivial) (Evs.ite_pos (by trivial) (Evs.ite_pos (by trivial) (Evs.ite_pos (by trivial) (Evs.bind c2.2.2.2 (Evs.ite_pos rfl (Evs.bind e2.2.2.2 (Evs.ite_pos rfl (Evs.some_ _))))))))
theorem lawL (l : List S122) (hb : BdL l) (m : Int) (h0 : 0 ≤ m) (h1 : m ≤ 1048576) : ∃ r : Int,Ev (fun k=>laws_szStmtS.f k l m) r ∧ (r < 0 ∨ (0 ≤ r ∧ r ≤ m ∧ ∃ ts,CopyL l ts)) :=
  szL l hb (fun i hi=>goes_all _ _ (Nat.le_refl _) (bdS_lists (bdL_elem hb i hi)).1 (bdS_lists (bdL_elem hb i hi)).2) m h0 h1
theorem CopyL.eq {l : List S122} {ts : List S104} (c : CopyL l ts) : Ev (fun k=>laws_eqStmtS.f k ts ts) true:=c.2.2.2
end Go.Proofs.Ythbflhimmmfonaa.P

namespace Go.Proofs.Ythbflhimmmfonaa.P
open Go.RowKit Go.Proofs.YthbflhimmmfonaaW.PrintWords Go.Proofs.YthbflhimmmfonaaW.PrintMore
set_option linter.unusedVariables false
set_option linter.unusedSimpArgs false
theorem rd_get {l : List Int} {i : Nat} (h : i < l.length) : rd l (i : Int) = l.getD i 0:=by
  unfold rd
  rw [Int.toNat_natCast]
def Left (m : Int) (p : Prop) (r : Int) : Prop:=r < 0 ∨ (0 ≤ r ∧ r ≤ m ∧ p)
theorem szI (l : List Int) (hl : l.length ≤ 9223372036854775807) (m : Int) (h0 : 0 ≤ m) (h1 : m ≤ 1048576) : ∃ r,laws_szIntS.f l m = some r ∧ Left m (l.length ≤ 1048576) r:=by
  have ew : wrap64 (m - (l.length : Int)) = m - (l.length : Int):=wrap_id (by omega) (by omega)
  unfold laws_szIntS.f
  rw [ew]
  by_cases c : m - (l.length : Int) < 0
  · exact ⟨-1,if_pos c,.inl (by omega)⟩
  · exact ⟨_,if_neg c,.inr ⟨by omega,by omega,by omega⟩⟩
theorem szSays (l : List S112) (hl : l.length ≤ 9223372036854775807) (m : Int) (h0 : 0 ≤ m) (h1 : m ≤ 1048576) : ∃ r,laws_szSayS.f l m = some r ∧ Left m (l.length ≤ 1048576) r:=by
  have ew : wrap64 (m - (l.length : Int)) = m - (l.length : Int):=wrap_id (by omega) (by omega)
  unfold laws_szSayS.f
  rw [ew]
  by_cases c : m - (l.length : Int) < 0
  · exact ⟨-1,if_pos c,.inl (by omega)⟩
  · exact ⟨_,if_neg c,.inr ⟨by omega,by omega,by omega⟩⟩
theorem toI (l : List Int) (hl : l.length ≤ 1048576) : Ev (fun k=>laws_toIntS.f k l) l:=by
  unfold laws_toIntS.f
  refine Evs.ite_pos (by omega) (Evs.ite_pos (by omega) ?_)
  rw [Int.toNat_natCast]
  have q:=map_loop (fun k acc i=>laws_toIntS.l0 k l acc i) l 0 0 id (fun i acc r hi ha hr=>?_) (fun acc ha=>?_)
  · rwa [List.map_id] at q
  · refine Evs.succ (fun k=>by simp only [laws_toIntS.l0];rfl) ?_
    refine Evs.ite_pos (by omega) (Evs.ite_pos (by omega) (Evs.ite_pos (by omega) ?_))
    rw [wrap_succ (by omega),rd_get hi,Int.toNat_natCast]
    exact hr
  · refine Evs.succ (fun k=>by simp only [laws_toIntS.l0];rfl) ?_
    exact Evs.ite_neg (by omega) (Evs.some_ _)
theorem eqI (l : List Int) (hl : l.length ≤ 1048576) : Ev (fun k=>laws_eqIntS.f k l l) true:=by
  unfold laws_eqIntS.f
  refine Evs.ite_pos (by trivial) (all_true_loop (fun k i=>laws_eqIntS.l0 k l l i) l.length (fun i r hi hr=>?_) ?_)
  · refine Evs.succ (fun k=>by simp only [laws_eqIntS.l0];rfl) ?_
    refine Evs.ite_pos (by omega) (Evs.ite_pos (by omega) (Evs.ite_pos (by omega) (Evs.ite_pos (by trivial) ?_)))
    rw [wrap_succ (by omega)]
    exact hr
  · refine Evs.succ (fun k=>by simp only [laws_eqIntS.l0];rfl) ?_
    exact Evs.ite_neg (by omega) (Evs.some_ _)
def sayOf (x : S112) : S74:=⟨x.f0,x.f1⟩
theorem toSays (l : List S112) (hl : l.length ≤ 1048576) : Ev (fun k=>laws_toSayS.f k l) (l.map sayOf):=by
  unfold laws_toSayS.f
  refine Evs.ite_pos (by omega) (Evs.ite_pos (by omega) ?_)
  rw [Int.toNat_natCast]
  refine map_loop (fun k acc i=>laws_toSayS.l0 k l acc i) l z112 _ sayOf (fun i acc r hi ha hr=>?_) (fun acc ha=>?_)
  · refine Evs.succ (fun k=>by simp only [laws_toSayS.l0];rfl) ?_
    refine Evs.ite_pos (by omega) (Evs.ite_pos (by omega) (Evs.bind0 rfl (Evs.ite_pos (by omega) ?_)))
    rw [wrap_succ (by omega)]
    unfold rd_T112
    rw [Int.toNat_natCast]
    exact hr
  · refine Evs.succ (fun k=>by simp only [laws_toSayS.l0];rfl) ?_
    exact Evs.ite_neg (by omega) (Evs.some_ _)
theorem eqSays (l : List S74) (hl : l.length ≤ 1048576) : Ev (fun k=>laws_eqSayS.f k l l) true:=by
  unfold laws_eqSayS.f
  refine Evs.ite_pos (by trivial) (all_true_loop (fun k i=>laws_eqSayS.l0 k l l i) l.length (fun i r hi hr=>?_) ?_)
  · refine Evs.succ (fun k=>by simp only [laws_eqSayS.l0];rfl) ?_
    refine Evs.ite_pos (by omega) (Evs.ite_pos (by omega) (Evs.ite_pos (by omega) (Evs.bind0 (b:=true) (by unfold laws_eqSay.f;rw [if_pos rfl,if_pos rfl]) (Evs.ite_pos rfl ?_))))
    rw [wrap_succ (by omega)]
    exact hr
  · refine Evs.succ (fun k=>by simp only [laws_eqSayS.l0];rfl) ?_
    exact Evs.ite_neg (by omega) (Evs.some_ _)
def Rows1 (l : List (List Int)) : Prop:=l.length ≤ 1048576 ∧ ∀ x ∈ l,x.length ≤ 1048576
theorem getL {l : List (List Int)} {i : Nat} (h : i < l.length) : l.getD i [] ∈ l:=by
  rw [List.getD_eq_getElem?_getD,List.getElem?_eq_getElem h]
  exact List.getElem_mem h
theorem szII_loop (l : List (List Int)) (hl : l.length ≤ 1048576) (hb : ∀ x ∈ l,x.length ≤ 9223372036854775807) (d : Nat) : ∀ (i : Nat) (m : Int),i + d = l.length → 0 ≤ m → m ≤ 1048576 →
    ∃ r : Int,Ev (fun k=>laws_szIntSS.l0 k l m (i : Int)) r ∧ Left m (∀ j : Nat,i ≤ j → j < l.length → (l.getD j []).length ≤ 1048576) r:=by
  induction d with
  | zero =>
    intro i m hi h0 h1
    refine ⟨m,?_,.inr ⟨h0,Int.le_refl _,fun j h1 h2=>absurd h2 (by omega)⟩⟩
    refine Evs.succ (fun k=>by simp only [laws_szIntSS.l0];rfl) ?_
    exact Evs.ite_neg (by omega) (Evs.some_ _)
  | succ d ih =>
    intro i m hi h0 h1
    have hlt : i < l.length:=by omega
    obtain ⟨r,hr,c⟩:=szI (l.getD (i : Int).toNat []) (by rw [Int.toNat_natCast];exact hb _ (getL hlt)) m h0 h1
    rcases c with c | ⟨c0,c1,c2⟩
    · refine ⟨-1,?_,.inl (by omega)⟩
      refine Evs.succ (fun k=>by simp only [laws_szIntSS.l0];rfl) ?_
      exact Evs.ite_pos (by omega) (Evs.ite_pos (by omega) (Evs.bind0 hr (Evs.ite_pos c (Evs.some_ _))))
    · obtain ⟨q,hq,e⟩:=ih (i + 1) r (by omega) c0 (by omega)
      refine ⟨q,?_,?_⟩
      · refine Evs.succ (fun k=>by simp only [laws_szIntSS.l0];rfl) ?_
        refine Evs.ite_pos (by omega) (Evs.ite_pos (by omega) (Evs.bind0 hr (Evs.ite_neg (by omega) ?_)))
        rw [wrap_succ (by omega)]
        exact hq
      · rcases e with e | ⟨e0,e1,e2⟩
        · exact .inl e
        · refine .inr ⟨e0,by omega,fun j h1 h2=>?_⟩
          by_cases hj : j = i
          · rw [hj]
            rwa [Int.toNat_natCast] at c2
          · exact e2 j (by omega) h2
theorem szII (l : List (List Int)) (hl : l.length ≤ 9223372036854775807) (hb : ∀ x ∈ l,x.length ≤ 9223372036854775807) (m : Int) (h0 : 0 ≤ m) (h1 : m ≤ 1048576) : ∃ r : Int,Ev (fun k=>laws_szIntSS.f k l m) r ∧ Left m (Rows1 l) r:=by
  have ew : wrap64 (m - (l.length : Int)) = m - (l.length : Int):=wrap_id (by omega) (by omega)
  unfold laws_szIntSS.f
  rw [ew]
  by_cases c : m - (l.length : Int) < 0
  · exact ⟨-1,Evs.ite_pos c (Evs.some_ _),.inl (by omega)⟩
  · obtain ⟨r,hr,e⟩:=szII_loop l (by omega) hb l.length 0 (m - (l.length : Int)) (by omega) (by omega) (by omega)
    refine ⟨r,Evs.ite_neg c hr,?_⟩
    rcases e with e | ⟨e0,e1,e2⟩
    · exact .inl e
    · refine .inr ⟨e0,by omega,by omega,fun x hx=>?_⟩
      obtain ⟨i,hi,rfl⟩:=List.mem_iff_getElem.1 hx
      have:=e2 i (by omega) hi
      rwa [List.getD_eq_getElem?_getD,List.getElem?_eq_getElem hi] at this
theorem toII (l : List (List Int)) (h : Rows1 l) : Ev (fun k=>laws_toIntSS.f k l) l:=by
  have hl:=h.1
  unfold laws_toIntSS.f
  refine Evs.ite_pos (by omega) (Evs.ite_pos (by omega) ?_)
  rw [Int.toNat_natCast]
  have q:=map_loop (fun k acc i=>laws_toIntSS.l0 k l acc i) l [] [] id (fun i acc r hi ha hr=>?_) (fun acc ha=>?_)
  · rwa [List.map_id] at q
  · have t:=toI (l.getD (i : Int).toNat []) (by rw [Int.toNat_natCast];exact h.2 _ (getL hi))
    refine Evs.succ (fun k=>by simp only [laws_toIntSS.l0];rfl) ?_
    refine Evs.ite_pos (by omega) (Evs.ite_pos (by omega) (Evs.bind t (Evs.ite_pos (by omega) ?_)))
    rw [wrap_succ (by omega),Int.toNat_natCast]
    exact hr
  · refine Evs.succ (fun k=>by simp only [laws_toIntSS.l0];rfl) ?_
    exact Evs.ite_neg (by omega) (Evs.some_ _)
theorem eqII (l : List (List Int)) (h : Rows1 l) : Ev (fun k=>laws_eqIntSS.f k l l) true:=by
  have hl:=h.1
  unfold laws_eqIntSS.f
  refine Evs.ite_pos (by trivial) (all_true_loop (fun k i=>laws_eqIntSS.l0 k l l i) l.length (fun i r hi hr=>?_) ?_)
  · have t:=eqI (l.getD (i : Int).toNat []) (by rw [Int.toNat_natCast];exact h.2 _ (getL hi))
    refine Evs.succ (fun k=>by simp only [laws_eqIntSS.l0];rfl) ?_
    refine Evs.ite_pos (by omega) (Evs.ite_pos (by omega) (Evs.ite_pos (by omega) (Evs.bind t (Evs.ite_pos rfl ?_))))
    rw [wrap_succ (by omega)]
    exact hr
  · refine Evs.succ (fun k=>by simp only [laws_eqIntSS.l0];rfl) ?_
    exact Evs.ite_neg (by omega) (Evs.some_ _)
def BdP (x : S117) : Prop:=x.f0.length ≤ 9223372036854775807 ∧ BdL x.f1
def BdPs (l : List S117) : Prop:=∃ (w : World) (A : Option Addr),Kd.C k117 w A l.length l
theorem bdPs_elem {l : List S117} (h : BdPs l) {i : Nat} (hi : i < l.length) : BdP (rd_T117 l (i : Int)):=by
  obtain ⟨w,A,h⟩:=h
  obtain ⟨ad,c,e,_,hK,_⟩:=Kd.C_get h z117 (i : Int) (by omega) (by omega)
  obtain ⟨A0,c0,A1,c1,_,_,g0,_,g1⟩:=k117_open hK
  exact ⟨g0.2.1,w,A1,g1⟩
def GoodP (x : S117) : Prop:=x.f0.length ≤ 1048576 ∧ ∃ ts,CopyL x.f1 ts
open Classical in
noncomputable def cpyP (x : S117) : S84:=⟨x.f0,if h : ∃ ts,CopyL x.f1 ts then h.choose else [],x.f2,x.f3,x.f4⟩
theorem cpyP_of {x : S117} (h : GoodP x) : CopyL x.f1 (cpyP x).f1:=by
  unfold cpyP
  simp only [dif_pos h.2]
  exact h.2.choose_spec
theorem szP (x : S117) (hb : BdP x) (m : Int) (h0 : 0 ≤ m) (h1 : m ≤ 1048576) : ∃ r : Int,Ev (fun k=>laws_szProc.f k x.f0 x.f1 x.f2 x.f3 x.f4 m) r ∧ Left m (GoodP x) r:=by
  unfold laws_szProc.f
  obtain ⟨r,hr,c⟩:=szI x.f0 hb.1 m h0 h1
  rcases c with c | ⟨c0,c1,c2⟩
  · exact ⟨-1,Evs.bind0 hr (Evs.ite_pos c (Evs.some_ _)),.inl (by omega)⟩
  obtain ⟨q,hq,c⟩:=lawL x.f1 hb.2 r c0 (by omega)
  rcases c with c | ⟨d0,d1,d2⟩
  · exact ⟨-1,Evs.bind0 hr (Evs.ite_neg (by omega) (Evs.bind hq (Evs.ite_pos c (Evs.some_ _)))),.inl (by omega)⟩
  · exact ⟨q,Evs.bind0 hr (Evs.ite_neg (by omega) (Evs.bind hq (Evs.ite_neg (by omega) (Evs.some_ _)))),.inr ⟨d0,by omega,c2,d2⟩⟩
theorem szPs_loop (l : List S117) (hl : l.length ≤ 1048576) (hb : BdPs l) (d : Nat) : ∀ (i : Nat) (m : Int),i + d = l.length → 0 ≤ m → m ≤ 1048576 →
    ∃ r : Int,Ev (fun k=>laws_szProcS.l0 k l m (i : Int)) r ∧ Left m (∀ j : Nat,i ≤ j → j < l.length → GoodP (rd_T117 l (j : Int))) r:=by
  induction d with
  | zero =>
    intro i m hi h0 h1
    refine ⟨m,?_,.inr ⟨h0,Int.le_refl _,fun j h1 h2=>absurd h2 (by omega)⟩⟩
    refine Evs.succ (fun k=>by simp only [laws_szProcS.l0];rfl) ?_
    exact Evs.ite_neg (by omega) (Evs.some_ _)
  | succ d ih =>
    intro i m hi h0 h1
    obtain ⟨r,hr,c⟩:=szP _ (bdPs_elem hb (i:=i) (by omega)) m h0 h1
    rcases c with c | ⟨c0,c1,c2⟩
    · refine ⟨-1,?_,.inl (by omega)⟩
      refine Evs.succ (fun k=>by simp only [laws_szProcS.l0];rfl) ?_
      exact Evs.ite_pos (by omega) (Evs.ite_pos (by omega) (Evs.bind hr (Evs.ite_pos c (Evs.some_ _))))
    · obtain ⟨q,hq,e⟩:=ih (i + 1) r (by omega) c0 (by omega)
      refine ⟨q,?_,?_⟩
      · refine Evs.succ (fun k=>by simp only [laws_szProcS.l0];rfl) ?_
        refine Evs.ite_pos (by omega) (Evs.ite_pos (by omega) (Evs.bind hr (Evs.ite_neg (by omega) ?_)))
        rw [wrap_succ (by omega)]
        exact hq
      · rcases e with e | ⟨e0,e1,e2⟩
        · exact .inl e
        · refine .inr ⟨e0,by omega,fun j h1 h2=>?_⟩
          by_cases hj : j = i
          · rw [hj]
            exact c2
          · exact e2 j (by omega) h2
def GoodPs (l : List S117) : Prop:=l.length ≤ 1048576 ∧ ∀ x ∈ l,GoodP x
theorem szPs (l : List S117) (hb : BdPs l) (m : Int) (h0 : 0 ≤ m) (h1 : m ≤ 1048576) : ∃ r : Int,Ev (fun k=>laws_szProcS.f k l m) r ∧ Left m (GoodPs l) r:=by
  have hl : l.length ≤ 9223372036854775807:=by
    obtain ⟨w,A,h⟩:=hb
    exact h.2.1
  have ew : wrap64 (m - (l.length : Int)) = m - (l.length : Int):=wrap_id (by omega) (by omega)
  unfold laws_szProcS.f
  rw [ew]
  by_cases c : m - (l.length : Int) < 0
  · exact ⟨-1,Evs.ite_pos c (Evs.some_ _),.inl (by omega)⟩
  · obtain ⟨r,hr,e⟩:=szPs_loop l (by omega) hb l.length 0 (m - (l.length : Int)) (by omega) (by omega) (by omega)
    refine ⟨r,Evs.ite_neg c hr,?_⟩
    rcases e with e | ⟨e0,e1,e2⟩
    · exact .inl e
    · refine .inr ⟨e0,by omega,by omega,fun x hx=>?_⟩
      obtain ⟨i,hi,rfl⟩:=List.mem_iff_getElem.1 hx
      have:=e2 i (by omega) hi
      unfold rd_T117 at this
      rwa [Int.toNat_natCast,List.getD_eq_getElem?_getD,List.getElem?_eq_getElem hi] at this
theorem getP {l : List S117} {i : Nat} (h : i < l.length) : l.getD i z117 ∈ l:=by
  rw [List.getD_eq_getElem?_getD,List.getElem?_eq_getElem h]
  exact List.getElem_mem h
theorem toPs (l : List S117) (h : GoodPs l) : Ev (fun k=>laws_toProcS.f k l) (l.map cpyP):=by
  have hl:=h.1
  unfold laws_toProcS.f
  refine Evs.ite_pos (by omega) (Evs.ite_pos (by omega) ?_)
  rw [Int.toNat_natCast]
  refine map_loop (fun k acc i=>laws_toProcS.l0 k l acc i) l z117 _ cpyP (fun i acc r hi ha hr=>?_) (fun acc ha=>?_)
  · have g:=h.2 _ (getP hi)
    have t : Ev (fun k=>laws_toProc.f k (l.getD i z117).f0 (l.getD i z117).f1 (l.getD i z117).f2 (l.getD i z117).f3 (l.getD i z117).f4) ((l.getD i z117).f0,(cpyP (l.getD i z117)).f1,(l.getD i z117).f2,(l.getD i z117).f3,(l.getD i z117).f4):=by
      unfold laws_toProc.f
      exact Evs.bind (toI _ g.1) (Evs.bind (cpyP_of g).1 (Evs.some_ _))
    have e : rd_T117 l (i : Int) = l.getD i z117:=by unfold rd_T117;rw [Int.toNat_natCast]
    refine Evs.succ (fun k=>by simp only [laws_toProcS.l0,e];rfl) ?_
    refine Evs.ite_pos (by omega) (Evs.ite_pos (by omega) (Evs.bind t (Evs.ite_pos (by omega) ?_)))
    rw [wrap_succ (by omega),Int.toNat_natCast]
    exact hr
  · refine Evs.succ (fun k=>by simp only [laws_toProcS.l0];rfl) ?_
    exact Evs.ite_neg (by omega) (Evs.some_ _)
theorem eqPs (l : List S117) (h : GoodPs l) : Ev (fun k=>laws_eqProcS.f k (l.map cpyP) (l.map cpyP)) true:=by
  have hl:=h.1
  unfold laws_eqProcS.f
  refine Evs.ite_pos (by trivial) (all_true_loop (fun k i=>laws_eqProcS.l0 k (l.map cpyP) (l.map cpyP) i) (l.map cpyP).length (fun i r hi hr=>?_) ?_)
  · have hi2 : i < l.length:=by simpa using hi
    have g:=h.2 _ (getP hi2)
    have e : rd_T84 (l.map cpyP) (i : Int) = cpyP (l.getD i z117):=by
      unfold rd_T84
      rw [Int.toNat_natCast,List.getD_eq_getElem?_getD,List.getElem?_map,List.getElem?_eq_getElem hi2,List.getD_eq_getElem?_getD,List.getElem?_eq_getElem hi2]
      rfl
    have t : Ev (fun k=>laws_eqProc.f k (cpyP (l.getD i z117)).f0 (cpyP (l.getD i z117)).f1 (cpyP (l.getD i z117)).f2 (cpyP (l.getD i z117)).f3 (cpyP (l.getD i z117)).f4 (cpyP (l.getD i z117)).f0 (cpyP (l.getD i z117)).f1 (cpyP (l.getD i z117)).f2 (cpyP (l.getD i z117)).f3 (cpyP (l.getD i z117)).f4) true:=by
      unfold laws_eqProc.f
      exact Evs.bind (eqI _ g.1) (Evs.ite_pos rfl (Evs.bind (cpyP_of g).eq (Evs.ite_pos rfl (Evs.ite_pos (by trivial) (Evs.ite_pos (by trivial) (Evs.ite_pos (by trivial) (Evs.some_ _)))))))
    refine Evs.succ (fun k=>by simp only [laws_eqProcS.l0,e];rfl) ?_
    refine Evs.ite_pos (by omega) (Evs.ite_pos (by omega) (Evs.ite_pos (by omega) (Evs.bind t (Evs.ite_pos rfl ?_))))
    rw [wrap_succ (by rw [List.length_map] at hi;omega)]
    exact hr
  · refine Evs.succ (fun k=>by simp only [laws_eqProcS.l0];rfl) ?_
    exact Evs.ite_neg (by omega) (Evs.some_ _)
structure GoodW (p : List S117) (c r : List Int) (s : List (List Int)) (d : List S112) : Prop where
  p : GoodPs p
  c : c.length ≤ 1048576
  r : r.length ≤ 1048576
  s : Rows1 s
  d : d.length ≤ 1048576
def BdII (l : List (List Int)) : Prop:=∃ (w : World) (A : Option Addr),Kd.C (Kd.slice 3 (Kd.int .i64)) w A l.length l
theorem bdII {l : List (List Int)} (h : BdII l) : l.length ≤ 9223372036854775807 ∧ ∀ x ∈ l,x.length ≤ 9223372036854775807:=by
  obtain ⟨w,A,h⟩:=h
  refine ⟨h.2.1,fun x hx=>?_⟩
  obtain ⟨i,hi,rfl⟩:=List.mem_iff_getElem.1 hx
  obtain ⟨ad,c,e,_,hK,_⟩:=Kd.C_get h ([] : List Int) (i : Int) (by omega) (by omega)
  obtain ⟨A0,c0,_,_,g⟩:=hK
  have:=g.2.1
  rwa [Int.toNat_natCast,List.getD_eq_getElem?_getD,List.getElem?_eq_getElem hi] at this
theorem szW (p : List S117) (c r : List Int) (s : List (List Int)) (d : List S112) (hp : BdPs p) (hc : c.length ≤ 9223372036854775807) (hr : r.length ≤ 9223372036854775807) (hs : BdII s) (hd : d.length ≤ 9223372036854775807) (m : Int) (h0 : 0 ≤ m) (h1 : m ≤ 1048576) :
    ∃ q : Int,Ev (fun k=>laws_szWorld.f k p c r s d m) q ∧ Left m (GoodW p c r s d) q:=by
  unfold laws_szWorld.f
  obtain ⟨r1,e1,c1⟩:=szPs p hp m h0 h1
  rcases c1 with c1 | ⟨a1,b1,g1⟩
  · exact ⟨-1,Evs.bind e1 (Evs.ite_pos c1 (Evs.some_ _)),.inl (by omega)⟩
  obtain ⟨r2,e2,c2⟩:=szI c hc r1 a1 (by omega)
  rcases c2 with c2 | ⟨a2,b2,g2⟩
  · exact ⟨-1,Evs.bind e1 (Evs.ite_neg (by omega) (Evs.bind0 e2 (Evs.ite_pos c2 (Evs.some_ _)))),.inl (by omega)⟩
  obtain ⟨r3,e3,c3⟩:=szI r hr r2 a2 (by omega)
  rcases c3 with c3 | ⟨a3,b3,g3⟩
  · exact ⟨-1,Evs.bind e1 (Evs.ite_neg (by omega) (Evs.bind0 e2 (Evs.ite_neg (by omega) (Evs.bind0 e3 (Evs.ite_pos c3 (Evs.some_ _)))))),.inl (by omega)⟩
  obtain ⟨r4,e4,c4⟩:=szII s (bdII hs).1 (bdII hs).2 r3 a3 (by omega)
  rcases c4 with c4 | ⟨a4,b4,g4⟩
  · exact ⟨-1,Evs.bind e1 (Evs.ite_neg (by omega) (Evs.bind0 e2 (Evs.ite_neg (by omega) (Evs.bind0 e3 (Evs.ite_neg (by omega) (Evs.bind e4 (Evs.ite_pos c4 (Evs.some_ _)))))))),.inl (by omega)⟩
  obtain ⟨r5,e5,c5⟩:=szSays d hd r4 a4 (by omega)
  rcases c5 with c5 | ⟨a5,b5,g5⟩
  · exact ⟨-1,Evs.bind e1 (Evs.ite_neg (by omega) (Evs.bind0 e2 (Evs.ite_neg (by omega) (Evs.bind0 e3 (Evs.ite_neg (by omega) (Evs.bind e4 (Evs.ite_neg (by omega) (Evs.bind0 e5 (Evs.ite_pos c5 (Evs.some_ _)))))))))),.inl (by omega)⟩
  · exact ⟨r5,Evs.bind e1 (Evs.ite_neg (by omega) (Evs.bind0 e2 (Evs.ite_neg (by omega) (Evs.bind0 e3 (Evs.ite_neg (by omega) (Evs.bind e4 (Evs.ite_neg (by omega) (Evs.bind0 e5 (Evs.ite_neg (by omega) (Evs.some_ _)))))))))),.inr ⟨a5,by omega,g1,g2,g3,g4,g5⟩⟩
theorem toW {p : List S117} {c r : List Int} {s : List (List Int)} {d : List S112} (h : GoodW p c r s d) : Ev (fun k=>laws_toWorld.f k p c r s d) (p.map cpyP,c,r,s,d.map sayOf):=by
  unfold laws_toWorld.f
  exact Evs.bind (toPs p h.p) (Evs.bind (toI c h.c) (Evs.bind (toI r h.r) (Evs.bind (toII s h.s) (Evs.bind (toSays d h.d) (Evs.some_ _)))))
theorem eqW {p : List S117} {c r : List Int} {s : List (List Int)} {d : List S112} (h : GoodW p c r s d) : Ev (fun k=>laws_eqWorld.f k (p.map cpyP) c r s (d.map sayOf) (p.map cpyP) c r s (d.map sayOf)) true:=by
  unfold laws_eqWorld.f
  exact Evs.bind (eqPs p h.p) (Evs.ite_pos rfl (Evs.bind (eqI c h.c) (Evs.ite_pos rfl (Evs.bind (eqI r h.r) (Evs.ite_pos rfl (Evs.bind (eqII s h.s) (Evs.ite_pos rfl (Evs.bind (eqSays _ (by rw [List.length_map];exact h.d)) (Evs.ite_pos rfl (Evs.some_ _))))))))))
end Go.Proofs.Ythbflhimmmfonaa.P

namespace Go.Proofs.Ythbflhimmmfonaa.P
open Go.RowKit Go.Proofs.YthbflhimmmfonaaW.PrintWords Go.Proofs.YthbflhimmmfonaaW.PrintMore
set_option linter.unusedVariables false
set_option linter.unusedSimpArgs false
def BdCs (l : List S109) : Prop:=∃ (w : World) (A : Option Addr),Kd.C k109 w A l.length l
theorem bdCs_elem {l : List S109} (h : BdCs l) {i : Nat} (hi : i < l.length) : (rd_T109 l (i : Int)).f0.length ≤ 9223372036854775807:=by
  obtain ⟨w,A,h⟩:=h
  obtain ⟨ad,c,e,_,hK,_⟩:=Kd.C_get h z109 (i : Int) (by omega) (by omega)
  obtain ⟨A0,c0,_,_,g0⟩:=k109_open hK
  exact g0.2.1
def cpyC (x : S109) : S67:=⟨x.f0,x.f1,x.f2,x.f3,x.f4⟩
theorem szCt (x : S109) (hb : x.f0.length ≤ 9223372036854775807) (m : Int) (h0 : 0 ≤ m) (h1 : m ≤ 1048576) : ∃ r : Int,laws_szCtx.f x.f0 x.f1 x.f2 x.f3 x.f4 m = some r ∧ Left m (x.f0.length ≤ 1048576) r:=by
  obtain ⟨r,hr,c⟩:=szI x.f0 hb m h0 h1
  unfold laws_szCtx.f
  rw [hr]
  rcases c with c | ⟨c0,c1,c2⟩
  · exact ⟨-1,if_pos c,.inl (by omega)⟩
  · exact ⟨r,if_neg (by omega),.inr ⟨c0,c1,c2⟩⟩
theorem szCs_loop (l : List S109) (hl : l.length ≤ 1048576) (hb : BdCs l) (d : Nat) : ∀ (i : Nat) (m : Int),i + d = l.length → 0 ≤ m → m ≤ 1048576 →
    ∃ r : Int,Ev (fun k=>laws_szCtxS.l0 k l m (i : Int)) r ∧ Left m (∀ j : Nat,i ≤ j → j < l.length → (rd_T109 l (j : Int)).f0.length ≤ 1048576) r:=by
  induction d with
  | zero =>
    intro i m hi h0 h1
    refine ⟨m,?_,.inr ⟨h0,Int.le_refl _,fun j h1 h2=>absurd h2 (by omega)⟩⟩
    refine Evs.succ (fun k=>by simp only [laws_szCtxS.l0];rfl) ?_
    exact Evs.ite_neg (by omega) (Evs.some_ _)
  | succ d ih =>
    intro i m hi h0 h1
    obtain ⟨r,hr,c⟩:=szCt _ (bdCs_elem hb (i:=i) (by omega)) m h0 h1
    rcases c with c | ⟨c0,c1,c2⟩
    · refine ⟨-1,?_,.inl (by omega)⟩
      refine Evs.succ (fun k=>by simp only [laws_szCtxS.l0];rfl) ?_
      exact Evs.ite_pos (by omega) (Evs.ite_pos (by omega) (Evs.bind0 hr (Evs.ite_pos c (Evs.some_ _))))
    · obtain ⟨q,hq,e⟩:=ih (i + 1) r (by omega) c0 (by omega)
      refine ⟨q,?_,?_⟩
      · refine Evs.succ (fun k=>by simp only [laws_szCtxS.l0];rfl) ?_
        refine Evs.ite_pos (by omega) (Evs.ite_pos (by omega) (Evs.bind0 hr (Evs.ite_neg (by omega) ?_)))
        rw [wrap_succ (by omega)]
        exact hq
      · rcases e with e | ⟨e0,e1,e2⟩
        · exact .inl e
        · refine .inr ⟨e0,by omega,fun j h1 h2=>?_⟩
          by_cases hj : j = i
          · rw [hj]
            exact c2
          · exact e2 j (by omega) h2
def GoodCs (l : List S109) : Prop:=l.length ≤ 1048576 ∧ ∀ x ∈ l,x.f0.length ≤ 1048576
theorem szCs (l : List S109) (hb : BdCs l) (m : Int) (h0 : 0 ≤ m) (h1 : m ≤ 1048576) : ∃ r : Int,Ev (fun k=>laws_szCtxS.f k l m) r ∧ Left m (GoodCs l) r:=by
  have hl : l.length ≤ 9223372036854775807:=by
    obtain ⟨w,A,h⟩:=hb
    exact h.2.1
  have ew : wrap64 (m - (l.length : Int)) = m - (l.length : Int):=wrap_id (by omega) (by omega)
  unfold laws_szCtxS.f
  rw [ew]
  by_cases c : m - (l.length : Int) < 0
  · exact ⟨-1,Evs.ite_pos c (Evs.some_ _),.inl (by omega)⟩
  · obtain ⟨r,hr,e⟩:=szCs_loop l (by omega) hb l.length 0 (m - (l.length : Int)) (by omega) (by omega) (by omega)
    refine ⟨r,Evs.ite_neg c hr,?_⟩
    rcases e with e | ⟨e0,e1,e2⟩
    · exact .inl e
    · refine .inr ⟨e0,by omega,by omega,fun x hx=>?_⟩
      obtain ⟨i,hi,rfl⟩:=List.mem_iff_getElem.1 hx
      have:=e2 i (by omega) hi
      unfold rd_T109 at this
      rwa [Int.toNat_natCast,List.getD_eq_getElem?_getD,List.getElem?_eq_getElem hi] at this
theorem getC {l : List S109} {i : Nat} (h : i < l.length) : l.getD i z109 ∈ l:=by
  rw [List.getD_eq_getElem?_getD,List.getElem?_eq_getElem h]
  exact List.getElem_mem h
theorem toCs (l : List S109) (h : GoodCs l) : Ev (fun k=>laws_toCtxS.f k l) (l.map cpyC):=by
  have hl:=h.1
  unfold laws_toCtxS.f
  refine Evs.ite_pos (by omega) (Evs.ite_pos (by omega) ?_)
  rw [Int.toNat_natCast]
  refine map_loop (fun k acc i=>laws_toCtxS.l0 k l acc i) l z109 _ cpyC (fun i acc r hi ha hr=>?_) (fun acc ha=>?_)
  · have g:=h.2 _ (getC hi)
    have t : Ev (fun k=>laws_toCtx.f k (l.getD i z109).f0 (l.getD i z109).f1 (l.getD i z109).f2 (l.getD i z109).f3 (l.getD i z109).f4) ((l.getD i z109).f0,(l.getD i z109).f1,(l.getD i z109).f2,(l.getD i z109).f3,(l.getD i z109).f4):=by
      unfold laws_toCtx.f
      exact Evs.bind (toI _ g) (Evs.some_ _)
    have e : rd_T109 l (i : Int) = l.getD i z109:=by unfold rd_T109;rw [Int.toNat_natCast]
    refine Evs.succ (fun k=>by simp only [laws_toCtxS.l0,e];rfl) ?_
    refine Evs.ite_pos (by omega) (Evs.ite_pos (by omega) (Evs.bind t (Evs.ite_pos (by omega) ?_)))
    rw [wrap_succ (by omega),Int.toNat_natCast]
    exact hr
  · refine Evs.succ (fun k=>by simp only [laws_toCtxS.l0];rfl) ?_
    exact Evs.ite_neg (by omega) (Evs.some_ _)
theorem eqCs (l : List S109) (h : GoodCs l) : Ev (fun k=>laws_eqCtxS.f k (l.map cpyC) (l.map cpyC)) true:=by
  have hl:=h.1
  unfold laws_eqCtxS.f
  refine Evs.ite_pos (by trivial) (all_true_loop (fun k i=>laws_eqCtxS.l0 k (l.map cpyC) (l.map cpyC) i) (l.map cpyC).length (fun i r hi hr=>?_) ?_)
  · have hi2 : i < l.length:=by simpa using hi
    have g:=h.2 _ (getC hi2)
    have e : rd_T67 (l.map cpyC) (i : Int) = cpyC (l.getD i z109):=by
      unfold rd_T67
      rw [Int.toNat_natCast,List.getD_eq_getElem?_getD,List.getElem?_map,List.getElem?_eq_getElem hi2,List.getD_eq_getElem?_getD,List.getElem?_eq_getElem hi2]
      rfl
    have t : Ev (fun k=>laws_eqCtx.f k (cpyC (l.getD i z109)).f0 (cpyC (l.getD i z109)).f1 (cpyC (l.getD i z109)).f2 (cpyC (l.getD i z109)).f3 (cpyC (l.getD i z109)).f4 (cpyC (l.getD i z109)).f0 (cpyC (l.getD i z109)).f1 (cpyC (l.getD i z109)).f2 (cpyC (l.getD i z109)).f3 (cpyC (l.getD i z109)).f4) true:=by
      unfold laws_eqCtx.f
      exact Evs.bind (eqI _ g) (Evs.ite_pos rfl (Evs.ite_pos (by trivial) (Evs.ite_pos (by trivial) (Evs.ite_pos (by trivial) (Evs.ite_pos (by trivial) (Evs.some_ _))))))
    refine Evs.succ (fun k=>by simp only [laws_eqCtxS.l0,e];rfl) ?_
    refine Evs.ite_pos (by omega) (Evs.ite_pos (by omega) (Evs.ite_pos (by omega) (Evs.bind t (Evs.ite_pos rfl ?_))))
    rw [wrap_succ (by rw [List.length_map] at hi;omega)]
    exact hr
  · refine Evs.succ (fun k=>by simp only [laws_eqCtxS.l0];rfl) ?_
    exact Evs.ite_neg (by omega) (Evs.some_ _)
structure GoodC (x : List S109) (c r : List Int) (li si : List (List Int)) (rd : List Int) (d : List S112) (rn pk : List Int) : Prop where
  x : GoodCs x
  c : c.length ≤ 1048576
  r : r.length ≤ 1048576
  li : Rows1 li
  si : Rows1 si
  rd : rd.length ≤ 1048576
  d : d.length ≤ 1048576
  rn : rn.length ≤ 1048576
  pk : pk.length ≤ 1048576
theorem szC (x : List S109) (c r : List Int) (li si : List (List Int)) (rd : List Int) (a b : Int) (d : List S112) (rn pk : List Int) (hx : BdCs x) (hc : c.length ≤ 9223372036854775807) (hr : r.length ≤ 9223372036854775807) (hli : BdII li) (hsi : BdII si) (hrd : rd.length ≤ 9223372036854775807) (hd : d.length ≤ 9223372036854775807) (hrn : rn.length ≤ 9223372036854775807) (hpk : pk.length ≤ 9223372036854775807) (m : Int) (h0 : 0 ≤ m) (h1 : m ≤ 1048576) :
    ∃ q : Int,Ev (fun k=>laws_szCpu.f k x c r li si rd a b d rn pk m) q ∧ Left m (GoodC x c r li si rd d rn pk) q:=by
  unfold laws_szCpu.f
  obtain ⟨r1,e1,c1⟩:=szCs x hx m h0 (by omega)
  rcases c1 with c1 | ⟨a1,b1,g1⟩
  · exact ⟨-1,Evs.bind e1 (Evs.ite_pos c1 (Evs.some_ _)),.inl (by omega)⟩
  obtain ⟨r2,e2,c2⟩:=szI c hc r1 a1 (by omega)
  rcases c2 with c2 | ⟨a2,b2,g2⟩
  · exact ⟨-1,Evs.bind e1 (Evs.ite_neg (by omega) (Evs.bind0 e2 (Evs.ite_pos c2 (Evs.some_ _)))),.inl (by omega)⟩
  obtain ⟨r3,e3,c3⟩:=szI r hr r2 a2 (by omega)
  rcases c3 with c3 | ⟨a3,b3,g3⟩
  · exact ⟨-1,Evs.bind e1 (Evs.ite_neg (by omega) (Evs.bind0 e2 (Evs.ite_neg (by omega) (Evs.bind0 e3 (Evs.ite_pos c3 (Evs.some_ _)))))),.inl (by omega)⟩
  obtain ⟨r4,e4,c4⟩:=szII li (bdII hli).1 (bdII hli).2 r3 a3 (by omega)
  rcases c4 with c4 | ⟨a4,b4,g4⟩
  · exact ⟨-1,Evs.bind e1 (Evs.ite_neg (by omega) (Evs.bind0 e2 (Evs.ite_neg (by omega) (Evs.bind0 e3 (Evs.ite_neg (by omega) (Evs.bind e4 (Evs.ite_pos c4 (Evs.some_ _)))))))),.inl (by omega)⟩
  obtain ⟨r5,e5,c5⟩:=szII si (bdII hsi).1 (bdII hsi).2 r4 a4 (by omega)
  rcases c5 with c5 | ⟨a5,b5,g5⟩
  · exact ⟨-1,Evs.bind e1 (Evs.ite_neg (by omega) (Evs.bind0 e2 (Evs.ite_neg (by omega) (Evs.bind0 e3 (Evs.ite_neg (by omega) (Evs.bind e4 (Evs.ite_neg (by omega) (Evs.bind e5 (Evs.ite_pos c5 (Evs.some_ _)))))))))),.inl (by omega)⟩
  obtain ⟨r6,e6,c6⟩:=szI rd hrd r5 a5 (by omega)
  rcases c6 with c6 | ⟨a6,b6,g6⟩
  · exact ⟨-1,Evs.bind e1 (Evs.ite_neg (by omega) (Evs.bind0 e2 (Evs.ite_neg (by omega) (Evs.bind0 e3 (Evs.ite_neg (by omega) (Evs.bind e4 (Evs.ite_neg (by omega) (Evs.bind e5 (Evs.ite_neg (by omega) (Evs.bind0 e6 (Evs.ite_pos c6 (Evs.some_ _)))))))))))),.inl (by omega)⟩
  obtain ⟨r7,e7,c7⟩:=szSays d hd r6 a6 (by omega)
  rcases c7 with c7 | ⟨a7,b7,g7⟩
  · exact ⟨-1,Evs.bind e1 (Evs.ite_neg (by omega) (Evs.bind0 e2 (Evs.ite_neg (by omega) (Evs.bind0 e3 (Evs.ite_neg (by omega) (Evs.bind e4 (Evs.ite_neg (by omega) (Evs.bind e5 (Evs.ite_neg (by omega) (Evs.bind0 e6 (Evs.ite_neg (by omega) (Evs.bind0 e7 (Evs.ite_pos c7 (Evs.some_ _)))))))))))))),.inl (by omega)⟩
  obtain ⟨r8,e8,c8⟩:=szI rn hrn r7 a7 (by omega)
  rcases c8 with c8 | ⟨a8,b8,g8⟩
  · exact ⟨-1,Evs.bind e1 (Evs.ite_neg (by omega) (Evs.bind0 e2 (Evs.ite_neg (by omega) (Evs.bind0 e3 (Evs.ite_neg (by omega) (Evs.bind e4 (Evs.ite_neg (by omega) (Evs.bind e5 (Evs.ite_neg (by omega) (Evs.bind0 e6 (Evs.ite_neg (by omega) (Evs.bind0 e7 (Evs.ite_neg (by omega) (Evs.bind0 e8 (Evs.ite_pos c8 (Evs.some_ _)))))))))))))))),.inl (by omega)⟩
  obtain ⟨r9,e9,c9⟩:=szI pk hpk r8 a8 (by omega)
  rcases c9 with c9 | ⟨a9,b9,g9⟩
  · exact ⟨-1,Evs.bind e1 (Evs.ite_neg (by omega) (Evs.bind0 e2 (Evs.ite_neg (by omega) (Evs.bind0 e3 (Evs.ite_neg (by omega) (Evs.bind e4 (Evs.ite_neg (by omega) (Evs.bind e5 (Evs.ite_neg (by omega) (Evs.bind0 e6 (Evs.ite_neg (by omega) (Evs.bind0 e7 (Evs.ite_neg (by omega) (Evs.bind0 e8 (Evs.ite_neg (by omega) (Evs.bind0 e9 (Evs.ite_pos c9 (Evs.some_ _)))))))))))))))))),.inl (by omega)⟩
  · exact ⟨r9,Evs.bind e1 (Evs.ite_neg (by omega) (Evs.bind0 e2 (Evs.ite_neg (by omega) (Evs.bind0 e3 (Evs.ite_neg (by omega) (Evs.bind e4 (Evs.ite_neg (by omega) (Evs.bind e5 (Evs.ite_neg (by omega) (Evs.bind0 e6 (Evs.ite_neg (by omega) (Evs.bind0 e7 (Evs.ite_neg (by omega) (Evs.bind0 e8 (Evs.ite_neg (by omega) (Evs.bind0 e9 (Evs.ite_neg (by omega) (Evs.some_ _)))))))))))))))))),.inr ⟨a9,by omega,g1,g2,g3,g4,g5,g6,g7,g8,g9⟩⟩
theorem toC {x : List S109} {c r : List Int} {li si : List (List Int)} {rd : List Int} {d : List S112} {rn pk : List Int} (a b : Int) (h : GoodC x c r li si rd d rn pk) : Ev (fun k=>laws_toCpu.f k x c r li si rd a b d rn pk) (x.map cpyC,c,r,li,si,rd,a,b,d.map sayOf,rn,pk):=by
  unfold laws_toCpu.f
  exact Evs.bind (toCs x h.x) (Evs.bind (toI c h.c) (Evs.bind (toI r h.r) (Evs.bind (toII li h.li) (Evs.bind (toII si h.si) (Evs.bind (toI rd h.rd) (Evs.bind (toSays d h.d) (Evs.bind (toI rn h.rn) (Evs.bind (toI pk h.pk) (Evs.some_ _)))))))))
theorem eqC {x : List S109} {c r : List Int} {li si : List (List Int)} {rd : List Int} {d : List S112} {rn pk : List Int} (a b : Int) (h : GoodC x c r li si rd d rn pk) : Ev (fun k=>laws_eqCpu.f k (x.map cpyC) c r li si rd a b (d.map sayOf) rn pk (x.map cpyC) c r li si rd a b (d.map sayOf) rn pk) true:=by
  unfold laws_eqCpu.f
  exact Evs.bind (eqCs x h.x) (Evs.ite_pos rfl (Evs.bind (eqI c h.c) (Evs.ite_pos rfl (Evs.bind (eqI r h.r) (Evs.ite_pos rfl (Evs.bind (eqII li h.li) (Evs.ite_pos rfl (Evs.bind (eqII si h.si) (Evs.ite_pos rfl (Evs.bind (eqI rd h.rd) (Evs.ite_pos rfl (Evs.ite_pos (by trivial) (Evs.ite_pos (by trivial) (Evs.bind (eqSays _ (by rw [List.length_map];exact h.d)) (Evs.ite_pos rfl (Evs.bind (eqI rn h.rn) (Evs.ite_pos rfl (Evs.bind (eqI pk h.pk) (Evs.ite_pos rfl (Evs.some_ _))))))))))))))))))))
end Go.Proofs.Ythbflhimmmfonaa.P
