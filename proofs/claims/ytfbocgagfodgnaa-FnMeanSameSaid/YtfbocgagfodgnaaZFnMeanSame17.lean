/- Parts of the proof of FnMeanSame: plain Lean functions of Go functions, and that the calls come to what they say; no condition beyond those that each theorem names. -/
import Derived.Test.YtfbocgagfodgnaaZFnMeanSame5
import Derived.Test.YtfbocgagfodgnaaZFnMeanSame10
import Derived.Test.YtfbocgagfodgnaaZFnMeanSame15
import Derived.Test.YtfbocgagfodgnaaZFnMeanSame16
import Derived.Test.YtfbocgagfodgnaaZFnMeanSame14
import Derived.Test.YtfbocgagfodgnaaZFnMeanSame4
namespace Go.Proofs.Ytfbocgagfodgnaa.P.Al
open Go.RowKit Go.Proofs.YtfbocgagfodgnaaW.PrintWords Go.Proofs.YtfbocgagfodgnaaW.PrintMore
set_option linter.unusedVariables false
set_option linter.unusedSimpArgs false
theorem rd_get {l : List Int} {i : Nat} (h : i < l.length) : rd l (i : Int) = l.getD i 0:=by
 unfold rd
 rw [Int.toNat_natCast]
theorem getL {l : List (List Int)} {i : Nat} (h : i < l.length) : l.getD i [] ∈ l:=by
 rw [List.getD_eq_getElem?_getD,List.getElem?_eq_getElem h]
 exact List.getElem_mem h
theorem ev_and {f : Nat → Option Bool} {c : Prop} [Decidable c] {r : Bool} (h : c → Ev f r) : Ev (fun k=>if c then f k else some false) (decide c && r):=by
 by_cases hc : c
 ·rw [decide_eq_true hc,Bool.true_and]
  exact Evs.ite_pos hc (h hc)
 ·rw [decide_eq_false hc,Bool.false_and]
  exact Evs.ite_neg hc (Evs.some_ _)
theorem ev_band {f : Nat → Option Bool} {b r : Bool} (h : b = true → Ev f r) : Ev (fun k=>if b = true then f k else some false) (b && r):=by
 cases b with
 | false=>exact Evs.ite_neg (by simp) (Evs.some_ _)
 | true=>exact Evs.ite_pos rfl (h rfl)
theorem ev_last {f : Nat → Option Bool} {r : Bool} (h : Ev f r) : Ev (fun k=>(f k).bind fun t=>some t) r:=Evs.bind h (Evs.some_ _)
def zipB {α β : Type} (p : α → β → Bool) : List α → List β → Bool
 | [],[]=>true
 | x :: t,y :: u=>p x y && zipB p t u
 | _,_=>false
theorem zipB_len {α β : Type} (p : α → β → Bool) : ∀ (a : List α) (b : List β),a.length ≠ b.length → zipB p a b = false
 | [],[],h=>absurd rfl h
 | [],_ :: _,_=>rfl
 | _ :: _,[],_=>rfl
 | x :: t,y :: u,h=>by
  unfold zipB
  rw [zipB_len p t u (fun e=>h (by simp [e])),Bool.and_false]
theorem zip_loop {α β : Type} (g : Nat → Int → Option Bool) (p : α → β → Bool) (s : Bool) (a : List α) (b : List β) (za : α) (zb : β) (hl : a.length = b.length)
  (hgo : ∀ i r,i < a.length → p (a.getD i za) (b.getD i zb) = true → Ev (fun k=>g k ((i + 1 : Nat) : Int)) r → Ev (fun k=>g k (i : Int)) r)
  (hno : ∀ i,i < a.length → p (a.getD i za) (b.getD i zb) = false → Ev (fun k=>g k (i : Int)) false) (hs : Ev (fun k=>g k (a.length : Int)) s) : Ev (fun k=>g k 0) (zipB p a b && s):=by
 have key : ∀ d i,i + d = a.length → Ev (fun k=>g k (i : Int)) (zipB p (a.drop i) (b.drop i) && s):=by
  intro d
  induction d with
  | zero =>
   intro i hi
   rw [List.drop_of_length_le (by omega),List.drop_of_length_le (by omega)]
   obtain rfl : i = a.length:=by omega
   rw [show zipB p ([] : List α) ([] : List β) = true from rfl,Bool.true_and]
   exact hs
  | succ d ih =>
   intro i hi
   have ha : i < a.length:=by omega
   have hb : i < b.length:=by omega
   have e : zipB p (a.drop i) (b.drop i) = (p (a.getD i za) (b.getD i zb) && zipB p (a.drop (i + 1)) (b.drop (i + 1))):=by
    rw [List.drop_eq_getElem_cons ha,List.drop_eq_getElem_cons hb,List.getD_eq_getElem?_getD,List.getD_eq_getElem?_getD,List.getElem?_eq_getElem ha,List.getElem?_eq_getElem hb]
    rfl
   rw [e]
   cases hp : p (a.getD i za) (b.getD i zb) with
   | false =>
    rw [Bool.false_and,Bool.false_and]
    exact hno i ha hp
   | true =>
    rw [Bool.true_and]
    exact hgo i _ ha hp (ih (i + 1) (by omega))
 have:=key a.length 0 (by omega)
 rwa [List.drop_zero,List.drop_zero] at this
def eqN (a b : List Int) : Bool:=zipB (fun x y=>decide (x = y)) a b
theorem specInts {a b : List Int} (ha : a.length ≤ 1000000000) : Ev (fun k=>spec_l3Ints.f k a b) (eqN a b):=by
 unfold spec_l3Ints.f eqN
 by_cases c : a.length = b.length
 ·rw [← Bool.and_true (zipB _ a b)]
  refine Evs.ite_pos (by omega) (zip_loop (fun k i=>spec_l3Ints.l0 k a b i) _ true a b 0 0 c (fun i r hi hq hr=>?_) (fun i hi hq=>?_) ?_)
  ·have hq:=of_decide_eq_true hq
   rw [← rd_get hi,← rd_get (by omega)] at hq
   refine Evs.succ (fun k=>by simp only [spec_l3Ints.l0];rfl) ?_
   refine Evs.ite_pos (by omega) (Evs.ite_pos (by omega) (Evs.ite_pos (by omega) (Evs.ite_pos hq ?_)))
   rw [wrap_succ (by omega)]
   exact hr
  ·have hq:=of_decide_eq_false hq
   rw [← rd_get hi,← rd_get (by omega)] at hq
   refine Evs.succ (fun k=>by simp only [spec_l3Ints.l0];rfl) ?_
   exact Evs.ite_pos (by omega) (Evs.ite_pos (by omega) (Evs.ite_pos (by omega) (Evs.ite_neg hq (Evs.some_ _))))
  ·refine Evs.succ (fun k=>by simp only [spec_l3Ints.l0];rfl) ?_
   exact Evs.ite_neg (by omega) (Evs.some_ _)
 ·rw [zipB_len _ a b c]
  exact Evs.ite_neg (by omega) (Evs.some_ _)
theorem implInts {a b : List Int} (ha : a.length ≤ 1000000000) : Ev (fun k=>slices_Equal_int_int.f k a b) (eqN a b):=by
 unfold slices_Equal_int_int.f eqN
 by_cases c : a.length = b.length
 ·rw [← Bool.and_true (zipB _ a b)]
  refine Evs.ite_pos (by omega) (zip_loop (fun k i=>slices_Equal_int_int.l0 k a b a.length i) _ true a b 0 0 c (fun i r hi hq hr=>?_) (fun i hi hq=>?_) ?_)
  ·have hq:=of_decide_eq_true hq
   rw [← rd_get hi,← rd_get (by omega)] at hq
   refine Evs.succ (fun k=>by simp only [slices_Equal_int_int.l0];rfl) ?_
   refine Evs.ite_pos (by omega) (Evs.ite_pos (by omega) (Evs.ite_pos (by omega) (Evs.ite_pos (by omega) (Evs.ite_pos hq ?_))))
   rw [wrap_succ (by omega)]
   exact hr
  ·have hq:=of_decide_eq_false hq
   rw [← rd_get hi,← rd_get (by omega)] at hq
   refine Evs.succ (fun k=>by simp only [slices_Equal_int_int.l0];rfl) ?_
   exact Evs.ite_pos (by omega) (Evs.ite_pos (by omega) (Evs.ite_pos (by omega) (Evs.ite_pos (by omega) (Evs.ite_neg hq (Evs.some_ _)))))
  ·refine Evs.succ (fun k=>by simp only [slices_Equal_int_int.l0];rfl) ?_
   exact Evs.ite_neg (by omega) (Evs.some_ _)
 ·rw [zipB_len _ a b c]
  exact Evs.ite_neg (by omega) (Evs.some_ _)
theorem rd_mem {l : List S69} {i : Nat} (h : i < l.length) : rd_T69 l (i : Int) ∈ l:=by
 unfold rd_T69
 rw [Int.toNat_natCast,List.getD_eq_getElem?_getD,List.getElem?_eq_getElem h]
 exact List.getElem_mem h
def SL (d : Nat) (l : List S69) : Prop:=l.length ≤ 1000000000 ∧ ∀ x ∈ l,smallS d x
theorem SL.kids {d : Nat} {l : List S69} (h : SL (d + 1) l) {x : S69} (hx : x ∈ l) : SL d x.f4 ∧ SL d x.f5:=⟨⟨Nat.le_trans (h.2 x hx).1.1 (by decide),(h.2 x hx).1.2⟩,⟨Nat.le_trans (h.2 x hx).2.1 (by decide),(h.2 x hx).2.2⟩⟩
def dep : Nat → List S69 → Prop
 | 0,l=>l = []
 | d + 1,l=>∀ x ∈ l,dep d x.f4 ∧ dep d x.f5
theorem dep_size : ∀ (d : Nat) (l : List S69),SizeOf.sizeOf l ≤ d → dep d l
 | 0,[],_=>rfl
 | 0,x :: t,h=>by simp at h
 | d + 1,l,h=>fun x hx=>by
  have h1:=List.sizeOf_lt_of_mem hx
  have h2 : SizeOf.sizeOf x.f4 < SizeOf.sizeOf x ∧ SizeOf.sizeOf x.f5 < SizeOf.sizeOf x:=by
   cases x
   constructor <;> simp <;> omega
  exact ⟨dep_size d x.f4 (by omega),dep_size d x.f5 (by omega)⟩
def heads (x y : S69) : Bool:=decide (x.f0 = y.f0) && (decide (x.f1 = y.f1) && (decide (x.f2 = y.f2) && decide (x.f3 = y.f3)))
def eqLB : Nat → List S69 → List S69 → Bool
 | 0,_,_=>true
 | d + 1,a,b=>zipB (fun x y=>heads x y && (eqLB d x.f4 y.f4 && eqLB d x.f5 y.f5)) a b
theorem eqM_ev {α : Type} {T : Nat → α → α → Option Bool} {p : α → α → Bool} : ∀ a b : List α,a.length = b.length → (∀ x ∈ a,∀ y ∈ b,Ev (fun k=>T k x y) (p x y)) → Ev (fun k=>eqM (T k) a b) (zipB p a b)
 | [],[],_,_=>Evs.some_ _
 | [],_ :: _,h,_=>by simp at h
 | _ :: _,[],h,_=>by simp at h
 | x :: t,y :: u,hl,h=>Evs.bind (h x (List.mem_cons_self ..) y (List.mem_cons_self ..)) (ev_band fun _=>eqM_ev t u (by simpa using hl) fun v hv w hw=>h v (List.mem_cons_of_mem _ hv) w (List.mem_cons_of_mem _ hw))
theorem eqL_ev {α : Type} {T : Nat → α → α → Option Bool} {p : α → α → Bool} (a b : List α) (h : ∀ x ∈ a,∀ y ∈ b,Ev (fun k=>T k x y) (p x y)) : Ev (fun k=>eqL (T k) a b) (zipB p a b):=by
 unfold eqL
 by_cases c : a.length = b.length
 ·exact Evs.ite_pos c (eqM_ev a b c h)
 ·rw [zipB_len p a b c]
  exact Evs.ite_neg c (Evs.some_ _)
theorem sameK_ev : ∀ (d : Nat) (a b : List S69),dep d a → dep d b → Ev (fun k=>sameK k a b) (eqLB d a b)
 | 0,a,b,ha,hb=>by
  obtain rfl : a = []:=ha
  obtain rfl : b = []:=hb
  refine Evs.succ (fun k=>rfl) ?_
  show Ev (fun k=>eqL (sameH (sameK k)) [] []) true
  exact Evs.ite_pos rfl (Evs.some_ _)
 | d + 1,a,b,ha,hb=>by
  refine Evs.succ (fun k=>rfl) ?_
  show Ev (fun k=>eqL (sameH (sameK k)) a b) (zipB (fun x y=>heads x y && (eqLB d x.f4 y.f4 && eqLB d x.f5 y.f5)) a b)
  refine eqL_ev a b fun x hx y hy=>?_
  unfold sameH heads
  simp only [Bool.and_assoc]
  exact ev_and fun _=>ev_and fun _=>ev_and fun _=>ev_and fun _=>Evs.bind (sameK_ev d x.f4 y.f4 (ha x hx).1 (hb y hy).1) (ev_band fun _=>sameK_ev d x.f5 y.f5 (ha x hx).2 (hb y hy).2)
theorem alike_loop (a b : List S69) (hl : a.length = b.length) (hm : a.length ≤ 1000000000) (p q : S69 → S69 → Bool)
  (h4 : ∀ x ∈ a,∀ y ∈ b,Ev (fun k=>spec_l2Alike.f k x.f4 y.f4) (p x y)) (h5 : ∀ x ∈ a,∀ y ∈ b,Ev (fun k=>spec_l2Alike.f k x.f5 y.f5) (q x y)) (e : Nat) : ∀ i : Nat,i + e = a.length →
  Ev (fun k=>spec_l2Alike.l0 k a b (i : Int)) (zipB (fun x y=>heads x y && (p x y && q x y)) (a.drop i) (b.drop i)):=by
 induction e with
 | zero =>
  intro i hi
  rw [List.drop_of_length_le (by omega),List.drop_of_length_le (by omega)]
  refine Evs.succ (fun k=>by simp only [spec_l2Alike.l0];rfl) ?_
  exact Evs.ite_neg (by omega) (Evs.some_ _)
 | succ e ih =>
  intro i hi
  have ha : i < a.length:=by omega
  have hb : i < b.length:=by omega
  rw [drop_rd a ha,drop_rd b hb]
  have e4:=h4 _ (rd_mem ha) _ (rd_mem hb)
  have e5:=h5 _ (rd_mem ha) _ (rd_mem hb)
  have hn:=ih (i + 1) (by omega)
  refine Evs.succ (fun k=>by simp only [spec_l2Alike.l0];rfl) ?_
  refine Evs.ite_pos (by omega) (Evs.ite_pos (by omega) (Evs.ite_pos (by omega) ?_))
  show Ev _ ((heads _ _ && (p _ _ && q _ _)) && zipB (fun x y=>heads x y && (p x y && q x y)) (a.drop (i + 1)) (b.drop (i + 1)))
  generalize zipB (fun x y=>heads x y && (p x y && q x y)) (a.drop (i + 1)) (b.drop (i + 1)) = z at hn ⊢
  unfold heads
  simp only [Bool.and_assoc]
  refine ev_and fun _=>ev_and fun _=>ev_and fun _=>ev_and fun _=>Evs.bind e4 (ev_band fun _=>Evs.bind e5 (ev_band fun _=>?_))
  rw [wrap_succ (by omega)]
  exact hn
theorem alike_ev : ∀ (d : Nat) (a b : List S69),SL d a → SL d b → dep d a → dep d b → Ev (fun k=>spec_l2Alike.f k a b) (eqLB d a b)
 | 0,a,b,sa,sb,ha,hb=>by
  obtain rfl : a = []:=ha
  obtain rfl : b = []:=hb
  refine Evs.succ (fun k=>by simp only [spec_l2Alike.f];rfl) (Evs.ite_pos (by trivial) ?_)
  refine Evs.succ (fun k=>by simp only [spec_l2Alike.l0];rfl) ?_
  exact Evs.ite_neg (by simp) (Evs.some_ _)
 | d + 1,a,b,sa,sb,ha,hb=>by
  refine Evs.succ (fun k=>by simp only [spec_l2Alike.f];rfl) ?_
  by_cases c : a.length = b.length
  ·refine Evs.ite_pos (by omega) ?_
   exact alike_loop a b c sa.1 (fun x y=>eqLB d x.f4 y.f4) (fun x y=>eqLB d x.f5 y.f5)
    (fun x hx y hy=>alike_ev d x.f4 y.f4 (sa.kids hx).1 (sb.kids hy).1 (ha x hx).1 (hb y hy).1)
    (fun x hx y hy=>alike_ev d x.f5 y.f5 (sa.kids hx).2 (sb.kids hy).2 (ha x hx).2 (hb y hy).2) a.length 0 (by omega)
  ·refine Evs.ite_neg (by omega) ?_
   show Ev _ (zipB (fun x y=>heads x y && (eqLB d x.f4 y.f4 && eqLB d x.f5 y.f5)) a b)
   rw [zipB_len _ a b c]
   exact Evs.some_ _
noncomputable def alB (a b : List S69) : Bool:=eqLB (SizeOf.sizeOf a + SizeOf.sizeOf b) a b
def Sm (a : List S69) : Prop:=a.length ≤ 1000000000 ∧ ∀ t ∈ a,∀ d,smallS d t
theorem specAlike {a b : List S69} (ha : Sm a) (hb : Sm b) : Ev (fun k=>spec_l2Alike.f k a b) (alB a b) :=
 alike_ev _ a b ⟨ha.1,fun x hx=>ha.2 x hx _⟩ ⟨hb.1,fun x hx=>hb.2 x hx _⟩ (dep_size _ a (by omega)) (dep_size _ b (by omega))
theorem implAlike (a b : List S69) : Ev (fun k=>impl_sameStmts.f k a b) (alB a b):=sameK_ev _ a b (dep_size _ a (by omega)) (dep_size _ b (by omega))
def GoodIP (x : S51) : Prop:=x.f0.length ≤ 1000000000 ∧ Sm x.f1
noncomputable def procB (x y : S51) : Bool:=eqN x.f0 y.f0 && (alB x.f1 y.f1 && (decide (x.f2 = y.f2) && (decide (x.f3 = y.f3) && decide (x.f4 = y.f4))))
theorem specProc {x y : S51} (hx : GoodIP x) (hy : GoodIP y) : Ev (fun k=>spec_l3Proc.f k x.f0 x.f1 x.f2 x.f3 x.f4 y.f0 y.f1 y.f2 y.f3 y.f4) (procB x y):=by
 unfold spec_l3Proc.f procB
 refine Evs.bind (specInts hx.1) (ev_band fun _=>Evs.bind (specAlike hx.2 hy.2) (ev_band fun _=>ev_and fun _=>ev_and fun _=>?_))
 exact Evs.some_ _
theorem implProc {x y : S51} (hx : GoodIP x) : Ev (fun k=>procV k x y) (procB x y):=by
 unfold procV procB
 refine Evs.bind (implInts hx.1) (ev_band fun _=>Evs.bind (implAlike x.f1 y.f1) (ev_band fun _=>ev_and fun _=>ev_and fun _=>?_))
 rw [← Bool.and_true (decide (x.f4 = y.f4))]
 exact ev_and fun _=>Evs.some_ _
theorem eqM2_ev {α β : Type} {T : Nat → α → β → Option Bool} {p : α → β → Bool} : ∀ (a : List α) (b : List β),a.length = b.length → (∀ x ∈ a,∀ y ∈ b,Ev (fun k=>T k x y) (p x y)) → Ev (fun k=>eqM2 (T k) a b) (zipB p a b)
 | [],[],_,_=>Evs.some_ _
 | [],_ :: _,h,_=>by simp at h
 | _ :: _,[],h,_=>by simp at h
 | x :: t,y :: u,hl,h=>Evs.bind (h x (List.mem_cons_self ..) y (List.mem_cons_self ..)) (ev_band fun _=>eqM2_ev t u (by simpa using hl) fun v hv w hw=>h v (List.mem_cons_of_mem _ hv) w (List.mem_cons_of_mem _ hw))
theorem eqL2_ev {α β : Type} {T : Nat → α → β → Option Bool} {p : α → β → Bool} (a : List α) (b : List β) (h : ∀ x ∈ a,∀ y ∈ b,Ev (fun k=>T k x y) (p x y)) : Ev (fun k=>eqL2 (T k) a b) (zipB p a b):=by
 unfold eqL2
 by_cases c : a.length = b.length
 ·exact Evs.ite_pos c (eqM2_ev a b c h)
 ·rw [zipB_len p a b c]
  exact Evs.ite_neg c (Evs.some_ _)
theorem bnot_f {b : Bool} (h : (!b) = false) : b = true:=by
 cases b
 ·cases h
 ·rfl
def sayB (x y : S38) : Bool:=!(!(x.f0 == y.f0) || !(x.f1 == y.f1))
theorem rdY_get {l : List S38} {i : Nat} : rd_T38 l (i : Int) = l.getD i z38:=by
 unfold rd_T38
 rw [Int.toNat_natCast]
theorem rdP_get {l : List S51} {i : Nat} : rd_T51 l (i : Int) = l.getD i z51:=by
 unfold rd_T51
 rw [Int.toNat_natCast]
theorem rdL_get {l : List (List Int)} {i : Nat} : rd_L4 l (i : Int) = l.getD i []:=by
 unfold rd_L4
 rw [Int.toNat_natCast]
theorem getIP {l : List S51} {i : Nat} (h : i < l.length) : l.getD i z51 ∈ l:=by
 rw [List.getD_eq_getElem?_getD,List.getElem?_eq_getElem h]
 exact List.getElem_mem h
theorem implSays {a b : List S38} (ha : a.length ≤ 1000000000) : Ev (fun k=>impl_Say.f k a b) (zipB sayB a b):=by
 unfold impl_Say.f
 by_cases c : a.length = b.length
 ·rw [← Bool.and_true (zipB _ a b)]
  refine Evs.ite_pos (by omega) (zip_loop (fun k i=>impl_Say.l0 k a b a.length i) _ true a b z38 z38 c (fun i r hi hq hr=>?_) (fun i hi hq=>?_) ?_)
  ·refine Evs.succ (fun k=>by simp only [impl_Say.l0,rdY_get];rfl) ?_
   unfold sayB at hq
   refine Evs.ite_pos (by omega) (Evs.ite_pos (by omega) (Evs.ite_pos (by omega) (Evs.ite_pos (by omega) (Evs.ite_neg (by simpa using hq) ?_))))
   rw [wrap_succ (by omega)]
   exact hr
  ·refine Evs.succ (fun k=>by simp only [impl_Say.l0,rdY_get];rfl) ?_
   unfold sayB at hq
   exact Evs.ite_pos (by omega) (Evs.ite_pos (by omega) (Evs.ite_pos (by omega) (Evs.ite_pos (by omega) (Evs.ite_pos (bnot_f hq) (Evs.some_ _)))))
  ·refine Evs.succ (fun k=>by simp only [impl_Say.l0];rfl) ?_
   exact Evs.ite_neg (by omega) (Evs.some_ _)
 ·rw [zipB_len _ a b c]
  exact Evs.ite_neg (by omega) (Evs.some_ _)
noncomputable def worldB (p q : List S51) (c d r r2 : List Int) (s s2 : List (List Int)) (x y : List S38) : Bool :=
 eqN c d && (eqN r r2 && (zipB sayB x y && (zipB eqN s s2 && zipB procB p q)))
theorem implWorld (p q : List S51) (c d r r2 : List Int) (s s2 : List (List Int)) (x y : List S38) (hp : ∀ v ∈ p,GoodIP v) (hc : c.length ≤ 1000000000) (hr : r.length ≤ 1000000000) (hs : ∀ v ∈ s,v.length ≤ 1000000000) (hx : x.length ≤ 1000000000) :
  Ev (fun k=>impl_WorldSame.f k p c r s x q d r2 s2 y) (worldB p q c d r r2 s s2 x y):=by
 unfold impl_WorldSame.f
 refine ev_last ?_
 unfold impl_sameWorld.f worldV worldB
 refine Evs.bind (implInts hc) (ev_band fun _=>Evs.bind (implInts hr) (ev_band fun _=>Evs.bind (implSays hx) (ev_band fun _=>Evs.bind (f:=fun k b=>if b = true then eqL2 (procV k) p q else some false) (eqL2_ev s s2 fun v hv w _=>implInts (hs v hv)) (ev_band fun _=>?_))))
 exact eqL2_ev p q fun v hv w _=>implProc (hp v hv)
theorem specWorld (p q : List S51) (c d r r2 : List Int) (s s2 : List (List Int)) (x y : List S38) (hp : ∀ v ∈ p,GoodIP v) (hq : ∀ v ∈ q,GoodIP v) (hpl : p.length ≤ 1000000000) (hc : c.length ≤ 1000000000) (hr : r.length ≤ 1000000000) (hsl : s.length ≤ 1000000000) (hs : ∀ v ∈ s,v.length ≤ 1000000000) (hx : x.length ≤ 1000000000) :
  Ev (fun k=>spec_WorldSame.f k p c r s x q d r2 s2 y) (worldB p q c d r r2 s s2 x y):=by
 unfold spec_WorldSame.f worldB
 have no : ∀ v : Bool,v = false → Ev (fun k=>spec_WorldSame.j0 k true p c r s x q d r2 s2 y) v:=fun v hv=>by
  rw [hv]
  exact Evs.succ (fun k=>by simp only [spec_WorldSame.j0];rfl) (Evs.ite_pos (by trivial) (Evs.some_ _))
 by_cases c1 : p.length = q.length
 case neg=>exact Evs.ite_neg (by omega) (no _ (by rw [zipB_len procB p q c1];simp))
 by_cases c2 : s.length = s2.length
 case neg=>exact Evs.ite_pos (by omega) (Evs.ite_neg (by omega) (no _ (by rw [zipB_len eqN s s2 c2];simp)))
 by_cases c3 : x.length = y.length
 case neg=>exact Evs.ite_pos (by omega) (Evs.ite_pos (by omega) (Evs.ite_neg (by omega) (no _ (by rw [zipB_len sayB x y c3];simp))))
 refine Evs.ite_pos (by omega) (Evs.ite_pos (by omega) (Evs.ite_pos (by omega) (Evs.bind (specInts hc) ?_)))
 cases h1 : eqN c d with
 | false=>exact Evs.ite_neg (by simp) (no _ (by simp))
 | true =>
  refine Evs.ite_pos rfl (Evs.bind (specInts hr) ?_)
  cases h2 : eqN r r2 with
  | false=>exact no _ (by simp)
  | true =>
   refine Evs.succ (fun k=>by simp only [spec_WorldSame.j0];rfl) (Evs.ite_neg (by simp) ?_)
   rw [show (true && (true && (zipB sayB x y && (zipB eqN s s2 && zipB procB p q)))) = (zipB procB p q && (zipB eqN s s2 && (zipB sayB x y && true))) from by
    generalize zipB procB p q = u
    generalize zipB eqN s s2 = v
    generalize zipB sayB x y = w
    cases u <;> cases v <;> cases w <;> rfl]
   refine zip_loop (fun k i=>spec_WorldSame.l0 k i p c r s x q d r2 s2 y) _ _ p q z51 z51 c1 (fun i z hi hq1 hz=>?_) (fun i hi hq1=>?_) ?_
   ·have e:=specProc (hp _ (getIP (l:=p) hi)) (hq _ (getIP (l:=q) (i:=i) (by omega)))
    rw [hq1] at e
    refine Evs.succ (fun k=>by simp only [spec_WorldSame.l0,rdP_get];rfl) ?_
    refine Evs.ite_pos (by omega) (Evs.ite_pos (by omega) (Evs.ite_pos (by omega) (Evs.bind e (Evs.ite_pos rfl ?_))))
    rw [wrap_succ (by omega)]
    exact hz
   ·have e:=specProc (hp _ (getIP (l:=p) hi)) (hq _ (getIP (l:=q) (i:=i) (by omega)))
    rw [hq1] at e
    refine Evs.succ (fun k=>by simp only [spec_WorldSame.l0,rdP_get];rfl) ?_
    exact Evs.ite_pos (by omega) (Evs.ite_pos (by omega) (Evs.ite_pos (by omega) (Evs.bind e (Evs.ite_neg (by simp) (Evs.some_ _)))))
   ·refine Evs.succ (fun k=>by simp only [spec_WorldSame.l0];rfl) ?_
    refine Evs.ite_neg (by omega) ?_
    refine zip_loop (fun k i=>spec_WorldSame.l1 k i p c r s x q d r2 s2 y) _ _ s s2 [] [] c2 (fun i z hi hq1 hz=>?_) (fun i hi hq1=>?_) ?_
    ·have e:=specInts (a:=s.getD i []) (b:=s2.getD i []) (hs _ (getL hi))
     rw [hq1] at e
     refine Evs.succ (fun k=>by simp only [spec_WorldSame.l1,rdL_get];rfl) ?_
     refine Evs.ite_pos (by omega) (Evs.ite_pos (by omega) (Evs.ite_pos (by omega) (Evs.bind e (Evs.ite_pos rfl ?_))))
     rw [wrap_succ (by omega)]
     exact hz
    ·have e:=specInts (a:=s.getD i []) (b:=s2.getD i []) (hs _ (getL hi))
     rw [hq1] at e
     refine Evs.succ (fun k=>by simp only [spec_WorldSame.l1,rdL_get];rfl) ?_
     exact Evs.ite_pos (by omega) (Evs.ite_pos (by omega) (Evs.ite_pos (by omega) (Evs.bind e (Evs.ite_neg (by simp) (Evs.some_ _)))))
    ·refine Evs.succ (fun k=>by simp only [spec_WorldSame.l1];rfl) ?_
     refine Evs.ite_neg (by omega) ?_
     refine zip_loop (fun k i=>spec_WorldSame.l2 k i p c r s x q d r2 s2 y) _ _ x y z38 z38 c3 (fun i z hi hq1 hz=>?_) (fun i hi hq1=>?_) ?_
     ·refine Evs.succ (fun k=>by simp only [spec_WorldSame.l2,rdY_get];rfl) ?_
      unfold sayB at hq1
      refine Evs.ite_pos (by omega) (Evs.ite_pos (by omega) (Evs.ite_pos (by omega) (Evs.ite_neg (by simpa using hq1) ?_)))
      rw [wrap_succ (by omega)]
      exact hz
     ·refine Evs.succ (fun k=>by simp only [spec_WorldSame.l2,rdY_get];rfl) ?_
      unfold sayB at hq1
      exact Evs.ite_pos (by omega) (Evs.ite_pos (by omega) (Evs.ite_pos (by omega) (Evs.ite_pos (bnot_f hq1) (Evs.some_ _))))
     ·refine Evs.succ (fun k=>by simp only [spec_WorldSame.l2];rfl) ?_
      exact Evs.ite_neg (by omega) (Evs.some_ _)
theorem zipB_refl {α : Type} (p : α → α → Bool) : ∀ a : List α,(∀ x ∈ a,p x x = true) → zipB p a a = true
 | [],_=>rfl
 | x :: t,h=>by
  unfold zipB
  rw [h x (List.mem_cons_self ..),zipB_refl p t fun y hy=>h y (List.mem_cons_of_mem _ hy)]
  rfl
theorem zipB_symm {α : Type} (p q : α → α → Bool) : ∀ a b : List α,(∀ x ∈ a,∀ y ∈ b,p x y = q y x) → zipB p a b = zipB q b a
 | [],[],_=>rfl
 | [],_ :: _,_=>rfl
 | _ :: _,[],_=>rfl
 | x :: t,y :: u,h=>by
  unfold zipB
  rw [h x (List.mem_cons_self ..) y (List.mem_cons_self ..),zipB_symm p q t u fun v hv z hz=>h v (List.mem_cons_of_mem _ hv) z (List.mem_cons_of_mem _ hz)]
theorem eqN_refl (a : List Int) : eqN a a = true:=zipB_refl _ a fun x _=>decide_eq_true rfl
theorem eqN_symm (a b : List Int) : eqN a b = eqN b a:=zipB_symm _ _ a b fun x _ y _=>by
 rw [Bool.eq_iff_iff,decide_eq_true_eq,decide_eq_true_eq]
 exact ⟨Eq.symm,Eq.symm⟩
theorem dec_symm {α : Type} [DecidableEq α] (x y : α) : decide (x = y) = decide (y = x):=by
 rw [Bool.eq_iff_iff,decide_eq_true_eq,decide_eq_true_eq]
 exact ⟨Eq.symm,Eq.symm⟩
theorem eqLB_refl : ∀ (d : Nat) (a : List S69),eqLB d a a = true
 | 0,_=>rfl
 | d + 1,a=>zipB_refl _ a fun x _=>by
  simp only [heads,eqLB_refl d,decide_true,Bool.and_self]
theorem eqLB_symm : ∀ (d : Nat) (a b : List S69),eqLB d a b = eqLB d b a
 | 0,_,_=>rfl
 | d + 1,a,b=>zipB_symm _ _ a b fun x _ y _=>by
  unfold heads
  rw [eqLB_symm d x.f4 y.f4,eqLB_symm d x.f5 y.f5,dec_symm x.f0,dec_symm x.f1,dec_symm x.f2,dec_symm x.f3]
theorem procB_refl (x : S51) : procB x x = true:=by
 unfold procB alB
 rw [eqN_refl,eqLB_refl]
 simp
theorem procB_symm (x y : S51) : procB x y = procB y x:=by
 unfold procB alB
 rw [eqN_symm x.f0,eqLB_symm _ x.f1,Nat.add_comm (SizeOf.sizeOf x.f1),dec_symm x.f2,dec_symm x.f3,dec_symm x.f4]
theorem sayB_refl (x : S38) : sayB x x = true:=by
 unfold sayB
 simp
theorem sayB_symm (x y : S38) : sayB x y = sayB y x:=by
 have e : ∀ a b : Int,(a == b) = (b == a):=fun a b=>by rw [Bool.eq_iff_iff,beq_iff_eq,beq_iff_eq];exact ⟨Eq.symm,Eq.symm⟩
 unfold sayB
 rw [e x.f0,e x.f1]
theorem worldB_refl (p : List S51) (c r : List Int) (s : List (List Int)) (x : List S38) : worldB p p c c r r s s x x = true:=by
 unfold worldB
 rw [eqN_refl,eqN_refl,zipB_refl sayB x fun y _=>sayB_refl y,zipB_refl eqN s fun y _=>eqN_refl y,zipB_refl procB p fun y _=>procB_refl y]
 rfl
theorem worldB_symm (p q : List S51) (c d r r2 : List Int) (s s2 : List (List Int)) (x y : List S38) : worldB p q c d r r2 s s2 x y = worldB q p d c r2 r s2 s y x:=by
 unfold worldB
 rw [eqN_symm c,eqN_symm r,zipB_symm sayB sayB x y fun u _ v _=>sayB_symm u v,zipB_symm eqN eqN s s2 fun u _ v _=>eqN_symm u v,zipB_symm procB procB p q fun u _ v _=>procB_symm u v]
theorem worldB_cells (p : List S51) (c r : List Int) (s : List (List Int)) (x : List S38) (z : Int) : worldB p p c (c ++ [z]) r r s s x x = false:=by
 unfold worldB eqN
 rw [zipB_len _ c (c ++ [z]) (by simp)]
 rfl
theorem worldB_said (p : List S51) (c r : List Int) (s : List (List Int)) (x : List S38) (z : S38) : worldB p p c c r r s s x (x ++ [z]) = false:=by
 unfold worldB
 rw [zipB_len _ x (x ++ [z]) (by simp),eqN_refl,eqN_refl]
 rfl
theorem small_of : ∀ (d : Nat) (s : S69) (room : Int),okS d s room = true → smallS d s → ∀ e,smallS e s
 | _,_,_,_,_,0=>trivial
 | 0,s,room,h,_,e + 1=>by simp [okS] at h
 | d + 1,s,room,h,hs,e + 1=>by
  obtain ⟨h4,h5⟩:=okS_in h
  refine ⟨⟨hs.1.1,fun y hy=>?_⟩,⟨hs.2.1,fun y hy=>?_⟩⟩
  ·obtain ⟨m,hm⟩:=h4 y hy
   exact small_of d y m hm (hs.1.2 y hy) e
  ·obtain ⟨m,hm⟩:=h5 y hy
   exact small_of d y m hm (hs.2.2 y hy) e
theorem tok_small : ∀ (l : List S69) (room : Int),TOK l room → ∀ x ∈ l,∀ e,smallS e x
 | [],_,_,x,hx=>by cases hx
 | y :: r,room,h,x,hx=>by
  rcases h with ⟨⟨a,ha,_,_⟩,hr⟩ | ⟨hv,hr⟩
  ·rcases List.mem_cons.1 hx with rfl | hx
   ·rw [ha]
    intro e
    cases e with
    | zero=>trivial
    | succ e=>exact ⟨⟨Nat.zero_le _,fun y hy=>by cases hy⟩,⟨Nat.zero_le _,fun y hy=>by cases hy⟩⟩
   ·exact tok_small r _ hr x hx
  ·rcases List.mem_cons.1 hx with rfl | hx
   ·obtain ⟨d,_,ho,hs⟩:=hv
    exact small_of d _ room ho hs
   ·exact tok_small r _ hr x hx
theorem good_of {n : Nat} {ps x0 : List S51} {qs : List (List Int)} {ys : List S38} (h : VS n ps qs ys) (hn : n ≤ 300) (hl : x0.length = ps.length) (hk : ∀ i (hi : i < ps.length) (hx : i < x0.length),Likes ps[i] x0[i]) : ∀ v ∈ x0,GoodIP v:=by
 intro v hv
 obtain ⟨i,hi,rfl⟩:=List.mem_iff_getElem.1 hv
 have hp : i < ps.length:=by omega
 obtain ⟨h0,h1,_⟩:=hk i hp hi
 have hm:=List.getElem_mem hp
 refine ⟨by omega,?_,?_⟩
 ·rw [h1]
  have h2:=h.tl _ hm
  have : (n + 1) * 1100000 ≤ 301 * 1100000:=Nat.mul_le_mul_right _ (by omega)
  omega
 ·rw [h1]
  exact tok_small _ _ (h.pv _ hm).td
end Go.Proofs.Ytfbocgagfodgnaa.P.Al

namespace Go.Proofs.Ytfbocgagfodgnaa.P
open Go.Proofs.YtfbocgagfodgnaaW.PrintWords renaming Aside0.mk → ö, below_drew1 → ä, below_step → ü
open Go.RowKit Go.Proofs.YtfbocgagfodgnaaW.PrintWords Go.Proofs.YtfbocgagfodgnaaW.PrintLast Go.Proofs.YtfbocgagfodgnaaW.PrintMore
attribute [local go_sem] max2_int min2_int max_two min_two max_three min_three max_four min_four
set_option linter.unusedVariables false
set_option linter.unusedSimpArgs false
structure GL (x0 : List S51) (x1 x2 : List Int) (x3 : List (List Int)) (x4 : List S38) : Prop where
 g0 : ∀ v ∈ x0,Al.GoodIP v
 l0 : x0.length ≤ 1000000000
 l1 : x1.length ≤ 1000000000
 l2 : x2.length ≤ 1000000000
 l3 : x3.length ≤ 1000000000
 g3 : ∀ v ∈ x3,v.length ≤ 1000000000
 l4 : x4.length ≤ 1000000000
section
variable {x0 y0 : List S51} {x1 x2 y1 y2 : List Int} {x3 y3 : List (List Int)} {x4 y4 : List S38} {v0 v1 v2 v3 v4 u0 u1 u2 u3 u4 : Value} {W : World}
theorem wsame_says (gx : GL x0 x1 x2 x3 x4) (r : Bool) (hr : Al.worldB x0 y0 x1 y1 x2 y2 x3 y3 x4 y4 = r) (hx : WC W x0 x1 x2 x3 x4 v0 v1 v2 v3 v4) (hy : WC W y0 y1 y2 y3 y4 u0 u1 u2 u3 u4) : Calls Try.prog 10 #[.agg #[v0,v1,v2,v3,v4],.agg #[u0,u1,u2,u3,u4]] W fun e w'=>e = .returned (.bool r) ∧ Below W.heap.size W w':=by
 have h:=Al.implWorld x0 y0 x1 y1 x2 y2 x3 y3 x4 y4 gx.g0 gx.l1 gx.l2 gx.g3 gx.l4
 rw [hr] at h
 obtain ⟨k,hk⟩:=h.rounds
 obtain ⟨A0,c0,rfl,p0,q0⟩:=hx.r0
 obtain ⟨A1,c1,rfl,p1,q1⟩:=hx.r1
 obtain ⟨A2,c2,rfl,p2,q2⟩:=hx.r2
 obtain ⟨A3,c3,rfl,p3,q3⟩:=hx.r3
 obtain ⟨A4,c4,rfl,p4,q4⟩:=hx.r4
 obtain ⟨B0,d0,rfl,s0,t0⟩:=hy.r0
 obtain ⟨B1,d1,rfl,s1,t1⟩:=hy.r1
 obtain ⟨B2,d2,rfl,s2,t2⟩:=hy.r2
 obtain ⟨B3,d3,rfl,s3,t3⟩:=hy.r3
 obtain ⟨B4,d4,rfl,s4,t4⟩:=hy.r4
 exact impl_WorldSame.calls k A0 c0 x0 A1 c1 x1 A2 c2 x2 A3 c3 x3 A4 c4 x4 B0 d0 y0 B1 d1 y1 B2 d2 y2 B3 d3 y3 B4 d4 y4 r W q0 p0 q1 p1 q2 p2 q3 p3 q4 p4 t0 s0 t1 s1 t2 s2 t3 s3 t4 s4 hk
theorem wsame_saysS (gx : GL x0 x1 x2 x3 x4) (gy : GL y0 y1 y2 y3 y4) (r : Bool) (hr : Al.worldB x0 y0 x1 y1 x2 y2 x3 y3 x4 y4 = r) (hx : WC W x0 x1 x2 x3 x4 v0 v1 v2 v3 v4) (hy : WC W y0 y1 y2 y3 y4 u0 u1 u2 u3 u4) : Calls Try.prog 11 #[.agg #[v0,v1,v2,v3,v4],.agg #[u0,u1,u2,u3,u4]] W fun e w'=>e = .returned (.bool r) ∧ Below W.heap.size W w':=by
 have h:=Al.specWorld x0 y0 x1 y1 x2 y2 x3 y3 x4 y4 gx.g0 gy.g0 gx.l0 gx.l1 gx.l2 gx.l3 gx.g3 gx.l4
 rw [hr] at h
 obtain ⟨k,hk⟩:=h.rounds
 obtain ⟨A0,c0,rfl,p0,q0⟩:=hx.r0
 obtain ⟨A1,c1,rfl,p1,q1⟩:=hx.r1
 obtain ⟨A2,c2,rfl,p2,q2⟩:=hx.r2
 obtain ⟨A3,c3,rfl,p3,q3⟩:=hx.r3
 obtain ⟨A4,c4,rfl,p4,q4⟩:=hx.r4
 obtain ⟨B0,d0,rfl,s0,t0⟩:=hy.r0
 obtain ⟨B1,d1,rfl,s1,t1⟩:=hy.r1
 obtain ⟨B2,d2,rfl,s2,t2⟩:=hy.r2
 obtain ⟨B3,d3,rfl,s3,t3⟩:=hy.r3
 obtain ⟨B4,d4,rfl,s4,t4⟩:=hy.r4
 exact spec_WorldSame.calls k A0 c0 x0 A1 c1 x1 A2 c2 x2 A3 c3 x3 A4 c4 x4 B0 d0 y0 B1 d1 y1 B2 d2 y2 B3 d3 y3 B4 d4 y4 r W q0 p0 q1 p1 q2 p2 q3 p3 q4 p4 t0 s0 t1 s1 t2 s2 t3 s3 t4 s4 hk
theorem WGood.lists (h : WGood W v0 v1 v2 v3 v4) : ∃ (x0 : List S51) (x1 x2 : List Int) (x3 : List (List Int)) (x4 : List S38),GL x0 x1 x2 x3 x4 ∧ x1.length ≤ 1000 ∧ x4.length ≤ 1000 ∧ WC W x0 x1 x2 x3 x4 v0 v1 v2 v3 v4:=by
 obtain ⟨n,ps,qs,ys,x0,x1,x2,hn,hv,h1,h2,h3,h4,hw⟩:=h
 have p3:=hv.p3;have q2:=hv.q2;have yl:=hv.yl
 exact ⟨x0,x1,x2,qs,ys,⟨Al.good_of hv (by omega) h1 h2,by omega,by omega,by omega,by omega,fun q hq=>by have:=hv.ql q hq;omega,by omega⟩,by omega,by omega,hw⟩
end
private theorem y68_ {Z : Prop} (h : Z:=by first | exact ä (Below.refl _ _) | exact Below.refl _ _) : Z:=h
set_option maxHeartbeats 4000000 in
set_option maxRecDepth 100000 in
theorem lawsame_says (A : Option Addr) (c : Nat) (l : List Int) (w : World) (hr : Kd.C (Kd.int .u8) w A l.length l) (hc : l.length ≤ c) (hw : ∀ x ∈ l,(Lit.int .u8 x).wf = true) :
  Calls Try.prog 4 #[.slice A l.length c] w fun e w'=>e = .returned (.bool true) ∧ Below w.heap.size w w':=by
 have hu29:=Try.underlying33
 have HR:=ö hr
 have HC:=ö hc
 have HW:=ö hw
 have HB:=ö (Below.refl w.heap.size w)
 clear hr hc hw
 by_cases hl : (l.length : Int) > 1048576
 ·have hlz : decide ((l.length : Int) > 1048576) = true:=decide_eq_true hl
  clear hl
  go_enter Try.func4,Try.ntmps4
  go_wp2
  go_ret
  exact ⟨rfl,HB.out⟩
 ·have hlz : decide ((l.length : Int) > 1048576) = false:=decide_eq_false hl
  clear hl
  go_enter Try.func4,Try.ntmps4
  go_upto_region 4 with (first | (go_at_call 9;refine (drawsame_says A c l _ (Kd.C_below HR.out HB.out) HC.out HW.out).mono ?_;rintro e w5 ⟨v0,v1,v2,v3,v4,u0,u1,u2,u3,u4,rfl,hga,hgb,hb⟩;have n1_:=ö (ü HB.out hb);clear HB;have HB:=n1_;clear n1_;obtain ⟨a0,a1,a2,a3,a4,ga,la1,la4,ha⟩:=hga.lists;obtain ⟨b0,b1,b2,b3,b4,gb,_,_,hb_⟩:=hgb.lists;obtain ⟨E0,i0,e0,_⟩:=ha.r0;obtain ⟨E1,i1,e1,_⟩:=ha.r1;obtain ⟨E2,i2,e2,_⟩:=ha.r2;obtain ⟨E3,i3,e3,_⟩:=ha.r3;obtain ⟨E4,i4,e4,_⟩:=ha.r4;subst e0;subst e1;subst e2;subst e3;subst e4;obtain ⟨F0,j0,e0,_⟩:=hb_.r0;obtain ⟨F1,j1,e1,_⟩:=hb_.r1;obtain ⟨F2,j2,e2,_⟩:=hb_.r2;obtain ⟨F3,j3,e3,_⟩:=hb_.r3;obtain ⟨F4,j4,e4,_⟩:=hb_.r4;subst e0;subst e1;subst e2;subst e3;subst e4;have HA:=ö ha;have HBB:=ö hb_;have GA:=ö ga;have GB:=ö gb;have LA1:=ö la1;have LA4:=ö la4;have HB5:=ö (Below.refl w5.heap.size w5);clear hga hgb hb ha hb_ ga gb la1 la4) | ((with_reducible refine gate_dst (N:=3) rfl ?_);refine box_event ?hg (N:=3) ?hd (cs:=#[.slice none 0 0,.slice none 0 0,.slice none 0 0,.slice none 0 0,.slice none 0 0]) (t:=33) ?hr ?_;(case hd=>rfl);(case hg=>rfl);(case hr=>first | (go_simp;done) | (go_simp;rfl));intro ba hg w6 hbox hb;have GBA:=ö (show w.heap.size ≤ ba by rw [hg];exact HB.out.size);have G5BA:=ö (show w5.heap.size ≤ ba by rw [hg];exact HB5.out.size);have n0_:=ap2 (ü HB.out hb) (ü HB5.out hb);clear HB HB5;obtain ⟨HB,HB5⟩:=n0_;have BA:=ö hbox;clear hb hbox hg) | ((with_reducible refine gate_dst (N:=4) rfl ?_);refine box_event ?hg (N:=4) ?hd (cs:=#[.slice none 0 0,.slice none 0 0,.slice none 0 0,.slice none 0 0,.slice none 0 0]) (t:=33) ?hr ?_;(case hd=>rfl);(case hg=>rfl);(case hr=>first | (go_simp;done) | (go_simp;rfl));intro bb hg w7 hbox hb;have NBBBA:=ö (show ba ≠ bb by rw [hg];exact Nat.ne_of_lt (blk_lt BA.out));have k_BA:=ö (blk_below BA.out hb);have GBB:=ö (show w.heap.size ≤ bb by rw [hg];exact HB.out.size);have G5BB:=ö (show w5.heap.size ≤ bb by rw [hg];exact HB5.out.size);have n0_:=ap2 (ü HB.out hb) (ü HB5.out hb);clear HB HB5;obtain ⟨HB,HB5⟩:=n0_;clear BA;have BA:=k_BA;clear k_BA;have BB:=ö hbox;obtain ⟨hcz_0,hcz_1,hcz_2,hcz_3,hcz_4,hfz_0,hfz_1,hfz_2,hfz_3,hfz_4⟩:=bz5_ BA;obtain ⟨hcx_0,hcx_1,hcx_2,hcx_3,hcx_4,hfx_0,hfx_1,hfx_2,hfx_3,hfx_4⟩:=bz5_ BB;have nab:=NBBBA.out;have nba:=nab.symm;clear hb hbox hg))
  have f1 : (((((w7.setCell ⟨ba,0,none⟩ (.slice E0 a0.length i0)).setCell ⟨ba,1,none⟩ (.slice E1 a1.length i1)).setCell ⟨ba,2,none⟩ (.slice E2 a2.length i2)).setCell ⟨ba,3,none⟩ (.slice E3 a3.length i3)).setCell ⟨ba,4,none⟩ (.slice E4 a4.length i4)).heap[ba]? = some (.cells #[.slice E0 a0.length i0,.slice E1 a1.length i1,.slice E2 a2.length i2,.slice E3 a3.length i3,.slice E4 a4.length i4] 33 (0,0)):=by apply bp5_4_;apply bp5_3_;apply bp5_2_;apply bp5_1_;apply bp5_0_;exact BA.out
  have f2 : (((((w7.setCell ⟨ba,0,none⟩ (.slice E0 a0.length i0)).setCell ⟨ba,1,none⟩ (.slice E1 a1.length i1)).setCell ⟨ba,2,none⟩ (.slice E2 a2.length i2)).setCell ⟨ba,3,none⟩ (.slice E3 a3.length i3)).setCell ⟨ba,4,none⟩ (.slice E4 a4.length i4)).heap[bb]? = some (.cells #[.slice none 0 0,.slice none 0 0,.slice none 0 0,.slice none 0 0,.slice none 0 0] 33 (0,0)):=far_set5 BB.out nba (.slice E0 a0.length i0) (.slice E1 a1.length i1) (.slice E2 a2.length i2) (.slice E3 a3.length i3) (.slice E4 a4.length i4)
  have n1:=ö (far_set5 f1 nab (.slice F0 b0.length j0) (.slice F1 b1.length j1) (.slice F2 b2.length j2) (.slice F3 b3.length j3) (.slice F4 b4.length j4))
  have n2:=ö (show ((((((((((w7.setCell ⟨ba,0,none⟩ (.slice E0 a0.length i0)).setCell ⟨ba,1,none⟩ (.slice E1 a1.length i1)).setCell ⟨ba,2,none⟩ (.slice E2 a2.length i2)).setCell ⟨ba,3,none⟩ (.slice E3 a3.length i3)).setCell ⟨ba,4,none⟩ (.slice E4 a4.length i4)).setCell ⟨bb,0,none⟩ (.slice F0 b0.length j0)).setCell ⟨bb,1,none⟩ (.slice F1 b1.length j1)).setCell ⟨bb,2,none⟩ (.slice F2 b2.length j2)).setCell ⟨bb,3,none⟩ (.slice F3 b3.length j3)).setCell ⟨bb,4,none⟩ (.slice F4 b4.length j4)).heap[bb]? = some (.cells #[.slice F0 b0.length j0,.slice F1 b1.length j1,.slice F2 b2.length j2,.slice F3 b3.length j3,.slice F4 b4.length j4] 33 (0,0)) by apply bp5_4_;apply bp5_3_;apply bp5_2_;apply bp5_1_;apply bp5_0_;exact f2)
  have n3:=ö (below_set5 (below_set5 HB.out GBA.out (.slice E0 a0.length i0) (.slice E1 a1.length i1) (.slice E2 a2.length i2) (.slice E3 a3.length i3) (.slice E4 a4.length i4)) GBB.out (.slice F0 b0.length j0) (.slice F1 b1.length j1) (.slice F2 b2.length j2) (.slice F3 b3.length j3) (.slice F4 b4.length j4))
  have n4:=ö (HA.out.below (below_set5 (below_set5 HB5.out G5BA.out (.slice E0 a0.length i0) (.slice E1 a1.length i1) (.slice E2 a2.length i2) (.slice E3 a3.length i3) (.slice E4 a4.length i4)) G5BB.out (.slice F0 b0.length j0) (.slice F1 b1.length j1) (.slice F2 b2.length j2) (.slice F3 b3.length j3) (.slice F4 b4.length j4)))
  have n5:=ö (HBB.out.below (below_set5 (below_set5 HB5.out G5BA.out (.slice E0 a0.length i0) (.slice E1 a1.length i1) (.slice E2 a2.length i2) (.slice E3 a3.length i3) (.slice E4 a4.length i4)) G5BB.out (.slice F0 b0.length j0) (.slice F1 b1.length j1) (.slice F2 b2.length j2) (.slice F3 b3.length j3) (.slice F4 b4.length j4)))
  clear f1 f2 BA BB HB HA HBB HB5 hcz_0 hcz_1 hcz_2 hcz_3 hcz_4 hfz_0 hfz_1 hfz_2 hfz_3 hfz_4 hcx_0 hcx_1 hcx_2 hcx_3 hcx_4 hfx_0 hfx_1 hfx_2 hfx_3 hfx_4
  generalize ((((((((((w7.setCell ⟨ba,0,none⟩ (.slice E0 a0.length i0)).setCell ⟨ba,1,none⟩ (.slice E1 a1.length i1)).setCell ⟨ba,2,none⟩ (.slice E2 a2.length i2)).setCell ⟨ba,3,none⟩ (.slice E3 a3.length i3)).setCell ⟨ba,4,none⟩ (.slice E4 a4.length i4)).setCell ⟨bb,0,none⟩ (.slice F0 b0.length j0)).setCell ⟨bb,1,none⟩ (.slice F1 b1.length j1)).setCell ⟨bb,2,none⟩ (.slice F2 b2.length j2)).setCell ⟨bb,3,none⟩ (.slice F3 b3.length j3)).setCell ⟨bb,4,none⟩ (.slice F4 b4.length j4)) = w8 at n1 n2 n3 n4 n5 ⊢
  have BA:=n1
  have BB:=n2
  have HB:=n3
  have HA:=n4
  have HBB:=n5
  clear n1 n2 n3 n4 n5
  obtain ⟨r,hr⟩ : ∃ r,Al.worldB a0 b0 a1 b1 a2 b2 a3 b3 a4 b4 = r:=⟨_,rfl⟩
  have HRAB:=ö hr
  have HRBA:=ö ((Al.worldB_symm b0 a0 b1 a1 b2 a2 b3 a3 b4 a4).trans hr)
  clear hr
  obtain ⟨hcz_0,hcz_1,hcz_2,hcz_3,hcz_4,hfz_0,hfz_1,hfz_2,hfz_3,hfz_4⟩:=bz5_ BA
  obtain ⟨hcx_0,hcx_1,hcx_2,hcx_3,hcx_4,hfx_0,hfx_1,hfx_2,hfx_3,hfx_4⟩:=bz5_ BB
  go_cut [36] (fun v36 wc=>v36 = .bool false ∧ Aside0 (wc.heap[ba]? = some (.cells #[.slice E0 a0.length i0,.slice E1 a1.length i1,.slice E2 a2.length i2,.slice E3 a3.length i3,.slice E4 a4.length i4] 33 (0,0))) ∧ Aside0 (Below w.heap.size w wc) ∧ Aside0 (WC wc a0 a1 a2 a3 a4 (.slice E0 a0.length i0) (.slice E1 a1.length i1) (.slice E2 a2.length i2) (.slice E3 a3.length i3) (.slice E4 a4.length i4)))
  case first =>
   go_region_held3 (fun w'=>w'.cell? ⟨ba,0,none⟩ = some (.slice E0 a0.length i0) ∧ w'.cell? ⟨ba,1,none⟩ = some (.slice E1 a1.length i1) ∧ w'.cell? ⟨ba,2,none⟩ = some (.slice E2 a2.length i2) ∧ w'.cell? ⟨ba,3,none⟩ = some (.slice E3 a3.length i3) ∧ w'.cell? ⟨ba,4,none⟩ = some (.slice E4 a4.length i4) ∧ w'.cell? ⟨bb,0,none⟩ = some (.slice F0 b0.length j0) ∧ w'.cell? ⟨bb,1,none⟩ = some (.slice F1 b1.length j1) ∧ w'.cell? ⟨bb,2,none⟩ = some (.slice F2 b2.length j2) ∧ w'.cell? ⟨bb,3,none⟩ = some (.slice F3 b3.length j3) ∧ w'.cell? ⟨bb,4,none⟩ = some (.slice F4 b4.length j4)) (go_keep) (first | (go_at_call 10;refine (wsame_says GA.out r HRAB.out (HA.out.below (y68_)) (HBB.out.below (y68_))).mono ?_;rintro e wn ⟨rfl,hb⟩;have k_BA:=ö (blk_below BA.out (by first | exact hb | exact ü (ä (Below.refl _ _)) hb));have k_BB:=ö (blk_below BB.out (by first | exact hb | exact ü (ä (Below.refl _ _)) hb));have k_HA:=ö (HA.out.below (by first | exact hb | exact ü (ä (Below.refl _ _)) hb));have k_HBB:=ö (HBB.out.below (by first | exact hb | exact ü (ä (Below.refl _ _)) hb));have k_HB:=ö (ü HB.out (by first | exact hb | exact ü (ä (Below.refl _ _)) hb));clear hb;clear hcz_0 hcz_1 hcz_2 hcz_3 hcz_4 hfz_0 hfz_1 hfz_2 hfz_3 hfz_4 hcx_0 hcx_1 hcx_2 hcx_3 hcx_4 hfx_0 hfx_1 hfx_2 hfx_3 hfx_4;clear BA;have BA:=k_BA;clear k_BA;clear BB;have BB:=k_BB;clear k_BB;clear HA;have HA:=k_HA;clear k_HA;clear HBB;have HBB:=k_HBB;clear k_HBB;clear HB;have HB:=k_HB;clear k_HB;obtain ⟨hcz_0,hcz_1,hcz_2,hcz_3,hcz_4,hfz_0,hfz_1,hfz_2,hfz_3,hfz_4⟩:=bz5_ BA;obtain ⟨hcx_0,hcx_1,hcx_2,hcx_3,hcx_4,hfx_0,hfx_1,hfx_2,hfx_3,hfx_4⟩:=bz5_ BB) | (go_at_call 11;refine (wsame_saysS GA.out GB.out r HRAB.out (HA.out.below (y68_)) (HBB.out.below (y68_))).mono ?_;rintro e wn ⟨rfl,hb⟩;have k_BA:=ö (blk_below BA.out (by first | exact hb | exact ü (ä (Below.refl _ _)) hb));have k_BB:=ö (blk_below BB.out (by first | exact hb | exact ü (ä (Below.refl _ _)) hb));have k_HA:=ö (HA.out.below (by first | exact hb | exact ü (ä (Below.refl _ _)) hb));have k_HBB:=ö (HBB.out.below (by first | exact hb | exact ü (ä (Below.refl _ _)) hb));have k_HB:=ö (ü HB.out (by first | exact hb | exact ü (ä (Below.refl _ _)) hb));clear hb;clear hcz_0 hcz_1 hcz_2 hcz_3 hcz_4 hfz_0 hfz_1 hfz_2 hfz_3 hfz_4 hcx_0 hcx_1 hcx_2 hcx_3 hcx_4 hfx_0 hfx_1 hfx_2 hfx_3 hfx_4;clear BA;have BA:=k_BA;clear k_BA;clear BB;have BB:=k_BB;clear k_BB;clear HA;have HA:=k_HA;clear k_HA;clear HBB;have HBB:=k_HBB;clear k_HBB;clear HB;have HB:=k_HB;clear k_HB;obtain ⟨hcz_0,hcz_1,hcz_2,hcz_3,hcz_4,hfz_0,hfz_1,hfz_2,hfz_3,hfz_4⟩:=bz5_ BA;obtain ⟨hcx_0,hcx_1,hcx_2,hcx_3,hcx_4,hfx_0,hfx_1,hfx_2,hfx_3,hfx_4⟩:=bz5_ BB) | (go_at_call 10;refine (wsame_says GB.out r HRBA.out (HBB.out.below (y68_)) (HA.out.below (y68_))).mono ?_;rintro e wn ⟨rfl,hb⟩;have k_BA:=ö (blk_below BA.out (by first | exact hb | exact ü (ä (Below.refl _ _)) hb));have k_BB:=ö (blk_below BB.out (by first | exact hb | exact ü (ä (Below.refl _ _)) hb));have k_HA:=ö (HA.out.below (by first | exact hb | exact ü (ä (Below.refl _ _)) hb));have k_HBB:=ö (HBB.out.below (by first | exact hb | exact ü (ä (Below.refl _ _)) hb));have k_HB:=ö (ü HB.out (by first | exact hb | exact ü (ä (Below.refl _ _)) hb));clear hb;clear hcz_0 hcz_1 hcz_2 hcz_3 hcz_4 hfz_0 hfz_1 hfz_2 hfz_3 hfz_4 hcx_0 hcx_1 hcx_2 hcx_3 hcx_4 hfx_0 hfx_1 hfx_2 hfx_3 hfx_4;clear BA;have BA:=k_BA;clear k_BA;clear BB;have BB:=k_BB;clear k_BB;clear HA;have HA:=k_HA;clear k_HA;clear HBB;have HBB:=k_HBB;clear k_HBB;clear HB;have HB:=k_HB;clear k_HB;obtain ⟨hcz_0,hcz_1,hcz_2,hcz_3,hcz_4,hfz_0,hfz_1,hfz_2,hfz_3,hfz_4⟩:=bz5_ BA;obtain ⟨hcx_0,hcx_1,hcx_2,hcx_3,hcx_4,hfx_0,hfx_1,hfx_2,hfx_3,hfx_4⟩:=bz5_ BB) | (go_at_call 10;refine (wsame_says GA.out true (Al.worldB_refl _ _ _ _ _) (HA.out.below (y68_)) (HA.out.below (y68_))).mono ?_;rintro e wn ⟨rfl,hb⟩;have k_BA:=ö (blk_below BA.out (by first | exact hb | exact ü (ä (Below.refl _ _)) hb));have k_BB:=ö (blk_below BB.out (by first | exact hb | exact ü (ä (Below.refl _ _)) hb));have k_HA:=ö (HA.out.below (by first | exact hb | exact ü (ä (Below.refl _ _)) hb));have k_HBB:=ö (HBB.out.below (by first | exact hb | exact ü (ä (Below.refl _ _)) hb));have k_HB:=ö (ü HB.out (by first | exact hb | exact ü (ä (Below.refl _ _)) hb));clear hb;clear hcz_0 hcz_1 hcz_2 hcz_3 hcz_4 hfz_0 hfz_1 hfz_2 hfz_3 hfz_4 hcx_0 hcx_1 hcx_2 hcx_3 hcx_4 hfx_0 hfx_1 hfx_2 hfx_3 hfx_4;clear BA;have BA:=k_BA;clear k_BA;clear BB;have BB:=k_BB;clear k_BB;clear HA;have HA:=k_HA;clear k_HA;clear HBB;have HBB:=k_HBB;clear k_HBB;clear HB;have HB:=k_HB;clear k_HB;obtain ⟨hcz_0,hcz_1,hcz_2,hcz_3,hcz_4,hfz_0,hfz_1,hfz_2,hfz_3,hfz_4⟩:=bz5_ BA;obtain ⟨hcx_0,hcx_1,hcx_2,hcx_3,hcx_4,hfx_0,hfx_1,hfx_2,hfx_3,hfx_4⟩:=bz5_ BB))
   rename_i hHeld
   clear hHeld
   go_wp2
   go_meet
   case rel=>exact ⟨by simp,BA,HB,HA⟩
  case rest =>
   clear BA BB HB HA HBB hcz_0 hcz_1 hcz_2 hcz_3 hcz_4 hfz_0 hfz_1 hfz_2 hfz_3 hfz_4 hcx_0 hcx_1 hcx_2 hcx_3 hcx_4 hfx_0 hfx_1 hfx_2 hfx_3 hfx_4
   obtain ⟨rfl,BA,HB,HA⟩:=hcut
   obtain ⟨hcz_0,hcz_1,hcz_2,hcz_3,hcz_4,hfz_0,hfz_1,hfz_2,hfz_3,hfz_4⟩:=bz5_ BA
   have HRX:=ö (Al.worldB_cells a0 a1 a2 a3 a4 1)
   have HRY:=ö (Al.worldB_said a0 a1 a2 a3 a4 ⟨0,0⟩)
   go_upto_region 7 with (first | ((with_reducible refine gate_dst (N:=5) rfl ?_);refine box_event ?hg (N:=5) ?hd (cs:=#[.slice none 0 0,.slice none 0 0,.slice none 0 0,.slice none 0 0,.slice none 0 0]) (t:=33) ?hr ?_;(case hd=>rfl);(case hg=>rfl);(case hr=>first | (go_simp;done) | (go_simp;rfl));intro bx hg wx hbox hb;have NBXBA:=ö (show ba ≠ bx by rw [hg];exact Nat.ne_of_lt (blk_lt BA.out));have GBX:=ö (show w.heap.size ≤ bx by rw [hg];exact HB.out.size);have G5BX:=ö (Nat.le_of_eq hg.symm);have HBXX:=ö hb;have k_BA:=ö (blk_below BA.out hb);have n0_:=ö (ü HB.out hb);clear HB BA hcz_0 hcz_1 hcz_2 hcz_3 hcz_4 hfz_0 hfz_1 hfz_2 hfz_3 hfz_4;have HB:=n0_;have BA:=k_BA;clear n0_ k_BA;have BX:=ö hbox;obtain ⟨hcz_0,hcz_1,hcz_2,hcz_3,hcz_4,hfz_0,hfz_1,hfz_2,hfz_3,hfz_4⟩:=bz5_ BA;obtain ⟨hcq_0,hcq_1,hcq_2,hcq_3,hcq_4,hfq_0,hfq_1,hfq_2,hfq_3,hfq_4⟩:=bz5_ BX;clear hb hbox hg))
   have f1:=ö (far_set5 BA.out NBXBA.out (.slice E0 a0.length i0) (.slice E1 a1.length i1) (.slice E2 a2.length i2) (.slice E3 a3.length i3) (.slice E4 a4.length i4))
   have f2:=ö (show (((((wx.setCell ⟨bx,0,none⟩ (.slice E0 a0.length i0)).setCell ⟨bx,1,none⟩ (.slice E1 a1.length i1)).setCell ⟨bx,2,none⟩ (.slice E2 a2.length i2)).setCell ⟨bx,3,none⟩ (.slice E3 a3.length i3)).setCell ⟨bx,4,none⟩ (.slice E4 a4.length i4)).heap[bx]? = some (.cells #[.slice E0 a0.length i0,.slice E1 a1.length i1,.slice E2 a2.length i2,.slice E3 a3.length i3,.slice E4 a4.length i4] 33 (0,0)) by apply bp5_4_;apply bp5_3_;apply bp5_2_;apply bp5_1_;apply bp5_0_;exact BX.out)
   have f3:=ö (below_set5 HB.out GBX.out (.slice E0 a0.length i0) (.slice E1 a1.length i1) (.slice E2 a2.length i2) (.slice E3 a3.length i3) (.slice E4 a4.length i4))
   have f4:=ö (HA.out.below (below_set5 HBXX.out G5BX.out (.slice E0 a0.length i0) (.slice E1 a1.length i1) (.slice E2 a2.length i2) (.slice E3 a3.length i3) (.slice E4 a4.length i4)))
   have f5:=ö (below_set5 HBXX.out G5BX.out (.slice E0 a0.length i0) (.slice E1 a1.length i1) (.slice E2 a2.length i2) (.slice E3 a3.length i3) (.slice E4 a4.length i4))
   clear BA BX HB HBXX hcz_0 hcz_1 hcz_2 hcz_3 hcz_4 hfz_0 hfz_1 hfz_2 hfz_3 hfz_4 hcq_0 hcq_1 hcq_2 hcq_3 hcq_4 hfq_0 hfq_1 hfq_2 hfq_3 hfq_4
   generalize (((((wx.setCell ⟨bx,0,none⟩ (.slice E0 a0.length i0)).setCell ⟨bx,1,none⟩ (.slice E1 a1.length i1)).setCell ⟨bx,2,none⟩ (.slice E2 a2.length i2)).setCell ⟨bx,3,none⟩ (.slice E3 a3.length i3)).setCell ⟨bx,4,none⟩ (.slice E4 a4.length i4)) = w20 at f1 f2 f3 f4 f5 ⊢
   obtain ⟨hcz_0,hcz_1,hcz_2,hcz_3,hcz_4,hfz_0,hfz_1,hfz_2,hfz_3,hfz_4⟩:=bz5_ f1
   obtain ⟨hcq_0,hcq_1,hcq_2,hcq_3,hcq_4,hfq_0,hfq_1,hfq_2,hfq_3,hfq_4⟩:=bz5_ f2
   have nax:=NBXBA.out
   have nxa:=nax.symm
   have HBZ:=ö (Below.refl w20.heap.size w20)
   obtain ⟨_,_,qe,qc,qr⟩:=f4.out.r1
   injection qe with qe1 _ qe3
   subst qe1;subst qe3
   have HQR:=ö qr
   clear qr qc
   go_upto_region 8 with (first | ((with_reducible refine gate_dst (N:=38) rfl ?_);refine Kd.R_lit (Kd.int .i64) _ 3 ?hg (N:=38) ?hd (xs:=([] : List Int)) (inner:=[]) (ok:=fun _=>True) (okp:=fun _=>True) ?hr ?hp (fun _ hk=>hk) trivial (Below.refl _ _) (Nat.le_refl _) (by simp) ?_;(case hd=>rfl);(case hg=>rfl);(case hr=>first | (go_simp;done) | (go_simp;rfl));(case hp=>exact (Reps.none _ _));intro v38 w21 ho hb hg_ hnew_;clear hg_ hnew_;have HBZ2:=ö (ü HBZ.out hb);have HO:=ö (Kd.R_lower ho HBZ.out.size);clear ho hb HBZ;have HBZ:=HBZ2;clear HBZ2;clear hcz_0 hcz_1 hcz_2 hcz_3 hcz_4 hfz_0 hfz_1 hfz_2 hfz_3 hfz_4 hcq_0 hcq_1 hcq_2 hcq_3 hcq_4 hfq_0 hfq_1 hfq_2 hfq_3 hfq_4;obtain ⟨hcz_0,hcz_1,hcz_2,hcz_3,hcz_4,hfz_0,hfz_1,hfz_2,hfz_3,hfz_4⟩:=bz5_ (ö (blk_below f1.out HBZ.out));obtain ⟨hcq_0,hcq_1,hcq_2,hcq_3,hcq_4,hfq_0,hfq_1,hfq_2,hfq_3,hfq_4⟩:=bz5_ (ö (blk_below f2.out HBZ.out));skip) | ((with_reducible refine gate_builtin (b:=.append) (xs:=#[.tmp 38,.tmp 40]) rfl ?_);at_builtin;refine Kd.R_append_rows (Kd.int .i64) (w0:=w20) w20.heap.size rfl (.tmp 38) (.tmp 40) 26 3 (.int .i64 0) 8 rfl Try.underlying26 info3 rfl (by decide) (by omega) v38 [] a1 E1 a1.length i1 (fun _=>True) (fun _=>False) rfl rfl ?aO ?aR (fun _ _ h=>h) (fun _ h=>h.elim) ?aF ?aB ?aS ?aL ?_;(case aR=>exact Kd.C_below HQR.out HBZ.out);(case aO=>exact HO.out);(case aF=>exact fun _ _=>trivial);(case aB=>exact HBZ.out);(case aS=>exact HBZ.out.size);(case aL=>have:=LA1.out;(try simp only [List.nil_append,List.length_nil]);omega);intro v41 w22 ho hb hg hat;have HBZ2:=ö hb;have HO2:=ö ho;clear ho hb hg hat HBZ HO;have HBZ:=HBZ2;have HO:=HO2;clear HBZ2 HO2;clear hcz_0 hcz_1 hcz_2 hcz_3 hcz_4 hfz_0 hfz_1 hfz_2 hfz_3 hfz_4 hcq_0 hcq_1 hcq_2 hcq_3 hcq_4 hfq_0 hfq_1 hfq_2 hfq_3 hfq_4;obtain ⟨hcz_0,hcz_1,hcz_2,hcz_3,hcz_4,hfz_0,hfz_1,hfz_2,hfz_3,hfz_4⟩:=bz5_ (ö (blk_below f1.out HBZ.out));obtain ⟨hcq_0,hcq_1,hcq_2,hcq_3,hcq_4,hfq_0,hfq_1,hfq_2,hfq_3,hfq_4⟩:=bz5_ (ö (blk_below f2.out HBZ.out));skip) | ((with_reducible refine gate_builtin (b:=.append) (xs:=#[.tmp 41,.tmp 42]) rfl ?_);at_builtin;refine Kd.R_append (Kd.int .i64) (w0:=w20) w20.heap.size rfl (.tmp 41) (.tmp 42) 26 3 (.int .i64 0) 8 rfl Try.underlying26 info3 rfl (by decide) (by omega) v41 ([] ++ a1) 1 [.int .i64 1] (fun _=>True) (fun _=>False) rfl rfl ?aP (fun _ hk=>hk.elim) ?aF ?aO ?aB ?aS ?aL ?_;(case aP=>exact rfl);(case aB=>exact HBZ.out);(case aF=>exact (fun _ _=>trivial));(case aO=>exact HO.out);(case aS=>exact HBZ.out.size);(case aL=>have:=LA1.out;(try simp only [List.nil_append,List.length_nil]);omega);intro v43 w23 ho hb hg hat;have HBZ2:=ö hb;have HO2:=ö ho;clear ho hb hg hat HBZ HO;have HBZ:=HBZ2;have HO:=HO2;clear HBZ2 HO2;clear hcz_0 hcz_1 hcz_2 hcz_3 hcz_4 hfz_0 hfz_1 hfz_2 hfz_3 hfz_4 hcq_0 hcq_1 hcq_2 hcq_3 hcq_4 hfq_0 hfq_1 hfq_2 hfq_3 hfq_4;obtain ⟨hcz_0,hcz_1,hcz_2,hcz_3,hcz_4,hfz_0,hfz_1,hfz_2,hfz_3,hfz_4⟩:=bz5_ (ö (blk_below f1.out HBZ.out));obtain ⟨hcq_0,hcq_1,hcq_2,hcq_3,hcq_4,hfq_0,hfq_1,hfq_2,hfq_3,hfq_4⟩:=bz5_ (ö (blk_below f2.out HBZ.out));obtain ⟨AV,cV,eV⟩:=Kd.R_slice HO.out;have el : (([] : List Int) ++ a1 ++ [1]).length = a1.length + 1:=(by simp);rw [el] at eV;subst eV;clear el))
   have hcur:=blk_below f2.out HBZ.out
   have g1:=ö ((Below.heap_setCell w23 ⟨bx,1,none⟩ (.slice AV (a1.length + 1) cV) ba nax).trans (blk_below f1.out HBZ.out))
   have g2:=ö (show (w23.setCell ⟨bx,1,none⟩ (.slice AV (a1.length + 1) cV)).heap[bx]? = some (.cells #[.slice E0 a0.length i0,.slice AV (a1.length + 1) cV,.slice E2 a2.length i2,.slice E3 a3.length i3,.slice E4 a4.length i4] 33 (0,0)) by apply bp5_1_;exact hcur)
   have g3:=ö (below_set (j:=1) (v:=(.slice AV (a1.length + 1) cV)) (ü f3.out HBZ.out) GBX.out)
   have g5:=ö (below_set (j:=1) (v:=(.slice AV (a1.length + 1) cV)) (ü f5.out HBZ.out) G5BX.out)
   have g6:=ö (show Kd.R (Kd.int .i64) 3 (w23.setCell ⟨bx,1,none⟩ (.slice AV (a1.length + 1) cV)) w20.heap.size (fun _=>True) (.slice AV (a1.length + 1) cV) (a1 ++ [1]) from Kd.R_set HO.out hcur (by decide) 1 (.slice AV (a1.length + 1) cV))
   clear hcur f1 f2 f3 f4 f5 HO HBZ HQR hcz_0 hcz_1 hcz_2 hcz_3 hcz_4 hfz_0 hfz_1 hfz_2 hfz_3 hfz_4 hcq_0 hcq_1 hcq_2 hcq_3 hcq_4 hfq_0 hfq_1 hfq_2 hfq_3 hfq_4
   generalize w23.setCell ⟨bx,1,none⟩ (.slice AV (a1.length + 1) cV) = w24 at g1 g2 g3 g5 g6 ⊢
   obtain ⟨hcz_0,hcz_1,hcz_2,hcz_3,hcz_4,hfz_0,hfz_1,hfz_2,hfz_3,hfz_4⟩:=bz5_ g1
   go_upto_region 9 with (first | ((with_reducible refine gate_dst (N:=6) rfl ?_);refine box_event ?hg (N:=6) ?hd (cs:=#[.slice none 0 0,.slice none 0 0,.slice none 0 0,.slice none 0 0,.slice none 0 0]) (t:=33) ?hr ?_;(case hd=>rfl);(case hg=>rfl);(case hr=>first | (go_simp;done) | (go_simp;rfl));intro by_ hg wy hbox hb;have NYA:=ö (show ba ≠ by_ by rw [hg];exact Nat.ne_of_lt (blk_lt g1.out));have NYX:=ö (show bx ≠ by_ by rw [hg];exact Nat.ne_of_lt (blk_lt g2.out));have GBY:=ö (show w.heap.size ≤ by_ by rw [hg];exact g3.out.size);have G5BY:=ö (show wc.heap.size ≤ by_ by rw [hg];exact g5.out.size);have HBY:=ö hb;have BY:=ö hbox;have k_1:=ö (blk_below g1.out hb);have k_2:=ö (blk_below g2.out hb);clear g1 g2;have g1:=k_1;have g2:=k_2;clear k_1 k_2 hcz_0 hcz_1 hcz_2 hcz_3 hcz_4 hfz_0 hfz_1 hfz_2 hfz_3 hfz_4;obtain ⟨hcz_0,hcz_1,hcz_2,hcz_3,hcz_4,hfz_0,hfz_1,hfz_2,hfz_3,hfz_4⟩:=bz5_ g1;obtain ⟨hcy_0,hcy_1,hcy_2,hcy_3,hcy_4,hfy_0,hfy_1,hfy_2,hfy_3,hfy_4⟩:=bz5_ BY;clear hb hbox hg))
   have h1:=ö (far_set5 g1.out NYA.out (.slice E0 a0.length i0) (.slice E1 a1.length i1) (.slice E2 a2.length i2) (.slice E3 a3.length i3) (.slice E4 a4.length i4))
   have h2:=ö (far_set5 g2.out NYX.out (.slice E0 a0.length i0) (.slice E1 a1.length i1) (.slice E2 a2.length i2) (.slice E3 a3.length i3) (.slice E4 a4.length i4))
   have h3:=ö (show (((((wy.setCell ⟨by_,0,none⟩ (.slice E0 a0.length i0)).setCell ⟨by_,1,none⟩ (.slice E1 a1.length i1)).setCell ⟨by_,2,none⟩ (.slice E2 a2.length i2)).setCell ⟨by_,3,none⟩ (.slice E3 a3.length i3)).setCell ⟨by_,4,none⟩ (.slice E4 a4.length i4)).heap[by_]? = some (.cells #[.slice E0 a0.length i0,.slice E1 a1.length i1,.slice E2 a2.length i2,.slice E3 a3.length i3,.slice E4 a4.length i4] 33 (0,0)) by apply bp5_4_;apply bp5_3_;apply bp5_2_;apply bp5_1_;apply bp5_0_;exact BY.out)
   have h4:=ö (below_set5 (ü g3.out HBY.out) GBY.out (.slice E0 a0.length i0) (.slice E1 a1.length i1) (.slice E2 a2.length i2) (.slice E3 a3.length i3) (.slice E4 a4.length i4))
   have h5:=ö (below_set5 (ü g5.out HBY.out) G5BY.out (.slice E0 a0.length i0) (.slice E1 a1.length i1) (.slice E2 a2.length i2) (.slice E3 a3.length i3) (.slice E4 a4.length i4))
   have h6:=ö (set5_ (.slice E0 a0.length i0) (.slice E1 a1.length i1) (.slice E2 a2.length i2) (.slice E3 a3.length i3) (.slice E4 a4.length i4) (Kd.R_below g6.out HBY.out) BY.out (by decide))
   clear g1 g2 g3 g5 g6 BY HBY hcz_0 hcz_1 hcz_2 hcz_3 hcz_4 hfz_0 hfz_1 hfz_2 hfz_3 hfz_4 hcy_0 hcy_1 hcy_2 hcy_3 hcy_4 hfy_0 hfy_1 hfy_2 hfy_3 hfy_4
   generalize (((((wy.setCell ⟨by_,0,none⟩ (.slice E0 a0.length i0)).setCell ⟨by_,1,none⟩ (.slice E1 a1.length i1)).setCell ⟨by_,2,none⟩ (.slice E2 a2.length i2)).setCell ⟨by_,3,none⟩ (.slice E3 a3.length i3)).setCell ⟨by_,4,none⟩ (.slice E4 a4.length i4)) = w30 at h1 h2 h3 h4 h5 h6 ⊢
   obtain ⟨hcz_0,hcz_1,hcz_2,hcz_3,hcz_4,hfz_0,hfz_1,hfz_2,hfz_3,hfz_4⟩:=bz5_ h1
   obtain ⟨hcq_0,hcq_1,hcq_2,hcq_3,hcq_4,hfq_0,hfq_1,hfq_2,hfq_3,hfq_4⟩:=bz5_ h3
   have nay:=NYA.out
   have nya:=nay.symm
   have HBZ:=ö (Below.refl w30.heap.size w30)
   obtain ⟨_,_,qe,qc,qr⟩:=(HA.out.below h5.out).r4
   injection qe with qe1 _ qe3
   subst qe1;subst qe3
   have HQR:=ö qr
   clear qr qc
   go_upto_region 10 with (first | ((with_reducible refine gate_dst (N:=46) rfl ?_);refine Kd.R_lit k38 _ 38 ?hg (N:=46) ?hd (xs:=([] : List S38)) (inner:=[]) (ok:=fun _=>True) (okp:=fun _=>True) ?hr ?hp (fun _ hk=>hk) trivial (Below.refl _ _) (Nat.le_refl _) (by simp) ?_;(case hd=>rfl);(case hg=>rfl);(case hr=>first | (go_simp;done) | (go_simp;rfl));(case hp=>exact (Reps.none _ _));intro v46 w31 ho hb hg_ hnew_;clear hg_ hnew_;have HBZ2:=ö (ü HBZ.out hb);have HO:=ö (Kd.R_lower ho HBZ.out.size);clear ho hb HBZ;have HBZ:=HBZ2;clear HBZ2;clear hcz_0 hcz_1 hcz_2 hcz_3 hcz_4 hfz_0 hfz_1 hfz_2 hfz_3 hfz_4 hcq_0 hcq_1 hcq_2 hcq_3 hcq_4 hfq_0 hfq_1 hfq_2 hfq_3 hfq_4;obtain ⟨hcz_0,hcz_1,hcz_2,hcz_3,hcz_4,hfz_0,hfz_1,hfz_2,hfz_3,hfz_4⟩:=bz5_ (ö (blk_below h1.out HBZ.out));obtain ⟨hcq_0,hcq_1,hcq_2,hcq_3,hcq_4,hfq_0,hfq_1,hfq_2,hfq_3,hfq_4⟩:=bz5_ (ö (blk_below h3.out HBZ.out));skip) | ((with_reducible refine gate_builtin (b:=.append) (xs:=#[.tmp 46,.tmp 48]) rfl ?_);at_builtin;refine Kd.R_append_rows k38 (w0:=w30) w30.heap.size rfl (.tmp 46) (.tmp 48) 23 38 (.agg #[.int .i64 0,.int .i64 0]) 16 rfl Try.underlying23 info38 rfl (by decide) (by omega) v46 [] a4 E4 a4.length i4 (fun _=>True) (fun _=>False) rfl rfl ?aO ?aR (fun _ _ h=>h) (fun _ h=>h.elim) ?aF ?aB ?aS ?aL ?_;(case aR=>exact Kd.C_below HQR.out HBZ.out);(case aO=>exact HO.out);(case aF=>exact fun _ _=>trivial);(case aB=>exact HBZ.out);(case aS=>exact HBZ.out.size);(case aL=>have:=LA4.out;(try simp only [List.nil_append,List.length_nil]);omega);intro v49 w32 ho hb hg hat;have HBZ2:=ö hb;have HO2:=ö ho;clear ho hb hg hat HBZ HO;have HBZ:=HBZ2;have HO:=HO2;clear HBZ2 HO2;clear hcz_0 hcz_1 hcz_2 hcz_3 hcz_4 hfz_0 hfz_1 hfz_2 hfz_3 hfz_4 hcq_0 hcq_1 hcq_2 hcq_3 hcq_4 hfq_0 hfq_1 hfq_2 hfq_3 hfq_4;obtain ⟨hcz_0,hcz_1,hcz_2,hcz_3,hcz_4,hfz_0,hfz_1,hfz_2,hfz_3,hfz_4⟩:=bz5_ (ö (blk_below h1.out HBZ.out));obtain ⟨hcq_0,hcq_1,hcq_2,hcq_3,hcq_4,hfq_0,hfq_1,hfq_2,hfq_3,hfq_4⟩:=bz5_ (ö (blk_below h3.out HBZ.out));skip) | ((with_reducible refine gate_builtin (b:=.append) (xs:=#[.tmp 49,.tmp 51]) rfl ?_);at_builtin;refine Kd.R_append k38 (w0:=w30) w30.heap.size rfl (.tmp 49) (.tmp 51) 23 38 (.agg #[.int .i64 0,.int .i64 0]) 16 rfl Try.underlying23 info38 rfl (by decide) (by omega) v49 ([] ++ a4) (⟨0,0⟩ : S38) [.int .i64 0,.int .i64 0] (fun _=>True) (fun _=>False) rfl rfl ?aP (fun _ hk=>hk.elim) ?aF ?aO ?aB ?aS ?aL ?_;(case aP=>exact ⟨[.int .i64 0],[.int .i64 0],rfl,rfl,rfl⟩);(case aB=>exact HBZ.out);(case aF=>exact (fun _ _=>trivial));(case aO=>exact HO.out);(case aS=>exact HBZ.out.size);(case aL=>have:=LA4.out;(try simp only [List.nil_append,List.length_nil]);omega);intro v52 w33 ho hb hg hat;have HBZ2:=ö hb;have HO2:=ö ho;clear ho hb hg hat HBZ HO;have HBZ:=HBZ2;have HO:=HO2;clear HBZ2 HO2;clear hcz_0 hcz_1 hcz_2 hcz_3 hcz_4 hfz_0 hfz_1 hfz_2 hfz_3 hfz_4 hcq_0 hcq_1 hcq_2 hcq_3 hcq_4 hfq_0 hfq_1 hfq_2 hfq_3 hfq_4;obtain ⟨hcz_0,hcz_1,hcz_2,hcz_3,hcz_4,hfz_0,hfz_1,hfz_2,hfz_3,hfz_4⟩:=bz5_ (ö (blk_below h1.out HBZ.out));obtain ⟨hcq_0,hcq_1,hcq_2,hcq_3,hcq_4,hfq_0,hfq_1,hfq_2,hfq_3,hfq_4⟩:=bz5_ (ö (blk_below h3.out HBZ.out));obtain ⟨AZ,cZ,eZ⟩:=Kd.R_slice HO.out;have el : (([] : List S38) ++ a4 ++ [(⟨0,0⟩ : S38)]).length = a4.length + 1:=(by rw [List.nil_append,List.length_append];rfl);rw [el] at eZ;subst eZ;clear el))
   have hcur:=blk_below h3.out HBZ.out
   have k1:=ö ((Below.heap_setCell w33 ⟨by_,4,none⟩ (.slice AZ (a4.length + 1) cZ) ba nay).trans (blk_below h1.out HBZ.out))
   have k2:=ö ((Below.heap_setCell w33 ⟨by_,4,none⟩ (.slice AZ (a4.length + 1) cZ) bx NYX.out).trans (blk_below h2.out HBZ.out))
   have k3:=ö (show (w33.setCell ⟨by_,4,none⟩ (.slice AZ (a4.length + 1) cZ)).heap[by_]? = some (.cells #[.slice E0 a0.length i0,.slice E1 a1.length i1,.slice E2 a2.length i2,.slice E3 a3.length i3,.slice AZ (a4.length + 1) cZ] 33 (0,0)) by apply bp5_4_;exact hcur)
   have k4:=ö (below_set (j:=4) (v:=(.slice AZ (a4.length + 1) cZ)) (ü h4.out HBZ.out) GBY.out)
   have k5:=ö (below_set (j:=4) (v:=(.slice AZ (a4.length + 1) cZ)) (ü h5.out HBZ.out) G5BY.out)
   have k6:=ö (Kd.R_set (Kd.R_below h6.out HBZ.out) hcur (by decide) 4 (.slice AZ (a4.length + 1) cZ))
   have k7:=ö (show Kd.R k38 38 (w33.setCell ⟨by_,4,none⟩ (.slice AZ (a4.length + 1) cZ)) w30.heap.size (fun _=>True) (.slice AZ (a4.length + 1) cZ) (a4 ++ [⟨0,0⟩]) from Kd.R_set HO.out hcur (by decide) 4 (.slice AZ (a4.length + 1) cZ))
   clear hcur h1 h2 h3 h4 h5 h6 HO HBZ HQR hcz_0 hcz_1 hcz_2 hcz_3 hcz_4 hfz_0 hfz_1 hfz_2 hfz_3 hfz_4 hcq_0 hcq_1 hcq_2 hcq_3 hcq_4 hfq_0 hfq_1 hfq_2 hfq_3 hfq_4
   generalize w33.setCell ⟨by_,4,none⟩ (.slice AZ (a4.length + 1) cZ) = w34 at k1 k2 k3 k4 k5 k6 k7 ⊢
   have HA2:=HA.out.below k5.out
   have HX:=ö (show WC w34 a0 (a1 ++ [1]) a2 a3 a4 (.slice E0 a0.length i0) (.slice AV (a1.length + 1) cV) (.slice E2 a2.length i2) (.slice E3 a3.length i3) (.slice E4 a4.length i4) from ⟨HA2.r0,Rd.of_R k6.out,HA2.r2,HA2.r3,HA2.r4⟩)
   have HY:=ö (show WC w34 a0 a1 a2 a3 (a4 ++ [⟨0,0⟩]) (.slice E0 a0.length i0) (.slice E1 a1.length i1) (.slice E2 a2.length i2) (.slice E3 a3.length i3) (.slice AZ (a4.length + 1) cZ) from ⟨HA2.r0,HA2.r1,HA2.r2,HA2.r3,Rd.of_R k7.out⟩)
   clear HA
   have HA:=ö HA2
   have BA:=k1
   have BX:=k2
   have BY:=k3
   have HB:=k4
   clear HA2 k1 k2 k3 k4 k5 k6 k7
   obtain ⟨hcz_0,hcz_1,hcz_2,hcz_3,hcz_4,hfz_0,hfz_1,hfz_2,hfz_3,hfz_4⟩:=bz5_ BA
   obtain ⟨hcq_0,hcq_1,hcq_2,hcq_3,hcq_4,hfq_0,hfq_1,hfq_2,hfq_3,hfq_4⟩:=bz5_ BX
   obtain ⟨hcy_0,hcy_1,hcy_2,hcy_3,hcy_4,hfy_0,hfy_1,hfy_2,hfy_3,hfy_4⟩:=bz5_ BY
   go_wp2_with (first | (go_at_call 10;refine (wsame_says GA.out false HRX.out (HA.out.below (y68_)) (HX.out.below (y68_))).mono ?_;rintro e wn ⟨rfl,hb⟩;have k_BA:=ö (blk_below BA.out (by first | exact hb | exact ü (ä (Below.refl _ _)) hb));have k_BX:=ö (blk_below BX.out (by first | exact hb | exact ü (ä (Below.refl _ _)) hb));have k_BY:=ö (blk_below BY.out (by first | exact hb | exact ü (ä (Below.refl _ _)) hb));have k_HA:=ö (HA.out.below (by first | exact hb | exact ü (ä (Below.refl _ _)) hb));have k_HX:=ö (HX.out.below (by first | exact hb | exact ü (ä (Below.refl _ _)) hb));have k_HY:=ö (HY.out.below (by first | exact hb | exact ü (ä (Below.refl _ _)) hb));have k_HB:=ö (ü HB.out (by first | exact hb | exact ü (ä (Below.refl _ _)) hb));clear hb;clear hcz_0 hcz_1 hcz_2 hcz_3 hcz_4 hfz_0 hfz_1 hfz_2 hfz_3 hfz_4 hcq_0 hcq_1 hcq_2 hcq_3 hcq_4 hfq_0 hfq_1 hfq_2 hfq_3 hfq_4 hcy_0 hcy_1 hcy_2 hcy_3 hcy_4 hfy_0 hfy_1 hfy_2 hfy_3 hfy_4;clear BA;have BA:=k_BA;clear k_BA;clear BX;have BX:=k_BX;clear k_BX;clear BY;have BY:=k_BY;clear k_BY;clear HA;have HA:=k_HA;clear k_HA;clear HX;have HX:=k_HX;clear k_HX;clear HY;have HY:=k_HY;clear k_HY;clear HB;have HB:=k_HB;clear k_HB;obtain ⟨hcz_0,hcz_1,hcz_2,hcz_3,hcz_4,hfz_0,hfz_1,hfz_2,hfz_3,hfz_4⟩:=bz5_ BA;obtain ⟨hcq_0,hcq_1,hcq_2,hcq_3,hcq_4,hfq_0,hfq_1,hfq_2,hfq_3,hfq_4⟩:=bz5_ BX;obtain ⟨hcy_0,hcy_1,hcy_2,hcy_3,hcy_4,hfy_0,hfy_1,hfy_2,hfy_3,hfy_4⟩:=bz5_ BY) | (go_at_call 10;refine (wsame_says GA.out false HRY.out (HA.out.below (y68_)) (HY.out.below (y68_))).mono ?_;rintro e wn ⟨rfl,hb⟩;have k_BA:=ö (blk_below BA.out (by first | exact hb | exact ü (ä (Below.refl _ _)) hb));have k_BX:=ö (blk_below BX.out (by first | exact hb | exact ü (ä (Below.refl _ _)) hb));have k_BY:=ö (blk_below BY.out (by first | exact hb | exact ü (ä (Below.refl _ _)) hb));have k_HA:=ö (HA.out.below (by first | exact hb | exact ü (ä (Below.refl _ _)) hb));have k_HX:=ö (HX.out.below (by first | exact hb | exact ü (ä (Below.refl _ _)) hb));have k_HY:=ö (HY.out.below (by first | exact hb | exact ü (ä (Below.refl _ _)) hb));have k_HB:=ö (ü HB.out (by first | exact hb | exact ü (ä (Below.refl _ _)) hb));clear hb;clear hcz_0 hcz_1 hcz_2 hcz_3 hcz_4 hfz_0 hfz_1 hfz_2 hfz_3 hfz_4 hcq_0 hcq_1 hcq_2 hcq_3 hcq_4 hfq_0 hfq_1 hfq_2 hfq_3 hfq_4 hcy_0 hcy_1 hcy_2 hcy_3 hcy_4 hfy_0 hfy_1 hfy_2 hfy_3 hfy_4;clear BA;have BA:=k_BA;clear k_BA;clear BX;have BX:=k_BX;clear k_BX;clear BY;have BY:=k_BY;clear k_BY;clear HA;have HA:=k_HA;clear k_HA;clear HX;have HX:=k_HX;clear k_HX;clear HY;have HY:=k_HY;clear k_HY;clear HB;have HB:=k_HB;clear k_HB;obtain ⟨hcz_0,hcz_1,hcz_2,hcz_3,hcz_4,hfz_0,hfz_1,hfz_2,hfz_3,hfz_4⟩:=bz5_ BA;obtain ⟨hcq_0,hcq_1,hcq_2,hcq_3,hcq_4,hfq_0,hfq_1,hfq_2,hfq_3,hfq_4⟩:=bz5_ BX;obtain ⟨hcy_0,hcy_1,hcy_2,hcy_3,hcy_4,hfy_0,hfy_1,hfy_2,hfy_3,hfy_4⟩:=bz5_ BY))
   go_ret
   exact ⟨rfl,HB.out⟩
end Go.Proofs.Ytfbocgagfodgnaa.P
