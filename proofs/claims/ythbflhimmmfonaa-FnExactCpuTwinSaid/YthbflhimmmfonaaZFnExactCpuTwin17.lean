/- Parts of the proof of FnExactCpuTwin: plain Lean functions of Go functions, and that the calls come to what they say; no condition beyond those that each theorem names. -/
import Derived.Test.YthbflhimmmfonaaZFnExactCpuTwin16
import Derived.Test.YthbflhimmmfonaaZFnExactCpuTwin5
import Derived.Test.YthbflhimmmfonaaZFnExactCpuTwin11
import Derived.Test.YthbflhimmmfonaaZFnExactCpuTwin8
import Derived.Test.YthbflhimmmfonaaZFnExactCpuTwin4
import Derived.Test.YthbflhimmmfonaaZFnExactCpuTwin14
namespace Go.Proofs.Ythbflhimmmfonaa.P
open Go.RowKit Go.Proofs.YthbflhimmmfonaaW.PrintWords Go.Proofs.YthbflhimmmfonaaW.PrintMore
set_option linter.unusedVariables false
set_option linter.unusedSimpArgs false
theorem ev_and {f : Nat → Option Bool} {c : Prop} [Decidable c] {r : Bool} (h : c → Ev f r) : Ev (fun k=>if c then f k else some false) (decide c && r):=by
  by_cases hc : c
  · rw [decide_eq_true hc,Bool.true_and]
    exact Evs.ite_pos hc (h hc)
  · rw [decide_eq_false hc,Bool.false_and]
    exact Evs.ite_neg hc (Evs.some_ _)
theorem ev_band {f : Nat → Option Bool} {b r : Bool} (h : b = true → Ev f r) : Ev (fun k=>if b = true then f k else some false) (b && r):=by
  cases b with
  | false=>exact Evs.ite_neg (by simp) (Evs.some_ _)
  | true=>exact Evs.ite_pos rfl (h rfl)
def zipB {α β : Type} (p : α → β → Bool) : List α → List β → Bool
  | [],[]=>true
  | x :: t,y :: u=>p x y && zipB p t u
  | _,_=>false
theorem zipB_len {α β : Type} (p : α → β → Bool) : ∀ (a : List α) (b : List β),a.length ≠ b.length → zipB p a b = false
  | [],[],h=>absurd rfl h
  | [],_ :: _,_=>rfl
  | _ :: _,[],_=>rfl
  | x :: t,y :: u,h=>by
    unfold zipB
    rw [zipB_len p t u (fun e=>h (by simp [e])),Bool.and_false]
theorem zip_loop {α β : Type} (g : Nat → Int → Option Bool) (p : α → β → Bool) (s : Bool) (a : List α) (b : List β) (za : α) (zb : β) (hl : a.length = b.length)
    (hgo : ∀ i r,i < a.length → p (a.getD i za) (b.getD i zb) = true → Ev (fun k=>g k ((i + 1 : Nat) : Int)) r → Ev (fun k=>g k (i : Int)) r)
    (hno : ∀ i,i < a.length → p (a.getD i za) (b.getD i zb) = false → Ev (fun k=>g k (i : Int)) false) (hs : Ev (fun k=>g k (a.length : Int)) s) : Ev (fun k=>g k 0) (zipB p a b && s):=by
  have key : ∀ d i,i + d = a.length → Ev (fun k=>g k (i : Int)) (zipB p (a.drop i) (b.drop i) && s):=by
    intro d
    induction d with
    | zero =>
      intro i hi
      rw [List.drop_of_length_le (by omega),List.drop_of_length_le (by omega)]
      obtain rfl : i = a.length:=by omega
      rw [show zipB p ([] : List α) ([] : List β) = true from rfl,Bool.true_and]
      exact hs
    | succ d ih =>
      intro i hi
      have ha : i < a.length:=by omega
      have hb : i < b.length:=by omega
      have e : zipB p (a.drop i) (b.drop i) = (p (a.getD i za) (b.getD i zb) && zipB p (a.drop (i + 1)) (b.drop (i + 1))):=by
        rw [List.drop_eq_getElem_cons ha,List.drop_eq_getElem_cons hb,List.getD_eq_getElem?_getD,List.getD_eq_getElem?_getD,List.getElem?_eq_getElem ha,List.getElem?_eq_getElem hb]
        rfl
      rw [e]
      cases hp : p (a.getD i za) (b.getD i zb) with
      | false =>
        rw [Bool.false_and,Bool.false_and]
        exact hno i ha hp
      | true =>
        rw [Bool.true_and]
        exact hgo i _ ha hp (ih (i + 1) (by omega))
  have:=key a.length 0 (by omega)
  rwa [List.drop_zero,List.drop_zero] at this
def eqN (a b : List Int) : Bool:=zipB (fun x y=>decide (x = y)) a b
theorem specInts {a b : List Int} (ha : a.length ≤ 1048576) : Ev (fun k=>spec_l3Ints.f k a b) (eqN a b):=by
  unfold spec_l3Ints.f eqN
  by_cases c : a.length = b.length
  · rw [← Bool.and_true (zipB _ a b)]
    refine Evs.ite_pos (by omega) (zip_loop (fun k i=>spec_l3Ints.l0 k a b i) _ true a b 0 0 c (fun i r hi hq hr=>?_) (fun i hi hq=>?_) ?_)
    · have hq:=of_decide_eq_true hq
      rw [← rd_get hi,← rd_get (by omega)] at hq
      refine Evs.succ (fun k=>by simp only [spec_l3Ints.l0];rfl) ?_
      refine Evs.ite_pos (by omega) (Evs.ite_pos (by omega) (Evs.ite_pos (by omega) (Evs.ite_pos hq ?_)))
      rw [wrap_succ (by omega)]
      exact hr
    · have hq:=of_decide_eq_false hq
      rw [← rd_get hi,← rd_get (by omega)] at hq
      refine Evs.succ (fun k=>by simp only [spec_l3Ints.l0];rfl) ?_
      exact Evs.ite_pos (by omega) (Evs.ite_pos (by omega) (Evs.ite_pos (by omega) (Evs.ite_neg hq (Evs.some_ _))))
    · refine Evs.succ (fun k=>by simp only [spec_l3Ints.l0];rfl) ?_
      exact Evs.ite_neg (by omega) (Evs.some_ _)
  · rw [zipB_len _ a b c]
    exact Evs.ite_neg (by omega) (Evs.some_ _)
theorem implInts {a b : List Int} (ha : a.length ≤ 1048576) : Ev (fun k=>slices_Equal_int_int.f k a b) (eqN a b):=by
  unfold slices_Equal_int_int.f eqN
  by_cases c : a.length = b.length
  · rw [← Bool.and_true (zipB _ a b)]
    refine Evs.ite_pos (by omega) (zip_loop (fun k i=>slices_Equal_int_int.l0 k a b a.length i) _ true a b 0 0 c (fun i r hi hq hr=>?_) (fun i hi hq=>?_) ?_)
    · have hq:=of_decide_eq_true hq
      rw [← rd_get hi,← rd_get (by omega)] at hq
      refine Evs.succ (fun k=>by simp only [slices_Equal_int_int.l0];rfl) ?_
      refine Evs.ite_pos (by omega) (Evs.ite_pos (by omega) (Evs.ite_pos (by omega) (Evs.ite_pos (by omega) (Evs.ite_pos hq ?_))))
      rw [wrap_succ (by omega)]
      exact hr
    · have hq:=of_decide_eq_false hq
      rw [← rd_get hi,← rd_get (by omega)] at hq
      refine Evs.succ (fun k=>by simp only [slices_Equal_int_int.l0];rfl) ?_
      exact Evs.ite_pos (by omega) (Evs.ite_pos (by omega) (Evs.ite_pos (by omega) (Evs.ite_pos (by omega) (Evs.ite_neg hq (Evs.some_ _)))))
    · refine Evs.succ (fun k=>by simp only [slices_Equal_int_int.l0];rfl) ?_
      exact Evs.ite_neg (by omega) (Evs.some_ _)
  · rw [zipB_len _ a b c]
    exact Evs.ite_neg (by omega) (Evs.some_ _)
def SL (d : Nat) (l : List S104) : Prop:=l.length ≤ 1048576 ∧ ∀ x ∈ l,smallS d x
def dep : Nat → List S104 → Prop
  | 0,l=>l = []
  | d + 1,l=>∀ x ∈ l,dep d x.f4 ∧ dep d x.f5
def heads (x y : S104) : Bool:=decide (x.f0 = y.f0) && (decide (x.f1 = y.f1) && (decide (x.f2 = y.f2) && decide (x.f3 = y.f3)))
def eqLB : Nat → List S104 → List S104 → Bool
  | 0,_,_=>true
  | d + 1,a,b=>zipB (fun x y=>heads x y && (eqLB d x.f4 y.f4 && eqLB d x.f5 y.f5)) a b
noncomputable def alB (a b : List S104) : Bool:=eqLB (SizeOf.sizeOf a + SizeOf.sizeOf b) a b
def Sm (a : List S104) : Prop:=a.length ≤ 1048576 ∧ ∀ t ∈ a,∀ d,smallS d t
end Go.Proofs.Ythbflhimmmfonaa.P

namespace Go.Proofs.Ythbflhimmmfonaa.Pure
open Go.RowKit Go.Proofs.Ythbflhimmmfonaa.P Go.Proofs.YthbflhimmmfonaaW.PrintWords Go.Proofs.YthbflhimmmfonaaW.PrintLast
open Go.Proofs.Ythbflhimmmfonaa.P Go.Proofs.YthbflhimmmfonaaW.PrintMore
theorem eqM2_ev {α β : Type} {T : Nat → α → β → Option Bool} {p : α → β → Bool} : ∀ (a : List α) (b : List β),a.length = b.length → (∀ x ∈ a,∀ y ∈ b,Ev (fun k=>T k x y) (p x y)) → Ev (fun k=>eqM2 (T k) a b) (zipB p a b)
  | [],[],_,_=>Evs.some_ _
  | [],_ :: _,h,_=>by simp at h
  | _ :: _,[],h,_=>by simp at h
  | x :: t,y :: u,hl,h=>Evs.bind (h x (List.mem_cons_self ..) y (List.mem_cons_self ..)) (ev_band fun _=>eqM2_ev t u (by simpa using hl) fun v hv w hw=>h v (List.mem_cons_of_mem _ hv) w (List.mem_cons_of_mem _ hw))
theorem eqL2_ev {α β : Type} {T : Nat → α → β → Option Bool} {p : α → β → Bool} (a : List α) (b : List β) (h : ∀ x ∈ a,∀ y ∈ b,Ev (fun k=>T k x y) (p x y)) : Ev (fun k=>eqL2 (T k) a b) (zipB p a b):=by
  unfold eqL2
  by_cases c : a.length = b.length
  · exact Evs.ite_pos c (eqM2_ev a b c h)
  · rw [zipB_len p a b c]
    exact Evs.ite_neg c (Evs.some_ _)
theorem bnot_f {b : Bool} (h : (!b) = false) : b = true:=by
  cases b
  · cases h
  · rfl
def sayB (x y : S74) : Bool:=!(!(x.f0 == y.f0) || !(x.f1 == y.f1))
theorem rdY_get {l : List S74} {i : Nat} : rd_T74 l (i : Int) = l.getD i z74:=by
  unfold rd_T74
  rw [Int.toNat_natCast]
theorem rdL_get {l : List (List Int)} {i : Nat} : rd_L1 l (i : Int) = l.getD i []:=by
  unfold rd_L1
  rw [Int.toNat_natCast]
theorem implSays {a b : List S74} (ha : a.length ≤ 1048576) : Ev (fun k=>impl_Say.f k a b) (zipB sayB a b):=by
  unfold impl_Say.f
  by_cases c : a.length = b.length
  · rw [← Bool.and_true (zipB _ a b)]
    refine Evs.ite_pos (by omega) (zip_loop (fun k i=>impl_Say.l0 k a b a.length i) _ true a b z74 z74 c (fun i r hi hq hr=>?_) (fun i hi hq=>?_) ?_)
    · refine Evs.succ (fun k=>by simp only [impl_Say.l0,rdY_get];rfl) ?_
      unfold sayB at hq
      refine Evs.ite_pos (by omega) (Evs.ite_pos (by omega) (Evs.ite_pos (by omega) (Evs.ite_pos (by omega) (Evs.ite_neg (by simpa using hq) ?_))))
      rw [wrap_succ (by omega)]
      exact hr
    · refine Evs.succ (fun k=>by simp only [impl_Say.l0,rdY_get];rfl) ?_
      unfold sayB at hq
      exact Evs.ite_pos (by omega) (Evs.ite_pos (by omega) (Evs.ite_pos (by omega) (Evs.ite_pos (by omega) (Evs.ite_pos (bnot_f hq) (Evs.some_ _)))))
    · refine Evs.succ (fun k=>by simp only [impl_Say.l0];rfl) ?_
      exact Evs.ite_neg (by omega) (Evs.some_ _)
  · rw [zipB_len _ a b c]
    exact Evs.ite_neg (by omega) (Evs.some_ _)
def twB (x : S67) (y : S84) : Bool:=eqN x.f0 y.f0 && (decide (x.f3 = y.f3) && (decide (x.f4 = y.f4) && decide (modeI x.f2 = y.f2)))
theorem tw_step {x : S67} {y : S84} {f : Nat → Option Bool} {r : Bool} {m : Int} (hm : modeI x.f2 = m) (hx : x.f0.length ≤ 1048576) (h : twB x y = true → Ev f r) :
    Ev (fun k=>(spec_l3Ints.f k x.f0 y.f0).bind fun t=>if t = true then if x.f3 = y.f3 then if x.f4 = y.f4 then if m = y.f2 then f k else some false else some false else some false else some false) (twB x y && r):=by
  subst hm
  have e : (twB x y && r) = (eqN x.f0 y.f0 && (decide (x.f3 = y.f3) && (decide (x.f4 = y.f4) && (decide (modeI x.f2 = y.f2) && r)))):=by
    unfold twB
    simp only [Bool.and_assoc]
  rw [e]
  refine Evs.bind (specInts hx) (ev_band fun h0=>ev_and fun h1=>ev_and fun h2=>ev_and fun h3=>h ?_)
  unfold twB
  rw [h0,decide_eq_true h1,decide_eq_true h2,decide_eq_true h3]
  rfl
theorem tw_cases {x : S67} {y : S84} {f : Nat → Option Bool} {r : Bool} (hx : x.f0.length ≤ 1048576) (h : twB x y = true → Ev f r) :
    Ev (fun k=>if x.f2 = 1 then ((spec_l3Ints.f k x.f0 y.f0).bind fun t=>if t = true then if x.f3 = y.f3 then if x.f4 = y.f4 then if 1 = y.f2 then f k else some false else some false else some false else some false) else if x.f2 = 2 then ((spec_l3Ints.f k x.f0 y.f0).bind fun t=>if t = true then if x.f3 = y.f3 then if x.f4 = y.f4 then if 2 = y.f2 then f k else some false else some false else some false else some false) else ((spec_l3Ints.f k x.f0 y.f0).bind fun t=>if t = true then if x.f3 = y.f3 then if x.f4 = y.f4 then if 0 = y.f2 then f k else some false else some false else some false else some false)) (twB x y && r):=by
  by_cases c1 : x.f2 = 1
  · exact Evs.ite_pos c1 (tw_step (by unfold modeI;rw [if_pos c1]) hx h)
  by_cases c2 : x.f2 = 2
  · exact Evs.ite_neg c1 (Evs.ite_pos c2 (tw_step (by unfold modeI;rw [if_neg c1,if_pos c2]) hx h))
  · exact Evs.ite_neg c1 (Evs.ite_neg c2 (tw_step (by unfold modeI;rw [if_neg c1,if_neg c2]) hx h))
theorem implTw {x : S67} {y : S84} (hx : x.f0.length ≤ 1048576) : Ev (fun k=>twinV k x y) (twB x y):=by
  unfold twinV twB
  refine Evs.bind (implInts hx) (ev_band fun _=>ev_and fun _=>ev_and fun _=>?_)
  rw [← Bool.and_true (decide (modeI x.f2 = y.f2))]
  exact ev_and fun _=>Evs.some_ _
theorem rdC_get {l : List S67} {i : Nat} : rd_T67 l (i : Int) = l.getD i z67:=by
  unfold rd_T67
  rw [Int.toNat_natCast]
theorem getIC {l : List S67} {i : Nat} (h : i < l.length) : l.getD i z67 ∈ l:=by
  rw [List.getD_eq_getElem?_getD,List.getElem?_eq_getElem h]
  exact List.getElem_mem h
theorem specLists {s s2 : List (List Int)} (hsl : s.length ≤ 1048576) (hs : ∀ v ∈ s,v.length ≤ 1048576) : Ev (fun k=>spec_l5Lists.f k s s2) (zipB eqN s s2):=by
  unfold spec_l5Lists.f
  by_cases c2 : s.length = s2.length
  case neg =>
    rw [zipB_len _ s s2 c2]
    exact Evs.ite_neg (by omega) (Evs.some_ _)
  rw [← Bool.and_true (zipB _ s s2)]
  refine Evs.ite_pos (by omega) (zip_loop (fun k i=>spec_l5Lists.l0 k s s2 i) _ true s s2 [] [] c2 (fun i z hi hq1 hz=>?_) (fun i hi hq1=>?_) ?_)
  · have e:=specInts (a:=s.getD i []) (b:=s2.getD i []) (hs _ (getL hi))
    rw [hq1] at e
    refine Evs.succ (fun k=>by simp only [spec_l5Lists.l0,rdL_get];rfl) ?_
    refine Evs.ite_pos (by omega) (Evs.ite_pos (by omega) (Evs.ite_pos (by omega) (Evs.bind e (Evs.ite_pos rfl ?_))))
    rw [wrap_succ (by omega)]
    exact hz
  · have e:=specInts (a:=s.getD i []) (b:=s2.getD i []) (hs _ (getL hi))
    rw [hq1] at e
    refine Evs.succ (fun k=>by simp only [spec_l5Lists.l0,rdL_get];rfl) ?_
    exact Evs.ite_pos (by omega) (Evs.ite_pos (by omega) (Evs.ite_pos (by omega) (Evs.bind e (Evs.ite_neg (by simp) (Evs.some_ _)))))
  · refine Evs.succ (fun k=>by simp only [spec_l5Lists.l0];rfl) ?_
    exact Evs.ite_neg (by omega) (Evs.some_ _)
theorem specSays {x y : List S74} (hx : x.length ≤ 1048576) : Ev (fun k=>spec_l5Said.f k x y) (zipB sayB x y):=by
  unfold spec_l5Said.f
  by_cases c3 : x.length = y.length
  case neg =>
    rw [zipB_len _ x y c3]
    exact Evs.ite_neg (by omega) (Evs.some_ _)
  rw [← Bool.and_true (zipB _ x y)]
  refine Evs.ite_pos (by omega) (zip_loop (fun k i=>spec_l5Said.l0 k x y i) _ true x y z74 z74 c3 (fun i z hi hq1 hz=>?_) (fun i hi hq1=>?_) ?_)
  · refine Evs.succ (fun k=>by simp only [spec_l5Said.l0,rdY_get];rfl) ?_
    unfold sayB at hq1
    refine Evs.ite_pos (by omega) (Evs.ite_pos (by omega) (Evs.ite_pos (by omega) (Evs.ite_neg (by simpa using hq1) ?_)))
    rw [wrap_succ (by omega)]
    exact hz
  · refine Evs.succ (fun k=>by simp only [spec_l5Said.l0,rdY_get];rfl) ?_
    unfold sayB at hq1
    exact Evs.ite_pos (by omega) (Evs.ite_pos (by omega) (Evs.ite_pos (by omega) (Evs.ite_pos (bnot_f hq1) (Evs.some_ _))))
  · refine Evs.succ (fun k=>by simp only [spec_l5Said.l0];rfl) ?_
    exact Evs.ite_neg (by omega) (Evs.some_ _)
theorem rdP_get {l : List S84} {i : Nat} : rd_T84 l (i : Int) = l.getD i z84:=by
  unfold rd_T84
  rw [Int.toNat_natCast]
def twinB (x : List S67) (c r : List Int) (si : List (List Int)) (d : List S74) (x2 : List S84) (c2 r2 : List Int) (si2 : List (List Int)) (d2 : List S74) : Bool :=
  (eqN c c2 && (eqN r r2 && zipB sayB d d2)) && (zipB eqN si si2 && zipB twB x x2)
theorem implTwin (x : List S67) (c r : List Int) (li si : List (List Int)) (rd : List Int) (a b : Int) (d : List S74) (rn pk : List Int) (x2 : List S84) (c2 r2 : List Int) (si2 : List (List Int)) (d2 : List S74) (hx : ∀ v ∈ x,v.f0.length ≤ 1048576) (hc : c.length ≤ 1048576) (hr : r.length ≤ 1048576) (hsi : ∀ v ∈ si,v.length ≤ 1048576) (hd : d.length ≤ 1048576) :
    Ev (fun k=>impl_CpuTwin.f k x c r li si rd a b d rn pk x2 c2 r2 si2 d2) (twinB x c r si d x2 c2 r2 si2 d2):=by
  unfold impl_CpuTwin.f cpuTwinV twinB
  refine Evs.bind (Evs.bind (implInts hc) (ev_band fun _=>Evs.bind (implInts hr) (ev_band fun _=>implSays hd))) (ev_band fun _=>Evs.bind ?_ (ev_band fun _=>?_))
  · exact eqL2_ev si si2 fun v hv w _=>implInts (hsi v hv)
  · exact eqL2_ev x x2 fun v hv w _=>implTw (hx v hv)
theorem specTwin (x : List S67) (c r : List Int) (li si : List (List Int)) (rd : List Int) (a b : Int) (d : List S74) (rn pk : List Int) (x2 : List S84) (c2 r2 : List Int) (si2 : List (List Int)) (d2 : List S74) (hxl : x.length ≤ 1048576) (hx : ∀ v ∈ x,v.f0.length ≤ 1048576) (hc : c.length ≤ 1048576) (hr : r.length ≤ 1048576) (hsi : Rows1 si) (hd : d.length ≤ 1048576) :
    Ev (fun k=>spec_CpuTwin.f k x c r li si rd a b d rn pk x2 c2 r2 si2 d2) (twinB x c r si d x2 c2 r2 si2 d2):=by
  unfold spec_CpuTwin.f
  have no : ∀ v : Bool,v = false → Ev (fun k=>spec_CpuTwin.j0 k true x c r li si rd a b d rn pk x2 c2 r2 si2 d2) v:=fun v hv=>by
    rw [hv]
    exact Evs.succ (fun k=>by simp only [spec_CpuTwin.j0];rfl) (Evs.ite_pos (by trivial) (Evs.some_ _))
  by_cases c1 : x.length = x2.length
  case neg=>exact Evs.ite_neg (by omega) (no _ (by unfold twinB;rw [zipB_len twB x x2 c1];simp))
  refine Evs.ite_pos (by omega) (Evs.bind (specInts hc) ?_)
  cases h1 : eqN c c2 with
  | false=>exact Evs.ite_neg (by simp) (no _ (by unfold twinB;rw [h1];simp))
  | true =>
  refine Evs.ite_pos rfl (Evs.bind (specInts hr) ?_)
  cases h2 : eqN r r2 with
  | false=>exact Evs.ite_neg (by simp) (no _ (by unfold twinB;rw [h2];simp))
  | true =>
  refine Evs.ite_pos rfl (Evs.bind (specLists hsi.1 hsi.2) ?_)
  cases h3 : zipB eqN si si2 with
  | false=>exact Evs.ite_neg (by simp) (no _ (by unfold twinB;rw [h3];simp))
  | true =>
  refine Evs.ite_pos rfl (Evs.bind (specSays hd) ?_)
  cases h4 : zipB sayB d d2 with
  | false=>exact no _ (by unfold twinB;rw [h4];simp)
  | true =>
    refine Evs.succ (fun k=>by simp only [spec_CpuTwin.j0];rfl) (Evs.ite_neg (by simp) ?_)
    have e : twinB x c r si d x2 c2 r2 si2 d2 = (zipB twB x x2 && true):=by
      unfold twinB
      rw [h1,h2,h3,h4]
      simp
    rw [e]
    refine zip_loop (fun k i=>spec_CpuTwin.l0 k i x c r li si rd a b d rn pk x2 c2 r2 si2 d2) _ _ x x2 z67 z84 c1 (fun i z hi hq1 hz=>?_) (fun i hi hq1=>?_) ?_
    · refine Evs.succ (fun k=>by simp only [spec_CpuTwin.l0,rdC_get,rdP_get];rfl) ?_
      refine Evs.ite_pos (by omega) (Evs.ite_pos (by omega) (Evs.ite_pos (by omega) ?_))
      rw [show z = (twB (x.getD i z67) (x2.getD i z84) && z) by rw [hq1,Bool.true_and]]
      refine tw_cases (hx _ (getIC hi)) fun _=>?_
      rw [wrap_succ (by omega)]
      exact hz
    · refine Evs.succ (fun k=>by simp only [spec_CpuTwin.l0,rdC_get,rdP_get];rfl) ?_
      refine Evs.ite_pos (by omega) (Evs.ite_pos (by omega) (Evs.ite_pos (by omega) ?_))
      have q:=tw_cases (y:=x2.getD i z84) (f:=fun k=>spec_CpuTwin.l0 k (wrap64 ((i : Int) + 1)) x c r li si rd a b d rn pk x2 c2 r2 si2 d2) (r:=false) (hx _ (getIC hi)) fun h=>absurd h (by rw [hq1];simp)
      rw [Bool.and_false] at q
      exact q
    · refine Evs.succ (fun k=>by simp only [spec_CpuTwin.l0];rfl) ?_
      exact Evs.ite_neg (by omega) (Evs.some_ _)
theorem goodIC {l : List S109} (h : GoodCs l) : ∀ v ∈ l.map cpyC,v.f0.length ≤ 1048576:=by
  intro v hv
  obtain ⟨x,hx,rfl⟩:=List.mem_map.1 hv
  exact h.2 x hx
theorem FnExactCpuTwin : laws_FnExactCpuTwin.Pure:=by
  intro x c r li si rd a b d rn pk p c2 r2 s2 d2 hx hc hr hli hsi hrd hd hrn hpk hp hc2 hr2 hs2 hd2
  refine Ev.rounds (g:=fun k=>laws_FnExactCpuTwin.f k x c r li si rd a b d rn pk p c2 r2 s2 d2) ?_
  unfold laws_FnExactCpuTwin.f
  obtain ⟨m,em,cm⟩:=szC x c r li si rd a b d rn pk hx hc hr hli hsi hrd hd hrn hpk 1048576 (by omega) (by omega)
  refine Evs.bind em ?_
  rcases cm with cm | ⟨a0,a1,ga⟩
  · exact Evs.ite_pos cm (Evs.some_ _)
  obtain ⟨n,en,cn⟩:=szW p c2 r2 s2 d2 hp hc2 hr2 hs2 hd2 m a0 (by omega)
  refine Evs.ite_neg (by omega) (Evs.bind en ?_)
  rcases cn with cn | ⟨b0,b1,gb⟩
  · exact Evs.ite_pos cn (Evs.some_ _)
  have ss:=specTwin (x.map cpyC) c r li si rd a b (d.map sayOf) rn pk (p.map cpyP) c2 r2 s2 (d2.map sayOf) (by rw [List.length_map];exact ga.x.1) (goodIC ga.x) ga.c ga.r ga.si (by rw [List.length_map];exact ga.d)
  have si:=implTwin (x.map cpyC) c r li si rd a b (d.map sayOf) rn pk (p.map cpyP) c2 r2 s2 (d2.map sayOf) (goodIC ga.x) ga.c ga.r ga.si.2 (by rw [List.length_map];exact ga.d)
  exact Evs.ite_neg (by omega) (Evs.bind (toC a b ga) (Evs.bind (toW gb) (Evs.bind ss (Evs.bind (toC a b ga) (Evs.bind (toW gb) (Evs.bind si (Evs.ite_neg (by simp) (Evs.bind (toC a b ga) (Evs.bind (eqC a b ga) (Evs.ite_pos rfl (Evs.bind (toW gb) (Evs.bind (eqW gb) (Evs.ite_pos rfl (Evs.some_ _))))))))))))))
end Go.Proofs.Ythbflhimmmfonaa.Pure
