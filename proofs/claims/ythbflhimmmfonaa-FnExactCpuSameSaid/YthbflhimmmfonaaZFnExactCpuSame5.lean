/- Parts of the proof of FnExactCpuSame: plain Lean functions of Go functions, and that the calls come to what they say; no condition beyond those that each theorem names. -/
import Derived.Test.YthbflhimmmfonaaZFnExactCpuSame4
import Derived.Maps.Own
import Derived.Maps.OwnOps
import Derived.Deep.RegionHeld3
import Derived.Deep.DrawnRows
import Derived.Deep.DeepCutAuto
namespace Go.Proofs.Ythbflhimmmfonaa.P
open Go.RowKit Go.Proofs.YthbflhimmmfonaaW.PrintWords Go.Proofs.YthbflhimmmfonaaW.PrintLast Go.Proofs.YthbflhimmmfonaaW.PrintMore
attribute [local go_sem] max2_int min2_int max_two min_two max_three min_three max_four min_four
set_option linter.unusedVariables false
set_option linter.unusedSimpArgs false
theorem size_alloc2 (w : World) (o : Obj) : (w.alloc o).heap.size = w.heap.size + 1:=by
  show (w.heap.push o).size = _
  simp
def eqM {α : Type} (T : α → α → Option Bool) : List α → List α → Option Bool
  | [],_=>some true
  | x :: t,y :: u=>(T x y).bind fun b=>if b = true then eqM T t u else some false
  | _ :: _,[]=>none
def eqL {α : Type} (T : α → α → Option Bool) (a b : List α) : Option Bool:=if a.length = b.length then eqM T a b else some false
def sameH (L : List S104 → List S104 → Option Bool) (x y : S104) : Option Bool :=
  if x.f0 = y.f0 then if x.f1 = y.f1 then if x.f2 = y.f2 then if x.f3 = y.f3 then (L x.f4 y.f4).bind fun b=>if b = true then L x.f5 y.f5 else some false else some false else some false else some false else some false
def sameK : Nat → List S104 → List S104 → Option Bool
  | 0=>fun _ _=>none
  | k + 1=>fun a b=>eqL (sameH (sameK k)) a b
def SaysQ (L : List S104 → List S104 → Option Bool) : Prop:=∀ (A B : Option Addr) (c d : Nat) (a b : List S104) (r : Bool) (w : World),Kd.C k104 w A a.length a → a.length ≤ c → Kd.C k104 w B b.length b → b.length ≤ d → L a b = some r →
  Calls Try.prog 95 #[.slice A a.length c,.slice B b.length d] w fun e w'=>e = .returned (.bool r) ∧ Below w.heap.size w w'
def SaysE (T : S104 → S104 → Option Bool) : Prop:=∀ (x y : S104) (A4 : Option Addr) (c4 : Nat) (A5 : Option Addr) (c5 : Nat) (B4 : Option Addr) (d4 : Nat) (B5 : Option Addr) (d5 : Nat) (r : Bool) (w : World),
    Kd.C k104 w A4 x.f4.length x.f4 → x.f4.length ≤ c4 → Kd.C k104 w A5 x.f5.length x.f5 → x.f5.length ≤ c5 → Kd.C k104 w B4 y.f4.length y.f4 → y.f4.length ≤ d4 → Kd.C k104 w B5 y.f5.length y.f5 → y.f5.length ≤ d5 → T x y = some r →
    Calls Try.prog 112 #[.agg #[.int .i64 x.f0,.int .i64 x.f1,.int .i64 x.f2,.int .i64 x.f3,.slice A4 x.f4.length c4,.slice A5 x.f5.length c5],.agg #[.int .i64 y.f0,.int .i64 y.f1,.int .i64 y.f2,.int .i64 y.f3,.slice B4 y.f4.length d4,.slice B5 y.f5.length d5]] w fun e w'=>e = .returned (.bool r) ∧ Below w.heap.size w w'
def impl_sameStmts.f (k : Nat) (l0 l1 : List S104) : Option Bool:=sameK k l0 l1
def eqM2 {α β : Type} (T : α → β → Option Bool) : List α → List β → Option Bool
  | [],_=>some true
  | x :: t,y :: u=>(T x y).bind fun b=>if b = true then eqM2 T t u else some false
  | _ :: _,[]=>none
def eqL2 {α β : Type} (T : α → β → Option Bool) (a : List α) (b : List β) : Option Bool:=if a.length = b.length then eqM2 T a b else some false
theorem drawn_below {w w' : World} (h : Drawn0 w w') : Below w.heap.size w w':=by
  obtain ⟨n,rfl⟩:=h
  exact pw_below_drewN (Below.refl _ _) n
def SaysRow (T : List Int → List Int → Option Bool) : Prop:=∀ (x y : List Int) (A0 : Option Addr) (c0 : Nat) (B0 : Option Addr) (d0 : Nat) (r : Bool) (w : World),
    Kd.C (Kd.int .i64) w A0 x.length x → x.length ≤ c0 → Kd.C (Kd.int .i64) w B0 y.length y → y.length ≤ d0 → T x y = some r →
    Calls Try.prog 46 #[.slice A0 x.length c0,.slice B0 y.length d0] w fun e w'=>e = .returned (.bool r) ∧ Below w.heap.size w w'
set_option maxHeartbeats 4000000 in
set_option maxRecDepth 100000 in
theorem rowEq_calls (T : (List Int) → (List Int) → Option Bool) (hT : SaysRow T) (A B : Option Addr) (c d : Nat) (a : List (List Int)) (b : List (List Int)) (r : Bool) (w : World) (ha : Kd.C (Kd.slice 3 (Kd.int .i64)) w A a.length a) (hb : Kd.C (Kd.slice 3 (Kd.int .i64)) w B b.length b) (h : eqL2 T a b = some r) :
    Calls Try.prog 87 #[.slice A a.length c,.slice B b.length d,.func (.func 46) #[] #[]] w fun e w'=>e = .returned (.bool r) ∧ Below w.heap.size w w':=by
  have HT:=Aside0.mk hT
  have HA:=Aside0.mk ha
  have HB:=Aside0.mk hb
  have H:=Aside0.mk h
  have hla : a.length ≤ 9223372036854775807:=ha.2.1
  have hlb : b.length ≤ 9223372036854775807:=hb.2.1
  clear hT ha hb h
  by_cases hn : a.length = b.length
  · have hnz : ((a.length : Int) != (b.length : Int)) = false:=bne_eq_false_iff_eq.mpr (by omega)
    have h0:=H.out
    unfold eqL2 at h0
    rw [if_pos hn] at h0
    have H0:=Aside0.mk h0
    have HNE:=Aside0.mk hn
    clear h0 H hn
    go_enter Try.func87,Try.ntmps87
    go_wp2
    go_loopg [7,8,9,17] a.length (fun gg _ _ _ p wr=>∃ kk : Nat,kk ≤ a.length ∧ a.length - kk ≤ gg ∧ p = .int .i64 kk ∧ Aside0 (eqM2 T (a.drop kk) (b.drop kk) = some r) ∧ Aside0 (Below w.heap.size w wr))
    case atStart=>exact ⟨0,Nat.zero_le _,by omega,rfl,H0,⟨Below.refl _ w⟩⟩
    case round =>
      obtain ⟨kk,hkk,hg,rfl,HE,HW⟩:=hrel
      clear H0
      by_cases hlt : kk < a.length
      · have hltz : decide ((kk : Int) < (a.length : Int)) = true:=decide_eq_true (by omega)
        have p1 : 0 ≤ (kk : Int):=by omega
        have q1 : (kk : Int) < (a.length : Int):=by omega
        have q2 : (kk : Int) < (b.length : Int):=by have:=HNE.out;omega
        obtain ⟨ad,A0,c0,e1,f0,hc0,HQ0⟩:=at_L1 (Kd.C_below HA.out HW.out) (kk : Int) p1 q1
        obtain ⟨bd,B0,d0,e2,g0,gc0,G0⟩:=at_L1 (Kd.C_below HB.out HW.out) (kk : Int) p1 q2
        cases e1
        cases e2
        rw [Int.toNat_natCast] at f0 g0
        have he:=HE.out
        rw [show a.drop kk = rd_L1 a (kk : Int) :: a.drop (kk + 1) from by rw [List.drop_eq_getElem_cons hlt];unfold rd_L1;rw [Int.toNat_natCast,List.getD_eq_getElem?_getD,List.getElem?_eq_getElem hlt];rfl,
          show b.drop kk = rd_L1 b (kk : Int) :: b.drop (kk + 1) from by rw [List.drop_eq_getElem_cons (by have:=HNE.out;omega)];unfold rd_L1;rw [Int.toNat_natCast,List.getD_eq_getElem?_getD,List.getElem?_eq_getElem (by have:=HNE.out;omega)];rfl] at he
        clear HE
        obtain ⟨v,hv1,hv2⟩:=Option.bind_eq_some_iff.1 he
        clear he
        generalize rd_L1 a (kk : Int) = x at *
        generalize rd_L1 b (kk : Int) = y at *
        have HC:=Aside0.mk (fun W h0 g0=>HT.out x y A0 c0 B0 d0 v W h0 hc0 g0 gc0 hv1)
        have HHx0:=Aside0.mk HQ0
        clear HQ0
        have HHy0:=Aside0.mk G0
        clear G0
        clear hv1
        replace p1:=eq_true p1
        replace q1:=eq_true q1
        replace q2:=eq_true q2
        cases v with
        | false =>
          obtain rfl:=Option.some.inj (show some false = some r by simpa using hv2)
          clear hv2
          go_wp2_with (go_at_call 46;refine (HC.out _ HHx0.out HHy0.out).mono ?_;rintro e w' ⟨rfl,hb'⟩;have n2:=Aside0.mk (below_step HW.out hb');clear HW HC hb' f0 g0;have HW:=n2;clear n2)
          go_ret
          exact ⟨by first | rfl | (simp;done),(by repeat (first | exact HW.out | (with_reducible apply pw_below_drewN) | (with_reducible apply below_drew1) | (with_reducible apply below_alloc) | exact Below.refl _ _))⟩
        | true =>
          have HN:=Aside0.mk (show eqM2 T (a.drop (kk + 1)) (b.drop (kk + 1)) = some r by simpa using hv2)
          clear hv2
          go_wp2_with (go_at_call 46;refine (HC.out _ HHx0.out HHy0.out).mono ?_;rintro e w' ⟨rfl,hb'⟩;have n2:=Aside0.mk (below_step HW.out hb');clear HW HC hb' f0 g0;have HW:=n2;clear n2)
          go_roundg (a.length - (kk + 1))
          case measure=>omega
          case rel=>exact ⟨kk + 1,by omega,by omega,by go_num,HN,⟨(by repeat (first | exact HW.out | (with_reducible apply pw_below_drewN) | (with_reducible apply below_drew1) | (with_reducible apply below_alloc) | exact Below.refl _ _))⟩⟩
      · have hltz : decide ((kk : Int) < (a.length : Int)) = false:=decide_eq_false (by omega)
        have he:=HE.out
        rw [List.drop_of_length_le (by omega)] at he
        obtain rfl:=Option.some.inj (show some true = some r from he)
        clear he HE
        go_wp2
        go_ret
        exact ⟨by first | rfl | (simp;done),(by repeat (first | exact HW.out | (with_reducible apply pw_below_drewN) | (with_reducible apply below_drew1) | (with_reducible apply below_alloc) | exact Below.refl _ _))⟩
  · have hnz : ((a.length : Int) != (b.length : Int)) = true:=bne_iff_ne.mpr (by omega)
    have h0:=H.out
    unfold eqL2 at h0
    rw [if_neg hn] at h0
    obtain rfl:=Option.some.inj h0
    clear h0 H
    go_enter Try.func87,Try.ntmps87
    go_wp2
    go_ret
    exact ⟨by first | rfl | (simp;done),(by repeat (first | (with_reducible apply pw_below_drewN) | (with_reducible apply below_drew1) | (with_reducible apply below_alloc) | exact Below.refl _ _))⟩
theorem rows_say (k : Nat) : SaysRow (slices_Equal_int_int.f k):=fun x y A0 c0 B0 d0 r w h hc g gc hv=>(slices_Equal_int_int.calls k A0 c0 x B0 d0 y r w h hc g gc hv).mono (fun e w' q=>⟨q.1,drawn_below q.2⟩)
def impl_sameQueues.f (k : Nat) (l0 l1 : List (List Int)) : Option Bool:=eqL2 (slices_Equal_int_int.f k) l0 l1
theorem impl_sameQueues.calls (k : Nat) (A0 : Option Addr) (c0 : Nat) (l0 : List (List Int)) (A1 : Option Addr) (c1 : Nat) (l1 : List (List Int)) (r : Bool) (w : World) (hr0 : Kd.C (Kd.slice 3 (Kd.int .i64)) w A0 l0.length l0) (hc0 : l0.length ≤ c0) (hr1 : Kd.C (Kd.slice 3 (Kd.int .i64)) w A1 l1.length l1) (hc1 : l1.length ≤ c1) (h : impl_sameQueues.f k l0 l1 = some r) :
    Calls Try.prog 48 #[.slice A0 l0.length c0,.slice A1 l1.length c1] w fun e w'=>e = .returned (.bool r) ∧ Below w.heap.size w w':=by
  have HE:=Aside0.mk (rowEq_calls _ (rows_say k) A0 A1 c0 c1 l0 l1 r w hr0 hr1 h)
  clear hr0 hr1 h hc0 hc1
  go_enter Try.func48,Try.ntmps48
  go_wp2_with (go_at_call 87;refine HE.out.mono ?_;rintro e w' ⟨rfl,hb'⟩;have HB:=Aside0.mk hb';clear HE hb')
  go_ret
  exact ⟨by first | rfl | (simp;done),(by repeat (first | exact HB.out | (with_reducible apply pw_below_drewN) | (with_reducible apply below_drew1) | (with_reducible apply below_alloc) | exact Below.refl _ _))⟩
theorem calls_dr {P : Program} {f : FuncId} {args : Array Value} {w : World} {r : Bool} (h : Calls P f args w fun e w'=>e = .returned (.bool r) ∧ Drawn0 w w') : Calls P f args w fun e w'=>e = .returned (.bool r) ∧ Below w.heap.size w w':=h.mono (fun e w' q=>⟨q.1,drawn_below q.2⟩)
theorem cells5_ {w : World} {g : Nat} {t : TypeId} {c0 c1 c2 c3 c4 : Value} (h : Aside0 (w.heap[g]? = some (.cells #[c0,c1,c2,c3,c4] t (0,0)))) : w.cell? ⟨g,0,none⟩ = some c0 ∧ w.cell? ⟨g,1,none⟩ = some c1 ∧ w.cell? ⟨g,2,none⟩ = some c2 ∧ w.cell? ⟨g,3,none⟩ = some c3 ∧ w.cell? ⟨g,4,none⟩ = some c4:=⟨(blk_cell h.out 0).trans rfl,(blk_cell h.out 1).trans rfl,(blk_cell h.out 2).trans rfl,(blk_cell h.out 3).trans rfl,(blk_cell h.out 4).trans rfl⟩
theorem cells11_ {w : World} {g : Nat} {t : TypeId} {c0 c1 c2 c3 c4 c5 c6 c7 c8 c9 c10 : Value} (h : Aside0 (w.heap[g]? = some (.cells #[c0,c1,c2,c3,c4,c5,c6,c7,c8,c9,c10] t (0,0)))) : w.cell? ⟨g,0,none⟩ = some c0 ∧ w.cell? ⟨g,1,none⟩ = some c1 ∧ w.cell? ⟨g,2,none⟩ = some c2 ∧ w.cell? ⟨g,3,none⟩ = some c3 ∧ w.cell? ⟨g,4,none⟩ = some c4 ∧ w.cell? ⟨g,5,none⟩ = some c5 ∧ w.cell? ⟨g,6,none⟩ = some c6 ∧ w.cell? ⟨g,7,none⟩ = some c7 ∧ w.cell? ⟨g,8,none⟩ = some c8 ∧ w.cell? ⟨g,9,none⟩ = some c9 ∧ w.cell? ⟨g,10,none⟩ = some c10:=⟨(blk_cell h.out 0).trans rfl,(blk_cell h.out 1).trans rfl,(blk_cell h.out 2).trans rfl,(blk_cell h.out 3).trans rfl,(blk_cell h.out 4).trans rfl,(blk_cell h.out 5).trans rfl,(blk_cell h.out 6).trans rfl,(blk_cell h.out 7).trans rfl,(blk_cell h.out 8).trans rfl,(blk_cell h.out 9).trans rfl,(blk_cell h.out 10).trans rfl⟩
def ctxV (k : Nat) (x y : S67) : Option Bool:=(slices_Equal_int_int.f k x.f0 y.f0).bind fun b=>if b = true then if x.f1 = y.f1 then if x.f2 = y.f2 then if x.f3 = y.f3 then if x.f4 = y.f4 then some true else some false else some false else some false else some false else some false
set_option maxHeartbeats 8000000 in
set_option maxRecDepth 100000 in
theorem ctxW (k : Nat) (x : S67) (y : S67) (A0 : Option Addr) (c0 : Nat) (B0 : Option Addr) (d0 : Nat) (r : Bool) (w : World)
    (h0 : Kd.C (Kd.int .i64) w A0 x.f0.length x.f0) (hc0 : x.f0.length ≤ c0)
    (g0 : Kd.C (Kd.int .i64) w B0 y.f0.length y.f0) (gc0 : y.f0.length ≤ d0)
    (h : ctxV k x y = some r) :
    Calls Try.prog 45 #[.agg #[.slice A0 x.f0.length c0,.int .i64 x.f1,.int .i64 x.f2,.int .i64 x.f3,.int .i64 x.f4],.agg #[.slice B0 y.f0.length d0,.int .i64 y.f1,.int .i64 y.f2,.int .i64 y.f3,.int .i64 y.f4]] w fun e w'=>e = .returned (.bool r) ∧ Below w.heap.size w w':=by
  unfold ctxV at h
  have hu:=Try.underlying67
  have b1:=blk_alloc (blk_new w (.cells #[.slice A0 x.f0.length c0,.int .i64 x.f1,.int .i64 x.f2,.int .i64 x.f3,.int .i64 x.f4] 67)) (.cells #[.slice B0 y.f0.length d0,.int .i64 y.f1,.int .i64 y.f2,.int .i64 y.f3,.int .i64 y.f4] 67)
  have b2:=blk_new (w.alloc (.cells #[.slice A0 x.f0.length c0,.int .i64 x.f1,.int .i64 x.f2,.int .i64 x.f3,.int .i64 x.f4] 67)) (.cells #[.slice B0 y.f0.length d0,.int .i64 y.f1,.int .i64 y.f2,.int .i64 y.f3,.int .i64 y.f4] 67)
  rw [size_alloc2] at b2
  have HX:=Aside0.mk b1
  have HY:=Aside0.mk b2
  have HB:=Aside0.mk (below_alloc (below_alloc (Below.refl _ w) (.cells #[.slice A0 x.f0.length c0,.int .i64 x.f1,.int .i64 x.f2,.int .i64 x.f3,.int .i64 x.f4] 67)) (.cells #[.slice B0 y.f0.length d0,.int .i64 y.f1,.int .i64 y.f2,.int .i64 y.f3,.int .i64 y.f4] 67))
  have HH0:=Aside0.mk h0
  have GG0:=Aside0.mk g0
  clear b1 b2 h0 g0
  obtain ⟨b0,hv,h⟩:=Option.bind_eq_some_iff.1 h
  have HC0:=Aside0.mk (fun W hx hy=>calls_dr (slices_Equal_int_int.calls k A0 c0 x.f0 B0 d0 y.f0 b0 W hx hc0 hy gc0 hv))
  clear hv
  cases b0 with
  | false =>
    obtain rfl:=Option.some.inj (show some false = some r by simpa using h)
    clear h
    go_enter Try.func45,Try.ntmps45
    go_wp2_with (first
      | (go_at_call 46;refine (HC0.out _ (Kd.C_below HH0.out (by repeat (first | exact HB.out | (with_reducible apply pw_below_drewN) | (with_reducible apply below_drew1) | (with_reducible apply below_alloc) | exact Below.refl _ _))) (Kd.C_below GG0.out (by repeat (first | exact HB.out | (with_reducible apply pw_below_drewN) | (with_reducible apply below_drew1) | (with_reducible apply below_alloc) | exact Below.refl _ _)))).mono ?_;rintro e w' ⟨rfl,hd⟩;have hb:=hd;have n1:=Aside0.mk (below_step (by repeat (first | exact HB.out | (with_reducible apply pw_below_drewN) | (with_reducible apply below_drew1) | (with_reducible apply below_alloc) | exact Below.refl _ _)) hb);have n2:=Aside0.mk (blk_below (by first | exact HX.out) hb);have n3:=Aside0.mk (blk_below (by first | exact HY.out) hb);clear HC0 HB HX HY hb hd ; have HB:=n1;have HX:=n2;have HY:=n3;clear n1 n2 n3;obtain ⟨u0,u1,u2,u3,u4⟩:=cells5_ HX;obtain ⟨v0,v1,v2,v3,v4⟩:=cells5_ HY))
    go_ret
    exact ⟨by first | rfl | (simp;done) | (simp [*];done),(by repeat (first | exact HB.out | (with_reducible apply pw_below_drewN) | (with_reducible apply below_drew1) | (with_reducible apply below_alloc) | exact Below.refl _ _))⟩
  | true =>
    rw [if_pos rfl] at h
    by_cases e1 : x.f1 = y.f1
    · rw [if_pos e1] at h
      have k1 : (x.f1 == y.f1) = true:=by simpa using e1
      clear e1
      by_cases e2 : x.f2 = y.f2
      · rw [if_pos e2] at h
        have k2 : (x.f2 == y.f2) = true:=by simpa using e2
        clear e2
        by_cases e3 : x.f3 = y.f3
        · rw [if_pos e3] at h
          have k3 : (x.f3 == y.f3) = true:=by simpa using e3
          clear e3
          by_cases e4 : x.f4 = y.f4
          · rw [if_pos e4] at h
            have k4 : (x.f4 == y.f4) = true:=by simpa using e4
            clear e4
            obtain rfl:=Option.some.inj h
            clear h
            go_enter Try.func45,Try.ntmps45
            go_wp2_with (first
              | (go_at_call 46;refine (HC0.out _ (Kd.C_below HH0.out (by repeat (first | exact HB.out | (with_reducible apply pw_below_drewN) | (with_reducible apply below_drew1) | (with_reducible apply below_alloc) | exact Below.refl _ _))) (Kd.C_below GG0.out (by repeat (first | exact HB.out | (with_reducible apply pw_below_drewN) | (with_reducible apply below_drew1) | (with_reducible apply below_alloc) | exact Below.refl _ _)))).mono ?_;rintro e w' ⟨rfl,hd⟩;have hb:=hd;have n1:=Aside0.mk (below_step (by repeat (first | exact HB.out | (with_reducible apply pw_below_drewN) | (with_reducible apply below_drew1) | (with_reducible apply below_alloc) | exact Below.refl _ _)) hb);have n2:=Aside0.mk (blk_below (by first | exact HX.out) hb);have n3:=Aside0.mk (blk_below (by first | exact HY.out) hb);clear HC0 HB HX HY hb hd ; have HB:=n1;have HX:=n2;have HY:=n3;clear n1 n2 n3;obtain ⟨u0,u1,u2,u3,u4⟩:=cells5_ HX;obtain ⟨v0,v1,v2,v3,v4⟩:=cells5_ HY))
            go_ret
            exact ⟨by first | rfl | (simp;done) | (simp [*];done),(by repeat (first | exact HB.out | (with_reducible apply pw_below_drewN) | (with_reducible apply below_drew1) | (with_reducible apply below_alloc) | exact Below.refl _ _))⟩
          · rw [if_neg e4] at h
            have k4 : (x.f4 == y.f4) = false:=by simpa using e4
            clear e4
            obtain rfl:=Option.some.inj h
            clear h
            go_enter Try.func45,Try.ntmps45
            go_wp2_with (first
              | (go_at_call 46;refine (HC0.out _ (Kd.C_below HH0.out (by repeat (first | exact HB.out | (with_reducible apply pw_below_drewN) | (with_reducible apply below_drew1) | (with_reducible apply below_alloc) | exact Below.refl _ _))) (Kd.C_below GG0.out (by repeat (first | exact HB.out | (with_reducible apply pw_below_drewN) | (with_reducible apply below_drew1) | (with_reducible apply below_alloc) | exact Below.refl _ _)))).mono ?_;rintro e w' ⟨rfl,hd⟩;have hb:=hd;have n1:=Aside0.mk (below_step (by repeat (first | exact HB.out | (with_reducible apply pw_below_drewN) | (with_reducible apply below_drew1) | (with_reducible apply below_alloc) | exact Below.refl _ _)) hb);have n2:=Aside0.mk (blk_below (by first | exact HX.out) hb);have n3:=Aside0.mk (blk_below (by first | exact HY.out) hb);clear HC0 HB HX HY hb hd ; have HB:=n1;have HX:=n2;have HY:=n3;clear n1 n2 n3;obtain ⟨u0,u1,u2,u3,u4⟩:=cells5_ HX;obtain ⟨v0,v1,v2,v3,v4⟩:=cells5_ HY))
            go_ret
            exact ⟨by first | rfl | (simp;done) | (simp [*];done),(by repeat (first | exact HB.out | (with_reducible apply pw_below_drewN) | (with_reducible apply below_drew1) | (with_reducible apply below_alloc) | exact Below.refl _ _))⟩
        · rw [if_neg e3] at h
          have k3 : (x.f3 == y.f3) = false:=by simpa using e3
          clear e3
          obtain rfl:=Option.some.inj h
          clear h
          go_enter Try.func45,Try.ntmps45
          go_wp2_with (first
            | (go_at_call 46;refine (HC0.out _ (Kd.C_below HH0.out (by repeat (first | exact HB.out | (with_reducible apply pw_below_drewN) | (with_reducible apply below_drew1) | (with_reducible apply below_alloc) | exact Below.refl _ _))) (Kd.C_below GG0.out (by repeat (first | exact HB.out | (with_reducible apply pw_below_drewN) | (with_reducible apply below_drew1) | (with_reducible apply below_alloc) | exact Below.refl _ _)))).mono ?_;rintro e w' ⟨rfl,hd⟩;have hb:=hd;have n1:=Aside0.mk (below_step (by repeat (first | exact HB.out | (with_reducible apply pw_below_drewN) | (with_reducible apply below_drew1) | (with_reducible apply below_alloc) | exact Below.refl _ _)) hb);have n2:=Aside0.mk (blk_below (by first | exact HX.out) hb);have n3:=Aside0.mk (blk_below (by first | exact HY.out) hb);clear HC0 HB HX HY hb hd ; have HB:=n1;have HX:=n2;have HY:=n3;clear n1 n2 n3;obtain ⟨u0,u1,u2,u3,u4⟩:=cells5_ HX;obtain ⟨v0,v1,v2,v3,v4⟩:=cells5_ HY))
          go_ret
          exact ⟨by first | rfl | (simp;done) | (simp [*];done),(by repeat (first | exact HB.out | (with_reducible apply pw_below_drewN) | (with_reducible apply below_drew1) | (with_reducible apply below_alloc) | exact Below.refl _ _))⟩
      · rw [if_neg e2] at h
        have k2 : (x.f2 == y.f2) = false:=by simpa using e2
        clear e2
        obtain rfl:=Option.some.inj h
        clear h
        go_enter Try.func45,Try.ntmps45
        go_wp2_with (first
          | (go_at_call 46;refine (HC0.out _ (Kd.C_below HH0.out (by repeat (first | exact HB.out | (with_reducible apply pw_below_drewN) | (with_reducible apply below_drew1) | (with_reducible apply below_alloc) | exact Below.refl _ _))) (Kd.C_below GG0.out (by repeat (first | exact HB.out | (with_reducible apply pw_below_drewN) | (with_reducible apply below_drew1) | (with_reducible apply below_alloc) | exact Below.refl _ _)))).mono ?_;rintro e w' ⟨rfl,hd⟩;have hb:=hd;have n1:=Aside0.mk (below_step (by repeat (first | exact HB.out | (with_reducible apply pw_below_drewN) | (with_reducible apply below_drew1) | (with_reducible apply below_alloc) | exact Below.refl _ _)) hb);have n2:=Aside0.mk (blk_below (by first | exact HX.out) hb);have n3:=Aside0.mk (blk_below (by first | exact HY.out) hb);clear HC0 HB HX HY hb hd ; have HB:=n1;have HX:=n2;have HY:=n3;clear n1 n2 n3;obtain ⟨u0,u1,u2,u3,u4⟩:=cells5_ HX;obtain ⟨v0,v1,v2,v3,v4⟩:=cells5_ HY))
        go_ret
        exact ⟨by first | rfl | (simp;done) | (simp [*];done),(by repeat (first | exact HB.out | (with_reducible apply pw_below_drewN) | (with_reducible apply below_drew1) | (with_reducible apply below_alloc) | exact Below.refl _ _))⟩
    · rw [if_neg e1] at h
      have k1 : (x.f1 == y.f1) = false:=by simpa using e1
      clear e1
      obtain rfl:=Option.some.inj h
      clear h
      go_enter Try.func45,Try.ntmps45
      go_wp2_with (first
        | (go_at_call 46;refine (HC0.out _ (Kd.C_below HH0.out (by repeat (first | exact HB.out | (with_reducible apply pw_below_drewN) | (with_reducible apply below_drew1) | (with_reducible apply below_alloc) | exact Below.refl _ _))) (Kd.C_below GG0.out (by repeat (first | exact HB.out | (with_reducible apply pw_below_drewN) | (with_reducible apply below_drew1) | (with_reducible apply below_alloc) | exact Below.refl _ _)))).mono ?_;rintro e w' ⟨rfl,hd⟩;have hb:=hd;have n1:=Aside0.mk (below_step (by repeat (first | exact HB.out | (with_reducible apply pw_below_drewN) | (with_reducible apply below_drew1) | (with_reducible apply below_alloc) | exact Below.refl _ _)) hb);have n2:=Aside0.mk (blk_below (by first | exact HX.out) hb);have n3:=Aside0.mk (blk_below (by first | exact HY.out) hb);clear HC0 HB HX HY hb hd ; have HB:=n1;have HX:=n2;have HY:=n3;clear n1 n2 n3;obtain ⟨u0,u1,u2,u3,u4⟩:=cells5_ HX;obtain ⟨v0,v1,v2,v3,v4⟩:=cells5_ HY))
      go_ret
      exact ⟨by first | rfl | (simp;done) | (simp [*];done),(by repeat (first | exact HB.out | (with_reducible apply pw_below_drewN) | (with_reducible apply below_drew1) | (with_reducible apply below_alloc) | exact Below.refl _ _))⟩
def SaysX (T : S67 → S67 → Option Bool) : Prop:=∀ (x : S67) (y : S67) (A0 : Option Addr) (c0 : Nat) (B0 : Option Addr) (d0 : Nat) (r : Bool) (w : World),
    Kd.C (Kd.int .i64) w A0 x.f0.length x.f0 → x.f0.length ≤ c0 → Kd.C (Kd.int .i64) w B0 y.f0.length y.f0 → y.f0.length ≤ d0 → T x y = some r →
    Calls Try.prog 45 #[.agg #[.slice A0 x.f0.length c0,.int .i64 x.f1,.int .i64 x.f2,.int .i64 x.f3,.int .i64 x.f4],.agg #[.slice B0 y.f0.length d0,.int .i64 y.f1,.int .i64 y.f2,.int .i64 y.f3,.int .i64 y.f4]] w fun e w'=>e = .returned (.bool r) ∧ Below w.heap.size w w'
set_option maxHeartbeats 4000000 in
set_option maxRecDepth 100000 in
theorem ctxEq_calls (T : S67 → S67 → Option Bool) (hT : SaysX T) (A B : Option Addr) (c d : Nat) (a : List S67) (b : List S67) (r : Bool) (w : World) (ha : Kd.C k67 w A a.length a) (hb : Kd.C k67 w B b.length b) (h : eqL2 T a b = some r) :
    Calls Try.prog 49 #[.slice A a.length c,.slice B b.length d,.func (.func 45) #[] #[]] w fun e w'=>e = .returned (.bool r) ∧ Below w.heap.size w w':=by
  have HT:=Aside0.mk hT
  have HA:=Aside0.mk ha
  have HB:=Aside0.mk hb
  have H:=Aside0.mk h
  have hla : a.length ≤ 9223372036854775807:=ha.2.1
  have hlb : b.length ≤ 9223372036854775807:=hb.2.1
  have hu:=Try.underlying67
  clear hT ha hb h
  by_cases hn : a.length = b.length
  · have hnz : ((a.length : Int) != (b.length : Int)) = false:=bne_eq_false_iff_eq.mpr (by omega)
    have h0:=H.out
    unfold eqL2 at h0
    rw [if_pos hn] at h0
    have H0:=Aside0.mk h0
    have HNE:=Aside0.mk hn
    clear h0 H hn
    go_enter Try.func49,Try.ntmps49
    go_wp2
    go_loopg [7,17] a.length (fun gg _ p wr=>∃ kk : Nat,kk ≤ a.length ∧ a.length - kk ≤ gg ∧ p = .int .i64 kk ∧ Aside0 (eqM2 T (a.drop kk) (b.drop kk) = some r) ∧ Aside0 (Below w.heap.size w wr))
    case atStart=>exact ⟨0,Nat.zero_le _,by omega,rfl,H0,⟨Below.refl _ w⟩⟩
    case round =>
      obtain ⟨kk,hkk,hg,rfl,HE,HW⟩:=hrel
      clear H0
      by_cases hlt : kk < a.length
      · have hltz : decide ((kk : Int) < (a.length : Int)) = true:=decide_eq_true (by omega)
        have p1 : 0 ≤ (kk : Int):=by omega
        have q1 : (kk : Int) < (a.length : Int):=by omega
        have q2 : (kk : Int) < (b.length : Int):=by have:=HNE.out;omega
        obtain ⟨ad,A0,c0,e1,f0,f1,f2,f3,f4,hc0,H0⟩:=at_T67 (Kd.C_below HA.out HW.out) (kk : Int) p1 q1
        obtain ⟨bd,B0,d0,e2,g0,g1,g2,g3,g4,gc0,G0⟩:=at_T67 (Kd.C_below HB.out HW.out) (kk : Int) p1 q2
        cases e1
        cases e2
        rw [Int.toNat_natCast] at f0 f1 f2 f3 f4 g0 g1 g2 g3 g4
        have he:=HE.out
        rw [show a.drop kk = rd_T67 a (kk : Int) :: a.drop (kk + 1) from by rw [List.drop_eq_getElem_cons hlt];unfold rd_T67;rw [Int.toNat_natCast,List.getD_eq_getElem?_getD,List.getElem?_eq_getElem hlt];rfl,
          show b.drop kk = rd_T67 b (kk : Int) :: b.drop (kk + 1) from by rw [List.drop_eq_getElem_cons (by have:=HNE.out;omega)];unfold rd_T67;rw [Int.toNat_natCast,List.getD_eq_getElem?_getD,List.getElem?_eq_getElem (by have:=HNE.out;omega)];rfl] at he
        clear HE
        obtain ⟨v,hv1,hv2⟩:=Option.bind_eq_some_iff.1 he
        clear he
        generalize rd_T67 a (kk : Int) = x at *
        generalize rd_T67 b (kk : Int) = y at *
        have al : ∀ {p : Addr} {u : Value},wr.cell? p = some u → ∀ o,(wr.alloc o).cell? p = some u:=fun h o=>((below_alloc (Below.refl _ wr) o).cell (World.block_lt_of_cell? wr _ h)).trans h
        have i0:=al g0
        have i1:=al g1
        have i2:=al g2
        have i3:=al g3
        have i4:=al g4
        clear al g0 g1 g2 g3 g4
        have HC:=Aside0.mk (fun W h0 g0=>HT.out x y A0 c0 B0 d0 v W h0 hc0 g0 gc0 hv1)
        have HHx0:=Aside0.mk H0
        clear H0
        have HHy0:=Aside0.mk G0
        clear G0
        clear hv1
        replace p1:=eq_true p1
        replace q1:=eq_true q1
        replace q2:=eq_true q2
        cases v with
        | false =>
          obtain rfl:=Option.some.inj (show some false = some r by simpa using hv2)
          clear hv2
          go_wp2_with (go_at_call 45;refine (HC.out _ (Kd.C_alloc (Kd.C_alloc HHx0.out _) _) (Kd.C_alloc (Kd.C_alloc HHy0.out _) _)).mono ?_;rintro e w' ⟨rfl,hb'⟩;have n2:=Aside0.mk (below_step (below_alloc (below_alloc HW.out _) _) hb');clear HW HC hb' f0 f1 f2 f3 f4 i0 i1 i2 i3 i4;have HW:=n2;clear n2)
          go_ret
          exact ⟨by first | rfl | (simp;done),(by repeat (first | exact HW.out | (with_reducible apply pw_below_drewN) | (with_reducible apply below_drew1) | (with_reducible apply below_alloc) | exact Below.refl _ _))⟩
        | true =>
          have HN:=Aside0.mk (show eqM2 T (a.drop (kk + 1)) (b.drop (kk + 1)) = some r by simpa using hv2)
          clear hv2
          go_wp2_with (go_at_call 45;refine (HC.out _ (Kd.C_alloc (Kd.C_alloc HHx0.out _) _) (Kd.C_alloc (Kd.C_alloc HHy0.out _) _)).mono ?_;rintro e w' ⟨rfl,hb'⟩;have n2:=Aside0.mk (below_step (below_alloc (below_alloc HW.out _) _) hb');clear HW HC hb' f0 f1 f2 f3 f4 i0 i1 i2 i3 i4;have HW:=n2;clear n2)
          go_roundg (a.length - (kk + 1))
          case measure=>omega
          case rel=>exact ⟨kk + 1,by omega,by omega,by go_num,HN,⟨(by repeat (first | exact HW.out | (with_reducible apply pw_below_drewN) | (with_reducible apply below_drew1) | (with_reducible apply below_alloc) | exact Below.refl _ _))⟩⟩
      · have hltz : decide ((kk : Int) < (a.length : Int)) = false:=decide_eq_false (by omega)
        have he:=HE.out
        rw [List.drop_of_length_le (by omega)] at he
        obtain rfl:=Option.some.inj (show some true = some r from he)
        clear he HE
        go_wp2
        go_ret
        exact ⟨by first | rfl | (simp;done),(by repeat (first | exact HW.out | (with_reducible apply pw_below_drewN) | (with_reducible apply below_drew1) | (with_reducible apply below_alloc) | exact Below.refl _ _))⟩
  · have hnz : ((a.length : Int) != (b.length : Int)) = true:=bne_iff_ne.mpr (by omega)
    have h0:=H.out
    unfold eqL2 at h0
    rw [if_neg hn] at h0
    obtain rfl:=Option.some.inj h0
    clear h0 H
    go_enter Try.func49,Try.ntmps49
    go_wp2
    go_ret
    exact ⟨by first | rfl | (simp;done),(by repeat (first | (with_reducible apply pw_below_drewN) | (with_reducible apply below_drew1) | (with_reducible apply below_alloc) | exact Below.refl _ _))⟩
theorem ctxs_say (k : Nat) : SaysX (ctxV k):=fun x y A0 c0 B0 d0 r w h0 hc0 g0 gc0 h=>ctxW k x y A0 c0 B0 d0 r w h0 hc0 g0 gc0 h
structure SCpu where
  f0 : List S67
  f1 : List Int
  f2 : List Int
  f3 : List (List Int)
  f4 : List (List Int)
  f5 : List Int
  f6 : Int
  f7 : Int
  f8 : List S74
  f9 : List Int
  f10 : List Int
def cpuV (k : Nat) (x y : SCpu) : Option Bool:=((slices_Equal_int_int.f k x.f1 y.f1).bind fun b=>if b = true then (slices_Equal_int_int.f k x.f2 y.f2).bind fun b=>if b = true then slices_Equal_int_int.f k x.f5 y.f5 else some false else some false).bind fun q0=>((impl_Say.f k x.f8 y.f8).bind fun b=>if b = true then (slices_Equal_int_int.f k x.f9 y.f9).bind fun b=>if b = true then slices_Equal_int_int.f k x.f10 y.f10 else some false else some false).bind fun q1=>((impl_sameQueues.f k x.f3 y.f3).bind fun b=>if b = true then impl_sameQueues.f k x.f4 y.f4 else some false).bind fun q2=>if q0 = true then if q1 = true then if q2 = true then if x.f6 = y.f6 then if x.f7 = y.f7 then eqL2 (ctxV k) x.f0 y.f0 else some false else some false else some false else some false else some false
set_option maxHeartbeats 8000000 in
set_option maxRecDepth 100000 in
theorem cpuW (k : Nat) (x y : SCpu) (A0 : Option Addr) (c0 : Nat) (A1 : Option Addr) (c1 : Nat) (A2 : Option Addr) (c2 : Nat) (A3 : Option Addr) (c3 : Nat) (A4 : Option Addr) (c4 : Nat) (A5 : Option Addr) (c5 : Nat) (A8 : Option Addr) (c8 : Nat) (A9 : Option Addr) (c9 : Nat) (A10 : Option Addr) (c10 : Nat) (B0 : Option Addr) (d0 : Nat) (B1 : Option Addr) (d1 : Nat) (B2 : Option Addr) (d2 : Nat) (B3 : Option Addr) (d3 : Nat) (B4 : Option Addr) (d4 : Nat) (B5 : Option Addr) (d5 : Nat) (B8 : Option Addr) (d8 : Nat) (B9 : Option Addr) (d9 : Nat) (B10 : Option Addr) (d10 : Nat) (r : Bool) (w : World)
    (h0 : Kd.C k67 w A0 x.f0.length x.f0) (hc0 : x.f0.length ≤ c0)
    (h1 : Kd.C (Kd.int .i64) w A1 x.f1.length x.f1) (hc1 : x.f1.length ≤ c1)
    (h2 : Kd.C (Kd.int .i64) w A2 x.f2.length x.f2) (hc2 : x.f2.length ≤ c2)
    (h3 : Kd.C (Kd.slice 3 (Kd.int .i64)) w A3 x.f3.length x.f3) (hc3 : x.f3.length ≤ c3)
    (h4 : Kd.C (Kd.slice 3 (Kd.int .i64)) w A4 x.f4.length x.f4) (hc4 : x.f4.length ≤ c4)
    (h5 : Kd.C (Kd.int .i64) w A5 x.f5.length x.f5) (hc5 : x.f5.length ≤ c5)
    (h8 : Kd.C k74 w A8 x.f8.length x.f8) (hc8 : x.f8.length ≤ c8)
    (h9 : Kd.C (Kd.int .i64) w A9 x.f9.length x.f9) (hc9 : x.f9.length ≤ c9)
    (h10 : Kd.C (Kd.int .i64) w A10 x.f10.length x.f10) (hc10 : x.f10.length ≤ c10)
    (g0 : Kd.C k67 w B0 y.f0.length y.f0) (gc0 : y.f0.length ≤ d0)
    (g1 : Kd.C (Kd.int .i64) w B1 y.f1.length y.f1) (gc1 : y.f1.length ≤ d1)
    (g2 : Kd.C (Kd.int .i64) w B2 y.f2.length y.f2) (gc2 : y.f2.length ≤ d2)
    (g3 : Kd.C (Kd.slice 3 (Kd.int .i64)) w B3 y.f3.length y.f3) (gc3 : y.f3.length ≤ d3)
    (g4 : Kd.C (Kd.slice 3 (Kd.int .i64)) w B4 y.f4.length y.f4) (gc4 : y.f4.length ≤ d4)
    (g5 : Kd.C (Kd.int .i64) w B5 y.f5.length y.f5) (gc5 : y.f5.length ≤ d5)
    (g8 : Kd.C k74 w B8 y.f8.length y.f8) (gc8 : y.f8.length ≤ d8)
    (g9 : Kd.C (Kd.int .i64) w B9 y.f9.length y.f9) (gc9 : y.f9.length ≤ d9)
    (g10 : Kd.C (Kd.int .i64) w B10 y.f10.length y.f10) (gc10 : y.f10.length ≤ d10)
    (h : cpuV k x y = some r) :
    Calls Try.prog 12 #[.agg #[.slice A0 x.f0.length c0,.slice A1 x.f1.length c1,.slice A2 x.f2.length c2,.slice A3 x.f3.length c3,.slice A4 x.f4.length c4,.slice A5 x.f5.length c5,.int .i64 x.f6,.int .i64 x.f7,.slice A8 x.f8.length c8,.slice A9 x.f9.length c9,.slice A10 x.f10.length c10],.agg #[.slice B0 y.f0.length d0,.slice B1 y.f1.length d1,.slice B2 y.f2.length d2,.slice B3 y.f3.length d3,.slice B4 y.f4.length d4,.slice B5 y.f5.length d5,.int .i64 y.f6,.int .i64 y.f7,.slice B8 y.f8.length d8,.slice B9 y.f9.length d9,.slice B10 y.f10.length d10]] w fun e w'=>e = .returned (.bool r) ∧ Below w.heap.size w w':=by
  unfold cpuV at h
  obtain ⟨q0,hq0,h⟩:=Option.bind_eq_some_iff.1 h
  have Hq0:=Aside0.mk hq0
  clear hq0
  obtain ⟨q1,hq1,h⟩:=Option.bind_eq_some_iff.1 h
  have Hq1:=Aside0.mk hq1
  clear hq1
  obtain ⟨q2,hq2,h⟩:=Option.bind_eq_some_iff.1 h
  have Hq2:=Aside0.mk hq2
  clear hq2
  have H:=Aside0.mk h
  clear h
  have hu:=Try.underlying33
  have b1:=blk_alloc (blk_new w (.cells #[.slice A0 x.f0.length c0,.slice A1 x.f1.length c1,.slice A2 x.f2.length c2,.slice A3 x.f3.length c3,.slice A4 x.f4.length c4,.slice A5 x.f5.length c5,.int .i64 x.f6,.int .i64 x.f7,.slice A8 x.f8.length c8,.slice A9 x.f9.length c9,.slice A10 x.f10.length c10] 33)) (.cells #[.slice B0 y.f0.length d0,.slice B1 y.f1.length d1,.slice B2 y.f2.length d2,.slice B3 y.f3.length d3,.slice B4 y.f4.length d4,.slice B5 y.f5.length d5,.int .i64 y.f6,.int .i64 y.f7,.slice B8 y.f8.length d8,.slice B9 y.f9.length d9,.slice B10 y.f10.length d10] 33)
  have b2:=blk_new (w.alloc (.cells #[.slice A0 x.f0.length c0,.slice A1 x.f1.length c1,.slice A2 x.f2.length c2,.slice A3 x.f3.length c3,.slice A4 x.f4.length c4,.slice A5 x.f5.length c5,.int .i64 x.f6,.int .i64 x.f7,.slice A8 x.f8.length c8,.slice A9 x.f9.length c9,.slice A10 x.f10.length c10] 33)) (.cells #[.slice B0 y.f0.length d0,.slice B1 y.f1.length d1,.slice B2 y.f2.length d2,.slice B3 y.f3.length d3,.slice B4 y.f4.length d4,.slice B5 y.f5.length d5,.int .i64 y.f6,.int .i64 y.f7,.slice B8 y.f8.length d8,.slice B9 y.f9.length d9,.slice B10 y.f10.length d10] 33)
  rw [size_alloc2] at b2
  have HX:=Aside0.mk b1
  have HY:=Aside0.mk b2
  have HB:=Aside0.mk (below_alloc (below_alloc (Below.refl _ w) (.cells #[.slice A0 x.f0.length c0,.slice A1 x.f1.length c1,.slice A2 x.f2.length c2,.slice A3 x.f3.length c3,.slice A4 x.f4.length c4,.slice A5 x.f5.length c5,.int .i64 x.f6,.int .i64 x.f7,.slice A8 x.f8.length c8,.slice A9 x.f9.length c9,.slice A10 x.f10.length c10] 33)) (.cells #[.slice B0 y.f0.length d0,.slice B1 y.f1.length d1,.slice B2 y.f2.length d2,.slice B3 y.f3.length d3,.slice B4 y.f4.length d4,.slice B5 y.f5.length d5,.int .i64 y.f6,.int .i64 y.f7,.slice B8 y.f8.length d8,.slice B9 y.f9.length d9,.slice B10 y.f10.length d10] 33))
  have HH0:=Aside0.mk h0
  have HH1:=Aside0.mk h1
  have HH2:=Aside0.mk h2
  have HH3:=Aside0.mk h3
  have HH4:=Aside0.mk h4
  have HH5:=Aside0.mk h5
  have HH8:=Aside0.mk h8
  have HH9:=Aside0.mk h9
  have HH10:=Aside0.mk h10
  have GG0:=Aside0.mk g0
  have GG1:=Aside0.mk g1
  have GG2:=Aside0.mk g2
  have GG3:=Aside0.mk g3
  have GG4:=Aside0.mk g4
  have GG5:=Aside0.mk g5
  have GG8:=Aside0.mk g8
  have GG9:=Aside0.mk g9
  have GG10:=Aside0.mk g10
  clear b1 b2 h0 h1 h2 h3 h4 h5 h8 h9 h10 g0 g1 g2 g3 g4 g5 g8 g9 g10
  have CC:=Aside0.mk (show x.f0.length ≤ c0 ∧ x.f1.length ≤ c1 ∧ x.f2.length ≤ c2 ∧ x.f3.length ≤ c3 ∧ x.f4.length ≤ c4 ∧ x.f5.length ≤ c5 ∧ x.f8.length ≤ c8 ∧ x.f9.length ≤ c9 ∧ x.f10.length ≤ c10 ∧ y.f0.length ≤ d0 ∧ y.f1.length ≤ d1 ∧ y.f2.length ≤ d2 ∧ y.f3.length ≤ d3 ∧ y.f4.length ≤ d4 ∧ y.f5.length ≤ d5 ∧ y.f8.length ≤ d8 ∧ y.f9.length ≤ d9 ∧ y.f10.length ≤ d10 from ⟨hc0,hc1,hc2,hc3,hc4,hc5,hc8,hc9,hc10,gc0,gc1,gc2,gc3,gc4,gc5,gc8,gc9,gc10⟩)
  clear hc0 hc1 hc2 hc3 hc4 hc5 hc8 hc9 hc10 gc0 gc1 gc2 gc3 gc4 gc5 gc8 gc9 gc10
  go_enter Try.func12,Try.ntmps12
  go_upto_region 2 with fail
  go_cut [6] (fun s wx=>s = .bool q0 ∧ Aside0 (wx.heap[w.heap.size]? = some (.cells #[.slice A0 x.f0.length c0,.slice A1 x.f1.length c1,.slice A2 x.f2.length c2,.slice A3 x.f3.length c3,.slice A4 x.f4.length c4,.slice A5 x.f5.length c5,.int .i64 x.f6,.int .i64 x.f7,.slice A8 x.f8.length c8,.slice A9 x.f9.length c9,.slice A10 x.f10.length c10] 33 (0,0))) ∧ Aside0 (wx.heap[w.heap.size + 1]? = some (.cells #[.slice B0 y.f0.length d0,.slice B1 y.f1.length d1,.slice B2 y.f2.length d2,.slice B3 y.f3.length d3,.slice B4 y.f4.length d4,.slice B5 y.f5.length d5,.int .i64 y.f6,.int .i64 y.f7,.slice B8 y.f8.length d8,.slice B9 y.f9.length d9,.slice B10 y.f10.length d10] 33 (0,0))) ∧ Aside0 (Below w.heap.size w wx))
  case first =>
    clear H Hq1 Hq2
    have h:=Hq0.out
    clear Hq0
    obtain ⟨b0,hv,h⟩:=Option.bind_eq_some_iff.1 h
    obtain ⟨hc0,hc1,hc2,hc3,hc4,hc5,hc8,hc9,hc10,gc0,gc1,gc2,gc3,gc4,gc5,gc8,gc9,gc10⟩:=CC.out
    have HC0:=Aside0.mk (fun W hx hy=>calls_dr (slices_Equal_int_int.calls k A1 c1 x.f1 B1 d1 y.f1 b0 W hx hc1 hy gc1 hv))
    clear hv hc0 hc1 hc2 hc3 hc4 hc5 hc8 hc9 hc10 gc0 gc1 gc2 gc3 gc4 gc5 gc8 gc9 gc10
    cases b0 with
    | false =>
      obtain rfl:=Option.some.inj (show some false = some q0 by simpa using h)
      clear h
      go_wp2_with (first
        | (go_at_call 46;refine (HC0.out _ (Kd.C_below HH1.out (by repeat (first | exact HB.out | (with_reducible apply pw_below_drewN) | (with_reducible apply below_drew1) | (with_reducible apply below_alloc) | exact Below.refl _ _))) (Kd.C_below GG1.out (by repeat (first | exact HB.out | (with_reducible apply pw_below_drewN) | (with_reducible apply below_drew1) | (with_reducible apply below_alloc) | exact Below.refl _ _)))).mono ?_;rintro e w' ⟨rfl,hd⟩;have hb:=hd;have n1:=Aside0.mk (below_step (by repeat (first | exact HB.out | (with_reducible apply pw_below_drewN) | (with_reducible apply below_drew1) | (with_reducible apply below_alloc) | exact Below.refl _ _)) hb);have n2:=Aside0.mk (blk_below (by first | exact HX.out) hb);have n3:=Aside0.mk (blk_below (by first | exact HY.out) hb);clear HC0 HB HX HY hb hd ; have HB:=n1;have HX:=n2;have HY:=n3;clear n1 n2 n3;obtain ⟨cx0,cx1,cx2,cx3,cx4,cx5,cx6,cx7,cx8,cx9,cx10⟩:=cells11_ HX;obtain ⟨cy0,cy1,cy2,cy3,cy4,cy5,cy6,cy7,cy8,cy9,cy10⟩:=cells11_ HY))
      go_meet
      exact ⟨by first | rfl | (simp;done) | (simp [*];done),HX,HY,⟨(by repeat (first | exact HB.out | (with_reducible apply pw_below_drewN) | (with_reducible apply below_drew1) | (with_reducible apply below_alloc) | exact Below.refl _ _))⟩⟩
    | true =>
      rw [if_pos rfl] at h
      obtain ⟨b1,hv,h⟩:=Option.bind_eq_some_iff.1 h
      obtain ⟨hc0,hc1,hc2,hc3,hc4,hc5,hc8,hc9,hc10,gc0,gc1,gc2,gc3,gc4,gc5,gc8,gc9,gc10⟩:=CC.out
      have HC1:=Aside0.mk (fun W hx hy=>calls_dr (slices_Equal_int_int.calls k A2 c2 x.f2 B2 d2 y.f2 b1 W hx hc2 hy gc2 hv))
      clear hv hc0 hc1 hc2 hc3 hc4 hc5 hc8 hc9 hc10 gc0 gc1 gc2 gc3 gc4 gc5 gc8 gc9 gc10
      cases b1 with
      | false =>
        obtain rfl:=Option.some.inj (show some false = some q0 by simpa using h)
        clear h
        go_wp2_with (first
          | (go_at_call 46;refine (HC0.out _ (Kd.C_below HH1.out (by repeat (first | exact HB.out | (with_reducible apply pw_below_drewN) | (with_reducible apply below_drew1) | (with_reducible apply below_alloc) | exact Below.refl _ _))) (Kd.C_below GG1.out (by repeat (first | exact HB.out | (with_reducible apply pw_below_drewN) | (with_reducible apply below_drew1) | (with_reducible apply below_alloc) | exact Below.refl _ _)))).mono ?_;rintro e w' ⟨rfl,hd⟩;have hb:=hd;have n1:=Aside0.mk (below_step (by repeat (first | exact HB.out | (with_reducible apply pw_below_drewN) | (with_reducible apply below_drew1) | (with_reducible apply below_alloc) | exact Below.refl _ _)) hb);have n2:=Aside0.mk (blk_below (by first | exact HX.out) hb);have n3:=Aside0.mk (blk_below (by first | exact HY.out) hb);clear HC0 HB HX HY hb hd ; have HB:=n1;have HX:=n2;have HY:=n3;clear n1 n2 n3;obtain ⟨cx0,cx1,cx2,cx3,cx4,cx5,cx6,cx7,cx8,cx9,cx10⟩:=cells11_ HX;obtain ⟨cy0,cy1,cy2,cy3,cy4,cy5,cy6,cy7,cy8,cy9,cy10⟩:=cells11_ HY)
          | (go_at_call 46;refine (HC1.out _ (Kd.C_below HH2.out (by repeat (first | exact HB.out | (with_reducible apply pw_below_drewN) | (with_reducible apply below_drew1) | (with_reducible apply below_alloc) | exact Below.refl _ _))) (Kd.C_below GG2.out (by repeat (first | exact HB.out | (with_reducible apply pw_below_drewN) | (with_reducible apply below_drew1) | (with_reducible apply below_alloc) | exact Below.refl _ _)))).mono ?_;rintro e w' ⟨rfl,hd⟩;have hb:=hd;have n1:=Aside0.mk (below_step (by repeat (first | exact HB.out | (with_reducible apply pw_below_drewN) | (with_reducible apply below_drew1) | (with_reducible apply below_alloc) | exact Below.refl _ _)) hb);have n2:=Aside0.mk (blk_below (by first | exact HX.out) hb);have n3:=Aside0.mk (blk_below (by first | exact HY.out) hb);clear HC1 HB HX HY hb hd cx0 cx1 cx2 cx3 cx4 cx5 cx6 cx7 cx8 cx9 cx10 cy0 cy1 cy2 cy3 cy4 cy5 cy6 cy7 cy8 cy9 cy10;have HB:=n1;have HX:=n2;have HY:=n3;clear n1 n2 n3;obtain ⟨cx0,cx1,cx2,cx3,cx4,cx5,cx6,cx7,cx8,cx9,cx10⟩:=cells11_ HX;obtain ⟨cy0,cy1,cy2,cy3,cy4,cy5,cy6,cy7,cy8,cy9,cy10⟩:=cells11_ HY))
        go_meet
        exact ⟨by first | rfl | (simp;done) | (simp [*];done),HX,HY,⟨(by repeat (first | exact HB.out | (with_reducible apply pw_below_drewN) | (with_reducible apply below_drew1) | (with_reducible apply below_alloc) | exact Below.refl _ _))⟩⟩
      | true =>
        rw [if_pos rfl] at h
        have hv:=h
        clear h
        obtain ⟨hc0,hc1,hc2,hc3,hc4,hc5,hc8,hc9,hc10,gc0,gc1,gc2,gc3,gc4,gc5,gc8,gc9,gc10⟩:=CC.out
        have HC2:=Aside0.mk (fun W hx hy=>calls_dr (slices_Equal_int_int.calls k A5 c5 x.f5 B5 d5 y.f5 q0 W hx hc5 hy gc5 hv))
        clear hv hc0 hc1 hc2 hc3 hc4 hc5 hc8 hc9 hc10 gc0 gc1 gc2 gc3 gc4 gc5 gc8 gc9 gc10
        go_wp2_with (first
          | (go_at_call 46;refine (HC0.out _ (Kd.C_below HH1.out (by repeat (first | exact HB.out | (with_reducible apply pw_below_drewN) | (with_reducible apply below_drew1) | (with_reducible apply below_alloc) | exact Below.refl _ _))) (Kd.C_below GG1.out (by repeat (first | exact HB.out | (with_reducible apply pw_below_drewN) | (with_reducible apply below_drew1) | (with_reducible apply below_alloc) | exact Below.refl _ _)))).mono ?_;rintro e w' ⟨rfl,hd⟩;have hb:=hd;have n1:=Aside0.mk (below_step (by repeat (first | exact HB.out | (with_reducible apply pw_below_drewN) | (with_reducible apply below_drew1) | (with_reducible apply below_alloc) | exact Below.refl _ _)) hb);have n2:=Aside0.mk (blk_below (by first | exact HX.out) hb);have n3:=Aside0.mk (blk_below (by first | exact HY.out) hb);clear HC0 HB HX HY hb hd ; have HB:=n1;have HX:=n2;have HY:=n3;clear n1 n2 n3;obtain ⟨cx0,cx1,cx2,cx3,cx4,cx5,cx6,cx7,cx8,cx9,cx10⟩:=cells11_ HX;obtain ⟨cy0,cy1,cy2,cy3,cy4,cy5,cy6,cy7,cy8,cy9,cy10⟩:=cells11_ HY)
          | (go_at_call 46;refine (HC1.out _ (Kd.C_below HH2.out (by repeat (first | exact HB.out | (with_reducible apply pw_below_drewN) | (with_reducible apply below_drew1) | (with_reducible apply below_alloc) | exact Below.refl _ _))) (Kd.C_below GG2.out (by repeat (first | exact HB.out | (with_reducible apply pw_below_drewN) | (with_reducible apply below_drew1) | (with_reducible apply below_alloc) | exact Below.refl _ _)))).mono ?_;rintro e w' ⟨rfl,hd⟩;have hb:=hd;have n1:=Aside0.mk (below_step (by repeat (first | exact HB.out | (with_reducible apply pw_below_drewN) | (with_reducible apply below_drew1) | (with_reducible apply below_alloc) | exact Below.refl _ _)) hb);have n2:=Aside0.mk (blk_below (by first | exact HX.out) hb);have n3:=Aside0.mk (blk_below (by first | exact HY.out) hb);clear HC1 HB HX HY hb hd cx0 cx1 cx2 cx3 cx4 cx5 cx6 cx7 cx8 cx9 cx10 cy0 cy1 cy2 cy3 cy4 cy5 cy6 cy7 cy8 cy9 cy10;have HB:=n1;have HX:=n2;have HY:=n3;clear n1 n2 n3;obtain ⟨cx0,cx1,cx2,cx3,cx4,cx5,cx6,cx7,cx8,cx9,cx10⟩:=cells11_ HX;obtain ⟨cy0,cy1,cy2,cy3,cy4,cy5,cy6,cy7,cy8,cy9,cy10⟩:=cells11_ HY)
          | (go_at_call 46;refine (HC2.out _ (Kd.C_below HH5.out (by repeat (first | exact HB.out | (with_reducible apply pw_below_drewN) | (with_reducible apply below_drew1) | (with_reducible apply below_alloc) | exact Below.refl _ _))) (Kd.C_below GG5.out (by repeat (first | exact HB.out | (with_reducible apply pw_below_drewN) | (with_reducible apply below_drew1) | (with_reducible apply below_alloc) | exact Below.refl _ _)))).mono ?_;rintro e w' ⟨rfl,hd⟩;have hb:=hd;have n1:=Aside0.mk (below_step (by repeat (first | exact HB.out | (with_reducible apply pw_below_drewN) | (with_reducible apply below_drew1) | (with_reducible apply below_alloc) | exact Below.refl _ _)) hb);have n2:=Aside0.mk (blk_below (by first | exact HX.out) hb);have n3:=Aside0.mk (blk_below (by first | exact HY.out) hb);clear HC2 HB HX HY hb hd cx0 cx1 cx2 cx3 cx4 cx5 cx6 cx7 cx8 cx9 cx10 cy0 cy1 cy2 cy3 cy4 cy5 cy6 cy7 cy8 cy9 cy10;have HB:=n1;have HX:=n2;have HY:=n3;clear n1 n2 n3;obtain ⟨cx0,cx1,cx2,cx3,cx4,cx5,cx6,cx7,cx8,cx9,cx10⟩:=cells11_ HX;obtain ⟨cy0,cy1,cy2,cy3,cy4,cy5,cy6,cy7,cy8,cy9,cy10⟩:=cells11_ HY))
        go_meet
        exact ⟨by first | rfl | (simp;done) | (simp [*];done),HX,HY,⟨(by repeat (first | exact HB.out | (with_reducible apply pw_below_drewN) | (with_reducible apply below_drew1) | (with_reducible apply below_alloc) | exact Below.refl _ _))⟩⟩
  case rest =>
  clear Hq0 HX HY HB
  obtain ⟨rfl,HX,HY,HB⟩:=hcut
  obtain ⟨cx0,cx1,cx2,cx3,cx4,cx5,cx6,cx7,cx8,cx9,cx10⟩:=cells11_ HX
  obtain ⟨cy0,cy1,cy2,cy3,cy4,cy5,cy6,cy7,cy8,cy9,cy10⟩:=cells11_ HY
  go_upto_region 3 with fail
  go_cut [7] (fun s wx=>s = .bool q1 ∧ Aside0 (wx.heap[w.heap.size]? = some (.cells #[.slice A0 x.f0.length c0,.slice A1 x.f1.length c1,.slice A2 x.f2.length c2,.slice A3 x.f3.length c3,.slice A4 x.f4.length c4,.slice A5 x.f5.length c5,.int .i64 x.f6,.int .i64 x.f7,.slice A8 x.f8.length c8,.slice A9 x.f9.length c9,.slice A10 x.f10.length c10] 33 (0,0))) ∧ Aside0 (wx.heap[w.heap.size + 1]? = some (.cells #[.slice B0 y.f0.length d0,.slice B1 y.f1.length d1,.slice B2 y.f2.length d2,.slice B3 y.f3.length d3,.slice B4 y.f4.length d4,.slice B5 y.f5.length d5,.int .i64 y.f6,.int .i64 y.f7,.slice B8 y.f8.length d8,.slice B9 y.f9.length d9,.slice B10 y.f10.length d10] 33 (0,0))) ∧ Aside0 (Below w.heap.size w wx))
  case first =>
    clear H Hq2
    have h:=Hq1.out
    clear Hq1
    obtain ⟨b0,hv,h⟩:=Option.bind_eq_some_iff.1 h
    obtain ⟨hc0,hc1,hc2,hc3,hc4,hc5,hc8,hc9,hc10,gc0,gc1,gc2,gc3,gc4,gc5,gc8,gc9,gc10⟩:=CC.out
    have HC0:=Aside0.mk (fun W hx hy=>calls_dr (impl_Say.calls k A8 c8 x.f8 B8 d8 y.f8 b0 W hx hc8 hy gc8 hv))
    clear hv hc0 hc1 hc2 hc3 hc4 hc5 hc8 hc9 hc10 gc0 gc1 gc2 gc3 gc4 gc5 gc8 gc9 gc10
    cases b0 with
    | false =>
      obtain rfl:=Option.some.inj (show some false = some q1 by simpa using h)
      clear h
      go_wp2_with (first
        | (go_at_call 47;refine (HC0.out _ (Kd.C_below HH8.out (by repeat (first | exact HB.out | (with_reducible apply pw_below_drewN) | (with_reducible apply below_drew1) | (with_reducible apply below_alloc) | exact Below.refl _ _))) (Kd.C_below GG8.out (by repeat (first | exact HB.out | (with_reducible apply pw_below_drewN) | (with_reducible apply below_drew1) | (with_reducible apply below_alloc) | exact Below.refl _ _)))).mono ?_;rintro e w' ⟨rfl,hd⟩;have hb:=hd;have n1:=Aside0.mk (below_step (by repeat (first | exact HB.out | (with_reducible apply pw_below_drewN) | (with_reducible apply below_drew1) | (with_reducible apply below_alloc) | exact Below.refl _ _)) hb);have n2:=Aside0.mk (blk_below (by first | exact HX.out) hb);have n3:=Aside0.mk (blk_below (by first | exact HY.out) hb);clear HC0 HB HX HY hb hd cx0 cx1 cx2 cx3 cx4 cx5 cx6 cx7 cx8 cx9 cx10 cy0 cy1 cy2 cy3 cy4 cy5 cy6 cy7 cy8 cy9 cy10;have HB:=n1;have HX:=n2;have HY:=n3;clear n1 n2 n3;obtain ⟨cx0,cx1,cx2,cx3,cx4,cx5,cx6,cx7,cx8,cx9,cx10⟩:=cells11_ HX;obtain ⟨cy0,cy1,cy2,cy3,cy4,cy5,cy6,cy7,cy8,cy9,cy10⟩:=cells11_ HY))
      go_meet
      exact ⟨by first | rfl | (simp;done) | (simp [*];done),HX,HY,⟨(by repeat (first | exact HB.out | (with_reducible apply pw_below_drewN) | (with_reducible apply below_drew1) | (with_reducible apply below_alloc) | exact Below.refl _ _))⟩⟩
    | true =>
      rw [if_pos rfl] at h
      obtain ⟨b1,hv,h⟩:=Option.bind_eq_some_iff.1 h
      obtain ⟨hc0,hc1,hc2,hc3,hc4,hc5,hc8,hc9,hc10,gc0,gc1,gc2,gc3,gc4,gc5,gc8,gc9,gc10⟩:=CC.out
      have HC1:=Aside0.mk (fun W hx hy=>calls_dr (slices_Equal_int_int.calls k A9 c9 x.f9 B9 d9 y.f9 b1 W hx hc9 hy gc9 hv))
      clear hv hc0 hc1 hc2 hc3 hc4 hc5 hc8 hc9 hc10 gc0 gc1 gc2 gc3 gc4 gc5 gc8 gc9 gc10
      cases b1 with
      | false =>
        obtain rfl:=Option.some.inj (show some false = some q1 by simpa using h)
        clear h
        go_wp2_with (first
          | (go_at_call 47;refine (HC0.out _ (Kd.C_below HH8.out (by repeat (first | exact HB.out | (with_reducible apply pw_below_drewN) | (with_reducible apply below_drew1) | (with_reducible apply below_alloc) | exact Below.refl _ _))) (Kd.C_below GG8.out (by repeat (first | exact HB.out | (with_reducible apply pw_below_drewN) | (with_reducible apply below_drew1) | (with_reducible apply below_alloc) | exact Below.refl _ _)))).mono ?_;rintro e w' ⟨rfl,hd⟩;have hb:=hd;have n1:=Aside0.mk (below_step (by repeat (first | exact HB.out | (with_reducible apply pw_below_drewN) | (with_reducible apply below_drew1) | (with_reducible apply below_alloc) | exact Below.refl _ _)) hb);have n2:=Aside0.mk (blk_below (by first | exact HX.out) hb);have n3:=Aside0.mk (blk_below (by first | exact HY.out) hb);clear HC0 HB HX HY hb hd cx0 cx1 cx2 cx3 cx4 cx5 cx6 cx7 cx8 cx9 cx10 cy0 cy1 cy2 cy3 cy4 cy5 cy6 cy7 cy8 cy9 cy10;have HB:=n1;have HX:=n2;have HY:=n3;clear n1 n2 n3;obtain ⟨cx0,cx1,cx2,cx3,cx4,cx5,cx6,cx7,cx8,cx9,cx10⟩:=cells11_ HX;obtain ⟨cy0,cy1,cy2,cy3,cy4,cy5,cy6,cy7,cy8,cy9,cy10⟩:=cells11_ HY)
          | (go_at_call 46;refine (HC1.out _ (Kd.C_below HH9.out (by repeat (first | exact HB.out | (with_reducible apply pw_below_drewN) | (with_reducible apply below_drew1) | (with_reducible apply below_alloc) | exact Below.refl _ _))) (Kd.C_below GG9.out (by repeat (first | exact HB.out | (with_reducible apply pw_below_drewN) | (with_reducible apply below_drew1) | (with_reducible apply below_alloc) | exact Below.refl _ _)))).mono ?_;rintro e w' ⟨rfl,hd⟩;have hb:=hd;have n1:=Aside0.mk (below_step (by repeat (first | exact HB.out | (with_reducible apply pw_below_drewN) | (with_reducible apply below_drew1) | (with_reducible apply below_alloc) | exact Below.refl _ _)) hb);have n2:=Aside0.mk (blk_below (by first | exact HX.out) hb);have n3:=Aside0.mk (blk_below (by first | exact HY.out) hb);clear HC1 HB HX HY hb hd cx0 cx1 cx2 cx3 cx4 cx5 cx6 cx7 cx8 cx9 cx10 cy0 cy1 cy2 cy3 cy4 cy5 cy6 cy7 cy8 cy9 cy10;have HB:=n1;have HX:=n2;have HY:=n3;clear n1 n2 n3;obtain ⟨cx0,cx1,cx2,cx3,cx4,cx5,cx6,cx7,cx8,cx9,cx10⟩:=cells11_ HX;obtain ⟨cy0,cy1,cy2,cy3,cy4,cy5,cy6,cy7,cy8,cy9,cy10⟩:=cells11_ HY))
        go_meet
        exact ⟨by first | rfl | (simp;done) | (simp [*];done),HX,HY,⟨(by repeat (first | exact HB.out | (with_reducible apply pw_below_drewN) | (with_reducible apply below_drew1) | (with_reducible apply below_alloc) | exact Below.refl _ _))⟩⟩
      | true =>
        rw [if_pos rfl] at h
        have hv:=h
        clear h
        obtain ⟨hc0,hc1,hc2,hc3,hc4,hc5,hc8,hc9,hc10,gc0,gc1,gc2,gc3,gc4,gc5,gc8,gc9,gc10⟩:=CC.out
        have HC2:=Aside0.mk (fun W hx hy=>calls_dr (slices_Equal_int_int.calls k A10 c10 x.f10 B10 d10 y.f10 q1 W hx hc10 hy gc10 hv))
        clear hv hc0 hc1 hc2 hc3 hc4 hc5 hc8 hc9 hc10 gc0 gc1 gc2 gc3 gc4 gc5 gc8 gc9 gc10
        go_wp2_with (first
          | (go_at_call 47;refine (HC0.out _ (Kd.C_below HH8.out (by repeat (first | exact HB.out | (with_reducible apply pw_below_drewN) | (with_reducible apply below_drew1) | (with_reducible apply below_alloc) | exact Below.refl _ _))) (Kd.C_below GG8.out (by repeat (first | exact HB.out | (with_reducible apply pw_below_drewN) | (with_reducible apply below_drew1) | (with_reducible apply below_alloc) | exact Below.refl _ _)))).mono ?_;rintro e w' ⟨rfl,hd⟩;have hb:=hd;have n1:=Aside0.mk (below_step (by repeat (first | exact HB.out | (with_reducible apply pw_below_drewN) | (with_reducible apply below_drew1) | (with_reducible apply below_alloc) | exact Below.refl _ _)) hb);have n2:=Aside0.mk (blk_below (by first | exact HX.out) hb);have n3:=Aside0.mk (blk_below (by first | exact HY.out) hb);clear HC0 HB HX HY hb hd cx0 cx1 cx2 cx3 cx4 cx5 cx6 cx7 cx8 cx9 cx10 cy0 cy1 cy2 cy3 cy4 cy5 cy6 cy7 cy8 cy9 cy10;have HB:=n1;have HX:=n2;have HY:=n3;clear n1 n2 n3;obtain ⟨cx0,cx1,cx2,cx3,cx4,cx5,cx6,cx7,cx8,cx9,cx10⟩:=cells11_ HX;obtain ⟨cy0,cy1,cy2,cy3,cy4,cy5,cy6,cy7,cy8,cy9,cy10⟩:=cells11_ HY)
          | (go_at_call 46;refine (HC1.out _ (Kd.C_below HH9.out (by repeat (first | exact HB.out | (with_reducible apply pw_below_drewN) | (with_reducible apply below_drew1) | (with_reducible apply below_alloc) | exact Below.refl _ _))) (Kd.C_below GG9.out (by repeat (first | exact HB.out | (with_reducible apply pw_below_drewN) | (with_reducible apply below_drew1) | (with_reducible apply below_alloc) | exact Below.refl _ _)))).mono ?_;rintro e w' ⟨rfl,hd⟩;have hb:=hd;have n1:=Aside0.mk (below_step (by repeat (first | exact HB.out | (with_reducible apply pw_below_drewN) | (with_reducible apply below_drew1) | (with_reducible apply below_alloc) | exact Below.refl _ _)) hb);have n2:=Aside0.mk (blk_below (by first | exact HX.out) hb);have n3:=Aside0.mk (blk_below (by first | exact HY.out) hb);clear HC1 HB HX HY hb hd cx0 cx1 cx2 cx3 cx4 cx5 cx6 cx7 cx8 cx9 cx10 cy0 cy1 cy2 cy3 cy4 cy5 cy6 cy7 cy8 cy9 cy10;have HB:=n1;have HX:=n2;have HY:=n3;clear n1 n2 n3;obtain ⟨cx0,cx1,cx2,cx3,cx4,cx5,cx6,cx7,cx8,cx9,cx10⟩:=cells11_ HX;obtain ⟨cy0,cy1,cy2,cy3,cy4,cy5,cy6,cy7,cy8,cy9,cy10⟩:=cells11_ HY)
          | (go_at_call 46;refine (HC2.out _ (Kd.C_below HH10.out (by repeat (first | exact HB.out | (with_reducible apply pw_below_drewN) | (with_reducible apply below_drew1) | (with_reducible apply below_alloc) | exact Below.refl _ _))) (Kd.C_below GG10.out (by repeat (first | exact HB.out | (with_reducible apply pw_below_drewN) | (with_reducible apply below_drew1) | (with_reducible apply below_alloc) | exact Below.refl _ _)))).mono ?_;rintro e w' ⟨rfl,hd⟩;have hb:=hd;have n1:=Aside0.mk (below_step (by repeat (first | exact HB.out | (with_reducible apply pw_below_drewN) | (with_reducible apply below_drew1) | (with_reducible apply below_alloc) | exact Below.refl _ _)) hb);have n2:=Aside0.mk (blk_below (by first | exact HX.out) hb);have n3:=Aside0.mk (blk_below (by first | exact HY.out) hb);clear HC2 HB HX HY hb hd cx0 cx1 cx2 cx3 cx4 cx5 cx6 cx7 cx8 cx9 cx10 cy0 cy1 cy2 cy3 cy4 cy5 cy6 cy7 cy8 cy9 cy10;have HB:=n1;have HX:=n2;have HY:=n3;clear n1 n2 n3;obtain ⟨cx0,cx1,cx2,cx3,cx4,cx5,cx6,cx7,cx8,cx9,cx10⟩:=cells11_ HX;obtain ⟨cy0,cy1,cy2,cy3,cy4,cy5,cy6,cy7,cy8,cy9,cy10⟩:=cells11_ HY))
        go_meet
        exact ⟨by first | rfl | (simp;done) | (simp [*];done),HX,HY,⟨(by repeat (first | exact HB.out | (with_reducible apply pw_below_drewN) | (with_reducible apply below_drew1) | (with_reducible apply below_alloc) | exact Below.refl _ _))⟩⟩
  case rest =>
  clear Hq1 HX HY HB cx0 cx1 cx2 cx3 cx4 cx5 cx6 cx7 cx8 cx9 cx10 cy0 cy1 cy2 cy3 cy4 cy5 cy6 cy7 cy8 cy9 cy10
  obtain ⟨rfl,HX,HY,HB⟩:=hcut
  obtain ⟨cx0,cx1,cx2,cx3,cx4,cx5,cx6,cx7,cx8,cx9,cx10⟩:=cells11_ HX
  obtain ⟨cy0,cy1,cy2,cy3,cy4,cy5,cy6,cy7,cy8,cy9,cy10⟩:=cells11_ HY
  go_upto_region 4 with fail
  go_cut [8] (fun s wx=>s = .bool q2 ∧ Aside0 (wx.heap[w.heap.size]? = some (.cells #[.slice A0 x.f0.length c0,.slice A1 x.f1.length c1,.slice A2 x.f2.length c2,.slice A3 x.f3.length c3,.slice A4 x.f4.length c4,.slice A5 x.f5.length c5,.int .i64 x.f6,.int .i64 x.f7,.slice A8 x.f8.length c8,.slice A9 x.f9.length c9,.slice A10 x.f10.length c10] 33 (0,0))) ∧ Aside0 (wx.heap[w.heap.size + 1]? = some (.cells #[.slice B0 y.f0.length d0,.slice B1 y.f1.length d1,.slice B2 y.f2.length d2,.slice B3 y.f3.length d3,.slice B4 y.f4.length d4,.slice B5 y.f5.length d5,.int .i64 y.f6,.int .i64 y.f7,.slice B8 y.f8.length d8,.slice B9 y.f9.length d9,.slice B10 y.f10.length d10] 33 (0,0))) ∧ Aside0 (Below w.heap.size w wx))
  case first =>
    clear H 
    have h:=Hq2.out
    clear Hq2
    obtain ⟨b0,hv,h⟩:=Option.bind_eq_some_iff.1 h
    obtain ⟨hc0,hc1,hc2,hc3,hc4,hc5,hc8,hc9,hc10,gc0,gc1,gc2,gc3,gc4,gc5,gc8,gc9,gc10⟩:=CC.out
    have HC0:=Aside0.mk (fun W hx hy=>(impl_sameQueues.calls k A3 c3 x.f3 B3 d3 y.f3 b0 W hx hc3 hy gc3 hv))
    clear hv hc0 hc1 hc2 hc3 hc4 hc5 hc8 hc9 hc10 gc0 gc1 gc2 gc3 gc4 gc5 gc8 gc9 gc10
    cases b0 with
    | false =>
      obtain rfl:=Option.some.inj (show some false = some q2 by simpa using h)
      clear h
      go_wp2_with (first
        | (go_at_call 48;refine (HC0.out _ (Kd.C_below HH3.out (by repeat (first | exact HB.out | (with_reducible apply pw_below_drewN) | (with_reducible apply below_drew1) | (with_reducible apply below_alloc) | exact Below.refl _ _))) (Kd.C_below GG3.out (by repeat (first | exact HB.out | (with_reducible apply pw_below_drewN) | (with_reducible apply below_drew1) | (with_reducible apply below_alloc) | exact Below.refl _ _)))).mono ?_;rintro e w' ⟨rfl,hd⟩;have hb:=hd;have n1:=Aside0.mk (below_step (by repeat (first | exact HB.out | (with_reducible apply pw_below_drewN) | (with_reducible apply below_drew1) | (with_reducible apply below_alloc) | exact Below.refl _ _)) hb);have n2:=Aside0.mk (blk_below (by first | exact HX.out) hb);have n3:=Aside0.mk (blk_below (by first | exact HY.out) hb);clear HC0 HB HX HY hb hd cx0 cx1 cx2 cx3 cx4 cx5 cx6 cx7 cx8 cx9 cx10 cy0 cy1 cy2 cy3 cy4 cy5 cy6 cy7 cy8 cy9 cy10;have HB:=n1;have HX:=n2;have HY:=n3;clear n1 n2 n3;obtain ⟨cx0,cx1,cx2,cx3,cx4,cx5,cx6,cx7,cx8,cx9,cx10⟩:=cells11_ HX;obtain ⟨cy0,cy1,cy2,cy3,cy4,cy5,cy6,cy7,cy8,cy9,cy10⟩:=cells11_ HY))
      go_meet
      exact ⟨by first | rfl | (simp;done) | (simp [*];done),HX,HY,⟨(by repeat (first | exact HB.out | (with_reducible apply pw_below_drewN) | (with_reducible apply below_drew1) | (with_reducible apply below_alloc) | exact Below.refl _ _))⟩⟩
    | true =>
      rw [if_pos rfl] at h
      have hv:=h
      clear h
      obtain ⟨hc0,hc1,hc2,hc3,hc4,hc5,hc8,hc9,hc10,gc0,gc1,gc2,gc3,gc4,gc5,gc8,gc9,gc10⟩:=CC.out
      have HC1:=Aside0.mk (fun W hx hy=>(impl_sameQueues.calls k A4 c4 x.f4 B4 d4 y.f4 q2 W hx hc4 hy gc4 hv))
      clear hv hc0 hc1 hc2 hc3 hc4 hc5 hc8 hc9 hc10 gc0 gc1 gc2 gc3 gc4 gc5 gc8 gc9 gc10
      go_wp2_with (first
        | (go_at_call 48;refine (HC0.out _ (Kd.C_below HH3.out (by repeat (first | exact HB.out | (with_reducible apply pw_below_drewN) | (with_reducible apply below_drew1) | (with_reducible apply below_alloc) | exact Below.refl _ _))) (Kd.C_below GG3.out (by repeat (first | exact HB.out | (with_reducible apply pw_below_drewN) | (with_reducible apply below_drew1) | (with_reducible apply below_alloc) | exact Below.refl _ _)))).mono ?_;rintro e w' ⟨rfl,hd⟩;have hb:=hd;have n1:=Aside0.mk (below_step (by repeat (first | exact HB.out | (with_reducible apply pw_below_drewN) | (with_reducible apply below_drew1) | (with_reducible apply below_alloc) | exact Below.refl _ _)) hb);have n2:=Aside0.mk (blk_below (by first | exact HX.out) hb);have n3:=Aside0.mk (blk_below (by first | exact HY.out) hb);clear HC0 HB HX HY hb hd cx0 cx1 cx2 cx3 cx4 cx5 cx6 cx7 cx8 cx9 cx10 cy0 cy1 cy2 cy3 cy4 cy5 cy6 cy7 cy8 cy9 cy10;have HB:=n1;have HX:=n2;have HY:=n3;clear n1 n2 n3;obtain ⟨cx0,cx1,cx2,cx3,cx4,cx5,cx6,cx7,cx8,cx9,cx10⟩:=cells11_ HX;obtain ⟨cy0,cy1,cy2,cy3,cy4,cy5,cy6,cy7,cy8,cy9,cy10⟩:=cells11_ HY)
        | (go_at_call 48;refine (HC1.out _ (Kd.C_below HH4.out (by repeat (first | exact HB.out | (with_reducible apply pw_below_drewN) | (with_reducible apply below_drew1) | (with_reducible apply below_alloc) | exact Below.refl _ _))) (Kd.C_below GG4.out (by repeat (first | exact HB.out | (with_reducible apply pw_below_drewN) | (with_reducible apply below_drew1) | (with_reducible apply below_alloc) | exact Below.refl _ _)))).mono ?_;rintro e w' ⟨rfl,hd⟩;have hb:=hd;have n1:=Aside0.mk (below_step (by repeat (first | exact HB.out | (with_reducible apply pw_below_drewN) | (with_reducible apply below_drew1) | (with_reducible apply below_alloc) | exact Below.refl _ _)) hb);have n2:=Aside0.mk (blk_below (by first | exact HX.out) hb);have n3:=Aside0.mk (blk_below (by first | exact HY.out) hb);clear HC1 HB HX HY hb hd cx0 cx1 cx2 cx3 cx4 cx5 cx6 cx7 cx8 cx9 cx10 cy0 cy1 cy2 cy3 cy4 cy5 cy6 cy7 cy8 cy9 cy10;have HB:=n1;have HX:=n2;have HY:=n3;clear n1 n2 n3;obtain ⟨cx0,cx1,cx2,cx3,cx4,cx5,cx6,cx7,cx8,cx9,cx10⟩:=cells11_ HX;obtain ⟨cy0,cy1,cy2,cy3,cy4,cy5,cy6,cy7,cy8,cy9,cy10⟩:=cells11_ HY))
      go_meet
      exact ⟨by first | rfl | (simp;done) | (simp [*];done),HX,HY,⟨(by repeat (first | exact HB.out | (with_reducible apply pw_below_drewN) | (with_reducible apply below_drew1) | (with_reducible apply below_alloc) | exact Below.refl _ _))⟩⟩
  case rest =>
  clear Hq2 HX HY HB cx0 cx1 cx2 cx3 cx4 cx5 cx6 cx7 cx8 cx9 cx10 cy0 cy1 cy2 cy3 cy4 cy5 cy6 cy7 cy8 cy9 cy10
  obtain ⟨rfl,HX,HY,HB⟩:=hcut
  obtain ⟨cx0,cx1,cx2,cx3,cx4,cx5,cx6,cx7,cx8,cx9,cx10⟩:=cells11_ HX
  obtain ⟨cy0,cy1,cy2,cy3,cy4,cy5,cy6,cy7,cy8,cy9,cy10⟩:=cells11_ HY
  have h:=H.out
  clear H
  cases q0 with
  | false =>
    obtain rfl:=Option.some.inj (show some false = some r by simpa using h)
    clear h
    go_wp2
    go_ret
    exact ⟨by first | rfl | (simp;done) | (simp [*];done),(by repeat (first | exact HB.out | (with_reducible apply pw_below_drewN) | (with_reducible apply below_drew1) | (with_reducible apply below_alloc) | exact Below.refl _ _))⟩
  | true =>
    rw [if_pos rfl] at h
    cases q1 with
    | false =>
      obtain rfl:=Option.some.inj (show some false = some r by simpa using h)
      clear h
      go_wp2
      go_ret
      exact ⟨by first | rfl | (simp;done) | (simp [*];done),(by repeat (first | exact HB.out | (with_reducible apply pw_below_drewN) | (with_reducible apply below_drew1) | (with_reducible apply below_alloc) | exact Below.refl _ _))⟩
    | true =>
      rw [if_pos rfl] at h
      cases q2 with
      | false =>
        obtain rfl:=Option.some.inj (show some false = some r by simpa using h)
        clear h
        go_wp2
        go_ret
        exact ⟨by first | rfl | (simp;done) | (simp [*];done),(by repeat (first | exact HB.out | (with_reducible apply pw_below_drewN) | (with_reducible apply below_drew1) | (with_reducible apply below_alloc) | exact Below.refl _ _))⟩
      | true =>
        rw [if_pos rfl] at h
        by_cases e3 : x.f6 = y.f6
        · rw [if_pos e3] at h
          have k3 : (x.f6 == y.f6) = true:=by simpa using e3
          clear e3
          by_cases e4 : x.f7 = y.f7
          · rw [if_pos e4] at h
            have k4 : (x.f7 == y.f7) = true:=by simpa using e4
            clear e4
            have hv:=h
            clear h
            obtain ⟨hc0,hc1,hc2,hc3,hc4,hc5,hc8,hc9,hc10,gc0,gc1,gc2,gc3,gc4,gc5,gc8,gc9,gc10⟩:=CC.out
            have HC5:=Aside0.mk (fun W hx hy=>(ctxEq_calls (ctxV k) (ctxs_say k) A0 B0 c0 d0 x.f0 y.f0 r W hx hy hv))
            clear hv hc0 hc1 hc2 hc3 hc4 hc5 hc8 hc9 hc10 gc0 gc1 gc2 gc3 gc4 gc5 gc8 gc9 gc10
            go_wp2_with (first
              | (go_at_call 49;refine (HC5.out _ (Kd.C_below HH0.out (by repeat (first | exact HB.out | (with_reducible apply pw_below_drewN) | (with_reducible apply below_drew1) | (with_reducible apply below_alloc) | exact Below.refl _ _))) (Kd.C_below GG0.out (by repeat (first | exact HB.out | (with_reducible apply pw_below_drewN) | (with_reducible apply below_drew1) | (with_reducible apply below_alloc) | exact Below.refl _ _)))).mono ?_;rintro e w' ⟨rfl,hd⟩;have hb:=hd;have n1:=Aside0.mk (below_step (by repeat (first | exact HB.out | (with_reducible apply pw_below_drewN) | (with_reducible apply below_drew1) | (with_reducible apply below_alloc) | exact Below.refl _ _)) hb);have n2:=Aside0.mk (blk_below (by first | exact HX.out) hb);have n3:=Aside0.mk (blk_below (by first | exact HY.out) hb);clear HC5 HB HX HY hb hd cx0 cx1 cx2 cx3 cx4 cx5 cx6 cx7 cx8 cx9 cx10 cy0 cy1 cy2 cy3 cy4 cy5 cy6 cy7 cy8 cy9 cy10;have HB:=n1;have HX:=n2;have HY:=n3;clear n1 n2 n3;obtain ⟨cx0,cx1,cx2,cx3,cx4,cx5,cx6,cx7,cx8,cx9,cx10⟩:=cells11_ HX;obtain ⟨cy0,cy1,cy2,cy3,cy4,cy5,cy6,cy7,cy8,cy9,cy10⟩:=cells11_ HY))
            go_ret
            exact ⟨by first | rfl | (simp;done) | (simp [*];done),(by repeat (first | exact HB.out | (with_reducible apply pw_below_drewN) | (with_reducible apply below_drew1) | (with_reducible apply below_alloc) | exact Below.refl _ _))⟩
          · rw [if_neg e4] at h
            have k4 : (x.f7 == y.f7) = false:=by simpa using e4
            clear e4
            obtain rfl:=Option.some.inj h
            clear h
            go_wp2
            go_ret
            exact ⟨by first | rfl | (simp;done) | (simp [*];done),(by repeat (first | exact HB.out | (with_reducible apply pw_below_drewN) | (with_reducible apply below_drew1) | (with_reducible apply below_alloc) | exact Below.refl _ _))⟩
        · rw [if_neg e3] at h
          have k3 : (x.f6 == y.f6) = false:=by simpa using e3
          clear e3
          obtain rfl:=Option.some.inj h
          clear h
          go_wp2
          go_ret
          exact ⟨by first | rfl | (simp;done) | (simp [*];done),(by repeat (first | exact HB.out | (with_reducible apply pw_below_drewN) | (with_reducible apply below_drew1) | (with_reducible apply below_alloc) | exact Below.refl _ _))⟩
def impl_CpuSame.f (k : Nat) (l0_0 : List S67) (l0_1 : List Int) (l0_2 : List Int) (l0_3 : List (List Int)) (l0_4 : List (List Int)) (l0_5 : List Int) (a0_6 : Int) (a0_7 : Int) (l0_8 : List S74) (l0_9 : List Int) (l0_10 : List Int) (l1_0 : List S67) (l1_1 : List Int) (l1_2 : List Int) (l1_3 : List (List Int)) (l1_4 : List (List Int)) (l1_5 : List Int) (a1_6 : Int) (a1_7 : Int) (l1_8 : List S74) (l1_9 : List Int) (l1_10 : List Int) : Option Bool:=cpuV k ⟨l0_0,l0_1,l0_2,l0_3,l0_4,l0_5,a0_6,a0_7,l0_8,l0_9,l0_10⟩ ⟨l1_0,l1_1,l1_2,l1_3,l1_4,l1_5,a1_6,a1_7,l1_8,l1_9,l1_10⟩
theorem impl_CpuSame.calls (k : Nat) (A0_0 : Option Addr) (c0_0 : Nat) (l0_0 : List S67) (A0_1 : Option Addr) (c0_1 : Nat) (l0_1 : List Int) (A0_2 : Option Addr) (c0_2 : Nat) (l0_2 : List Int) (A0_3 : Option Addr) (c0_3 : Nat) (l0_3 : List (List Int)) (A0_4 : Option Addr) (c0_4 : Nat) (l0_4 : List (List Int)) (A0_5 : Option Addr) (c0_5 : Nat) (l0_5 : List Int) (a0_6 : Int) (a0_7 : Int) (A0_8 : Option Addr) (c0_8 : Nat) (l0_8 : List S74) (A0_9 : Option Addr) (c0_9 : Nat) (l0_9 : List Int) (A0_10 : Option Addr) (c0_10 : Nat) (l0_10 : List Int) (A1_0 : Option Addr) (c1_0 : Nat) (l1_0 : List S67) (A1_1 : Option Addr) (c1_1 : Nat) (l1_1 : List Int) (A1_2 : Option Addr) (c1_2 : Nat) (l1_2 : List Int) (A1_3 : Option Addr) (c1_3 : Nat) (l1_3 : List (List Int)) (A1_4 : Option Addr) (c1_4 : Nat) (l1_4 : List (List Int)) (A1_5 : Option Addr) (c1_5 : Nat) (l1_5 : List Int) (a1_6 : Int) (a1_7 : Int) (A1_8 : Option Addr) (c1_8 : Nat) (l1_8 : List S74) (A1_9 : Option Addr) (c1_9 : Nat) (l1_9 : List Int) (A1_10 : Option Addr) (c1_10 : Nat) (l1_10 : List Int) (r : Bool) (w : World) (hr0_0 : Kd.C k67 w A0_0 l0_0.length l0_0) (hc0_0 : l0_0.length ≤ c0_0) (hr0_1 : Kd.C (Kd.int .i64) w A0_1 l0_1.length l0_1) (hc0_1 : l0_1.length ≤ c0_1) (hr0_2 : Kd.C (Kd.int .i64) w A0_2 l0_2.length l0_2) (hc0_2 : l0_2.length ≤ c0_2) (hr0_3 : Kd.C (Kd.slice 3 (Kd.int .i64)) w A0_3 l0_3.length l0_3) (hc0_3 : l0_3.length ≤ c0_3) (hr0_4 : Kd.C (Kd.slice 3 (Kd.int .i64)) w A0_4 l0_4.length l0_4) (hc0_4 : l0_4.length ≤ c0_4) (hr0_5 : Kd.C (Kd.int .i64) w A0_5 l0_5.length l0_5) (hc0_5 : l0_5.length ≤ c0_5) (hr0_8 : Kd.C k74 w A0_8 l0_8.length l0_8) (hc0_8 : l0_8.length ≤ c0_8) (hr0_9 : Kd.C (Kd.int .i64) w A0_9 l0_9.length l0_9) (hc0_9 : l0_9.length ≤ c0_9) (hr0_10 : Kd.C (Kd.int .i64) w A0_10 l0_10.length l0_10) (hc0_10 : l0_10.length ≤ c0_10) (hr1_0 : Kd.C k67 w A1_0 l1_0.length l1_0) (hc1_0 : l1_0.length ≤ c1_0) (hr1_1 : Kd.C (Kd.int .i64) w A1_1 l1_1.length l1_1) (hc1_1 : l1_1.length ≤ c1_1) (hr1_2 : Kd.C (Kd.int .i64) w A1_2 l1_2.length l1_2) (hc1_2 : l1_2.length ≤ c1_2) (hr1_3 : Kd.C (Kd.slice 3 (Kd.int .i64)) w A1_3 l1_3.length l1_3) (hc1_3 : l1_3.length ≤ c1_3) (hr1_4 : Kd.C (Kd.slice 3 (Kd.int .i64)) w A1_4 l1_4.length l1_4) (hc1_4 : l1_4.length ≤ c1_4) (hr1_5 : Kd.C (Kd.int .i64) w A1_5 l1_5.length l1_5) (hc1_5 : l1_5.length ≤ c1_5) (hr1_8 : Kd.C k74 w A1_8 l1_8.length l1_8) (hc1_8 : l1_8.length ≤ c1_8) (hr1_9 : Kd.C (Kd.int .i64) w A1_9 l1_9.length l1_9) (hc1_9 : l1_9.length ≤ c1_9) (hr1_10 : Kd.C (Kd.int .i64) w A1_10 l1_10.length l1_10) (hc1_10 : l1_10.length ≤ c1_10) (h : impl_CpuSame.f k l0_0 l0_1 l0_2 l0_3 l0_4 l0_5 a0_6 a0_7 l0_8 l0_9 l0_10 l1_0 l1_1 l1_2 l1_3 l1_4 l1_5 a1_6 a1_7 l1_8 l1_9 l1_10 = some r) :
    Calls Try.prog 12 #[.agg #[.slice A0_0 l0_0.length c0_0,.slice A0_1 l0_1.length c0_1,.slice A0_2 l0_2.length c0_2,.slice A0_3 l0_3.length c0_3,.slice A0_4 l0_4.length c0_4,.slice A0_5 l0_5.length c0_5,.int .i64 a0_6,.int .i64 a0_7,.slice A0_8 l0_8.length c0_8,.slice A0_9 l0_9.length c0_9,.slice A0_10 l0_10.length c0_10],.agg #[.slice A1_0 l1_0.length c1_0,.slice A1_1 l1_1.length c1_1,.slice A1_2 l1_2.length c1_2,.slice A1_3 l1_3.length c1_3,.slice A1_4 l1_4.length c1_4,.slice A1_5 l1_5.length c1_5,.int .i64 a1_6,.int .i64 a1_7,.slice A1_8 l1_8.length c1_8,.slice A1_9 l1_9.length c1_9,.slice A1_10 l1_10.length c1_10]] w fun e w'=>e = .returned (.bool r) ∧ Below w.heap.size w w' :=
  cpuW k ⟨l0_0,l0_1,l0_2,l0_3,l0_4,l0_5,a0_6,a0_7,l0_8,l0_9,l0_10⟩ ⟨l1_0,l1_1,l1_2,l1_3,l1_4,l1_5,a1_6,a1_7,l1_8,l1_9,l1_10⟩ A0_0 c0_0 A0_1 c0_1 A0_2 c0_2 A0_3 c0_3 A0_4 c0_4 A0_5 c0_5 A0_8 c0_8 A0_9 c0_9 A0_10 c0_10 A1_0 c1_0 A1_1 c1_1 A1_2 c1_2 A1_3 c1_3 A1_4 c1_4 A1_5 c1_5 A1_8 c1_8 A1_9 c1_9 A1_10 c1_10 r w hr0_0 hc0_0 hr0_1 hc0_1 hr0_2 hc0_2 hr0_3 hc0_3 hr0_4 hc0_4 hr0_5 hc0_5 hr0_8 hc0_8 hr0_9 hc0_9 hr0_10 hc0_10 hr1_0 hc1_0 hr1_1 hc1_1 hr1_2 hc1_2 hr1_3 hc1_3 hr1_4 hc1_4 hr1_5 hc1_5 hr1_8 hc1_8 hr1_9 hc1_9 hr1_10 hc1_10 h
end Go.Proofs.Ythbflhimmmfonaa.P
