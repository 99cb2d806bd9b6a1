/- Parts of the proof of FnMeanSame: plain Lean functions of Go functions, and that the calls come to what they say; no condition beyond those that each theorem names. -/
import Derived.Test.YtfbocgagfodgnaaZFnMeanSame4
import Derived.Test.YtfbocgagfodgnaaZFnMeanSame6
import Derived.Maps.Own
import Derived.Maps.OwnOps
import Derived.Deep.RegionHeld3
import Derived.Deep.DrawnRows
import Derived.Deep.DeepCutAuto
import Derived.Test.YtfbocgagfodgnaaZFnMeanSame13
namespace Go.Proofs.Ytfbocgagfodgnaa.P
open Go.RowKit Go.Proofs.YtfbocgagfodgnaaW.PrintWords Go.Proofs.YtfbocgagfodgnaaW.PrintLast Go.Proofs.YtfbocgagfodgnaaW.PrintMore
attribute [local go_sem] max2_int min2_int max_two min_two max_three min_three max_four min_four
set_option linter.unusedVariables false
set_option linter.unusedSimpArgs false
theorem cell_of2 {W : World} {b : Nat} {cs : Array Value} {t : TypeId} {fr : Nat × Nat} (h : W.heap[b]? = some (.cells cs t fr)) (j : Nat) {v : Value} (hv : cs[j]? = some v) : W.cell? ⟨b,j,none⟩ = some v:=by
 simp [World.cell?,h,hv]
theorem size_alloc2 (w : World) (o : Obj) : (w.alloc o).heap.size = w.heap.size + 1:=by
 show (w.heap.push o).size = _
 simp
def eqM {α : Type} (T : α → α → Option Bool) : List α → List α → Option Bool
 | [],_=>some true
 | x :: t,y :: u=>(T x y).bind fun b=>if b = true then eqM T t u else some false
 | _ :: _,[]=>none
def eqL {α : Type} (T : α → α → Option Bool) (a b : List α) : Option Bool:=if a.length = b.length then eqM T a b else some false
def sameH (L : List S69 → List S69 → Option Bool) (x y : S69) : Option Bool :=
 if x.f0 = y.f0 then if x.f1 = y.f1 then if x.f2 = y.f2 then if x.f3 = y.f3 then (L x.f4 y.f4).bind fun b=>if b = true then L x.f5 y.f5 else some false else some false else some false else some false else some false
def sameK : Nat → List S69 → List S69 → Option Bool
 | 0=>fun _ _=>none
 | k + 1=>fun a b=>eqL (sameH (sameK k)) a b
def SaysQ (L : List S69 → List S69 → Option Bool) : Prop:=∀ (A B : Option Addr) (c d : Nat) (a b : List S69) (r : Bool) (w : World),Kd.C k69 w A a.length a → a.length ≤ c → Kd.C k69 w B b.length b → b.length ≤ d → L a b = some r →
 Calls Try.prog 34 #[.slice A a.length c,.slice B b.length d] w fun e w'=>e = .returned (.bool r) ∧ Below w.heap.size w w'
private theorem y69_ {Z : Prop} (h : Z:=by first | rfl | (simp;done)) : Z:=h
private theorem y70_ {A Z : Prop} (a0 : Aside0 A) (h : A → Z:=by intro h0_;repeat (first | exact h0_ | (with_reducible apply pw_below_drewN) | (with_reducible apply below_drew1) | (with_reducible apply below_alloc) | exact Below.refl _ _)) : Z:=h a0.out
private theorem y71_ {Z : Prop} (h : Z:=by repeat (first | (with_reducible apply pw_below_drewN) | (with_reducible apply below_drew1) | (with_reducible apply below_alloc) | exact Below.refl _ _)) : Z:=h
set_option maxHeartbeats 4000000 in
set_option maxRecDepth 100000 in
theorem same1_calls (L : List S69 → List S69 → Option Bool) (hL : SaysQ L) (x y : S69) (A4 : Option Addr) (c4 : Nat) (A5 : Option Addr) (c5 : Nat) (B4 : Option Addr) (d4 : Nat) (B5 : Option Addr) (d5 : Nat) (r : Bool) (w : World)
  (h4 : Kd.C k69 w A4 x.f4.length x.f4) (hc4 : x.f4.length ≤ c4) (h5 : Kd.C k69 w A5 x.f5.length x.f5) (hc5 : x.f5.length ≤ c5)
  (g4 : Kd.C k69 w B4 y.f4.length y.f4) (gc4 : y.f4.length ≤ d4) (g5 : Kd.C k69 w B5 y.f5.length y.f5) (gc5 : y.f5.length ≤ d5) (h : sameH L x y = some r) :
  Calls Try.prog 47 #[.agg #[.int .i64 x.f0,.int .i64 x.f1,.int .i64 x.f2,.int .i64 x.f3,.slice A4 x.f4.length c4,.slice A5 x.f5.length c5],.agg #[.int .i64 y.f0,.int .i64 y.f1,.int .i64 y.f2,.int .i64 y.f3,.slice B4 y.f4.length d4,.slice B5 y.f5.length d5]] w fun e w'=>e = .returned (.bool r) ∧ Below w.heap.size w w':=by
 have hu:=Try.underlying69
 have b1:=blk_alloc (blk_new w (.cells #[.int .i64 x.f0,.int .i64 x.f1,.int .i64 x.f2,.int .i64 x.f3,.slice A4 x.f4.length c4,.slice A5 x.f5.length c5] 69)) (.cells #[.int .i64 y.f0,.int .i64 y.f1,.int .i64 y.f2,.int .i64 y.f3,.slice B4 y.f4.length d4,.slice B5 y.f5.length d5] 69)
 have b2:=blk_new (w.alloc (.cells #[.int .i64 x.f0,.int .i64 x.f1,.int .i64 x.f2,.int .i64 x.f3,.slice A4 x.f4.length c4,.slice A5 x.f5.length c5] 69)) (.cells #[.int .i64 y.f0,.int .i64 y.f1,.int .i64 y.f2,.int .i64 y.f3,.slice B4 y.f4.length d4,.slice B5 y.f5.length d5] 69)
 rw [size_alloc2] at b2
 have HB1:=Aside0.mk b1
 have HB2:=Aside0.mk b2
 have HL:=Aside0.mk hL
 have H4:=Aside0.mk h4
 have H5:=Aside0.mk h5
 have G4:=Aside0.mk g4
 have G5:=Aside0.mk g5
 clear b1 b2 hL h4 h5 g4 g5
 unfold sameH at h
 by_cases e0 : x.f0 = y.f0
 ·rw [if_pos e0] at h
  have k0 : (x.f0 == y.f0) = true:=by simpa using e0
  clear e0
  by_cases e1 : x.f1 = y.f1
  ·rw [if_pos e1] at h
   have k1 : (x.f1 == y.f1) = true:=by simpa using e1
   clear e1
   by_cases e2 : x.f2 = y.f2
   ·rw [if_pos e2] at h
    have k2 : (x.f2 == y.f2) = true:=by simpa using e2
    clear e2
    by_cases e3 : x.f3 = y.f3
    ·rw [if_pos e3] at h
     have k3 : (x.f3 == y.f3) = true:=by simpa using e3
     clear e3
     obtain ⟨b,hb,h⟩:=Option.bind_eq_some_iff.1 h
     have HF:=Aside0.mk hb
     clear hb
     cases b with
     | false =>
      obtain rfl:=Option.some.inj (show some false = some r by simpa using h)
      clear h
      go_enter Try.func47,Try.ntmps47
      go_wp2_with (go_at_call 34;refine (HL.out A4 B4 c4 d4 x.f4 y.f4 _ _ (Kd.C_alloc (Kd.C_alloc H4.out _) _) hc4 (Kd.C_alloc (Kd.C_alloc G4.out _) _) gc4 HF.out).mono ?_;rintro e w' ⟨rfl,hb⟩;have HB:=Aside0.mk (below_step (below_alloc (below_alloc (Below.refl _ w) _) _) hb);clear hb HF)
      go_ret
      exact ⟨y69_,(y70_ HB)⟩
     | true =>
      have HF2:=Aside0.mk (show L x.f5 y.f5 = some r by simpa using h)
      clear h
      go_enter Try.func47,Try.ntmps47
      go_wp2_with (first
       | (go_at_call 34;refine (HL.out A4 B4 c4 d4 x.f4 y.f4 _ _ (Kd.C_alloc (Kd.C_alloc H4.out _) _) hc4 (Kd.C_alloc (Kd.C_alloc G4.out _) _) gc4 HF.out).mono ?_;rintro e w' ⟨rfl,hb⟩;have HB:=Aside0.mk (below_step (below_alloc (below_alloc (Below.refl _ w) _) _) hb);have c5':=cell_of2 (blk_below HB1.out hb) 5 rfl;have d5':=cell_of2 (blk_below HB2.out hb) 5 rfl;clear hb HF)
       | (go_at_call 34;refine (HL.out A5 B5 c5 d5 x.f5 y.f5 _ _ (Kd.C_below H5.out HB.out) hc5 (Kd.C_below G5.out HB.out) gc5 HF2.out).mono ?_;rintro e w' ⟨rfl,hb⟩;have n1:=Aside0.mk (below_step HB.out hb);clear HB hb HF2;have HB:=n1;clear n1))
      go_ret
      exact ⟨y69_,(y70_ HB)⟩
    ·rw [if_neg e3] at h
     have k3 : (x.f3 == y.f3) = false:=by simpa using e3
     obtain rfl:=Option.some.inj h
     clear e3
     go_enter Try.func47,Try.ntmps47
     go_wp2
     go_ret
     exact ⟨y69_,(y71_)⟩
   ·rw [if_neg e2] at h
    have k2 : (x.f2 == y.f2) = false:=by simpa using e2
    obtain rfl:=Option.some.inj h
    clear e2
    go_enter Try.func47,Try.ntmps47
    go_wp2
    go_ret
    exact ⟨y69_,(y71_)⟩
  ·rw [if_neg e1] at h
   have k1 : (x.f1 == y.f1) = false:=by simpa using e1
   obtain rfl:=Option.some.inj h
   clear e1
   go_enter Try.func47,Try.ntmps47
   go_wp2
   go_ret
   exact ⟨y69_,(y71_)⟩
 ·rw [if_neg e0] at h
  have k0 : (x.f0 == y.f0) = false:=by simpa using e0
  obtain rfl:=Option.some.inj h
  clear e0
  go_enter Try.func47,Try.ntmps47
  go_wp2
  go_ret
  exact ⟨y69_,(y71_)⟩
def SaysE (T : S69 → S69 → Option Bool) : Prop:=∀ (x y : S69) (A4 : Option Addr) (c4 : Nat) (A5 : Option Addr) (c5 : Nat) (B4 : Option Addr) (d4 : Nat) (B5 : Option Addr) (d5 : Nat) (r : Bool) (w : World),
  Kd.C k69 w A4 x.f4.length x.f4 → x.f4.length ≤ c4 → Kd.C k69 w A5 x.f5.length x.f5 → x.f5.length ≤ c5 → Kd.C k69 w B4 y.f4.length y.f4 → y.f4.length ≤ d4 → Kd.C k69 w B5 y.f5.length y.f5 → y.f5.length ≤ d5 → T x y = some r →
  Calls Try.prog 47 #[.agg #[.int .i64 x.f0,.int .i64 x.f1,.int .i64 x.f2,.int .i64 x.f3,.slice A4 x.f4.length c4,.slice A5 x.f5.length c5],.agg #[.int .i64 y.f0,.int .i64 y.f1,.int .i64 y.f2,.int .i64 y.f3,.slice B4 y.f4.length d4,.slice B5 y.f5.length d5]] w fun e w'=>e = .returned (.bool r) ∧ Below w.heap.size w w'
set_option maxHeartbeats 4000000 in
set_option maxRecDepth 100000 in
theorem stEq_calls (T : S69 → S69 → Option Bool) (hT : SaysE T) (A B : Option Addr) (c d : Nat) (a b : List S69) (r : Bool) (w : World) (ha : Kd.C k69 w A a.length a) (hb : Kd.C k69 w B b.length b) (h : eqL T a b = some r) :
  Calls Try.prog 46 #[.slice A a.length c,.slice B b.length d,.func (.func 47) #[] #[]] w fun e w'=>e = .returned (.bool r) ∧ Below w.heap.size w w':=by
 have HT:=Aside0.mk hT
 have HA:=Aside0.mk ha
 have HB:=Aside0.mk hb
 have H:=Aside0.mk h
 have hla : a.length ≤ 9223372036854775807:=ha.2.1
 have hlb : b.length ≤ 9223372036854775807:=hb.2.1
 have hu:=Try.underlying69
 clear hT ha hb h
 by_cases hn : a.length = b.length
 ·have hnz : ((a.length : Int) != (b.length : Int)) = false:=bne_eq_false_iff_eq.mpr (by omega)
  have h0:=H.out
  unfold eqL at h0
  rw [if_pos hn] at h0
  have H0:=Aside0.mk h0
  have HNE:=Aside0.mk hn
  clear h0 H hn
  go_enter Try.func46,Try.ntmps46
  go_wp2
  go_loopg [7,17] a.length (fun gg _ p wr=>∃ kk : Nat,kk ≤ a.length ∧ a.length - kk ≤ gg ∧ p = .int .i64 kk ∧ Aside0 (eqM T (a.drop kk) (b.drop kk) = some r) ∧ Aside0 (Below w.heap.size w wr))
  case atStart=>exact ⟨0,Nat.zero_le _,by omega,rfl,H0,⟨Below.refl _ w⟩⟩
  case round =>
   obtain ⟨kk,hkk,hg,rfl,HE,HW⟩:=hrel
   clear H0
   by_cases hlt : kk < a.length
   ·have hltz : decide ((kk : Int) < (a.length : Int)) = true:=decide_eq_true (by omega)
    have p1 : 0 ≤ (kk : Int):=by omega
    have q1 : (kk : Int) < (a.length : Int):=by omega
    have q2 : (kk : Int) < (b.length : Int):=by have:=HNE.out;omega
    obtain ⟨ad,A4,c4,A5,c5,e1,f0,f1,f2,f3,f4,f5,hc4,H4,hc5,H5⟩:=at_T69 (Kd.C_below HA.out HW.out) (kk : Int) p1 q1
    obtain ⟨bd,B4,d4,B5,d5,e2,g0,g1,g2,g3,g4,g5,gc4,G4,gc5,G5⟩:=at_T69 (Kd.C_below HB.out HW.out) (kk : Int) p1 q2
    cases e1
    cases e2
    rw [Int.toNat_natCast] at f0 f1 f2 f3 f4 f5 g0 g1 g2 g3 g4 g5
    have he:=HE.out
    rw [drop_rd a hlt,drop_rd b (by have:=HNE.out;omega)] at he
    clear HE
    obtain ⟨v,hv1,hv2⟩:=Option.bind_eq_some_iff.1 he
    clear he
    generalize rd_T69 a (kk : Int) = x at *
    generalize rd_T69 b (kk : Int) = y at *
    have al : ∀ {p : Addr} {u : Value},wr.cell? p = some u → ∀ o,(wr.alloc o).cell? p = some u:=fun h o=>((below_alloc (Below.refl _ wr) o).cell (World.block_lt_of_cell? wr _ h)).trans h
    have i0:=al g0
    have i1:=al g1
    have i2:=al g2
    have i3:=al g3
    have i4:=al g4
    have i5:=al g5
    clear al g0 g1 g2 g3 g4 g5
    have HC:=Aside0.mk (fun W h4 h5 g4 g5=>HT.out x y A4 c4 A5 c5 B4 d4 B5 d5 v W h4 hc4 h5 hc5 g4 gc4 g5 gc5 hv1)
    have HH:=Aside0.mk (And.intro (And.intro H4 H5) (And.intro G4 G5))
    clear H4 H5 G4 G5 hv1
    replace p1:=eq_true p1
    replace q1:=eq_true q1
    replace q2:=eq_true q2
    cases v with
    | false =>
     obtain rfl:=Option.some.inj (show some false = some r by simpa using hv2)
     clear hv2
     go_wp2_with (go_at_call 47;refine (HC.out _ (Kd.C_alloc (Kd.C_alloc HH.out.1.1 _) _) (Kd.C_alloc (Kd.C_alloc HH.out.1.2 _) _) (Kd.C_alloc (Kd.C_alloc HH.out.2.1 _) _) (Kd.C_alloc (Kd.C_alloc HH.out.2.2 _) _)).mono ?_;rintro e w' ⟨rfl,hb'⟩;have n2:=Aside0.mk (below_step (below_alloc (below_alloc HW.out _) _) hb');clear HW HC hb' f0 f1 f2 f3 f4 f5 i0 i1 i2 i3 i4 i5;have HW:=n2;clear n2)
     go_ret
     exact ⟨y69_,(y70_ HW)⟩
    | true =>
     have HN:=Aside0.mk (show eqM T (a.drop (kk + 1)) (b.drop (kk + 1)) = some r by simpa using hv2)
     clear hv2
     go_wp2_with (go_at_call 47;refine (HC.out _ (Kd.C_alloc (Kd.C_alloc HH.out.1.1 _) _) (Kd.C_alloc (Kd.C_alloc HH.out.1.2 _) _) (Kd.C_alloc (Kd.C_alloc HH.out.2.1 _) _) (Kd.C_alloc (Kd.C_alloc HH.out.2.2 _) _)).mono ?_;rintro e w' ⟨rfl,hb'⟩;have n2:=Aside0.mk (below_step (below_alloc (below_alloc HW.out _) _) hb');clear HW HC hb' f0 f1 f2 f3 f4 f5 i0 i1 i2 i3 i4 i5;have HW:=n2;clear n2)
     go_roundg (a.length - (kk + 1))
     case measure=>omega
     case rel=>exact ⟨kk + 1,by omega,by omega,by go_num,HN,⟨(y70_ HW)⟩⟩
   ·have hltz : decide ((kk : Int) < (a.length : Int)) = false:=decide_eq_false (by omega)
    have he:=HE.out
    rw [List.drop_of_length_le (by omega)] at he
    obtain rfl:=Option.some.inj (show some true = some r from he)
    clear he HE
    go_wp2
    go_ret
    exact ⟨y69_,(y70_ HW)⟩
 ·have hnz : ((a.length : Int) != (b.length : Int)) = true:=bne_iff_ne.mpr (by omega)
  have h0:=H.out
  unfold eqL at h0
  rw [if_neg hn] at h0
  obtain rfl:=Option.some.inj h0
  clear h0 H
  go_enter Try.func46,Try.ntmps46
  go_wp2
  go_ret
  exact ⟨y69_,(y71_)⟩
theorem same_walk (L : List S69 → List S69 → Option Bool) (hL : SaysQ L) : SaysQ (fun a b=>eqL (sameH L) a b):=by
 intro A B c d a b r w ha hc hb hd h
 have HE:=Aside0.mk (stEq_calls (sameH L) (fun x y A4 c4 A5 c5 B4 d4 B5 d5 r w h4 hc4 h5 hc5 g4 gc4 g5 gc5 h=>same1_calls L hL x y A4 c4 A5 c5 B4 d4 B5 d5 r w h4 hc4 h5 hc5 g4 gc4 g5 gc5 h) A B c d a b r w ha hb h)
 clear hL ha hb h
 go_enter Try.func34,Try.ntmps34
 go_wp2_with (go_at_call 46;refine HE.out.mono ?_;rintro e w' ⟨rfl,hb⟩;have HB:=Aside0.mk hb;clear hb)
 go_ret
 exact ⟨y69_,(y70_ HB)⟩
theorem sameK_says : ∀ k,SaysQ (sameK k)
 | 0=>fun _ _ _ _ _ _ _ _ _ _ _ _ h=>by cases h
 | k + 1=>same_walk (sameK k) (sameK_says k)
def impl_sameStmts.f (k : Nat) (l0 l1 : List S69) : Option Bool:=sameK k l0 l1
theorem impl_sameStmts.calls (k : Nat) (A0 : Option Addr) (c0 : Nat) (l0 : List S69) (A1 : Option Addr) (c1 : Nat) (l1 : List S69) (r : Bool) (w : World) (hr0 : Kd.C k69 w A0 l0.length l0) (hc0 : l0.length ≤ c0) (hr1 : Kd.C k69 w A1 l1.length l1) (hc1 : l1.length ≤ c1) (h : impl_sameStmts.f k l0 l1 = some r) :
  Calls Try.prog 34 #[.slice A0 l0.length c0,.slice A1 l1.length c1] w fun e w'=>e = .returned (.bool r) ∧ Below w.heap.size w w':=sameK_says k A0 A1 c0 c1 l0 l1 r w hr0 hc0 hr1 hc1 h
end Go.Proofs.Ytfbocgagfodgnaa.P

namespace Go.Proofs.Ytfbocgagfodgnaa.P
open Go.RowKit Go.Proofs.YtfbocgagfodgnaaW.PrintWords Go.Proofs.YtfbocgagfodgnaaW.PrintLast Go.Proofs.YtfbocgagfodgnaaW.PrintMore
attribute [local go_sem] max2_int min2_int max_two min_two max_three min_three max_four min_four
set_option linter.unusedVariables false
set_option linter.unusedSimpArgs false
def eqM2 {α β : Type} (T : α → β → Option Bool) : List α → List β → Option Bool
 | [],_=>some true
 | x :: t,y :: u=>(T x y).bind fun b=>if b = true then eqM2 T t u else some false
 | _ :: _,[]=>none
def eqL2 {α β : Type} (T : α → β → Option Bool) (a : List α) (b : List β) : Option Bool:=if a.length = b.length then eqM2 T a b else some false
theorem drawn_below {w w' : World} (h : Drawn0 w w') : Below w.heap.size w w':=by
 obtain ⟨n,rfl⟩:=h
 exact pw_below_drewN (Below.refl _ _) n
def SaysRow (T : List Int → List Int → Option Bool) : Prop:=∀ (x y : List Int) (A0 : Option Addr) (c0 : Nat) (B0 : Option Addr) (d0 : Nat) (r : Bool) (w : World),
  Kd.C (Kd.int .i64) w A0 x.length x → x.length ≤ c0 → Kd.C (Kd.int .i64) w B0 y.length y → y.length ≤ d0 → T x y = some r →
  Calls Try.prog 33 #[.slice A0 x.length c0,.slice B0 y.length d0] w fun e w'=>e = .returned (.bool r) ∧ Below w.heap.size w w'
private theorem y0_ {A Z : Prop} (a0 : Aside0 A) (h : A → Z:=by intro h0_;repeat (first | exact h0_ | (with_reducible apply pw_below_drewN) | (with_reducible apply below_drew1) | (with_reducible apply below_alloc) | exact Below.refl _ _)) : Z:=h a0.out
set_option maxHeartbeats 4000000 in
set_option maxRecDepth 100000 in
theorem rowEq_calls (T : (List Int) → (List Int) → Option Bool) (hT : SaysRow T) (A B : Option Addr) (c d : Nat) (a : List (List Int)) (b : List (List Int)) (r : Bool) (w : World) (ha : Kd.C (Kd.slice 3 (Kd.int .i64)) w A a.length a) (hb : Kd.C (Kd.slice 3 (Kd.int .i64)) w B b.length b) (h : eqL2 T a b = some r) :
  Calls Try.prog 48 #[.slice A a.length c,.slice B b.length d,.func (.func 33) #[] #[]] w fun e w'=>e = .returned (.bool r) ∧ Below w.heap.size w w':=by
 have HT:=Aside0.mk hT
 have HA:=Aside0.mk ha
 have HB:=Aside0.mk hb
 have H:=Aside0.mk h
 have hla : a.length ≤ 9223372036854775807:=ha.2.1
 have hlb : b.length ≤ 9223372036854775807:=hb.2.1
 clear hT ha hb h
 by_cases hn : a.length = b.length
 ·have hnz : ((a.length : Int) != (b.length : Int)) = false:=bne_eq_false_iff_eq.mpr (by omega)
  have h0:=H.out
  unfold eqL2 at h0
  rw [if_pos hn] at h0
  have H0:=Aside0.mk h0
  have HNE:=Aside0.mk hn
  clear h0 H hn
  go_enter Try.func48,Try.ntmps48
  go_wp2
  go_loopg [7,8,9,17] a.length (fun gg _ _ _ p wr=>∃ kk : Nat,kk ≤ a.length ∧ a.length - kk ≤ gg ∧ p = .int .i64 kk ∧ Aside0 (eqM2 T (a.drop kk) (b.drop kk) = some r) ∧ Aside0 (Below w.heap.size w wr))
  case atStart=>exact ⟨0,Nat.zero_le _,by omega,rfl,H0,⟨Below.refl _ w⟩⟩
  case round =>
   obtain ⟨kk,hkk,hg,rfl,HE,HW⟩:=hrel
   clear H0
   by_cases hlt : kk < a.length
   ·have hltz : decide ((kk : Int) < (a.length : Int)) = true:=decide_eq_true (by omega)
    have p1 : 0 ≤ (kk : Int):=by omega
    have q1 : (kk : Int) < (a.length : Int):=by omega
    have q2 : (kk : Int) < (b.length : Int):=by have:=HNE.out;omega
    obtain ⟨ad,A0,c0,e1,f0,hc0,HQ0⟩:=at_L4 (Kd.C_below HA.out HW.out) (kk : Int) p1 q1
    obtain ⟨bd,B0,d0,e2,g0,gc0,G0⟩:=at_L4 (Kd.C_below HB.out HW.out) (kk : Int) p1 q2
    cases e1
    cases e2
    rw [Int.toNat_natCast] at f0 g0
    have he:=HE.out
    rw [show a.drop kk = rd_L4 a (kk : Int) :: a.drop (kk + 1) from by rw [List.drop_eq_getElem_cons hlt];unfold rd_L4;rw [Int.toNat_natCast,List.getD_eq_getElem?_getD,List.getElem?_eq_getElem hlt];rfl,
     show b.drop kk = rd_L4 b (kk : Int) :: b.drop (kk + 1) from by rw [List.drop_eq_getElem_cons (by have:=HNE.out;omega)];unfold rd_L4;rw [Int.toNat_natCast,List.getD_eq_getElem?_getD,List.getElem?_eq_getElem (by have:=HNE.out;omega)];rfl] at he
    clear HE
    obtain ⟨v,hv1,hv2⟩:=Option.bind_eq_some_iff.1 he
    clear he
    generalize rd_L4 a (kk : Int) = x at *
    generalize rd_L4 b (kk : Int) = y at *
    have HC:=Aside0.mk (fun W h0 g0=>HT.out x y A0 c0 B0 d0 v W h0 hc0 g0 gc0 hv1)
    have HHx0:=Aside0.mk HQ0
    clear HQ0
    have HHy0:=Aside0.mk G0
    clear G0
    clear hv1
    replace p1:=eq_true p1
    replace q1:=eq_true q1
    replace q2:=eq_true q2
    cases v with
    | false =>
     obtain rfl:=Option.some.inj (show some false = some r by simpa using hv2)
     clear hv2
     go_wp2_with (go_at_call 33;refine (HC.out _ HHx0.out HHy0.out).mono ?_;rintro e w' ⟨rfl,hb'⟩;have n2:=Aside0.mk (below_step HW.out hb');clear HW HC hb' f0 g0;have HW:=n2;clear n2)
     go_ret
     exact ⟨by first | rfl | (simp;done),(y0_ HW)⟩
    | true =>
     have HN:=Aside0.mk (show eqM2 T (a.drop (kk + 1)) (b.drop (kk + 1)) = some r by simpa using hv2)
     clear hv2
     go_wp2_with (go_at_call 33;refine (HC.out _ HHx0.out HHy0.out).mono ?_;rintro e w' ⟨rfl,hb'⟩;have n2:=Aside0.mk (below_step HW.out hb');clear HW HC hb' f0 g0;have HW:=n2;clear n2)
     go_roundg (a.length - (kk + 1))
     case measure=>omega
     case rel=>exact ⟨kk + 1,by omega,by omega,by go_num,HN,⟨(y0_ HW)⟩⟩
   ·have hltz : decide ((kk : Int) < (a.length : Int)) = false:=decide_eq_false (by omega)
    have he:=HE.out
    rw [List.drop_of_length_le (by omega)] at he
    obtain rfl:=Option.some.inj (show some true = some r from he)
    clear he HE
    go_wp2
    go_ret
    exact ⟨by first | rfl | (simp;done),(y0_ HW)⟩
 ·have hnz : ((a.length : Int) != (b.length : Int)) = true:=bne_iff_ne.mpr (by omega)
  have h0:=H.out
  unfold eqL2 at h0
  rw [if_neg hn] at h0
  obtain rfl:=Option.some.inj h0
  clear h0 H
  go_enter Try.func48,Try.ntmps48
  go_wp2
  go_ret
  exact ⟨by first | rfl | (simp;done),(by repeat (first | (with_reducible apply pw_below_drewN) | (with_reducible apply below_drew1) | (with_reducible apply below_alloc) | exact Below.refl _ _))⟩
theorem rows_say (k : Nat) : SaysRow (slices_Equal_int_int.f k):=fun x y A0 c0 B0 d0 r w h hc g gc hv=>(slices_Equal_int_int.calls k A0 c0 x B0 d0 y r w h hc g gc hv).mono (fun e w' q=>⟨q.1,drawn_below q.2⟩)
def impl_sameQueues.f (k : Nat) (l0 l1 : List (List Int)) : Option Bool:=eqL2 (slices_Equal_int_int.f k) l0 l1
theorem impl_sameQueues.calls (k : Nat) (A0 : Option Addr) (c0 : Nat) (l0 : List (List Int)) (A1 : Option Addr) (c1 : Nat) (l1 : List (List Int)) (r : Bool) (w : World) (hr0 : Kd.C (Kd.slice 3 (Kd.int .i64)) w A0 l0.length l0) (hc0 : l0.length ≤ c0) (hr1 : Kd.C (Kd.slice 3 (Kd.int .i64)) w A1 l1.length l1) (hc1 : l1.length ≤ c1) (h : impl_sameQueues.f k l0 l1 = some r) :
  Calls Try.prog 36 #[.slice A0 l0.length c0,.slice A1 l1.length c1] w fun e w'=>e = .returned (.bool r) ∧ Below w.heap.size w w':=by
 have HE:=Aside0.mk (rowEq_calls _ (rows_say k) A0 A1 c0 c1 l0 l1 r w hr0 hr1 h)
 clear hr0 hr1 h hc0 hc1
 go_enter Try.func36,Try.ntmps36
 go_wp2_with (go_at_call 48;refine HE.out.mono ?_;rintro e w' ⟨rfl,hb'⟩;have HB:=Aside0.mk hb';clear HE hb')
 go_ret
 exact ⟨by first | rfl | (simp;done),(y0_ HB)⟩
end Go.Proofs.Ytfbocgagfodgnaa.P

namespace Go.Proofs.Ytfbocgagfodgnaa.P
open Go.Proofs.YtfbocgagfodgnaaW.PrintWords renaming Aside0.mk → ö, below_step → ä
open Go.RowKit Go.Proofs.YtfbocgagfodgnaaW.PrintWords Go.Proofs.YtfbocgagfodgnaaW.PrintLast Go.Proofs.YtfbocgagfodgnaaW.PrintMore
attribute [local go_sem] max2_int min2_int max_two min_two max_three min_three max_four min_four
set_option linter.unusedVariables false
set_option linter.unusedSimpArgs false
theorem calls_dr {P : Program} {f : FuncId} {args : Array Value} {w : World} {r : Bool} (h : Calls P f args w fun e w'=>e = .returned (.bool r) ∧ Drawn0 w w') : Calls P f args w fun e w'=>e = .returned (.bool r) ∧ Below w.heap.size w w':=h.mono (fun e w' q=>⟨q.1,drawn_below q.2⟩)
theorem cells5_ {w : World} {g : Nat} {t : TypeId} {c0 c1 c2 c3 c4 : Value} (h : Aside0 (w.heap[g]? = some (.cells #[c0,c1,c2,c3,c4] t (0,0)))) : w.cell? ⟨g,0,none⟩ = some c0 ∧ w.cell? ⟨g,1,none⟩ = some c1 ∧ w.cell? ⟨g,2,none⟩ = some c2 ∧ w.cell? ⟨g,3,none⟩ = some c3 ∧ w.cell? ⟨g,4,none⟩ = some c4:=⟨(blk_cell h.out 0).trans rfl,(blk_cell h.out 1).trans rfl,(blk_cell h.out 2).trans rfl,(blk_cell h.out 3).trans rfl,(blk_cell h.out 4).trans rfl⟩
def procV (k : Nat) (x y : S51) : Option Bool:=(slices_Equal_int_int.f k x.f0 y.f0).bind fun b=>if b = true then (impl_sameStmts.f k x.f1 y.f1).bind fun b=>if b = true then if x.f2 = y.f2 then if x.f3 = y.f3 then if x.f4 = y.f4 then some true else some false else some false else some false else some false else some false
private theorem y72_ {A Z : Prop} (a0 : Aside0 A) (h : A → Z:=by intro h0_;repeat (first | exact h0_ | (with_reducible apply pw_below_drewN) | (with_reducible apply below_drew1) | (with_reducible apply below_alloc) | exact Below.refl _ _)) : Z:=h a0.out
private theorem y73_ {A Z : Prop} (a0 : Aside0 A) (h : A → Z:=by intro h0_;first | exact h0_) : Z:=h a0.out
private theorem y74_ {Z : Prop} (h : Z:=by first | rfl | (simp;done) | (simp [*];done)) : Z:=h
set_option maxHeartbeats 8000000 in
set_option maxRecDepth 100000 in
theorem procW (k : Nat) (x : S51) (y : S51) (A0 : Option Addr) (c0 : Nat) (A1 : Option Addr) (c1 : Nat) (B0 : Option Addr) (d0 : Nat) (B1 : Option Addr) (d1 : Nat) (r : Bool) (w : World)
  (h0 : Kd.C (Kd.int .i64) w A0 x.f0.length x.f0) (hc0 : x.f0.length ≤ c0)
  (h1 : Kd.C k69 w A1 x.f1.length x.f1) (hc1 : x.f1.length ≤ c1)
  (g0 : Kd.C (Kd.int .i64) w B0 y.f0.length y.f0) (gc0 : y.f0.length ≤ d0)
  (g1 : Kd.C k69 w B1 y.f1.length y.f1) (gc1 : y.f1.length ≤ d1)
  (h : procV k x y = some r) :
  Calls Try.prog 32 #[.agg #[.slice A0 x.f0.length c0,.slice A1 x.f1.length c1,.int .i64 x.f2,.int .i64 x.f3,.int .i64 x.f4],.agg #[.slice B0 y.f0.length d0,.slice B1 y.f1.length d1,.int .i64 y.f2,.int .i64 y.f3,.int .i64 y.f4]] w fun e w'=>e = .returned (.bool r) ∧ Below w.heap.size w w':=by
 unfold procV at h
 have hu:=Try.underlying51
 have b1:=blk_alloc (blk_new w (.cells #[.slice A0 x.f0.length c0,.slice A1 x.f1.length c1,.int .i64 x.f2,.int .i64 x.f3,.int .i64 x.f4] 51)) (.cells #[.slice B0 y.f0.length d0,.slice B1 y.f1.length d1,.int .i64 y.f2,.int .i64 y.f3,.int .i64 y.f4] 51)
 have b2:=blk_new (w.alloc (.cells #[.slice A0 x.f0.length c0,.slice A1 x.f1.length c1,.int .i64 x.f2,.int .i64 x.f3,.int .i64 x.f4] 51)) (.cells #[.slice B0 y.f0.length d0,.slice B1 y.f1.length d1,.int .i64 y.f2,.int .i64 y.f3,.int .i64 y.f4] 51)
 rw [size_alloc2] at b2
 have HX:=ö b1
 have HY:=ö b2
 have HB:=ö (below_alloc (below_alloc (Below.refl _ w) (.cells #[.slice A0 x.f0.length c0,.slice A1 x.f1.length c1,.int .i64 x.f2,.int .i64 x.f3,.int .i64 x.f4] 51)) (.cells #[.slice B0 y.f0.length d0,.slice B1 y.f1.length d1,.int .i64 y.f2,.int .i64 y.f3,.int .i64 y.f4] 51))
 have HH0:=ö h0
 have HH1:=ö h1
 have GG0:=ö g0
 have GG1:=ö g1
 clear b1 b2 h0 h1 g0 g1
 obtain ⟨b0,hv,h⟩:=Option.bind_eq_some_iff.1 h
 have HC0:=ö (fun W hx hy=>calls_dr (slices_Equal_int_int.calls k A0 c0 x.f0 B0 d0 y.f0 b0 W hx hc0 hy gc0 hv))
 clear hv
 cases b0 with
 | false =>
  obtain rfl:=Option.some.inj (show some false = some r by simpa using h)
  clear h
  go_enter Try.func32,Try.ntmps32
  go_wp2_with (first
   | (go_at_call 33;refine (HC0.out _ (Kd.C_below HH0.out (y72_ HB)) (Kd.C_below GG0.out (y72_ HB))).mono ?_;rintro e w' ⟨rfl,hd⟩;have hb:=hd;have n1:=ö (ä (y72_ HB) hb);have n2:=ö (blk_below (y73_ HX) hb);have n3:=ö (blk_below (y73_ HY) hb);clear HC0 HB HX HY hb hd ; have HB:=n1;have HX:=n2;have HY:=n3;clear n1 n2 n3;obtain ⟨u0,u1,u2,u3,u4⟩:=cells5_ HX;obtain ⟨v0,v1,v2,v3,v4⟩:=cells5_ HY))
  go_ret
  exact ⟨y74_,(y72_ HB)⟩
 | true =>
  rw [if_pos rfl] at h
  obtain ⟨b1,hv,h⟩:=Option.bind_eq_some_iff.1 h
  have HC1:=ö (fun W hx hy=>(impl_sameStmts.calls k A1 c1 x.f1 B1 d1 y.f1 b1 W hx hc1 hy gc1 hv))
  clear hv
  cases b1 with
  | false =>
   obtain rfl:=Option.some.inj (show some false = some r by simpa using h)
   clear h
   go_enter Try.func32,Try.ntmps32
   go_wp2_with (first
    | (go_at_call 33;refine (HC0.out _ (Kd.C_below HH0.out (y72_ HB)) (Kd.C_below GG0.out (y72_ HB))).mono ?_;rintro e w' ⟨rfl,hd⟩;have hb:=hd;have n1:=ö (ä (y72_ HB) hb);have n2:=ö (blk_below (y73_ HX) hb);have n3:=ö (blk_below (y73_ HY) hb);clear HC0 HB HX HY hb hd ; have HB:=n1;have HX:=n2;have HY:=n3;clear n1 n2 n3;obtain ⟨u0,u1,u2,u3,u4⟩:=cells5_ HX;obtain ⟨v0,v1,v2,v3,v4⟩:=cells5_ HY)
    | (go_at_call 34;refine (HC1.out _ (Kd.C_below HH1.out (y72_ HB)) (Kd.C_below GG1.out (y72_ HB))).mono ?_;rintro e w' ⟨rfl,hd⟩;have hb:=hd;have n1:=ö (ä (y72_ HB) hb);have n2:=ö (blk_below (y73_ HX) hb);have n3:=ö (blk_below (y73_ HY) hb);clear HC1 HB HX HY hb hd u0 u1 u2 u3 u4 v0 v1 v2 v3 v4;have HB:=n1;have HX:=n2;have HY:=n3;clear n1 n2 n3;obtain ⟨u0,u1,u2,u3,u4⟩:=cells5_ HX;obtain ⟨v0,v1,v2,v3,v4⟩:=cells5_ HY))
   go_ret
   exact ⟨y74_,(y72_ HB)⟩
  | true =>
   rw [if_pos rfl] at h
   by_cases e2 : x.f2 = y.f2
   ·rw [if_pos e2] at h
    have k2 : (x.f2 == y.f2) = true:=by simpa using e2
    clear e2
    by_cases e3 : x.f3 = y.f3
    ·rw [if_pos e3] at h
     have k3 : (x.f3 == y.f3) = true:=by simpa using e3
     clear e3
     by_cases e4 : x.f4 = y.f4
     ·rw [if_pos e4] at h
      have k4 : (x.f4 == y.f4) = true:=by simpa using e4
      clear e4
      obtain rfl:=Option.some.inj h
      clear h
      go_enter Try.func32,Try.ntmps32
      go_wp2_with (first
       | (go_at_call 33;refine (HC0.out _ (Kd.C_below HH0.out (y72_ HB)) (Kd.C_below GG0.out (y72_ HB))).mono ?_;rintro e w' ⟨rfl,hd⟩;have hb:=hd;have n1:=ö (ä (y72_ HB) hb);have n2:=ö (blk_below (y73_ HX) hb);have n3:=ö (blk_below (y73_ HY) hb);clear HC0 HB HX HY hb hd ; have HB:=n1;have HX:=n2;have HY:=n3;clear n1 n2 n3;obtain ⟨u0,u1,u2,u3,u4⟩:=cells5_ HX;obtain ⟨v0,v1,v2,v3,v4⟩:=cells5_ HY)
       | (go_at_call 34;refine (HC1.out _ (Kd.C_below HH1.out (y72_ HB)) (Kd.C_below GG1.out (y72_ HB))).mono ?_;rintro e w' ⟨rfl,hd⟩;have hb:=hd;have n1:=ö (ä (y72_ HB) hb);have n2:=ö (blk_below (y73_ HX) hb);have n3:=ö (blk_below (y73_ HY) hb);clear HC1 HB HX HY hb hd u0 u1 u2 u3 u4 v0 v1 v2 v3 v4;have HB:=n1;have HX:=n2;have HY:=n3;clear n1 n2 n3;obtain ⟨u0,u1,u2,u3,u4⟩:=cells5_ HX;obtain ⟨v0,v1,v2,v3,v4⟩:=cells5_ HY))
      go_ret
      exact ⟨y74_,(y72_ HB)⟩
     ·rw [if_neg e4] at h
      have k4 : (x.f4 == y.f4) = false:=by simpa using e4
      clear e4
      obtain rfl:=Option.some.inj h
      clear h
      go_enter Try.func32,Try.ntmps32
      go_wp2_with (first
       | (go_at_call 33;refine (HC0.out _ (Kd.C_below HH0.out (y72_ HB)) (Kd.C_below GG0.out (y72_ HB))).mono ?_;rintro e w' ⟨rfl,hd⟩;have hb:=hd;have n1:=ö (ä (y72_ HB) hb);have n2:=ö (blk_below (y73_ HX) hb);have n3:=ö (blk_below (y73_ HY) hb);clear HC0 HB HX HY hb hd ; have HB:=n1;have HX:=n2;have HY:=n3;clear n1 n2 n3;obtain ⟨u0,u1,u2,u3,u4⟩:=cells5_ HX;obtain ⟨v0,v1,v2,v3,v4⟩:=cells5_ HY)
       | (go_at_call 34;refine (HC1.out _ (Kd.C_below HH1.out (y72_ HB)) (Kd.C_below GG1.out (y72_ HB))).mono ?_;rintro e w' ⟨rfl,hd⟩;have hb:=hd;have n1:=ö (ä (y72_ HB) hb);have n2:=ö (blk_below (y73_ HX) hb);have n3:=ö (blk_below (y73_ HY) hb);clear HC1 HB HX HY hb hd u0 u1 u2 u3 u4 v0 v1 v2 v3 v4;have HB:=n1;have HX:=n2;have HY:=n3;clear n1 n2 n3;obtain ⟨u0,u1,u2,u3,u4⟩:=cells5_ HX;obtain ⟨v0,v1,v2,v3,v4⟩:=cells5_ HY))
      go_ret
      exact ⟨y74_,(y72_ HB)⟩
    ·rw [if_neg e3] at h
     have k3 : (x.f3 == y.f3) = false:=by simpa using e3
     clear e3
     obtain rfl:=Option.some.inj h
     clear h
     go_enter Try.func32,Try.ntmps32
     go_wp2_with (first
      | (go_at_call 33;refine (HC0.out _ (Kd.C_below HH0.out (y72_ HB)) (Kd.C_below GG0.out (y72_ HB))).mono ?_;rintro e w' ⟨rfl,hd⟩;have hb:=hd;have n1:=ö (ä (y72_ HB) hb);have n2:=ö (blk_below (y73_ HX) hb);have n3:=ö (blk_below (y73_ HY) hb);clear HC0 HB HX HY hb hd ; have HB:=n1;have HX:=n2;have HY:=n3;clear n1 n2 n3;obtain ⟨u0,u1,u2,u3,u4⟩:=cells5_ HX;obtain ⟨v0,v1,v2,v3,v4⟩:=cells5_ HY)
      | (go_at_call 34;refine (HC1.out _ (Kd.C_below HH1.out (y72_ HB)) (Kd.C_below GG1.out (y72_ HB))).mono ?_;rintro e w' ⟨rfl,hd⟩;have hb:=hd;have n1:=ö (ä (y72_ HB) hb);have n2:=ö (blk_below (y73_ HX) hb);have n3:=ö (blk_below (y73_ HY) hb);clear HC1 HB HX HY hb hd u0 u1 u2 u3 u4 v0 v1 v2 v3 v4;have HB:=n1;have HX:=n2;have HY:=n3;clear n1 n2 n3;obtain ⟨u0,u1,u2,u3,u4⟩:=cells5_ HX;obtain ⟨v0,v1,v2,v3,v4⟩:=cells5_ HY))
     go_ret
     exact ⟨y74_,(y72_ HB)⟩
   ·rw [if_neg e2] at h
    have k2 : (x.f2 == y.f2) = false:=by simpa using e2
    clear e2
    obtain rfl:=Option.some.inj h
    clear h
    go_enter Try.func32,Try.ntmps32
    go_wp2_with (first
     | (go_at_call 33;refine (HC0.out _ (Kd.C_below HH0.out (y72_ HB)) (Kd.C_below GG0.out (y72_ HB))).mono ?_;rintro e w' ⟨rfl,hd⟩;have hb:=hd;have n1:=ö (ä (y72_ HB) hb);have n2:=ö (blk_below (y73_ HX) hb);have n3:=ö (blk_below (y73_ HY) hb);clear HC0 HB HX HY hb hd ; have HB:=n1;have HX:=n2;have HY:=n3;clear n1 n2 n3;obtain ⟨u0,u1,u2,u3,u4⟩:=cells5_ HX;obtain ⟨v0,v1,v2,v3,v4⟩:=cells5_ HY)
     | (go_at_call 34;refine (HC1.out _ (Kd.C_below HH1.out (y72_ HB)) (Kd.C_below GG1.out (y72_ HB))).mono ?_;rintro e w' ⟨rfl,hd⟩;have hb:=hd;have n1:=ö (ä (y72_ HB) hb);have n2:=ö (blk_below (y73_ HX) hb);have n3:=ö (blk_below (y73_ HY) hb);clear HC1 HB HX HY hb hd u0 u1 u2 u3 u4 v0 v1 v2 v3 v4;have HB:=n1;have HX:=n2;have HY:=n3;clear n1 n2 n3;obtain ⟨u0,u1,u2,u3,u4⟩:=cells5_ HX;obtain ⟨v0,v1,v2,v3,v4⟩:=cells5_ HY))
    go_ret
    exact ⟨y74_,(y72_ HB)⟩
def SaysP (T : S51 → S51 → Option Bool) : Prop:=∀ (x : S51) (y : S51) (A0 : Option Addr) (c0 : Nat) (A1 : Option Addr) (c1 : Nat) (B0 : Option Addr) (d0 : Nat) (B1 : Option Addr) (d1 : Nat) (r : Bool) (w : World),
  Kd.C (Kd.int .i64) w A0 x.f0.length x.f0 → x.f0.length ≤ c0 → Kd.C k69 w A1 x.f1.length x.f1 → x.f1.length ≤ c1 → Kd.C (Kd.int .i64) w B0 y.f0.length y.f0 → y.f0.length ≤ d0 → Kd.C k69 w B1 y.f1.length y.f1 → y.f1.length ≤ d1 → T x y = some r →
  Calls Try.prog 32 #[.agg #[.slice A0 x.f0.length c0,.slice A1 x.f1.length c1,.int .i64 x.f2,.int .i64 x.f3,.int .i64 x.f4],.agg #[.slice B0 y.f0.length d0,.slice B1 y.f1.length d1,.int .i64 y.f2,.int .i64 y.f3,.int .i64 y.f4]] w fun e w'=>e = .returned (.bool r) ∧ Below w.heap.size w w'
set_option maxHeartbeats 4000000 in
set_option maxRecDepth 100000 in
theorem procEq_calls (T : S51 → S51 → Option Bool) (hT : SaysP T) (A B : Option Addr) (c d : Nat) (a : List S51) (b : List S51) (r : Bool) (w : World) (ha : Kd.C k51 w A a.length a) (hb : Kd.C k51 w B b.length b) (h : eqL2 T a b = some r) :
  Calls Try.prog 37 #[.slice A a.length c,.slice B b.length d,.func (.func 32) #[] #[]] w fun e w'=>e = .returned (.bool r) ∧ Below w.heap.size w w':=by
 have HT:=ö hT
 have HA:=ö ha
 have HB:=ö hb
 have H:=ö h
 have hla : a.length ≤ 9223372036854775807:=ha.2.1
 have hlb : b.length ≤ 9223372036854775807:=hb.2.1
 have hu:=Try.underlying51
 clear hT ha hb h
 by_cases hn : a.length = b.length
 ·have hnz : ((a.length : Int) != (b.length : Int)) = false:=bne_eq_false_iff_eq.mpr (by omega)
  have h0:=H.out
  unfold eqL2 at h0
  rw [if_pos hn] at h0
  have H0:=ö h0
  have HNE:=ö hn
  clear h0 H hn
  go_enter Try.func37,Try.ntmps37
  go_wp2
  go_loopg [7,17] a.length (fun gg _ p wr=>∃ kk : Nat,kk ≤ a.length ∧ a.length - kk ≤ gg ∧ p = .int .i64 kk ∧ Aside0 (eqM2 T (a.drop kk) (b.drop kk) = some r) ∧ Aside0 (Below w.heap.size w wr))
  case atStart=>exact ⟨0,Nat.zero_le _,by omega,rfl,H0,⟨Below.refl _ w⟩⟩
  case round =>
   obtain ⟨kk,hkk,hg,rfl,HE,HW⟩:=hrel
   clear H0
   by_cases hlt : kk < a.length
   ·have hltz : decide ((kk : Int) < (a.length : Int)) = true:=decide_eq_true (by omega)
    have p1 : 0 ≤ (kk : Int):=by omega
    have q1 : (kk : Int) < (a.length : Int):=by omega
    have q2 : (kk : Int) < (b.length : Int):=by have:=HNE.out;omega
    obtain ⟨ad,A0,c0,A1,c1,e1,f0,f1,f2,f3,f4,hc0,H0,hc1,H1⟩:=at_T51 (Kd.C_below HA.out HW.out) (kk : Int) p1 q1
    obtain ⟨bd,B0,d0,B1,d1,e2,g0,g1,g2,g3,g4,gc0,G0,gc1,G1⟩:=at_T51 (Kd.C_below HB.out HW.out) (kk : Int) p1 q2
    cases e1
    cases e2
    rw [Int.toNat_natCast] at f0 f1 f2 f3 f4 g0 g1 g2 g3 g4
    have he:=HE.out
    rw [show a.drop kk = rd_T51 a (kk : Int) :: a.drop (kk + 1) from by rw [List.drop_eq_getElem_cons hlt];unfold rd_T51;rw [Int.toNat_natCast,List.getD_eq_getElem?_getD,List.getElem?_eq_getElem hlt];rfl,
     show b.drop kk = rd_T51 b (kk : Int) :: b.drop (kk + 1) from by rw [List.drop_eq_getElem_cons (by have:=HNE.out;omega)];unfold rd_T51;rw [Int.toNat_natCast,List.getD_eq_getElem?_getD,List.getElem?_eq_getElem (by have:=HNE.out;omega)];rfl] at he
    clear HE
    obtain ⟨v,hv1,hv2⟩:=Option.bind_eq_some_iff.1 he
    clear he
    generalize rd_T51 a (kk : Int) = x at *
    generalize rd_T51 b (kk : Int) = y at *
    have al : ∀ {p : Addr} {u : Value},wr.cell? p = some u → ∀ o,(wr.alloc o).cell? p = some u:=fun h o=>((below_alloc (Below.refl _ wr) o).cell (World.block_lt_of_cell? wr _ h)).trans h
    have i0:=al g0
    have i1:=al g1
    have i2:=al g2
    have i3:=al g3
    have i4:=al g4
    clear al g0 g1 g2 g3 g4
    have HC:=ö (fun W h0 h1 g0 g1=>HT.out x y A0 c0 A1 c1 B0 d0 B1 d1 v W h0 hc0 h1 hc1 g0 gc0 g1 gc1 hv1)
    have HHx0:=ö H0
    clear H0
    have HHx1:=ö H1
    clear H1
    have HHy0:=ö G0
    clear G0
    have HHy1:=ö G1
    clear G1
    clear hv1
    replace p1:=eq_true p1
    replace q1:=eq_true q1
    replace q2:=eq_true q2
    cases v with
    | false =>
     obtain rfl:=Option.some.inj (show some false = some r by simpa using hv2)
     clear hv2
     go_wp2_with (go_at_call 32;refine (HC.out _ (Kd.C_alloc (Kd.C_alloc HHx0.out _) _) (Kd.C_alloc (Kd.C_alloc HHx1.out _) _) (Kd.C_alloc (Kd.C_alloc HHy0.out _) _) (Kd.C_alloc (Kd.C_alloc HHy1.out _) _)).mono ?_;rintro e w' ⟨rfl,hb'⟩;have n2:=ö (ä (below_alloc (below_alloc HW.out _) _) hb');clear HW HC hb' f0 f1 f2 f3 f4 i0 i1 i2 i3 i4;have HW:=n2;clear n2)
     go_ret
     exact ⟨by first | rfl | (simp;done),(y72_ HW)⟩
    | true =>
     have HN:=ö (show eqM2 T (a.drop (kk + 1)) (b.drop (kk + 1)) = some r by simpa using hv2)
     clear hv2
     go_wp2_with (go_at_call 32;refine (HC.out _ (Kd.C_alloc (Kd.C_alloc HHx0.out _) _) (Kd.C_alloc (Kd.C_alloc HHx1.out _) _) (Kd.C_alloc (Kd.C_alloc HHy0.out _) _) (Kd.C_alloc (Kd.C_alloc HHy1.out _) _)).mono ?_;rintro e w' ⟨rfl,hb'⟩;have n2:=ö (ä (below_alloc (below_alloc HW.out _) _) hb');clear HW HC hb' f0 f1 f2 f3 f4 i0 i1 i2 i3 i4;have HW:=n2;clear n2)
     go_roundg (a.length - (kk + 1))
     case measure=>omega
     case rel=>exact ⟨kk + 1,by omega,by omega,by go_num,HN,⟨(y72_ HW)⟩⟩
   ·have hltz : decide ((kk : Int) < (a.length : Int)) = false:=decide_eq_false (by omega)
    have he:=HE.out
    rw [List.drop_of_length_le (by omega)] at he
    obtain rfl:=Option.some.inj (show some true = some r from he)
    clear he HE
    go_wp2
    go_ret
    exact ⟨by first | rfl | (simp;done),(y72_ HW)⟩
 ·have hnz : ((a.length : Int) != (b.length : Int)) = true:=bne_iff_ne.mpr (by omega)
  have h0:=H.out
  unfold eqL2 at h0
  rw [if_neg hn] at h0
  obtain rfl:=Option.some.inj h0
  clear h0 H
  go_enter Try.func37,Try.ntmps37
  go_wp2
  go_ret
  exact ⟨by first | rfl | (simp;done),(by repeat (first | (with_reducible apply pw_below_drewN) | (with_reducible apply below_drew1) | (with_reducible apply below_alloc) | exact Below.refl _ _))⟩
structure SWld where
 f0 : List S51
 f1 : List Int
 f2 : List Int
 f3 : List (List Int)
 f4 : List S38
def worldV (k : Nat) (x y : SWld) : Option Bool:=(slices_Equal_int_int.f k x.f1 y.f1).bind fun b=>if b = true then (slices_Equal_int_int.f k x.f2 y.f2).bind fun b=>if b = true then (impl_Say.f k x.f4 y.f4).bind fun b=>if b = true then (impl_sameQueues.f k x.f3 y.f3).bind fun b=>if b = true then eqL2 (procV k) x.f0 y.f0 else some false else some false else some false else some false
theorem procs_say (k : Nat) : SaysP (procV k):=fun x y A0 c0 A1 c1 B0 d0 B1 d1 r w h0 hc0 h1 hc1 g0 gc0 g1 gc1 h=>procW k x y A0 c0 A1 c1 B0 d0 B1 d1 r w h0 hc0 h1 hc1 g0 gc0 g1 gc1 h
set_option maxHeartbeats 8000000 in
set_option maxRecDepth 100000 in
theorem worldW (k : Nat) (x : SWld) (y : SWld) (A0 : Option Addr) (c0 : Nat) (A1 : Option Addr) (c1 : Nat) (A2 : Option Addr) (c2 : Nat) (A3 : Option Addr) (c3 : Nat) (A4 : Option Addr) (c4 : Nat) (B0 : Option Addr) (d0 : Nat) (B1 : Option Addr) (d1 : Nat) (B2 : Option Addr) (d2 : Nat) (B3 : Option Addr) (d3 : Nat) (B4 : Option Addr) (d4 : Nat) (r : Bool) (w : World)
  (h0 : Kd.C k51 w A0 x.f0.length x.f0) (hc0 : x.f0.length ≤ c0)
  (h1 : Kd.C (Kd.int .i64) w A1 x.f1.length x.f1) (hc1 : x.f1.length ≤ c1)
  (h2 : Kd.C (Kd.int .i64) w A2 x.f2.length x.f2) (hc2 : x.f2.length ≤ c2)
  (h3 : Kd.C (Kd.slice 3 (Kd.int .i64)) w A3 x.f3.length x.f3) (hc3 : x.f3.length ≤ c3)
  (h4 : Kd.C k38 w A4 x.f4.length x.f4) (hc4 : x.f4.length ≤ c4)
  (g0 : Kd.C k51 w B0 y.f0.length y.f0) (gc0 : y.f0.length ≤ d0)
  (g1 : Kd.C (Kd.int .i64) w B1 y.f1.length y.f1) (gc1 : y.f1.length ≤ d1)
  (g2 : Kd.C (Kd.int .i64) w B2 y.f2.length y.f2) (gc2 : y.f2.length ≤ d2)
  (g3 : Kd.C (Kd.slice 3 (Kd.int .i64)) w B3 y.f3.length y.f3) (gc3 : y.f3.length ≤ d3)
  (g4 : Kd.C k38 w B4 y.f4.length y.f4) (gc4 : y.f4.length ≤ d4)
  (h : worldV k x y = some r) :
  Calls Try.prog 18 #[.agg #[.slice A0 x.f0.length c0,.slice A1 x.f1.length c1,.slice A2 x.f2.length c2,.slice A3 x.f3.length c3,.slice A4 x.f4.length c4],.agg #[.slice B0 y.f0.length d0,.slice B1 y.f1.length d1,.slice B2 y.f2.length d2,.slice B3 y.f3.length d3,.slice B4 y.f4.length d4]] w fun e w'=>e = .returned (.bool r) ∧ Below w.heap.size w w':=by
 unfold worldV at h
 have hu:=Try.underlying33
 have b1:=blk_alloc (blk_new w (.cells #[.slice A0 x.f0.length c0,.slice A1 x.f1.length c1,.slice A2 x.f2.length c2,.slice A3 x.f3.length c3,.slice A4 x.f4.length c4] 33)) (.cells #[.slice B0 y.f0.length d0,.slice B1 y.f1.length d1,.slice B2 y.f2.length d2,.slice B3 y.f3.length d3,.slice B4 y.f4.length d4] 33)
 have b2:=blk_new (w.alloc (.cells #[.slice A0 x.f0.length c0,.slice A1 x.f1.length c1,.slice A2 x.f2.length c2,.slice A3 x.f3.length c3,.slice A4 x.f4.length c4] 33)) (.cells #[.slice B0 y.f0.length d0,.slice B1 y.f1.length d1,.slice B2 y.f2.length d2,.slice B3 y.f3.length d3,.slice B4 y.f4.length d4] 33)
 rw [size_alloc2] at b2
 have HX:=ö b1
 have HY:=ö b2
 have HB:=ö (below_alloc (below_alloc (Below.refl _ w) (.cells #[.slice A0 x.f0.length c0,.slice A1 x.f1.length c1,.slice A2 x.f2.length c2,.slice A3 x.f3.length c3,.slice A4 x.f4.length c4] 33)) (.cells #[.slice B0 y.f0.length d0,.slice B1 y.f1.length d1,.slice B2 y.f2.length d2,.slice B3 y.f3.length d3,.slice B4 y.f4.length d4] 33))
 have HH0:=ö h0
 have HH1:=ö h1
 have HH2:=ö h2
 have HH3:=ö h3
 have HH4:=ö h4
 have GG0:=ö g0
 have GG1:=ö g1
 have GG2:=ö g2
 have GG3:=ö g3
 have GG4:=ö g4
 clear b1 b2 h0 h1 h2 h3 h4 g0 g1 g2 g3 g4
 obtain ⟨b0,hv,h⟩:=Option.bind_eq_some_iff.1 h
 have HC0:=ö (fun W hx hy=>calls_dr (slices_Equal_int_int.calls k A1 c1 x.f1 B1 d1 y.f1 b0 W hx hc1 hy gc1 hv))
 clear hv
 cases b0 with
 | false =>
  obtain rfl:=Option.some.inj (show some false = some r by simpa using h)
  clear h
  go_enter Try.func18,Try.ntmps18
  go_wp2_with (first
   | (go_at_call 33;refine (HC0.out _ (Kd.C_below HH1.out (y72_ HB)) (Kd.C_below GG1.out (y72_ HB))).mono ?_;rintro e w' ⟨rfl,hd⟩;have hb:=hd;have n1:=ö (ä (y72_ HB) hb);have n2:=ö (blk_below (y73_ HX) hb);have n3:=ö (blk_below (y73_ HY) hb);clear HC0 HB HX HY hb hd ; have HB:=n1;have HX:=n2;have HY:=n3;clear n1 n2 n3;obtain ⟨u0,u1,u2,u3,u4⟩:=cells5_ HX;obtain ⟨v0,v1,v2,v3,v4⟩:=cells5_ HY))
  go_ret
  exact ⟨y74_,(y72_ HB)⟩
 | true =>
  rw [if_pos rfl] at h
  obtain ⟨b1,hv,h⟩:=Option.bind_eq_some_iff.1 h
  have HC1:=ö (fun W hx hy=>calls_dr (slices_Equal_int_int.calls k A2 c2 x.f2 B2 d2 y.f2 b1 W hx hc2 hy gc2 hv))
  clear hv
  cases b1 with
  | false =>
   obtain rfl:=Option.some.inj (show some false = some r by simpa using h)
   clear h
   go_enter Try.func18,Try.ntmps18
   go_wp2_with (first
    | (go_at_call 33;refine (HC0.out _ (Kd.C_below HH1.out (y72_ HB)) (Kd.C_below GG1.out (y72_ HB))).mono ?_;rintro e w' ⟨rfl,hd⟩;have hb:=hd;have n1:=ö (ä (y72_ HB) hb);have n2:=ö (blk_below (y73_ HX) hb);have n3:=ö (blk_below (y73_ HY) hb);clear HC0 HB HX HY hb hd ; have HB:=n1;have HX:=n2;have HY:=n3;clear n1 n2 n3;obtain ⟨u0,u1,u2,u3,u4⟩:=cells5_ HX;obtain ⟨v0,v1,v2,v3,v4⟩:=cells5_ HY)
    | (go_at_call 33;refine (HC1.out _ (Kd.C_below HH2.out (y72_ HB)) (Kd.C_below GG2.out (y72_ HB))).mono ?_;rintro e w' ⟨rfl,hd⟩;have hb:=hd;have n1:=ö (ä (y72_ HB) hb);have n2:=ö (blk_below (y73_ HX) hb);have n3:=ö (blk_below (y73_ HY) hb);clear HC1 HB HX HY hb hd u0 u1 u2 u3 u4 v0 v1 v2 v3 v4;have HB:=n1;have HX:=n2;have HY:=n3;clear n1 n2 n3;obtain ⟨u0,u1,u2,u3,u4⟩:=cells5_ HX;obtain ⟨v0,v1,v2,v3,v4⟩:=cells5_ HY))
   go_ret
   exact ⟨y74_,(y72_ HB)⟩
  | true =>
   rw [if_pos rfl] at h
   obtain ⟨b2,hv,h⟩:=Option.bind_eq_some_iff.1 h
   have HC2:=ö (fun W hx hy=>calls_dr (impl_Say.calls k A4 c4 x.f4 B4 d4 y.f4 b2 W hx hc4 hy gc4 hv))
   clear hv
   cases b2 with
   | false =>
    obtain rfl:=Option.some.inj (show some false = some r by simpa using h)
    clear h
    go_enter Try.func18,Try.ntmps18
    go_wp2_with (first
     | (go_at_call 33;refine (HC0.out _ (Kd.C_below HH1.out (y72_ HB)) (Kd.C_below GG1.out (y72_ HB))).mono ?_;rintro e w' ⟨rfl,hd⟩;have hb:=hd;have n1:=ö (ä (y72_ HB) hb);have n2:=ö (blk_below (y73_ HX) hb);have n3:=ö (blk_below (y73_ HY) hb);clear HC0 HB HX HY hb hd ; have HB:=n1;have HX:=n2;have HY:=n3;clear n1 n2 n3;obtain ⟨u0,u1,u2,u3,u4⟩:=cells5_ HX;obtain ⟨v0,v1,v2,v3,v4⟩:=cells5_ HY)
     | (go_at_call 33;refine (HC1.out _ (Kd.C_below HH2.out (y72_ HB)) (Kd.C_below GG2.out (y72_ HB))).mono ?_;rintro e w' ⟨rfl,hd⟩;have hb:=hd;have n1:=ö (ä (y72_ HB) hb);have n2:=ö (blk_below (y73_ HX) hb);have n3:=ö (blk_below (y73_ HY) hb);clear HC1 HB HX HY hb hd u0 u1 u2 u3 u4 v0 v1 v2 v3 v4;have HB:=n1;have HX:=n2;have HY:=n3;clear n1 n2 n3;obtain ⟨u0,u1,u2,u3,u4⟩:=cells5_ HX;obtain ⟨v0,v1,v2,v3,v4⟩:=cells5_ HY)
     | (go_at_call 35;refine (HC2.out _ (Kd.C_below HH4.out (y72_ HB)) (Kd.C_below GG4.out (y72_ HB))).mono ?_;rintro e w' ⟨rfl,hd⟩;have hb:=hd;have n1:=ö (ä (y72_ HB) hb);have n2:=ö (blk_below (y73_ HX) hb);have n3:=ö (blk_below (y73_ HY) hb);clear HC2 HB HX HY hb hd u0 u1 u2 u3 u4 v0 v1 v2 v3 v4;have HB:=n1;have HX:=n2;have HY:=n3;clear n1 n2 n3;obtain ⟨u0,u1,u2,u3,u4⟩:=cells5_ HX;obtain ⟨v0,v1,v2,v3,v4⟩:=cells5_ HY))
    go_ret
    exact ⟨y74_,(y72_ HB)⟩
   | true =>
    rw [if_pos rfl] at h
    obtain ⟨b3,hv,h⟩:=Option.bind_eq_some_iff.1 h
    have HC3:=ö (fun W hx hy=>(impl_sameQueues.calls k A3 c3 x.f3 B3 d3 y.f3 b3 W hx hc3 hy gc3 hv))
    clear hv
    cases b3 with
    | false =>
     obtain rfl:=Option.some.inj (show some false = some r by simpa using h)
     clear h
     go_enter Try.func18,Try.ntmps18
     go_wp2_with (first
      | (go_at_call 33;refine (HC0.out _ (Kd.C_below HH1.out (y72_ HB)) (Kd.C_below GG1.out (y72_ HB))).mono ?_;rintro e w' ⟨rfl,hd⟩;have hb:=hd;have n1:=ö (ä (y72_ HB) hb);have n2:=ö (blk_below (y73_ HX) hb);have n3:=ö (blk_below (y73_ HY) hb);clear HC0 HB HX HY hb hd ; have HB:=n1;have HX:=n2;have HY:=n3;clear n1 n2 n3;obtain ⟨u0,u1,u2,u3,u4⟩:=cells5_ HX;obtain ⟨v0,v1,v2,v3,v4⟩:=cells5_ HY)
      | (go_at_call 33;refine (HC1.out _ (Kd.C_below HH2.out (y72_ HB)) (Kd.C_below GG2.out (y72_ HB))).mono ?_;rintro e w' ⟨rfl,hd⟩;have hb:=hd;have n1:=ö (ä (y72_ HB) hb);have n2:=ö (blk_below (y73_ HX) hb);have n3:=ö (blk_below (y73_ HY) hb);clear HC1 HB HX HY hb hd u0 u1 u2 u3 u4 v0 v1 v2 v3 v4;have HB:=n1;have HX:=n2;have HY:=n3;clear n1 n2 n3;obtain ⟨u0,u1,u2,u3,u4⟩:=cells5_ HX;obtain ⟨v0,v1,v2,v3,v4⟩:=cells5_ HY)
      | (go_at_call 35;refine (HC2.out _ (Kd.C_below HH4.out (y72_ HB)) (Kd.C_below GG4.out (y72_ HB))).mono ?_;rintro e w' ⟨rfl,hd⟩;have hb:=hd;have n1:=ö (ä (y72_ HB) hb);have n2:=ö (blk_below (y73_ HX) hb);have n3:=ö (blk_below (y73_ HY) hb);clear HC2 HB HX HY hb hd u0 u1 u2 u3 u4 v0 v1 v2 v3 v4;have HB:=n1;have HX:=n2;have HY:=n3;clear n1 n2 n3;obtain ⟨u0,u1,u2,u3,u4⟩:=cells5_ HX;obtain ⟨v0,v1,v2,v3,v4⟩:=cells5_ HY)
      | (go_at_call 36;refine (HC3.out _ (Kd.C_below HH3.out (y72_ HB)) (Kd.C_below GG3.out (y72_ HB))).mono ?_;rintro e w' ⟨rfl,hd⟩;have hb:=hd;have n1:=ö (ä (y72_ HB) hb);have n2:=ö (blk_below (y73_ HX) hb);have n3:=ö (blk_below (y73_ HY) hb);clear HC3 HB HX HY hb hd u0 u1 u2 u3 u4 v0 v1 v2 v3 v4;have HB:=n1;have HX:=n2;have HY:=n3;clear n1 n2 n3;obtain ⟨u0,u1,u2,u3,u4⟩:=cells5_ HX;obtain ⟨v0,v1,v2,v3,v4⟩:=cells5_ HY))
     go_ret
     exact ⟨y74_,(y72_ HB)⟩
    | true =>
     rw [if_pos rfl] at h
     have hv:=h
     clear h
     have HC4:=ö (fun W hx hy=>(procEq_calls (procV k) (procs_say k) A0 B0 c0 d0 x.f0 y.f0 r W hx hy hv))
     clear hv
     go_enter Try.func18,Try.ntmps18
     go_wp2_with (first
      | (go_at_call 33;refine (HC0.out _ (Kd.C_below HH1.out (y72_ HB)) (Kd.C_below GG1.out (y72_ HB))).mono ?_;rintro e w' ⟨rfl,hd⟩;have hb:=hd;have n1:=ö (ä (y72_ HB) hb);have n2:=ö (blk_below (y73_ HX) hb);have n3:=ö (blk_below (y73_ HY) hb);clear HC0 HB HX HY hb hd ; have HB:=n1;have HX:=n2;have HY:=n3;clear n1 n2 n3;obtain ⟨u0,u1,u2,u3,u4⟩:=cells5_ HX;obtain ⟨v0,v1,v2,v3,v4⟩:=cells5_ HY)
      | (go_at_call 33;refine (HC1.out _ (Kd.C_below HH2.out (y72_ HB)) (Kd.C_below GG2.out (y72_ HB))).mono ?_;rintro e w' ⟨rfl,hd⟩;have hb:=hd;have n1:=ö (ä (y72_ HB) hb);have n2:=ö (blk_below (y73_ HX) hb);have n3:=ö (blk_below (y73_ HY) hb);clear HC1 HB HX HY hb hd u0 u1 u2 u3 u4 v0 v1 v2 v3 v4;have HB:=n1;have HX:=n2;have HY:=n3;clear n1 n2 n3;obtain ⟨u0,u1,u2,u3,u4⟩:=cells5_ HX;obtain ⟨v0,v1,v2,v3,v4⟩:=cells5_ HY)
      | (go_at_call 35;refine (HC2.out _ (Kd.C_below HH4.out (y72_ HB)) (Kd.C_below GG4.out (y72_ HB))).mono ?_;rintro e w' ⟨rfl,hd⟩;have hb:=hd;have n1:=ö (ä (y72_ HB) hb);have n2:=ö (blk_below (y73_ HX) hb);have n3:=ö (blk_below (y73_ HY) hb);clear HC2 HB HX HY hb hd u0 u1 u2 u3 u4 v0 v1 v2 v3 v4;have HB:=n1;have HX:=n2;have HY:=n3;clear n1 n2 n3;obtain ⟨u0,u1,u2,u3,u4⟩:=cells5_ HX;obtain ⟨v0,v1,v2,v3,v4⟩:=cells5_ HY)
      | (go_at_call 36;refine (HC3.out _ (Kd.C_below HH3.out (y72_ HB)) (Kd.C_below GG3.out (y72_ HB))).mono ?_;rintro e w' ⟨rfl,hd⟩;have hb:=hd;have n1:=ö (ä (y72_ HB) hb);have n2:=ö (blk_below (y73_ HX) hb);have n3:=ö (blk_below (y73_ HY) hb);clear HC3 HB HX HY hb hd u0 u1 u2 u3 u4 v0 v1 v2 v3 v4;have HB:=n1;have HX:=n2;have HY:=n3;clear n1 n2 n3;obtain ⟨u0,u1,u2,u3,u4⟩:=cells5_ HX;obtain ⟨v0,v1,v2,v3,v4⟩:=cells5_ HY)
      | (go_at_call 37;refine (HC4.out _ (Kd.C_below HH0.out (y72_ HB)) (Kd.C_below GG0.out (y72_ HB))).mono ?_;rintro e w' ⟨rfl,hd⟩;have hb:=hd;have n1:=ö (ä (y72_ HB) hb);have n2:=ö (blk_below (y73_ HX) hb);have n3:=ö (blk_below (y73_ HY) hb);clear HC4 HB HX HY hb hd u0 u1 u2 u3 u4 v0 v1 v2 v3 v4;have HB:=n1;have HX:=n2;have HY:=n3;clear n1 n2 n3;obtain ⟨u0,u1,u2,u3,u4⟩:=cells5_ HX;obtain ⟨v0,v1,v2,v3,v4⟩:=cells5_ HY))
     go_ret
     exact ⟨y74_,(y72_ HB)⟩
def impl_sameWorld.f (k : Nat) (l0_0 : List S51) (l0_1 l0_2 : List Int) (l0_3 : List (List Int)) (l0_4 : List S38) (l1_0 : List S51) (l1_1 l1_2 : List Int) (l1_3 : List (List Int)) (l1_4 : List S38) : Option Bool:=worldV k ⟨l0_0,l0_1,l0_2,l0_3,l0_4⟩ ⟨l1_0,l1_1,l1_2,l1_3,l1_4⟩
theorem impl_sameWorld.calls (k : Nat) (A0_0 : Option Addr) (c0_0 : Nat) (l0_0 : List S51) (A0_1 : Option Addr) (c0_1 : Nat) (l0_1 : List Int) (A0_2 : Option Addr) (c0_2 : Nat) (l0_2 : List Int) (A0_3 : Option Addr) (c0_3 : Nat) (l0_3 : List (List Int)) (A0_4 : Option Addr) (c0_4 : Nat) (l0_4 : List S38) (A1_0 : Option Addr) (c1_0 : Nat) (l1_0 : List S51) (A1_1 : Option Addr) (c1_1 : Nat) (l1_1 : List Int) (A1_2 : Option Addr) (c1_2 : Nat) (l1_2 : List Int) (A1_3 : Option Addr) (c1_3 : Nat) (l1_3 : List (List Int)) (A1_4 : Option Addr) (c1_4 : Nat) (l1_4 : List S38) (r : Bool) (w : World) (hr0_0 : Kd.C k51 w A0_0 l0_0.length l0_0) (hc0_0 : l0_0.length ≤ c0_0) (hr0_1 : Kd.C (Kd.int .i64) w A0_1 l0_1.length l0_1) (hc0_1 : l0_1.length ≤ c0_1) (hr0_2 : Kd.C (Kd.int .i64) w A0_2 l0_2.length l0_2) (hc0_2 : l0_2.length ≤ c0_2) (hr0_3 : Kd.C (Kd.slice 3 (Kd.int .i64)) w A0_3 l0_3.length l0_3) (hc0_3 : l0_3.length ≤ c0_3) (hr0_4 : Kd.C k38 w A0_4 l0_4.length l0_4) (hc0_4 : l0_4.length ≤ c0_4) (hr1_0 : Kd.C k51 w A1_0 l1_0.length l1_0) (hc1_0 : l1_0.length ≤ c1_0) (hr1_1 : Kd.C (Kd.int .i64) w A1_1 l1_1.length l1_1) (hc1_1 : l1_1.length ≤ c1_1) (hr1_2 : Kd.C (Kd.int .i64) w A1_2 l1_2.length l1_2) (hc1_2 : l1_2.length ≤ c1_2) (hr1_3 : Kd.C (Kd.slice 3 (Kd.int .i64)) w A1_3 l1_3.length l1_3) (hc1_3 : l1_3.length ≤ c1_3) (hr1_4 : Kd.C k38 w A1_4 l1_4.length l1_4) (hc1_4 : l1_4.length ≤ c1_4) (h : impl_sameWorld.f k l0_0 l0_1 l0_2 l0_3 l0_4 l1_0 l1_1 l1_2 l1_3 l1_4 = some r) :
  Calls Try.prog 18 #[.agg #[.slice A0_0 l0_0.length c0_0,.slice A0_1 l0_1.length c0_1,.slice A0_2 l0_2.length c0_2,.slice A0_3 l0_3.length c0_3,.slice A0_4 l0_4.length c0_4],.agg #[.slice A1_0 l1_0.length c1_0,.slice A1_1 l1_1.length c1_1,.slice A1_2 l1_2.length c1_2,.slice A1_3 l1_3.length c1_3,.slice A1_4 l1_4.length c1_4]] w fun e w'=>e = .returned (.bool r) ∧ Below w.heap.size w w' :=
 worldW k ⟨l0_0,l0_1,l0_2,l0_3,l0_4⟩ ⟨l1_0,l1_1,l1_2,l1_3,l1_4⟩ A0_0 c0_0 A0_1 c0_1 A0_2 c0_2 A0_3 c0_3 A0_4 c0_4 A1_0 c1_0 A1_1 c1_1 A1_2 c1_2 A1_3 c1_3 A1_4 c1_4 r w hr0_0 hc0_0 hr0_1 hc0_1 hr0_2 hc0_2 hr0_3 hc0_3 hr0_4 hc0_4 hr1_0 hc1_0 hr1_1 hc1_1 hr1_2 hc1_2 hr1_3 hc1_3 hr1_4 hc1_4 h
end Go.Proofs.Ytfbocgagfodgnaa.P

namespace Go.Proofs.Ytfbocgagfodgnaa.P
open Go.RowKit Go.Proofs.YtfbocgagfodgnaaW.PrintWords Go.Proofs.YtfbocgagfodgnaaW.PrintLast Go.Proofs.YtfbocgagfodgnaaW.PrintMore
open Go.Proofs.YtfbocgagfodgnaaW.PrintWords renaming Aside0.mk → O
attribute [local go_sem] max2_int min2_int max_two min_two max_three min_three max_four min_four
set_option linter.unusedVariables false
set_option linter.unusedSimpArgs false
def impl_WorldSame.f (k : Nat) (l0_0 : List (S51)) (l0_1 : List Int) (l0_2 : List Int) (l0_3 : List (List Int)) (l0_4 : List (S38)) (l1_0 : List (S51)) (l1_1 : List Int) (l1_2 : List Int) (l1_3 : List (List Int)) (l1_4 : List (S38)) : Option (Bool):=(impl_sameWorld.f k l0_0 l0_1 l0_2 l0_3 l0_4 l1_0 l1_1 l1_2 l1_3 l1_4).bind fun t472=>(some t472)
private theorem y15_ {A B Z : Prop} (a0 : Aside0 A) (a1 : Aside0 B) (h : A → B → Z:=by intro h0_ h1_;repeat (first | exact (Kd.C_below h0_ h1_) | (with_reducible refine Kd.C_alloc ?_ _) | (with_reducible refine Kd.C_drewN ?_ _) | (with_reducible refine Kd.C_drew ?_))) : Z:=h a0.out a1.out
set_option maxHeartbeats 8000000 in
set_option maxRecDepth 100000 in
theorem impl_WorldSame.calls (k : Nat) (A0_0 : Option Addr) (c0_0 : Nat) (l0_0 : List (S51)) (A0_1 : Option Addr) (c0_1 : Nat) (l0_1 : List Int) (A0_2 : Option Addr) (c0_2 : Nat) (l0_2 : List Int) (A0_3 : Option Addr) (c0_3 : Nat) (l0_3 : List (List Int)) (A0_4 : Option Addr) (c0_4 : Nat) (l0_4 : List (S38)) (A1_0 : Option Addr) (c1_0 : Nat) (l1_0 : List (S51)) (A1_1 : Option Addr) (c1_1 : Nat) (l1_1 : List Int) (A1_2 : Option Addr) (c1_2 : Nat) (l1_2 : List Int) (A1_3 : Option Addr) (c1_3 : Nat) (l1_3 : List (List Int)) (A1_4 : Option Addr) (c1_4 : Nat) (l1_4 : List (S38)) (r : Bool) (w : World) (hr0_0 : Kd.C k51 w A0_0 l0_0.length l0_0) (hc0_0 : l0_0.length ≤ c0_0) (hr0_1 : Kd.C (Kd.int .i64) w A0_1 l0_1.length l0_1) (hc0_1 : l0_1.length ≤ c0_1) (hr0_2 : Kd.C (Kd.int .i64) w A0_2 l0_2.length l0_2) (hc0_2 : l0_2.length ≤ c0_2) (hr0_3 : Kd.C (Kd.slice 3 (Kd.int .i64)) w A0_3 l0_3.length l0_3) (hc0_3 : l0_3.length ≤ c0_3) (hr0_4 : Kd.C k38 w A0_4 l0_4.length l0_4) (hc0_4 : l0_4.length ≤ c0_4) (hr1_0 : Kd.C k51 w A1_0 l1_0.length l1_0) (hc1_0 : l1_0.length ≤ c1_0) (hr1_1 : Kd.C (Kd.int .i64) w A1_1 l1_1.length l1_1) (hc1_1 : l1_1.length ≤ c1_1) (hr1_2 : Kd.C (Kd.int .i64) w A1_2 l1_2.length l1_2) (hc1_2 : l1_2.length ≤ c1_2) (hr1_3 : Kd.C (Kd.slice 3 (Kd.int .i64)) w A1_3 l1_3.length l1_3) (hc1_3 : l1_3.length ≤ c1_3) (hr1_4 : Kd.C k38 w A1_4 l1_4.length l1_4) (hc1_4 : l1_4.length ≤ c1_4) (h : impl_WorldSame.f k l0_0 l0_1 l0_2 l0_3 l0_4 l1_0 l1_1 l1_2 l1_3 l1_4 = some r) :
  Calls Try.prog 10 #[.agg #[.slice A0_0 l0_0.length c0_0,.slice A0_1 l0_1.length c0_1,.slice A0_2 l0_2.length c0_2,.slice A0_3 l0_3.length c0_3,.slice A0_4 l0_4.length c0_4],.agg #[.slice A1_0 l1_0.length c1_0,.slice A1_1 l1_1.length c1_1,.slice A1_2 l1_2.length c1_2,.slice A1_3 l1_3.length c1_3,.slice A1_4 l1_4.length c1_4]] w fun e w'=>e = .returned (.bool r) ∧ Below w.heap.size w w':=by
 have hu33:=Try.underlying33;have HR0_0:=O hr0_0;have HC0_0:=O hc0_0;clear hr0_0 hc0_0;have HR0_1:=O hr0_1;have HC0_1:=O hc0_1;clear hr0_1 hc0_1;have HR0_2:=O hr0_2;have HC0_2:=O hc0_2;clear hr0_2 hc0_2;have HR0_3:=O hr0_3;have HC0_3:=O hc0_3;clear hr0_3 hc0_3;have HR0_4:=O hr0_4;have HC0_4:=O hc0_4;clear hr0_4 hc0_4;have HR1_0:=O hr1_0;have HC1_0:=O hc1_0;clear hr1_0 hc1_0;have HR1_1:=O hr1_1;have HC1_1:=O hc1_1;clear hr1_1 hc1_1;have HR1_2:=O hr1_2;have HC1_2:=O hc1_2;clear hr1_2 hc1_2;have HR1_3:=O hr1_3;have HC1_3:=O hc1_3;clear hr1_3 hc1_3;have HR1_4:=O hr1_4;have HC1_4:=O hc1_4;clear hr1_4 hc1_4;have HB:=O (Below.refl w.heap.size w);have H : ((impl_sameWorld.f k l0_0 l0_1 l0_2 l0_3 l0_4 l1_0 l1_1 l1_2 l1_3 l1_4).bind fun t472=>(some t472)) = some r:=h;clear h;obtain ⟨t472,A3,H⟩:=bnd H;obtain rfl:=Option.some.inj H;go_enter Try.func10,Try.ntmps10
 go_wp2_with (first | ((with_reducible refine gate_dst (N:=2) rfl ?_);refine box_event ?hg (N:=2) ?hd (cs:=#[.slice A0_0 l0_0.length c0_0,.slice A0_1 l0_1.length c0_1,.slice A0_2 l0_2.length c0_2,.slice A0_3 l0_3.length c0_3,.slice A0_4 l0_4.length c0_4]) (t:=33) ?hr ?_;(case hd=>rfl);(case hg=>rfl);(case hr=>first | (go_simp;done) | (go_simp;rfl));intro gb470 hg w4 hbox hb;have n0_:=bxA hb hg hbox (q0_ HB);clear HB;obtain ⟨HB,BK470,GW470,GE470⟩:=n0_;clear hb hbox hg) | ((with_reducible refine gate_dst (N:=3) rfl ?_);refine box_event ?hg (N:=3) ?hd (cs:=#[.slice A1_0 l1_0.length c1_0,.slice A1_1 l1_1.length c1_1,.slice A1_2 l1_2.length c1_2,.slice A1_3 l1_3.length c1_3,.slice A1_4 l1_4.length c1_4]) (t:=33) ?hr ?_;(case hd=>rfl);(case hg=>rfl);(case hr=>first | (go_simp;done) | (go_simp;rfl));intro gb471 hg w5 hbox hb;have n0_:=bxB (b:=gb470) (.cells #[.slice A0_0 l0_0.length c0_0,.slice A0_1 l0_1.length c0_1,.slice A0_2 l0_2.length c0_2,.slice A0_3 l0_3.length c0_3,.slice A0_4 l0_4.length c0_4] 33 (0,0)) hb hg hbox (q10_ HB GE470) (q6_ BK470);clear BK470 HB;obtain ⟨BK470,HB,BK471,GW471,GE471,NB470_471,NB471_470⟩:=n0_;clear hb hbox hg;have hnb6:=NB470_471.out;have hnc6:=NB471_470.out;obtain ⟨hcz7_0,hcz7_1,hcz7_2,hcz7_3,hcz7_4,hfz7_0,hfz7_1,hfz7_2,hfz7_3,hfz7_4⟩:=bz5_ BK470;obtain ⟨hcz8_0,hcz8_1,hcz8_2,hcz8_3,hcz8_4,hfz8_0,hfz8_1,hfz8_2,hfz8_3,hfz8_4⟩:=bz5_ BK471) | ((with_reducible refine gate_callee (f:=18) rfl ?_);refine goesM_ (some 7) Try.func18 #[.agg #[.slice A0_0 l0_0.length c0_0,.slice A0_1 l0_1.length c0_1,.slice A0_2 l0_2.length c0_2,.slice A0_3 l0_3.length c0_3,.slice A0_4 l0_4.length c0_4],.agg #[.slice A1_0 l1_0.length c1_0,.slice A1_1 l1_1.length c1_1,.slice A1_2 l1_2.length c1_2,.slice A1_3 l1_3.length c1_3,.slice A1_4 l1_4.length c1_4]] ?_;(with_reducible refine (impl_sameWorld.calls k _ _ l0_0 _ _ l0_1 _ _ l0_2 _ _ l0_3 _ _ l0_4 _ _ l1_0 _ _ l1_1 _ _ l1_2 _ _ l1_3 _ _ l1_4 t472 _ ?side1 ?side2 ?side3 ?side4 ?side5 ?side6 ?side7 ?side8 ?side9 ?side10 ?side11 ?side12 ?side13 ?side14 ?side15 ?side16 ?side17 ?side18 ?side19 ?side20 A3.out).mono ?_);(case side1=>exact y15_ HR0_0 HB);(case side2=>exact HC0_0.out);(case side3=>exact y15_ HR0_1 HB);(case side4=>exact HC0_1.out);(case side5=>exact y15_ HR0_2 HB);(case side6=>exact HC0_2.out);(case side7=>exact y15_ HR0_3 HB);(case side8=>exact HC0_3.out);(case side9=>exact y15_ HR0_4 HB);(case side10=>exact HC0_4.out);(case side11=>exact y15_ HR1_0 HB);(case side12=>exact HC1_0.out);(case side13=>exact y15_ HR1_1 HB);(case side14=>exact HC1_1.out);(case side15=>exact y15_ HR1_2 HB);(case side16=>exact HC1_2.out);(case side17=>exact y15_ HR1_3 HB);(case side18=>exact HC1_3.out);(case side19=>exact y15_ HR1_4 HB);(case side20=>exact HC1_4.out);rintro e w9 ⟨rfl,hb⟩;refine ⟨_,rfl,?_⟩;have n0_:=ap3 (blk_below (g:=gb470) (o:=.cells #[.slice A0_0 l0_0.length c0_0,.slice A0_1 l0_1.length c0_1,.slice A0_2 l0_2.length c0_2,.slice A0_3 l0_3.length c0_3,.slice A0_4 l0_4.length c0_4] 33 (0,0)) (q6_ BK470) hb) (blk_below (g:=gb471) (o:=.cells #[.slice A1_0 l1_0.length c1_0,.slice A1_1 l1_1.length c1_1,.slice A1_2 l1_2.length c1_2,.slice A1_3 l1_3.length c1_3,.slice A1_4 l1_4.length c1_4] 33 (0,0)) (q6_ BK471) hb) (below_step (q13_ HB GE470 GE471) hb);clear BK470 BK471 HB;obtain ⟨BK470,BK471,HB⟩:=n0_;(try clear hb)))
 go_ret
 exact ⟨by first | rfl | (simp [errW_none,errW_some] <;> rfl) | (simp [*,errW_none,errW_some] <;> rfl),by repeat (first | (with_reducible first | exact HB.out | apply below_alloc | apply pw_below_drewN | apply below_drew1 | refine below_set ?_ GE470.out | refine below_set ?_ GE471.out) | exact HB.out)⟩
end Go.Proofs.Ytfbocgagfodgnaa.P
