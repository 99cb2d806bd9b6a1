/- Parts of the proof of FnExactCpuTwin: plain Lean functions of Go functions, and that the calls come to what they say; no condition beyond those that each theorem names. -/
import Derived.Test.YthbflhimmmfonaaZFnExactCpuTwin4
import Derived.Maps.Own
import Derived.Maps.OwnOps
import Derived.Deep.RegionHeld3
import Derived.Deep.DrawnRows
import Derived.Deep.DeepCutAuto
namespace Go.Proofs.Ythbflhimmmfonaa.P
open Go.RowKit Go.Proofs.YthbflhimmmfonaaW.PrintWords Go.Proofs.YthbflhimmmfonaaW.PrintLast Go.Proofs.YthbflhimmmfonaaW.PrintMore
attribute [local go_sem] max2_int min2_int max_two min_two max_three min_three max_four min_four
set_option linter.unusedVariables false
set_option linter.unusedSimpArgs false
theorem size_alloc2 (w : World) (o : Obj) : (w.alloc o).heap.size = w.heap.size + 1:=by
  show (w.heap.push o).size = _
  simp
def eqM {α : Type} (T : α → α → Option Bool) : List α → List α → Option Bool
  | [],_=>some true
  | x :: t,y :: u=>(T x y).bind fun b=>if b = true then eqM T t u else some false
  | _ :: _,[]=>none
def eqL {α : Type} (T : α → α → Option Bool) (a b : List α) : Option Bool:=if a.length = b.length then eqM T a b else some false
def sameH (L : List S104 → List S104 → Option Bool) (x y : S104) : Option Bool :=
  if x.f0 = y.f0 then if x.f1 = y.f1 then if x.f2 = y.f2 then if x.f3 = y.f3 then (L x.f4 y.f4).bind fun b=>if b = true then L x.f5 y.f5 else some false else some false else some false else some false else some false
def sameK : Nat → List S104 → List S104 → Option Bool
  | 0=>fun _ _=>none
  | k + 1=>fun a b=>eqL (sameH (sameK k)) a b
def SaysQ (L : List S104 → List S104 → Option Bool) : Prop:=∀ (A B : Option Addr) (c d : Nat) (a b : List S104) (r : Bool) (w : World),Kd.C k104 w A a.length a → a.length ≤ c → Kd.C k104 w B b.length b → b.length ≤ d → L a b = some r →
  Calls Try.prog 95 #[.slice A a.length c,.slice B b.length d] w fun e w'=>e = .returned (.bool r) ∧ Below w.heap.size w w'
def SaysE (T : S104 → S104 → Option Bool) : Prop:=∀ (x y : S104) (A4 : Option Addr) (c4 : Nat) (A5 : Option Addr) (c5 : Nat) (B4 : Option Addr) (d4 : Nat) (B5 : Option Addr) (d5 : Nat) (r : Bool) (w : World),
    Kd.C k104 w A4 x.f4.length x.f4 → x.f4.length ≤ c4 → Kd.C k104 w A5 x.f5.length x.f5 → x.f5.length ≤ c5 → Kd.C k104 w B4 y.f4.length y.f4 → y.f4.length ≤ d4 → Kd.C k104 w B5 y.f5.length y.f5 → y.f5.length ≤ d5 → T x y = some r →
    Calls Try.prog 112 #[.agg #[.int .i64 x.f0,.int .i64 x.f1,.int .i64 x.f2,.int .i64 x.f3,.slice A4 x.f4.length c4,.slice A5 x.f5.length c5],.agg #[.int .i64 y.f0,.int .i64 y.f1,.int .i64 y.f2,.int .i64 y.f3,.slice B4 y.f4.length d4,.slice B5 y.f5.length d5]] w fun e w'=>e = .returned (.bool r) ∧ Below w.heap.size w w'
def impl_sameStmts.f (k : Nat) (l0 l1 : List S104) : Option Bool:=sameK k l0 l1
def eqM2 {α β : Type} (T : α → β → Option Bool) : List α → List β → Option Bool
  | [],_=>some true
  | x :: t,y :: u=>(T x y).bind fun b=>if b = true then eqM2 T t u else some false
  | _ :: _,[]=>none
def eqL2 {α β : Type} (T : α → β → Option Bool) (a : List α) (b : List β) : Option Bool:=if a.length = b.length then eqM2 T a b else some false
theorem drawn_below {w w' : World} (h : Drawn0 w w') : Below w.heap.size w w':=by
  obtain ⟨n,rfl⟩:=h
  exact pw_below_drewN (Below.refl _ _) n
def SaysRow (T : List Int → List Int → Option Bool) : Prop:=∀ (x y : List Int) (A0 : Option Addr) (c0 : Nat) (B0 : Option Addr) (d0 : Nat) (r : Bool) (w : World),
    Kd.C (Kd.int .i64) w A0 x.length x → x.length ≤ c0 → Kd.C (Kd.int .i64) w B0 y.length y → y.length ≤ d0 → T x y = some r →
    Calls Try.prog 46 #[.slice A0 x.length c0,.slice B0 y.length d0] w fun e w'=>e = .returned (.bool r) ∧ Below w.heap.size w w'
set_option maxHeartbeats 4000000 in
set_option maxRecDepth 100000 in
theorem rowEq_calls (T : (List Int) → (List Int) → Option Bool) (hT : SaysRow T) (A B : Option Addr) (c d : Nat) (a : List (List Int)) (b : List (List Int)) (r : Bool) (w : World) (ha : Kd.C (Kd.slice 3 (Kd.int .i64)) w A a.length a) (hb : Kd.C (Kd.slice 3 (Kd.int .i64)) w B b.length b) (h : eqL2 T a b = some r) :
    Calls Try.prog 87 #[.slice A a.length c,.slice B b.length d,.func (.func 46) #[] #[]] w fun e w'=>e = .returned (.bool r) ∧ Below w.heap.size w w':=by
  have HT:=Aside0.mk hT
  have HA:=Aside0.mk ha
  have HB:=Aside0.mk hb
  have H:=Aside0.mk h
  have hla : a.length ≤ 9223372036854775807:=ha.2.1
  have hlb : b.length ≤ 9223372036854775807:=hb.2.1
  clear hT ha hb h
  by_cases hn : a.length = b.length
  · have hnz : ((a.length : Int) != (b.length : Int)) = false:=bne_eq_false_iff_eq.mpr (by omega)
    have h0:=H.out
    unfold eqL2 at h0
    rw [if_pos hn] at h0
    have H0:=Aside0.mk h0
    have HNE:=Aside0.mk hn
    clear h0 H hn
    go_enter Try.func87,Try.ntmps87
    go_wp2
    go_loopg [7,8,9,17] a.length (fun gg _ _ _ p wr=>∃ kk : Nat,kk ≤ a.length ∧ a.length - kk ≤ gg ∧ p = .int .i64 kk ∧ Aside0 (eqM2 T (a.drop kk) (b.drop kk) = some r) ∧ Aside0 (Below w.heap.size w wr))
    case atStart=>exact ⟨0,Nat.zero_le _,by omega,rfl,H0,⟨Below.refl _ w⟩⟩
    case round =>
      obtain ⟨kk,hkk,hg,rfl,HE,HW⟩:=hrel
      clear H0
      by_cases hlt : kk < a.length
      · have hltz : decide ((kk : Int) < (a.length : Int)) = true:=decide_eq_true (by omega)
        have p1 : 0 ≤ (kk : Int):=by omega
        have q1 : (kk : Int) < (a.length : Int):=by omega
        have q2 : (kk : Int) < (b.length : Int):=by have:=HNE.out;omega
        obtain ⟨ad,A0,c0,e1,f0,hc0,HQ0⟩:=at_L1 (Kd.C_below HA.out HW.out) (kk : Int) p1 q1
        obtain ⟨bd,B0,d0,e2,g0,gc0,G0⟩:=at_L1 (Kd.C_below HB.out HW.out) (kk : Int) p1 q2
        cases e1
        cases e2
        rw [Int.toNat_natCast] at f0 g0
        have he:=HE.out
        rw [show a.drop kk = rd_L1 a (kk : Int) :: a.drop (kk + 1) from by rw [List.drop_eq_getElem_cons hlt];unfold rd_L1;rw [Int.toNat_natCast,List.getD_eq_getElem?_getD,List.getElem?_eq_getElem hlt];rfl,
          show b.drop kk = rd_L1 b (kk : Int) :: b.drop (kk + 1) from by rw [List.drop_eq_getElem_cons (by have:=HNE.out;omega)];unfold rd_L1;rw [Int.toNat_natCast,List.getD_eq_getElem?_getD,List.getElem?_eq_getElem (by have:=HNE.out;omega)];rfl] at he
        clear HE
        obtain ⟨v,hv1,hv2⟩:=Option.bind_eq_some_iff.1 he
        clear he
        generalize rd_L1 a (kk : Int) = x at *
        generalize rd_L1 b (kk : Int) = y at *
        have HC:=Aside0.mk (fun W h0 g0=>HT.out x y A0 c0 B0 d0 v W h0 hc0 g0 gc0 hv1)
        have HHx0:=Aside0.mk HQ0
        clear HQ0
        have HHy0:=Aside0.mk G0
        clear G0
        clear hv1
        replace p1:=eq_true p1
        replace q1:=eq_true q1
        replace q2:=eq_true q2
        cases v with
        | false =>
          obtain rfl:=Option.some.inj (show some false = some r by simpa using hv2)
          clear hv2
          go_wp2_with (go_at_call 46;refine (HC.out _ HHx0.out HHy0.out).mono ?_;rintro e w' ⟨rfl,hb'⟩;have n2:=Aside0.mk (below_step HW.out hb');clear HW HC hb' f0 g0;have HW:=n2;clear n2)
          go_ret
          exact ⟨by first | rfl | (simp;done),(by repeat (first | exact HW.out | (with_reducible apply pw_below_drewN) | (with_reducible apply below_drew1) | (with_reducible apply below_alloc) | exact Below.refl _ _))⟩
        | true =>
          have HN:=Aside0.mk (show eqM2 T (a.drop (kk + 1)) (b.drop (kk + 1)) = some r by simpa using hv2)
          clear hv2
          go_wp2_with (go_at_call 46;refine (HC.out _ HHx0.out HHy0.out).mono ?_;rintro e w' ⟨rfl,hb'⟩;have n2:=Aside0.mk (below_step HW.out hb');clear HW HC hb' f0 g0;have HW:=n2;clear n2)
          go_roundg (a.length - (kk + 1))
          case measure=>omega
          case rel=>exact ⟨kk + 1,by omega,by omega,by go_num,HN,⟨(by repeat (first | exact HW.out | (with_reducible apply pw_below_drewN) | (with_reducible apply below_drew1) | (with_reducible apply below_alloc) | exact Below.refl _ _))⟩⟩
      · have hltz : decide ((kk : Int) < (a.length : Int)) = false:=decide_eq_false (by omega)
        have he:=HE.out
        rw [List.drop_of_length_le (by omega)] at he
        obtain rfl:=Option.some.inj (show some true = some r from he)
        clear he HE
        go_wp2
        go_ret
        exact ⟨by first | rfl | (simp;done),(by repeat (first | exact HW.out | (with_reducible apply pw_below_drewN) | (with_reducible apply below_drew1) | (with_reducible apply below_alloc) | exact Below.refl _ _))⟩
  · have hnz : ((a.length : Int) != (b.length : Int)) = true:=bne_iff_ne.mpr (by omega)
    have h0:=H.out
    unfold eqL2 at h0
    rw [if_neg hn] at h0
    obtain rfl:=Option.some.inj h0
    clear h0 H
    go_enter Try.func87,Try.ntmps87
    go_wp2
    go_ret
    exact ⟨by first | rfl | (simp;done),(by repeat (first | (with_reducible apply pw_below_drewN) | (with_reducible apply below_drew1) | (with_reducible apply below_alloc) | exact Below.refl _ _))⟩
theorem rows_say (k : Nat) : SaysRow (slices_Equal_int_int.f k):=fun x y A0 c0 B0 d0 r w h hc g gc hv=>(slices_Equal_int_int.calls k A0 c0 x B0 d0 y r w h hc g gc hv).mono (fun e w' q=>⟨q.1,drawn_below q.2⟩)
def impl_sameQueues.f (k : Nat) (l0 l1 : List (List Int)) : Option Bool:=eqL2 (slices_Equal_int_int.f k) l0 l1
theorem impl_sameQueues.calls (k : Nat) (A0 : Option Addr) (c0 : Nat) (l0 : List (List Int)) (A1 : Option Addr) (c1 : Nat) (l1 : List (List Int)) (r : Bool) (w : World) (hr0 : Kd.C (Kd.slice 3 (Kd.int .i64)) w A0 l0.length l0) (hc0 : l0.length ≤ c0) (hr1 : Kd.C (Kd.slice 3 (Kd.int .i64)) w A1 l1.length l1) (hc1 : l1.length ≤ c1) (h : impl_sameQueues.f k l0 l1 = some r) :
    Calls Try.prog 48 #[.slice A0 l0.length c0,.slice A1 l1.length c1] w fun e w'=>e = .returned (.bool r) ∧ Below w.heap.size w w':=by
  have HE:=Aside0.mk (rowEq_calls _ (rows_say k) A0 A1 c0 c1 l0 l1 r w hr0 hr1 h)
  clear hr0 hr1 h hc0 hc1
  go_enter Try.func48,Try.ntmps48
  go_wp2_with (go_at_call 87;refine HE.out.mono ?_;rintro e w' ⟨rfl,hb'⟩;have HB:=Aside0.mk hb';clear HE hb')
  go_ret
  exact ⟨by first | rfl | (simp;done),(by repeat (first | exact HB.out | (with_reducible apply pw_below_drewN) | (with_reducible apply below_drew1) | (with_reducible apply below_alloc) | exact Below.refl _ _))⟩
end Go.Proofs.Ythbflhimmmfonaa.P

namespace Go.Proofs.Ythbflhimmmfonaa.P
open Go.RowKit Go.Maps Go.Proofs.YthbflhimmmfonaaW.PrintWords Go.Proofs.YthbflhimmmfonaaW.PrintLast Go.Proofs.YthbflhimmmfonaaW.PrintMore
attribute [local go_sem] max2_int min2_int max_two min_two max_three min_three max_four min_four
set_option linter.unusedVariables false
set_option linter.unusedSimpArgs false
theorem calls_dr {P : Program} {f : FuncId} {args : Array Value} {w : World} {r : Bool} (h : Calls P f args w fun e w'=>e = .returned (.bool r) ∧ Drawn0 w w') : Calls P f args w fun e w'=>e = .returned (.bool r) ∧ Below w.heap.size w w':=h.mono (fun e w' q=>⟨q.1,drawn_below q.2⟩)
theorem cells5_ {w : World} {g : Nat} {t : TypeId} {c0 c1 c2 c3 c4 : Value} (h : Aside0 (w.heap[g]? = some (.cells #[c0,c1,c2,c3,c4] t (0,0)))) : w.cell? ⟨g,0,none⟩ = some c0 ∧ w.cell? ⟨g,1,none⟩ = some c1 ∧ w.cell? ⟨g,2,none⟩ = some c2 ∧ w.cell? ⟨g,3,none⟩ = some c3 ∧ w.cell? ⟨g,4,none⟩ = some c4:=⟨(blk_cell h.out 0).trans rfl,(blk_cell h.out 1).trans rfl,(blk_cell h.out 2).trans rfl,(blk_cell h.out 3).trans rfl,(blk_cell h.out 4).trans rfl⟩
theorem cells11_ {w : World} {g : Nat} {t : TypeId} {c0 c1 c2 c3 c4 c5 c6 c7 c8 c9 c10 : Value} (h : Aside0 (w.heap[g]? = some (.cells #[c0,c1,c2,c3,c4,c5,c6,c7,c8,c9,c10] t (0,0)))) : w.cell? ⟨g,0,none⟩ = some c0 ∧ w.cell? ⟨g,1,none⟩ = some c1 ∧ w.cell? ⟨g,2,none⟩ = some c2 ∧ w.cell? ⟨g,3,none⟩ = some c3 ∧ w.cell? ⟨g,4,none⟩ = some c4 ∧ w.cell? ⟨g,5,none⟩ = some c5 ∧ w.cell? ⟨g,6,none⟩ = some c6 ∧ w.cell? ⟨g,7,none⟩ = some c7 ∧ w.cell? ⟨g,8,none⟩ = some c8 ∧ w.cell? ⟨g,9,none⟩ = some c9 ∧ w.cell? ⟨g,10,none⟩ = some c10:=⟨(blk_cell h.out 0).trans rfl,(blk_cell h.out 1).trans rfl,(blk_cell h.out 2).trans rfl,(blk_cell h.out 3).trans rfl,(blk_cell h.out 4).trans rfl,(blk_cell h.out 5).trans rfl,(blk_cell h.out 6).trans rfl,(blk_cell h.out 7).trans rfl,(blk_cell h.out 8).trans rfl,(blk_cell h.out 9).trans rfl,(blk_cell h.out 10).trans rfl⟩
theorem tw_set_alloc (w : World) (o o' : Obj) : ({ (w.alloc o) with heap:=(w.alloc o).heap.setIfInBounds w.heap.size o' } : World) = w.alloc o':=by
  have e : (w.heap.push o).setIfInBounds w.heap.size o' = w.heap.push o':=by
    apply Array.ext'
    simp [Array.toList_setIfInBounds,List.set_append_right]
  show ({ w with heap:=(w.heap.push o).setIfInBounds w.heap.size o' } : World) = { w with heap:=w.heap.push o' }
  rw [e]
theorem tw_put {P : Program} {t kt e : TypeId} (ht : P.underlying t = some (.map kt e)) (hk : P.underlying kt = some (.int .i64)) (w : World) (es : Array MapEntry) (c : Nat) (n : Int) (v : Value)
    (hn : Instr.findNow (.int .i64) (.int .i64 n) es.toList 0 = some none) : (Instr.mapUpdate t (.map (some w.heap.size)) (.int .i64 n) v).run P (w.alloc (.map es c)) = .ok () (w.alloc (.map (es.push ⟨.int .i64 n,v,c⟩) (c + 1))):=by
  have hb : (w.alloc (.map es c)).heap[w.heap.size]? = some (.map es c):=(MapKept.heap_alloc w _).1
  have hf:=MapKept.run_findKey (w:=w.alloc (.map es c)) hk hn
  have hc:=MapKept.run_checkKey (w:=w.alloc (.map es c)) (k:=.int .i64 n) hk (by simp [MapKept.IsKey]) false 9999
  have hs:=tw_set_alloc w (.map es c) (.map (es.push ⟨.int .i64 n,v,c⟩) (c + 1))
  have:=MapKept.run_setObj_map (P:=P) (.map (es.push ⟨.int .i64 n,v,c⟩) (c + 1)) hb
  rw [hs] at this
  simp [Instr.mapUpdate,run_underlying ht,MapKept.run_getObj_map hb,hc,hf,this,Result.andThen]
theorem tw_look {P : Program} {t kt e : TypeId} (ht : P.underlying t = some (.map kt e)) (hk : P.underlying kt = some (.int .i64)) {w : World} {b : Nat} {es : Array MapEntry} {c : Nat} (hb : w.heap[b]? = some (.map es c)) (n : Int) {z : Value} (hz : (zeroValue e).run P w = .ok z w)
    {r : Option (Nat × Value)} (hn : Instr.findNow (.int .i64) (.int .i64 n) es.toList 0 = some r) :
    (Instr.lookup t (.map (some b)) (.int .i64 n) false).run P w = .ok ((r.map (·.2)).getD z) w:=by
  have hf:=MapKept.run_findKey (w:=w) hk hn
  have hc:=fun em=>MapKept.run_checkKey (w:=w) (k:=.int .i64 n) hk (by simp [MapKept.IsKey]) em 9999
  cases r <;> simp [Instr.lookup,run_underlying ht,MapKept.run_getObj_map hb,hc,hf,hz,Result.andThen]
def modeI (n : Int) : Int:=if n = 1 then 1 else if n = 2 then 2 else 0
def modesE (n : Nat) : Array MapEntry:=([(⟨.int .i64 1,.int .i64 1,0⟩ : MapEntry),⟨.int .i64 2,.int .i64 2,1⟩].take n).toArray
set_option maxRecDepth 100000 in
theorem modes_look {W : World} {b : Nat} (hb : W.heap[b]? = some (.map (modesE 2) 2)) (n : Int) : (Instr.lookup 85 (.map (some b)) (.int .i64 n) false).run Try.prog W = .ok (.int .i64 (modeI n)) W:=by
  have hz : (zeroValue 3).run Try.prog W = .ok (.int .i64 0) W:=by rfl
  by_cases h1 : n = 1
  · subst h1;exact tw_look Try.underlying85 Try.underlying3 hb 1 hz rfl
  by_cases h2 : n = 2
  · subst h2;exact tw_look Try.underlying85 Try.underlying3 hb 2 hz rfl
  have none_ : Instr.findNow (.int .i64) (.int .i64 n) (modesE 2).toList 0 = some none:=by
    have e : ∀ m : Int,¬ n = m → (n == m) = false:=fun m h=>by simpa using h
    simp [modesE,Instr.findNow,Instr.sameNow,e 1 h1,e 2 h2]
  have e:=tw_look Try.underlying85 Try.underlying3 hb n hz none_
  rw [show modeI n = 0 from by unfold modeI;rw [if_neg h1,if_neg h2]]
  exact e
structure TwF (w : World) (bm mb : Nat) : Prop where
  box : w.cell? ⟨bm,0,none⟩ = some (.map (some mb))
  map : w.heap[mb]? = some (.map (modesE 2) 2)
theorem TwF.below {w W : World} {bm mb : Nat} (h : TwF w bm mb) (hb : Below w.heap.size w W) : TwF W bm mb :=
  ⟨(hb.cell (World.block_lt_of_cell? w _ h.box)).trans h.box,(hb.block _ (Array.getElem?_eq_some_iff.1 h.map).1).trans h.map⟩
theorem tw_new (w : World) (a b c d : Obj) : ((((w.alloc a).alloc b).alloc c).alloc d).heap[w.heap.size]? = some a ∧ ((((w.alloc a).alloc b).alloc c).alloc d).heap[w.heap.size + 1]? = some b ∧ ((((w.alloc a).alloc b).alloc c).alloc d).heap[w.heap.size + 2]? = some c ∧ ((((w.alloc a).alloc b).alloc c).alloc d).heap[w.heap.size + 1 + 1 + 1]? = some d:=by
  show ((((w.heap.push a).push b).push c).push d)[w.heap.size]? = some a ∧ ((((w.heap.push a).push b).push c).push d)[w.heap.size + 1]? = some b ∧ ((((w.heap.push a).push b).push c).push d)[w.heap.size + 2]? = some c ∧ ((((w.heap.push a).push b).push c).push d)[w.heap.size + 1 + 1 + 1]? = some d
  simp only [Array.getElem?_push,Array.size_push]
  refine ⟨?_,?_,?_,?_⟩ <;> (repeat (first | rw [if_pos trivial] | rw [if_pos (by omega)] | rw [if_neg (by omega)]))
def twinV (k : Nat) (x : S67) (y : S84) : Option Bool:=(slices_Equal_int_int.f k x.f0 y.f0).bind fun b=>if b = true then if x.f3 = y.f3 then if x.f4 = y.f4 then if modeI x.f2 = y.f2 then some true else some false else some false else some false else some false
set_option maxHeartbeats 8000000 in
set_option maxRecDepth 100000 in
theorem twinW (k : Nat) (x : S67) (y : S84) (A0 : Option Addr) (c0 : Nat) (B0 : Option Addr) (d0 : Nat) (B1 : Option Addr) (d1 : Nat) (r : Bool) (w : World)
    (h0 : Kd.C (Kd.int .i64) w A0 x.f0.length x.f0) (hc0 : x.f0.length ≤ c0)
    (g0 : Kd.C (Kd.int .i64) w B0 y.f0.length y.f0) (gc0 : y.f0.length ≤ d0)
    (g1 : Kd.C k104 w B1 y.f1.length y.f1) (gc1 : y.f1.length ≤ d1)
    (bm mb : Nat) (hF : TwF w bm mb) (h : twinV k x y = some r) :
    Calls Try.prog 60 #[.agg #[.slice A0 x.f0.length c0,.int .i64 x.f1,.int .i64 x.f2,.int .i64 x.f3,.int .i64 x.f4],.agg #[.slice B0 y.f0.length d0,.slice B1 y.f1.length d1,.int .i64 y.f2,.int .i64 y.f3,.int .i64 y.f4],.pointer (some ⟨bm,0,none⟩)] w fun e w'=>e = .returned (.bool r) ∧ Below w.heap.size w w':=by
  have HF:=Aside0.mk hF
  clear hF
  unfold twinV at h
  have hu:=Try.underlying67
  have hu2:=Try.underlying84
  have b1:=blk_alloc (blk_new w (.cells #[.slice A0 x.f0.length c0,.int .i64 x.f1,.int .i64 x.f2,.int .i64 x.f3,.int .i64 x.f4] 67)) (.cells #[.slice B0 y.f0.length d0,.slice B1 y.f1.length d1,.int .i64 y.f2,.int .i64 y.f3,.int .i64 y.f4] 84)
  have b2:=blk_new (w.alloc (.cells #[.slice A0 x.f0.length c0,.int .i64 x.f1,.int .i64 x.f2,.int .i64 x.f3,.int .i64 x.f4] 67)) (.cells #[.slice B0 y.f0.length d0,.slice B1 y.f1.length d1,.int .i64 y.f2,.int .i64 y.f3,.int .i64 y.f4] 84)
  rw [size_alloc2] at b2
  have HX:=Aside0.mk b1
  have HY:=Aside0.mk b2
  have HB:=Aside0.mk (below_alloc (below_alloc (Below.refl _ w) (.cells #[.slice A0 x.f0.length c0,.int .i64 x.f1,.int .i64 x.f2,.int .i64 x.f3,.int .i64 x.f4] 67)) (.cells #[.slice B0 y.f0.length d0,.slice B1 y.f1.length d1,.int .i64 y.f2,.int .i64 y.f3,.int .i64 y.f4] 84))
  have HH0:=Aside0.mk h0
  have GG0:=Aside0.mk g0
  have GG1:=Aside0.mk g1
  clear b1 b2 h0 g0 g1
  obtain ⟨b0,hv,h⟩:=Option.bind_eq_some_iff.1 h
  have HC0:=Aside0.mk (fun W hx hy=>calls_dr (slices_Equal_int_int.calls k A0 c0 x.f0 B0 d0 y.f0 b0 W hx hc0 hy gc0 hv))
  clear hv
  cases b0 with
  | false =>
    obtain rfl:=Option.some.inj (show some false = some r by simpa using h)
    clear h
    go_enter Try.func60,Try.ntmps60
    go_wp2_with (first
      | (go_at_call 46;refine (HC0.out _ (Kd.C_below HH0.out (by repeat (first | exact HB.out | (with_reducible apply pw_below_drewN) | (with_reducible apply below_drew1) | (with_reducible apply below_alloc) | exact Below.refl _ _))) (Kd.C_below GG0.out (by repeat (first | exact HB.out | (with_reducible apply pw_below_drewN) | (with_reducible apply below_drew1) | (with_reducible apply below_alloc) | exact Below.refl _ _)))).mono ?_;rintro e w' ⟨rfl,hd⟩;have hb:=hd;have n1:=Aside0.mk (below_step (by repeat (first | exact HB.out | (with_reducible apply pw_below_drewN) | (with_reducible apply below_drew1) | (with_reducible apply below_alloc) | exact Below.refl _ _)) hb);have n2:=Aside0.mk (blk_below (by first | exact HX.out) hb);have n3:=Aside0.mk (blk_below (by first | exact HY.out) hb);clear HC0 HB HX HY hb hd ; have HB:=n1;have HX:=n2;have HY:=n3;clear n1 n2 n3;obtain ⟨u0,u1,u2,u3,u4⟩:=cells5_ HX;obtain ⟨v0,v1,v2,v3,v4⟩:=cells5_ HY;have hF2:=TwF.below HF.out HB.out;have um:=hF2.box;have ul:=modes_look hF2.map x.f2;clear hF2))
    go_ret
    exact ⟨by first | rfl | (simp;done) | (simp [*];done),(by repeat (first | exact HB.out | (with_reducible apply pw_below_drewN) | (with_reducible apply below_drew1) | (with_reducible apply below_alloc) | exact Below.refl _ _))⟩
  | true =>
    rw [if_pos rfl] at h
    by_cases e1 : x.f3 = y.f3
    · rw [if_pos e1] at h
      have k1 : (x.f3 == y.f3) = true:=by simpa using e1
      clear e1
      by_cases e2 : x.f4 = y.f4
      · rw [if_pos e2] at h
        have k2 : (x.f4 == y.f4) = true:=by simpa using e2
        clear e2
        by_cases e3 : modeI x.f2 = y.f2
        · rw [if_pos e3] at h
          have k3 : (modeI x.f2 == y.f2) = true:=by simpa using e3
          clear e3
          obtain rfl:=Option.some.inj h
          clear h
          go_enter Try.func60,Try.ntmps60
          go_wp2_with (first
            | (go_at_call 46;refine (HC0.out _ (Kd.C_below HH0.out (by repeat (first | exact HB.out | (with_reducible apply pw_below_drewN) | (with_reducible apply below_drew1) | (with_reducible apply below_alloc) | exact Below.refl _ _))) (Kd.C_below GG0.out (by repeat (first | exact HB.out | (with_reducible apply pw_below_drewN) | (with_reducible apply below_drew1) | (with_reducible apply below_alloc) | exact Below.refl _ _)))).mono ?_;rintro e w' ⟨rfl,hd⟩;have hb:=hd;have n1:=Aside0.mk (below_step (by repeat (first | exact HB.out | (with_reducible apply pw_below_drewN) | (with_reducible apply below_drew1) | (with_reducible apply below_alloc) | exact Below.refl _ _)) hb);have n2:=Aside0.mk (blk_below (by first | exact HX.out) hb);have n3:=Aside0.mk (blk_below (by first | exact HY.out) hb);clear HC0 HB HX HY hb hd ; have HB:=n1;have HX:=n2;have HY:=n3;clear n1 n2 n3;obtain ⟨u0,u1,u2,u3,u4⟩:=cells5_ HX;obtain ⟨v0,v1,v2,v3,v4⟩:=cells5_ HY;have hF2:=TwF.below HF.out HB.out;have um:=hF2.box;have ul:=modes_look hF2.map x.f2;clear hF2))
          go_ret
          exact ⟨by first | rfl | (simp;done) | (simp [*];done),(by repeat (first | exact HB.out | (with_reducible apply pw_below_drewN) | (with_reducible apply below_drew1) | (with_reducible apply below_alloc) | exact Below.refl _ _))⟩
        · rw [if_neg e3] at h
          have k3 : (modeI x.f2 == y.f2) = false:=by simpa using e3
          clear e3
          obtain rfl:=Option.some.inj h
          clear h
          go_enter Try.func60,Try.ntmps60
          go_wp2_with (first
            | (go_at_call 46;refine (HC0.out _ (Kd.C_below HH0.out (by repeat (first | exact HB.out | (with_reducible apply pw_below_drewN) | (with_reducible apply below_drew1) | (with_reducible apply below_alloc) | exact Below.refl _ _))) (Kd.C_below GG0.out (by repeat (first | exact HB.out | (with_reducible apply pw_below_drewN) | (with_reducible apply below_drew1) | (with_reducible apply below_alloc) | exact Below.refl _ _)))).mono ?_;rintro e w' ⟨rfl,hd⟩;have hb:=hd;have n1:=Aside0.mk (below_step (by repeat (first | exact HB.out | (with_reducible apply pw_below_drewN) | (with_reducible apply below_drew1) | (with_reducible apply below_alloc) | exact Below.refl _ _)) hb);have n2:=Aside0.mk (blk_below (by first | exact HX.out) hb);have n3:=Aside0.mk (blk_below (by first | exact HY.out) hb);clear HC0 HB HX HY hb hd ; have HB:=n1;have HX:=n2;have HY:=n3;clear n1 n2 n3;obtain ⟨u0,u1,u2,u3,u4⟩:=cells5_ HX;obtain ⟨v0,v1,v2,v3,v4⟩:=cells5_ HY;have hF2:=TwF.below HF.out HB.out;have um:=hF2.box;have ul:=modes_look hF2.map x.f2;clear hF2))
          go_ret
          exact ⟨by first | rfl | (simp;done) | (simp [*];done),(by repeat (first | exact HB.out | (with_reducible apply pw_below_drewN) | (with_reducible apply below_drew1) | (with_reducible apply below_alloc) | exact Below.refl _ _))⟩
      · rw [if_neg e2] at h
        have k2 : (x.f4 == y.f4) = false:=by simpa using e2
        clear e2
        obtain rfl:=Option.some.inj h
        clear h
        go_enter Try.func60,Try.ntmps60
        go_wp2_with (first
          | (go_at_call 46;refine (HC0.out _ (Kd.C_below HH0.out (by repeat (first | exact HB.out | (with_reducible apply pw_below_drewN) | (with_reducible apply below_drew1) | (with_reducible apply below_alloc) | exact Below.refl _ _))) (Kd.C_below GG0.out (by repeat (first | exact HB.out | (with_reducible apply pw_below_drewN) | (with_reducible apply below_drew1) | (with_reducible apply below_alloc) | exact Below.refl _ _)))).mono ?_;rintro e w' ⟨rfl,hd⟩;have hb:=hd;have n1:=Aside0.mk (below_step (by repeat (first | exact HB.out | (with_reducible apply pw_below_drewN) | (with_reducible apply below_drew1) | (with_reducible apply below_alloc) | exact Below.refl _ _)) hb);have n2:=Aside0.mk (blk_below (by first | exact HX.out) hb);have n3:=Aside0.mk (blk_below (by first | exact HY.out) hb);clear HC0 HB HX HY hb hd ; have HB:=n1;have HX:=n2;have HY:=n3;clear n1 n2 n3;obtain ⟨u0,u1,u2,u3,u4⟩:=cells5_ HX;obtain ⟨v0,v1,v2,v3,v4⟩:=cells5_ HY;have hF2:=TwF.below HF.out HB.out;have um:=hF2.box;have ul:=modes_look hF2.map x.f2;clear hF2))
        go_ret
        exact ⟨by first | rfl | (simp;done) | (simp [*];done),(by repeat (first | exact HB.out | (with_reducible apply pw_below_drewN) | (with_reducible apply below_drew1) | (with_reducible apply below_alloc) | exact Below.refl _ _))⟩
    · rw [if_neg e1] at h
      have k1 : (x.f3 == y.f3) = false:=by simpa using e1
      clear e1
      obtain rfl:=Option.some.inj h
      clear h
      go_enter Try.func60,Try.ntmps60
      go_wp2_with (first
        | (go_at_call 46;refine (HC0.out _ (Kd.C_below HH0.out (by repeat (first | exact HB.out | (with_reducible apply pw_below_drewN) | (with_reducible apply below_drew1) | (with_reducible apply below_alloc) | exact Below.refl _ _))) (Kd.C_below GG0.out (by repeat (first | exact HB.out | (with_reducible apply pw_below_drewN) | (with_reducible apply below_drew1) | (with_reducible apply below_alloc) | exact Below.refl _ _)))).mono ?_;rintro e w' ⟨rfl,hd⟩;have hb:=hd;have n1:=Aside0.mk (below_step (by repeat (first | exact HB.out | (with_reducible apply pw_below_drewN) | (with_reducible apply below_drew1) | (with_reducible apply below_alloc) | exact Below.refl _ _)) hb);have n2:=Aside0.mk (blk_below (by first | exact HX.out) hb);have n3:=Aside0.mk (blk_below (by first | exact HY.out) hb);clear HC0 HB HX HY hb hd ; have HB:=n1;have HX:=n2;have HY:=n3;clear n1 n2 n3;obtain ⟨u0,u1,u2,u3,u4⟩:=cells5_ HX;obtain ⟨v0,v1,v2,v3,v4⟩:=cells5_ HY;have hF2:=TwF.below HF.out HB.out;have um:=hF2.box;have ul:=modes_look hF2.map x.f2;clear hF2))
      go_ret
      exact ⟨by first | rfl | (simp;done) | (simp [*];done),(by repeat (first | exact HB.out | (with_reducible apply pw_below_drewN) | (with_reducible apply below_drew1) | (with_reducible apply below_alloc) | exact Below.refl _ _))⟩
def SaysTw (bm mb : Nat) (T : S67 → S84 → Option Bool) : Prop:=∀ (x : S67) (y : S84) (A0 : Option Addr) (c0 : Nat) (B0 : Option Addr) (d0 : Nat) (B1 : Option Addr) (d1 : Nat) (r : Bool) (w : World),
    TwF w bm mb → Kd.C (Kd.int .i64) w A0 x.f0.length x.f0 → x.f0.length ≤ c0 → Kd.C (Kd.int .i64) w B0 y.f0.length y.f0 → y.f0.length ≤ d0 → Kd.C k104 w B1 y.f1.length y.f1 → y.f1.length ≤ d1 → T x y = some r →
    Calls Try.prog 60 #[.agg #[.slice A0 x.f0.length c0,.int .i64 x.f1,.int .i64 x.f2,.int .i64 x.f3,.int .i64 x.f4],.agg #[.slice B0 y.f0.length d0,.slice B1 y.f1.length d1,.int .i64 y.f2,.int .i64 y.f3,.int .i64 y.f4],.pointer (some ⟨bm,0,none⟩)] w fun e w'=>e = .returned (.bool r) ∧ Below w.heap.size w w'
set_option maxHeartbeats 4000000 in
set_option maxRecDepth 100000 in
theorem twEq_calls (bm mb : Nat) (T : S67 → S84 → Option Bool) (hT : SaysTw bm mb T) (A B : Option Addr) (c d : Nat) (a : List S67) (b : List S84) (r : Bool) (w : World) (hF : TwF w bm mb) (ha : Kd.C k67 w A a.length a) (hb : Kd.C k84 w B b.length b) (h : eqL2 T a b = some r) :
    Calls Try.prog 61 #[.slice A a.length c,.slice B b.length d,.func (.func 60) #[] #[.pointer (some ⟨bm,0,none⟩)]] w fun e w'=>e = .returned (.bool r) ∧ Below w.heap.size w w':=by
  have HT:=Aside0.mk hT
  have HF:=Aside0.mk hF
  have HA:=Aside0.mk ha
  have HB:=Aside0.mk hb
  have H:=Aside0.mk h
  have hla : a.length ≤ 9223372036854775807:=ha.2.1
  have hlb : b.length ≤ 9223372036854775807:=hb.2.1
  have hu:=Try.underlying67
  have hu2:=Try.underlying84
  clear hT hF ha hb h
  by_cases hn : a.length = b.length
  · have hnz : ((a.length : Int) != (b.length : Int)) = false:=bne_eq_false_iff_eq.mpr (by omega)
    have h0:=H.out
    unfold eqL2 at h0
    rw [if_pos hn] at h0
    have H0:=Aside0.mk h0
    have HNE:=Aside0.mk hn
    clear h0 H hn
    go_enter Try.func61,Try.ntmps61
    go_wp2
    go_loopg [7,17] a.length (fun gg _ p wr=>∃ kk : Nat,kk ≤ a.length ∧ a.length - kk ≤ gg ∧ p = .int .i64 kk ∧ Aside0 (eqM2 T (a.drop kk) (b.drop kk) = some r) ∧ Aside0 (Below w.heap.size w wr))
    case atStart=>exact ⟨0,Nat.zero_le _,by omega,rfl,H0,⟨Below.refl _ w⟩⟩
    case round =>
      obtain ⟨kk,hkk,hg,rfl,HE,HW⟩:=hrel
      clear H0
      by_cases hlt : kk < a.length
      · have hltz : decide ((kk : Int) < (a.length : Int)) = true:=decide_eq_true (by omega)
        have p1 : 0 ≤ (kk : Int):=by omega
        have q1 : (kk : Int) < (a.length : Int):=by omega
        have q2 : (kk : Int) < (b.length : Int):=by have:=HNE.out;omega
        obtain ⟨ad,A0,c0,e1,f0,f1,f2,f3,f4,hc0,H0⟩:=at_T67 (Kd.C_below HA.out HW.out) (kk : Int) p1 q1
        obtain ⟨bd,B0,d0,B1,d1,e2,g0,g1,g2,g3,g4,gc0,G0,gc1,G1⟩:=at_T84 (Kd.C_below HB.out HW.out) (kk : Int) p1 q2
        cases e1
        cases e2
        rw [Int.toNat_natCast] at f0 f1 f2 f3 f4 g0 g1 g2 g3 g4
        have he:=HE.out
        rw [show a.drop kk = rd_T67 a (kk : Int) :: a.drop (kk + 1) from by rw [List.drop_eq_getElem_cons hlt];unfold rd_T67;rw [Int.toNat_natCast,List.getD_eq_getElem?_getD,List.getElem?_eq_getElem hlt];rfl,
          show b.drop kk = rd_T84 b (kk : Int) :: b.drop (kk + 1) from by rw [List.drop_eq_getElem_cons (by have:=HNE.out;omega)];unfold rd_T84;rw [Int.toNat_natCast,List.getD_eq_getElem?_getD,List.getElem?_eq_getElem (by have:=HNE.out;omega)];rfl] at he
        clear HE
        obtain ⟨v,hv1,hv2⟩:=Option.bind_eq_some_iff.1 he
        clear he
        generalize rd_T67 a (kk : Int) = x at *
        generalize rd_T84 b (kk : Int) = y at *
        have al : ∀ {p : Addr} {u : Value},wr.cell? p = some u → ∀ o,(wr.alloc o).cell? p = some u:=fun h o=>((below_alloc (Below.refl _ wr) o).cell (World.block_lt_of_cell? wr _ h)).trans h
        have i0:=al g0
        have i1:=al g1
        have i2:=al g2
        have i3:=al g3
        have i4:=al g4
        clear al g0 g1 g2 g3 g4
        have HC:=Aside0.mk (fun W hF h0 g0 g1=>HT.out x y A0 c0 B0 d0 B1 d1 v W hF h0 hc0 g0 gc0 g1 gc1 hv1)
        have HHx0:=Aside0.mk H0
        clear H0
        have HHy0:=Aside0.mk G0
        clear G0
        have HHy1:=Aside0.mk G1
        clear G1
        clear hv1
        replace p1:=eq_true p1
        replace q1:=eq_true q1
        replace q2:=eq_true q2
        cases v with
        | false =>
          obtain rfl:=Option.some.inj (show some false = some r by simpa using hv2)
          clear hv2
          go_wp2_with (go_at_call 60;refine (HC.out _ (TwF.below HF.out (by repeat (first | exact HW.out | (with_reducible apply pw_below_drewN) | (with_reducible apply below_drew1) | (with_reducible apply below_alloc) | exact Below.refl _ _))) (Kd.C_alloc (Kd.C_alloc HHx0.out _) _) (Kd.C_alloc (Kd.C_alloc HHy0.out _) _) (Kd.C_alloc (Kd.C_alloc HHy1.out _) _)).mono ?_;rintro e w' ⟨rfl,hb'⟩;have n2:=Aside0.mk (below_step (below_alloc (below_alloc HW.out _) _) hb');clear HW HC hb' f0 f1 f2 f3 f4 i0 i1 i2 i3 i4;have HW:=n2;clear n2)
          go_ret
          exact ⟨by first | rfl | (simp;done),(by repeat (first | exact HW.out | (with_reducible apply pw_below_drewN) | (with_reducible apply below_drew1) | (with_reducible apply below_alloc) | exact Below.refl _ _))⟩
        | true =>
          have HN:=Aside0.mk (show eqM2 T (a.drop (kk + 1)) (b.drop (kk + 1)) = some r by simpa using hv2)
          clear hv2
          go_wp2_with (go_at_call 60;refine (HC.out _ (TwF.below HF.out (by repeat (first | exact HW.out | (with_reducible apply pw_below_drewN) | (with_reducible apply below_drew1) | (with_reducible apply below_alloc) | exact Below.refl _ _))) (Kd.C_alloc (Kd.C_alloc HHx0.out _) _) (Kd.C_alloc (Kd.C_alloc HHy0.out _) _) (Kd.C_alloc (Kd.C_alloc HHy1.out _) _)).mono ?_;rintro e w' ⟨rfl,hb'⟩;have n2:=Aside0.mk (below_step (below_alloc (below_alloc HW.out _) _) hb');clear HW HC hb' f0 f1 f2 f3 f4 i0 i1 i2 i3 i4;have HW:=n2;clear n2)
          go_roundg (a.length - (kk + 1))
          case measure=>omega
          case rel=>exact ⟨kk + 1,by omega,by omega,by go_num,HN,⟨(by repeat (first | exact HW.out | (with_reducible apply pw_below_drewN) | (with_reducible apply below_drew1) | (with_reducible apply below_alloc) | exact Below.refl _ _))⟩⟩
      · have hltz : decide ((kk : Int) < (a.length : Int)) = false:=decide_eq_false (by omega)
        have he:=HE.out
        rw [List.drop_of_length_le (by omega)] at he
        obtain rfl:=Option.some.inj (show some true = some r from he)
        clear he HE
        go_wp2
        go_ret
        exact ⟨by first | rfl | (simp;done),(by repeat (first | exact HW.out | (with_reducible apply pw_below_drewN) | (with_reducible apply below_drew1) | (with_reducible apply below_alloc) | exact Below.refl _ _))⟩
  · have hnz : ((a.length : Int) != (b.length : Int)) = true:=bne_iff_ne.mpr (by omega)
    have h0:=H.out
    unfold eqL2 at h0
    rw [if_neg hn] at h0
    obtain rfl:=Option.some.inj h0
    clear h0 H
    go_enter Try.func61,Try.ntmps61
    go_wp2
    go_ret
    exact ⟨by first | rfl | (simp;done),(by repeat (first | (with_reducible apply pw_below_drewN) | (with_reducible apply below_drew1) | (with_reducible apply below_alloc) | exact Below.refl _ _))⟩
theorem twin_says (k bm mb : Nat) : SaysTw bm mb (twinV k):=fun x y A0 c0 B0 d0 B1 d1 r w hF h0 hc0 g0 gc0 g1 gc1 h=>twinW k x y A0 c0 B0 d0 B1 d1 r w h0 hc0 g0 gc0 g1 gc1 bm mb hF h
structure SCpu2 where
  f0 : List S67
  f1 : List Int
  f2 : List Int
  f3 : List (List Int)
  f4 : List (List Int)
  f5 : List Int
  f6 : Int
  f7 : Int
  f8 : List S74
  f9 : List Int
  f10 : List Int
structure SWld2 where
  f0 : List S84
  f1 : List Int
  f2 : List Int
  f3 : List (List Int)
  f4 : List S74
def cpuTwinV (k : Nat) (x : SCpu2) (y : SWld2) : Option Bool:=((slices_Equal_int_int.f k x.f1 y.f1).bind fun b=>if b = true then (slices_Equal_int_int.f k x.f2 y.f2).bind fun b=>if b = true then impl_Say.f k x.f8 y.f4 else some false else some false).bind fun q0=>if q0 = true then (impl_sameQueues.f k x.f4 y.f3).bind fun b=>if b = true then eqL2 (twinV k) x.f0 y.f0 else some false else some false
set_option maxHeartbeats 8000000 in
set_option maxRecDepth 100000 in
theorem cpuTwinW (k : Nat) (x : SCpu2) (y : SWld2) (A0 : Option Addr) (c0 : Nat) (A1 : Option Addr) (c1 : Nat) (A2 : Option Addr) (c2 : Nat) (A3 : Option Addr) (c3 : Nat) (A4 : Option Addr) (c4 : Nat) (A5 : Option Addr) (c5 : Nat) (A8 : Option Addr) (c8 : Nat) (A9 : Option Addr) (c9 : Nat) (A10 : Option Addr) (c10 : Nat) (B0 : Option Addr) (d0 : Nat) (B1 : Option Addr) (d1 : Nat) (B2 : Option Addr) (d2 : Nat) (B3 : Option Addr) (d3 : Nat) (B4 : Option Addr) (d4 : Nat) (r : Bool) (w : World)
    (h0 : Kd.C k67 w A0 x.f0.length x.f0) (hc0 : x.f0.length ≤ c0)
    (h1 : Kd.C (Kd.int .i64) w A1 x.f1.length x.f1) (hc1 : x.f1.length ≤ c1)
    (h2 : Kd.C (Kd.int .i64) w A2 x.f2.length x.f2) (hc2 : x.f2.length ≤ c2)
    (h3 : Kd.C (Kd.slice 3 (Kd.int .i64)) w A3 x.f3.length x.f3) (hc3 : x.f3.length ≤ c3)
    (h4 : Kd.C (Kd.slice 3 (Kd.int .i64)) w A4 x.f4.length x.f4) (hc4 : x.f4.length ≤ c4)
    (h5 : Kd.C (Kd.int .i64) w A5 x.f5.length x.f5) (hc5 : x.f5.length ≤ c5)
    (h8 : Kd.C k74 w A8 x.f8.length x.f8) (hc8 : x.f8.length ≤ c8)
    (h9 : Kd.C (Kd.int .i64) w A9 x.f9.length x.f9) (hc9 : x.f9.length ≤ c9)
    (h10 : Kd.C (Kd.int .i64) w A10 x.f10.length x.f10) (hc10 : x.f10.length ≤ c10)
    (g0 : Kd.C k84 w B0 y.f0.length y.f0) (gc0 : y.f0.length ≤ d0)
    (g1 : Kd.C (Kd.int .i64) w B1 y.f1.length y.f1) (gc1 : y.f1.length ≤ d1)
    (g2 : Kd.C (Kd.int .i64) w B2 y.f2.length y.f2) (gc2 : y.f2.length ≤ d2)
    (g3 : Kd.C (Kd.slice 3 (Kd.int .i64)) w B3 y.f3.length y.f3) (gc3 : y.f3.length ≤ d3)
    (g4 : Kd.C k74 w B4 y.f4.length y.f4) (gc4 : y.f4.length ≤ d4)
    (h : cpuTwinV k x y = some r) :
    Calls Try.prog 22 #[.agg #[.slice A0 x.f0.length c0,.slice A1 x.f1.length c1,.slice A2 x.f2.length c2,.slice A3 x.f3.length c3,.slice A4 x.f4.length c4,.slice A5 x.f5.length c5,.int .i64 x.f6,.int .i64 x.f7,.slice A8 x.f8.length c8,.slice A9 x.f9.length c9,.slice A10 x.f10.length c10],.agg #[.slice B0 y.f0.length d0,.slice B1 y.f1.length d1,.slice B2 y.f2.length d2,.slice B3 y.f3.length d3,.slice B4 y.f4.length d4]] w fun e w'=>e = .returned (.bool r) ∧ Below w.heap.size w w':=by
  unfold cpuTwinV at h
  obtain ⟨q0,hq0,h0_⟩:=Option.bind_eq_some_iff.1 h
  clear h
  have Hq0:=Aside0.mk hq0
  clear hq0
  have H:=Aside0.mk h0_
  clear h0_
  have hu:=Try.underlying33
  have hu2:=Try.underlying43
  have HH0:=Aside0.mk h0
  have HH1:=Aside0.mk h1
  have HH2:=Aside0.mk h2
  have HH3:=Aside0.mk h3
  have HH4:=Aside0.mk h4
  have HH5:=Aside0.mk h5
  have HH8:=Aside0.mk h8
  have HH9:=Aside0.mk h9
  have HH10:=Aside0.mk h10
  have GG0:=Aside0.mk g0
  have GG1:=Aside0.mk g1
  have GG2:=Aside0.mk g2
  have GG3:=Aside0.mk g3
  have GG4:=Aside0.mk g4
  clear h0 h1 h2 h3 h4 h5 h8 h9 h10 g0 g1 g2 g3 g4
  have CC:=Aside0.mk (show x.f0.length ≤ c0 ∧ x.f1.length ≤ c1 ∧ x.f2.length ≤ c2 ∧ x.f3.length ≤ c3 ∧ x.f4.length ≤ c4 ∧ x.f5.length ≤ c5 ∧ x.f8.length ≤ c8 ∧ x.f9.length ≤ c9 ∧ x.f10.length ≤ c10 ∧ y.f0.length ≤ d0 ∧ y.f1.length ≤ d1 ∧ y.f2.length ≤ d2 ∧ y.f3.length ≤ d3 ∧ y.f4.length ≤ d4 from ⟨hc0,hc1,hc2,hc3,hc4,hc5,hc8,hc9,hc10,gc0,gc1,gc2,gc3,gc4⟩)
  clear hc0 hc1 hc2 hc3 hc4 hc5 hc8 hc9 hc10 gc0 gc1 gc2 gc3 gc4
  have hmf : ∀ (fn : Fn) (first cap : Array Value) (w : World),(Instr.makeFunc fn first cap).run Try.prog w = .ok (.func fn first cap) w:=by
    intros
    rfl
  have sz : ((w.alloc (.cells #[.slice A0 x.f0.length c0,.slice A1 x.f1.length c1,.slice A2 x.f2.length c2,.slice A3 x.f3.length c3,.slice A4 x.f4.length c4,.slice A5 x.f5.length c5,.int .i64 x.f6,.int .i64 x.f7,.slice A8 x.f8.length c8,.slice A9 x.f9.length c9,.slice A10 x.f10.length c10] 33)).alloc (.cells #[.slice B0 y.f0.length d0,.slice B1 y.f1.length d1,.slice B2 y.f2.length d2,.slice B3 y.f3.length d3,.slice B4 y.f4.length d4] 43)).heap.size = w.heap.size + 2:=by
    show ((w.heap.push _).push _).size = _
    simp
  have hm0 : (Instr.makeMap 85 none).run Try.prog ((w.alloc (.cells #[.slice A0 x.f0.length c0,.slice A1 x.f1.length c1,.slice A2 x.f2.length c2,.slice A3 x.f3.length c3,.slice A4 x.f4.length c4,.slice A5 x.f5.length c5,.int .i64 x.f6,.int .i64 x.f7,.slice A8 x.f8.length c8,.slice A9 x.f9.length c9,.slice A10 x.f10.length c10] 33)).alloc (.cells #[.slice B0 y.f0.length d0,.slice B1 y.f1.length d1,.slice B2 y.f2.length d2,.slice B3 y.f3.length d3,.slice B4 y.f4.length d4] 43)) = .ok (.map (some (w.heap.size + 2))) (((w.alloc (.cells #[.slice A0 x.f0.length c0,.slice A1 x.f1.length c1,.slice A2 x.f2.length c2,.slice A3 x.f3.length c3,.slice A4 x.f4.length c4,.slice A5 x.f5.length c5,.int .i64 x.f6,.int .i64 x.f7,.slice A8 x.f8.length c8,.slice A9 x.f9.length c9,.slice A10 x.f10.length c10] 33)).alloc (.cells #[.slice B0 y.f0.length d0,.slice B1 y.f1.length d1,.slice B2 y.f2.length d2,.slice B3 y.f3.length d3,.slice B4 y.f4.length d4] 43)).alloc (.map (modesE 0) 0)):=by
    rw [← sz]
    rfl
  have hm1 : (Instr.mapUpdate 85 (.map (some (w.heap.size + 2))) (.int .i64 1) (.int .i64 1)).run Try.prog (((w.alloc (.cells #[.slice A0 x.f0.length c0,.slice A1 x.f1.length c1,.slice A2 x.f2.length c2,.slice A3 x.f3.length c3,.slice A4 x.f4.length c4,.slice A5 x.f5.length c5,.int .i64 x.f6,.int .i64 x.f7,.slice A8 x.f8.length c8,.slice A9 x.f9.length c9,.slice A10 x.f10.length c10] 33)).alloc (.cells #[.slice B0 y.f0.length d0,.slice B1 y.f1.length d1,.slice B2 y.f2.length d2,.slice B3 y.f3.length d3,.slice B4 y.f4.length d4] 43)).alloc (.map (modesE 0) 0)) = .ok () (((w.alloc (.cells #[.slice A0 x.f0.length c0,.slice A1 x.f1.length c1,.slice A2 x.f2.length c2,.slice A3 x.f3.length c3,.slice A4 x.f4.length c4,.slice A5 x.f5.length c5,.int .i64 x.f6,.int .i64 x.f7,.slice A8 x.f8.length c8,.slice A9 x.f9.length c9,.slice A10 x.f10.length c10] 33)).alloc (.cells #[.slice B0 y.f0.length d0,.slice B1 y.f1.length d1,.slice B2 y.f2.length d2,.slice B3 y.f3.length d3,.slice B4 y.f4.length d4] 43)).alloc (.map (modesE 1) 1)):=by
    rw [← sz]
    exact tw_put Try.underlying85 Try.underlying3 ((w.alloc (.cells #[.slice A0 x.f0.length c0,.slice A1 x.f1.length c1,.slice A2 x.f2.length c2,.slice A3 x.f3.length c3,.slice A4 x.f4.length c4,.slice A5 x.f5.length c5,.int .i64 x.f6,.int .i64 x.f7,.slice A8 x.f8.length c8,.slice A9 x.f9.length c9,.slice A10 x.f10.length c10] 33)).alloc (.cells #[.slice B0 y.f0.length d0,.slice B1 y.f1.length d1,.slice B2 y.f2.length d2,.slice B3 y.f3.length d3,.slice B4 y.f4.length d4] 43)) (modesE 0) 0 1 _ rfl
  have hm2 : (Instr.mapUpdate 85 (.map (some (w.heap.size + 2))) (.int .i64 2) (.int .i64 2)).run Try.prog (((w.alloc (.cells #[.slice A0 x.f0.length c0,.slice A1 x.f1.length c1,.slice A2 x.f2.length c2,.slice A3 x.f3.length c3,.slice A4 x.f4.length c4,.slice A5 x.f5.length c5,.int .i64 x.f6,.int .i64 x.f7,.slice A8 x.f8.length c8,.slice A9 x.f9.length c9,.slice A10 x.f10.length c10] 33)).alloc (.cells #[.slice B0 y.f0.length d0,.slice B1 y.f1.length d1,.slice B2 y.f2.length d2,.slice B3 y.f3.length d3,.slice B4 y.f4.length d4] 43)).alloc (.map (modesE 1) 1)) = .ok () (((w.alloc (.cells #[.slice A0 x.f0.length c0,.slice A1 x.f1.length c1,.slice A2 x.f2.length c2,.slice A3 x.f3.length c3,.slice A4 x.f4.length c4,.slice A5 x.f5.length c5,.int .i64 x.f6,.int .i64 x.f7,.slice A8 x.f8.length c8,.slice A9 x.f9.length c9,.slice A10 x.f10.length c10] 33)).alloc (.cells #[.slice B0 y.f0.length d0,.slice B1 y.f1.length d1,.slice B2 y.f2.length d2,.slice B3 y.f3.length d3,.slice B4 y.f4.length d4] 43)).alloc (.map (modesE 2) 2)):=by
    rw [← sz]
    exact tw_put Try.underlying85 Try.underlying3 ((w.alloc (.cells #[.slice A0 x.f0.length c0,.slice A1 x.f1.length c1,.slice A2 x.f2.length c2,.slice A3 x.f3.length c3,.slice A4 x.f4.length c4,.slice A5 x.f5.length c5,.int .i64 x.f6,.int .i64 x.f7,.slice A8 x.f8.length c8,.slice A9 x.f9.length c9,.slice A10 x.f10.length c10] 33)).alloc (.cells #[.slice B0 y.f0.length d0,.slice B1 y.f1.length d1,.slice B2 y.f2.length d2,.slice B3 y.f3.length d3,.slice B4 y.f4.length d4] 43)) (modesE 1) 1 2 _ rfl
  clear sz
  go_enter Try.func22,Try.ntmps22
  go_upto_region 3 with fail
  obtain ⟨k0,k1,k2,k3⟩:=tw_new w (.cells #[.slice A0 x.f0.length c0,.slice A1 x.f1.length c1,.slice A2 x.f2.length c2,.slice A3 x.f3.length c3,.slice A4 x.f4.length c4,.slice A5 x.f5.length c5,.int .i64 x.f6,.int .i64 x.f7,.slice A8 x.f8.length c8,.slice A9 x.f9.length c9,.slice A10 x.f10.length c10] 33) (.cells #[.slice B0 y.f0.length d0,.slice B1 y.f1.length d1,.slice B2 y.f2.length d2,.slice B3 y.f3.length d3,.slice B4 y.f4.length d4] 43) (.map (modesE 2) 2) (.cells #[.map (some (w.heap.size + 2))] 85)
  have HX:=Aside0.mk k0
  have HY:=Aside0.mk k1
  have HF:=Aside0.mk (TwF.mk (w:=((((w.alloc (.cells #[.slice A0 x.f0.length c0,.slice A1 x.f1.length c1,.slice A2 x.f2.length c2,.slice A3 x.f3.length c3,.slice A4 x.f4.length c4,.slice A5 x.f5.length c5,.int .i64 x.f6,.int .i64 x.f7,.slice A8 x.f8.length c8,.slice A9 x.f9.length c9,.slice A10 x.f10.length c10] 33)).alloc (.cells #[.slice B0 y.f0.length d0,.slice B1 y.f1.length d1,.slice B2 y.f2.length d2,.slice B3 y.f3.length d3,.slice B4 y.f4.length d4] 43)).alloc (.map (modesE 2) 2)).alloc (.cells #[.map (some (w.heap.size + 2))] 85))) (bm:=(w.heap.size + 1 + 1 + 1)) (mb:=(w.heap.size + 2)) ((blk_cell k3 0).trans rfl) k2)
  have HB:=Aside0.mk (below_alloc (below_alloc (below_alloc (below_alloc (Below.refl _ w) (.cells #[.slice A0 x.f0.length c0,.slice A1 x.f1.length c1,.slice A2 x.f2.length c2,.slice A3 x.f3.length c3,.slice A4 x.f4.length c4,.slice A5 x.f5.length c5,.int .i64 x.f6,.int .i64 x.f7,.slice A8 x.f8.length c8,.slice A9 x.f9.length c9,.slice A10 x.f10.length c10] 33)) (.cells #[.slice B0 y.f0.length d0,.slice B1 y.f1.length d1,.slice B2 y.f2.length d2,.slice B3 y.f3.length d3,.slice B4 y.f4.length d4] 43)) (.map (modesE 2) 2)) (.cells #[.map (some (w.heap.size + 2))] 85))
  clear k0 k1 k2 k3 hm0 hm1 hm2
  obtain ⟨cx0,cx1,cx2,cx3,cx4,cx5,cx6,cx7,cx8,cx9,cx10⟩:=cells11_ HX
  obtain ⟨cy0,cy1,cy2,cy3,cy4⟩:=cells5_ HY
  go_cut [7] (fun s wx=>s = .bool q0 ∧ Aside0 (wx.heap[w.heap.size]? = some (.cells #[.slice A0 x.f0.length c0,.slice A1 x.f1.length c1,.slice A2 x.f2.length c2,.slice A3 x.f3.length c3,.slice A4 x.f4.length c4,.slice A5 x.f5.length c5,.int .i64 x.f6,.int .i64 x.f7,.slice A8 x.f8.length c8,.slice A9 x.f9.length c9,.slice A10 x.f10.length c10] 33 (0,0))) ∧ Aside0 (wx.heap[w.heap.size + 1]? = some (.cells #[.slice B0 y.f0.length d0,.slice B1 y.f1.length d1,.slice B2 y.f2.length d2,.slice B3 y.f3.length d3,.slice B4 y.f4.length d4] 43 (0,0))) ∧ Aside0 (TwF wx (w.heap.size + 1 + 1 + 1) (w.heap.size + 2)) ∧ Aside0 (Below w.heap.size w wx))
  case first =>
    clear H
    have h:=Hq0.out
    clear Hq0
    obtain ⟨b0,hv,h0_⟩:=Option.bind_eq_some_iff.1 h
    clear h
    have h:=h0_
    clear h0_
    obtain ⟨hc0,hc1,hc2,hc3,hc4,hc5,hc8,hc9,hc10,gc0,gc1,gc2,gc3,gc4⟩:=CC.out
    have HC0:=Aside0.mk (fun (W : World) hx hy=>calls_dr (slices_Equal_int_int.calls k A1 c1 x.f1 B1 d1 y.f1 b0 W hx hc1 hy gc1 hv))
    clear hv hc0 hc1 hc2 hc3 hc4 hc5 hc8 hc9 hc10 gc0 gc1 gc2 gc3 gc4
    cases b0 with
    | false =>
      obtain rfl:=Option.some.inj (show some false = some q0 by simpa using h)
      clear h
      go_wp2_with (first
        | (go_at_call 46;refine (HC0.out _ (Kd.C_below HH1.out (by repeat (first | exact HB.out | (with_reducible apply pw_below_drewN) | (with_reducible apply below_drew1) | (with_reducible apply below_alloc) | exact Below.refl _ _))) (Kd.C_below GG1.out (by repeat (first | exact HB.out | (with_reducible apply pw_below_drewN) | (with_reducible apply below_drew1) | (with_reducible apply below_alloc) | exact Below.refl _ _)))).mono ?_;rintro e w' ⟨rfl,hd⟩;have hb:=hd;have n1:=Aside0.mk (below_step (by repeat (first | exact HB.out | (with_reducible apply pw_below_drewN) | (with_reducible apply below_drew1) | (with_reducible apply below_alloc) | exact Below.refl _ _)) hb);have n2:=Aside0.mk (blk_below (by first | exact HX.out) hb);have n3:=Aside0.mk (blk_below (by first | exact HY.out) hb);have n4:=Aside0.mk (TwF.below HF.out hb);clear HC0 HB HX HY HF hb hd cx0 cx1 cx2 cx3 cx4 cx5 cx6 cx7 cx8 cx9 cx10 cy0 cy1 cy2 cy3 cy4;have HB:=n1;have HX:=n2;have HY:=n3;have HF:=n4;clear n1 n2 n3 n4;obtain ⟨cx0,cx1,cx2,cx3,cx4,cx5,cx6,cx7,cx8,cx9,cx10⟩:=cells11_ HX;obtain ⟨cy0,cy1,cy2,cy3,cy4⟩:=cells5_ HY))
      go_meet
      exact ⟨by first | rfl | (simp;done) | (simp [*];done),HX,HY,HF,⟨(by repeat (first | exact HB.out | (with_reducible apply pw_below_drewN) | (with_reducible apply below_drew1) | (with_reducible apply below_alloc) | exact Below.refl _ _))⟩⟩
    | true =>
      rw [if_pos rfl] at h
      obtain ⟨b1,hv,h0_⟩:=Option.bind_eq_some_iff.1 h
      clear h
      have h:=h0_
      clear h0_
      obtain ⟨hc0,hc1,hc2,hc3,hc4,hc5,hc8,hc9,hc10,gc0,gc1,gc2,gc3,gc4⟩:=CC.out
      have HC1:=Aside0.mk (fun (W : World) hx hy=>calls_dr (slices_Equal_int_int.calls k A2 c2 x.f2 B2 d2 y.f2 b1 W hx hc2 hy gc2 hv))
      clear hv hc0 hc1 hc2 hc3 hc4 hc5 hc8 hc9 hc10 gc0 gc1 gc2 gc3 gc4
      cases b1 with
      | false =>
        obtain rfl:=Option.some.inj (show some false = some q0 by simpa using h)
        clear h
        go_wp2_with (first
          | (go_at_call 46;refine (HC0.out _ (Kd.C_below HH1.out (by repeat (first | exact HB.out | (with_reducible apply pw_below_drewN) | (with_reducible apply below_drew1) | (with_reducible apply below_alloc) | exact Below.refl _ _))) (Kd.C_below GG1.out (by repeat (first | exact HB.out | (with_reducible apply pw_below_drewN) | (with_reducible apply below_drew1) | (with_reducible apply below_alloc) | exact Below.refl _ _)))).mono ?_;rintro e w' ⟨rfl,hd⟩;have hb:=hd;have n1:=Aside0.mk (below_step (by repeat (first | exact HB.out | (with_reducible apply pw_below_drewN) | (with_reducible apply below_drew1) | (with_reducible apply below_alloc) | exact Below.refl _ _)) hb);have n2:=Aside0.mk (blk_below (by first | exact HX.out) hb);have n3:=Aside0.mk (blk_below (by first | exact HY.out) hb);have n4:=Aside0.mk (TwF.below HF.out hb);clear HC0 HB HX HY HF hb hd cx0 cx1 cx2 cx3 cx4 cx5 cx6 cx7 cx8 cx9 cx10 cy0 cy1 cy2 cy3 cy4;have HB:=n1;have HX:=n2;have HY:=n3;have HF:=n4;clear n1 n2 n3 n4;obtain ⟨cx0,cx1,cx2,cx3,cx4,cx5,cx6,cx7,cx8,cx9,cx10⟩:=cells11_ HX;obtain ⟨cy0,cy1,cy2,cy3,cy4⟩:=cells5_ HY)
          | (go_at_call 46;refine (HC1.out _ (Kd.C_below HH2.out (by repeat (first | exact HB.out | (with_reducible apply pw_below_drewN) | (with_reducible apply below_drew1) | (with_reducible apply below_alloc) | exact Below.refl _ _))) (Kd.C_below GG2.out (by repeat (first | exact HB.out | (with_reducible apply pw_below_drewN) | (with_reducible apply below_drew1) | (with_reducible apply below_alloc) | exact Below.refl _ _)))).mono ?_;rintro e w' ⟨rfl,hd⟩;have hb:=hd;have n1:=Aside0.mk (below_step (by repeat (first | exact HB.out | (with_reducible apply pw_below_drewN) | (with_reducible apply below_drew1) | (with_reducible apply below_alloc) | exact Below.refl _ _)) hb);have n2:=Aside0.mk (blk_below (by first | exact HX.out) hb);have n3:=Aside0.mk (blk_below (by first | exact HY.out) hb);have n4:=Aside0.mk (TwF.below HF.out hb);clear HC1 HB HX HY HF hb hd cx0 cx1 cx2 cx3 cx4 cx5 cx6 cx7 cx8 cx9 cx10 cy0 cy1 cy2 cy3 cy4;have HB:=n1;have HX:=n2;have HY:=n3;have HF:=n4;clear n1 n2 n3 n4;obtain ⟨cx0,cx1,cx2,cx3,cx4,cx5,cx6,cx7,cx8,cx9,cx10⟩:=cells11_ HX;obtain ⟨cy0,cy1,cy2,cy3,cy4⟩:=cells5_ HY))
        go_meet
        exact ⟨by first | rfl | (simp;done) | (simp [*];done),HX,HY,HF,⟨(by repeat (first | exact HB.out | (with_reducible apply pw_below_drewN) | (with_reducible apply below_drew1) | (with_reducible apply below_alloc) | exact Below.refl _ _))⟩⟩
      | true =>
        rw [if_pos rfl] at h
        have hv:=h
        clear h
        obtain ⟨hc0,hc1,hc2,hc3,hc4,hc5,hc8,hc9,hc10,gc0,gc1,gc2,gc3,gc4⟩:=CC.out
        have HC2:=Aside0.mk (fun (W : World) hx hy=>calls_dr (impl_Say.calls k A8 c8 x.f8 B4 d4 y.f4 q0 W hx hc8 hy gc4 hv))
        clear hv hc0 hc1 hc2 hc3 hc4 hc5 hc8 hc9 hc10 gc0 gc1 gc2 gc3 gc4
        go_wp2_with (first
          | (go_at_call 46;refine (HC0.out _ (Kd.C_below HH1.out (by repeat (first | exact HB.out | (with_reducible apply pw_below_drewN) | (with_reducible apply below_drew1) | (with_reducible apply below_alloc) | exact Below.refl _ _))) (Kd.C_below GG1.out (by repeat (first | exact HB.out | (with_reducible apply pw_below_drewN) | (with_reducible apply below_drew1) | (with_reducible apply below_alloc) | exact Below.refl _ _)))).mono ?_;rintro e w' ⟨rfl,hd⟩;have hb:=hd;have n1:=Aside0.mk (below_step (by repeat (first | exact HB.out | (with_reducible apply pw_below_drewN) | (with_reducible apply below_drew1) | (with_reducible apply below_alloc) | exact Below.refl _ _)) hb);have n2:=Aside0.mk (blk_below (by first | exact HX.out) hb);have n3:=Aside0.mk (blk_below (by first | exact HY.out) hb);have n4:=Aside0.mk (TwF.below HF.out hb);clear HC0 HB HX HY HF hb hd cx0 cx1 cx2 cx3 cx4 cx5 cx6 cx7 cx8 cx9 cx10 cy0 cy1 cy2 cy3 cy4;have HB:=n1;have HX:=n2;have HY:=n3;have HF:=n4;clear n1 n2 n3 n4;obtain ⟨cx0,cx1,cx2,cx3,cx4,cx5,cx6,cx7,cx8,cx9,cx10⟩:=cells11_ HX;obtain ⟨cy0,cy1,cy2,cy3,cy4⟩:=cells5_ HY)
          | (go_at_call 46;refine (HC1.out _ (Kd.C_below HH2.out (by repeat (first | exact HB.out | (with_reducible apply pw_below_drewN) | (with_reducible apply below_drew1) | (with_reducible apply below_alloc) | exact Below.refl _ _))) (Kd.C_below GG2.out (by repeat (first | exact HB.out | (with_reducible apply pw_below_drewN) | (with_reducible apply below_drew1) | (with_reducible apply below_alloc) | exact Below.refl _ _)))).mono ?_;rintro e w' ⟨rfl,hd⟩;have hb:=hd;have n1:=Aside0.mk (below_step (by repeat (first | exact HB.out | (with_reducible apply pw_below_drewN) | (with_reducible apply below_drew1) | (with_reducible apply below_alloc) | exact Below.refl _ _)) hb);have n2:=Aside0.mk (blk_below (by first | exact HX.out) hb);have n3:=Aside0.mk (blk_below (by first | exact HY.out) hb);have n4:=Aside0.mk (TwF.below HF.out hb);clear HC1 HB HX HY HF hb hd cx0 cx1 cx2 cx3 cx4 cx5 cx6 cx7 cx8 cx9 cx10 cy0 cy1 cy2 cy3 cy4;have HB:=n1;have HX:=n2;have HY:=n3;have HF:=n4;clear n1 n2 n3 n4;obtain ⟨cx0,cx1,cx2,cx3,cx4,cx5,cx6,cx7,cx8,cx9,cx10⟩:=cells11_ HX;obtain ⟨cy0,cy1,cy2,cy3,cy4⟩:=cells5_ HY)
          | (go_at_call 47;refine (HC2.out _ (Kd.C_below HH8.out (by repeat (first | exact HB.out | (with_reducible apply pw_below_drewN) | (with_reducible apply below_drew1) | (with_reducible apply below_alloc) | exact Below.refl _ _))) (Kd.C_below GG4.out (by repeat (first | exact HB.out | (with_reducible apply pw_below_drewN) | (with_reducible apply below_drew1) | (with_reducible apply below_alloc) | exact Below.refl _ _)))).mono ?_;rintro e w' ⟨rfl,hd⟩;have hb:=hd;have n1:=Aside0.mk (below_step (by repeat (first | exact HB.out | (with_reducible apply pw_below_drewN) | (with_reducible apply below_drew1) | (with_reducible apply below_alloc) | exact Below.refl _ _)) hb);have n2:=Aside0.mk (blk_below (by first | exact HX.out) hb);have n3:=Aside0.mk (blk_below (by first | exact HY.out) hb);have n4:=Aside0.mk (TwF.below HF.out hb);clear HC2 HB HX HY HF hb hd cx0 cx1 cx2 cx3 cx4 cx5 cx6 cx7 cx8 cx9 cx10 cy0 cy1 cy2 cy3 cy4;have HB:=n1;have HX:=n2;have HY:=n3;have HF:=n4;clear n1 n2 n3 n4;obtain ⟨cx0,cx1,cx2,cx3,cx4,cx5,cx6,cx7,cx8,cx9,cx10⟩:=cells11_ HX;obtain ⟨cy0,cy1,cy2,cy3,cy4⟩:=cells5_ HY))
        go_meet
        exact ⟨by first | rfl | (simp;done) | (simp [*];done),HX,HY,HF,⟨(by repeat (first | exact HB.out | (with_reducible apply pw_below_drewN) | (with_reducible apply below_drew1) | (with_reducible apply below_alloc) | exact Below.refl _ _))⟩⟩
  case rest =>
  clear Hq0 HX HY HB HF cx0 cx1 cx2 cx3 cx4 cx5 cx6 cx7 cx8 cx9 cx10 cy0 cy1 cy2 cy3 cy4
  obtain ⟨rfl,HX,HY,HF,HB⟩:=hcut
  obtain ⟨cx0,cx1,cx2,cx3,cx4,cx5,cx6,cx7,cx8,cx9,cx10⟩:=cells11_ HX
  obtain ⟨cy0,cy1,cy2,cy3,cy4⟩:=cells5_ HY
  have h:=H.out
  clear H
  cases q0 with
  | false =>
    obtain rfl:=Option.some.inj (show some false = some r by simpa using h)
    clear h
    go_wp2
    go_ret
    exact ⟨by first | rfl | (simp;done) | (simp [*];done),(by repeat (first | exact HB.out | (with_reducible apply pw_below_drewN) | (with_reducible apply below_drew1) | (with_reducible apply below_alloc) | exact Below.refl _ _))⟩
  | true =>
    rw [if_pos rfl] at h
    obtain ⟨b1,hv,h0_⟩:=Option.bind_eq_some_iff.1 h
    clear h
    have h:=h0_
    clear h0_
    obtain ⟨hc0,hc1,hc2,hc3,hc4,hc5,hc8,hc9,hc10,gc0,gc1,gc2,gc3,gc4⟩:=CC.out
    have HC1:=Aside0.mk (fun (W : World) hx hy=>(impl_sameQueues.calls k A4 c4 x.f4 B3 d3 y.f3 b1 W hx hc4 hy gc3 hv))
    clear hv hc0 hc1 hc2 hc3 hc4 hc5 hc8 hc9 hc10 gc0 gc1 gc2 gc3 gc4
    cases b1 with
    | false =>
      obtain rfl:=Option.some.inj (show some false = some r by simpa using h)
      clear h
      go_wp2_with (first
        | (go_at_call 48;refine (HC1.out _ (Kd.C_below HH4.out (by repeat (first | exact HB.out | (with_reducible apply pw_below_drewN) | (with_reducible apply below_drew1) | (with_reducible apply below_alloc) | exact Below.refl _ _))) (Kd.C_below GG3.out (by repeat (first | exact HB.out | (with_reducible apply pw_below_drewN) | (with_reducible apply below_drew1) | (with_reducible apply below_alloc) | exact Below.refl _ _)))).mono ?_;rintro e w' ⟨rfl,hd⟩;have hb:=hd;have n1:=Aside0.mk (below_step (by repeat (first | exact HB.out | (with_reducible apply pw_below_drewN) | (with_reducible apply below_drew1) | (with_reducible apply below_alloc) | exact Below.refl _ _)) hb);have n2:=Aside0.mk (blk_below (by first | exact HX.out) hb);have n3:=Aside0.mk (blk_below (by first | exact HY.out) hb);have n4:=Aside0.mk (TwF.below HF.out hb);clear HC1 HB HX HY HF hb hd cx0 cx1 cx2 cx3 cx4 cx5 cx6 cx7 cx8 cx9 cx10 cy0 cy1 cy2 cy3 cy4;have HB:=n1;have HX:=n2;have HY:=n3;have HF:=n4;clear n1 n2 n3 n4;obtain ⟨cx0,cx1,cx2,cx3,cx4,cx5,cx6,cx7,cx8,cx9,cx10⟩:=cells11_ HX;obtain ⟨cy0,cy1,cy2,cy3,cy4⟩:=cells5_ HY))
      go_ret
      exact ⟨by first | rfl | (simp;done) | (simp [*];done),(by repeat (first | exact HB.out | (with_reducible apply pw_below_drewN) | (with_reducible apply below_drew1) | (with_reducible apply below_alloc) | exact Below.refl _ _))⟩
    | true =>
      rw [if_pos rfl] at h
      have hv:=h
      clear h
      obtain ⟨hc0,hc1,hc2,hc3,hc4,hc5,hc8,hc9,hc10,gc0,gc1,gc2,gc3,gc4⟩:=CC.out
      have HC2:=Aside0.mk (fun (W : World) (hF : TwF W (w.heap.size + 1 + 1 + 1) (w.heap.size + 2)) hx hy=>(twEq_calls (w.heap.size + 1 + 1 + 1) (w.heap.size + 2) (twinV k) (twin_says k (w.heap.size + 1 + 1 + 1) (w.heap.size + 2)) A0 B0 c0 d0 x.f0 y.f0 r W hF hx hy hv))
      clear hv hc0 hc1 hc2 hc3 hc4 hc5 hc8 hc9 hc10 gc0 gc1 gc2 gc3 gc4
      go_wp2_with (first
        | (go_at_call 48;refine (HC1.out _ (Kd.C_below HH4.out (by repeat (first | exact HB.out | (with_reducible apply pw_below_drewN) | (with_reducible apply below_drew1) | (with_reducible apply below_alloc) | exact Below.refl _ _))) (Kd.C_below GG3.out (by repeat (first | exact HB.out | (with_reducible apply pw_below_drewN) | (with_reducible apply below_drew1) | (with_reducible apply below_alloc) | exact Below.refl _ _)))).mono ?_;rintro e w' ⟨rfl,hd⟩;have hb:=hd;have n1:=Aside0.mk (below_step (by repeat (first | exact HB.out | (with_reducible apply pw_below_drewN) | (with_reducible apply below_drew1) | (with_reducible apply below_alloc) | exact Below.refl _ _)) hb);have n2:=Aside0.mk (blk_below (by first | exact HX.out) hb);have n3:=Aside0.mk (blk_below (by first | exact HY.out) hb);have n4:=Aside0.mk (TwF.below HF.out hb);clear HC1 HB HX HY HF hb hd cx0 cx1 cx2 cx3 cx4 cx5 cx6 cx7 cx8 cx9 cx10 cy0 cy1 cy2 cy3 cy4;have HB:=n1;have HX:=n2;have HY:=n3;have HF:=n4;clear n1 n2 n3 n4;obtain ⟨cx0,cx1,cx2,cx3,cx4,cx5,cx6,cx7,cx8,cx9,cx10⟩:=cells11_ HX;obtain ⟨cy0,cy1,cy2,cy3,cy4⟩:=cells5_ HY)
        | (go_at_call 61;refine (HC2.out _ HF.out (Kd.C_below HH0.out (by repeat (first | exact HB.out | (with_reducible apply pw_below_drewN) | (with_reducible apply below_drew1) | (with_reducible apply below_alloc) | exact Below.refl _ _))) (Kd.C_below GG0.out (by repeat (first | exact HB.out | (with_reducible apply pw_below_drewN) | (with_reducible apply below_drew1) | (with_reducible apply below_alloc) | exact Below.refl _ _)))).mono ?_;rintro e w' ⟨rfl,hd⟩;have hb:=hd;have n1:=Aside0.mk (below_step (by repeat (first | exact HB.out | (with_reducible apply pw_below_drewN) | (with_reducible apply below_drew1) | (with_reducible apply below_alloc) | exact Below.refl _ _)) hb);have n2:=Aside0.mk (blk_below (by first | exact HX.out) hb);have n3:=Aside0.mk (blk_below (by first | exact HY.out) hb);have n4:=Aside0.mk (TwF.below HF.out hb);clear HC2 HB HX HY HF hb hd cx0 cx1 cx2 cx3 cx4 cx5 cx6 cx7 cx8 cx9 cx10 cy0 cy1 cy2 cy3 cy4;have HB:=n1;have HX:=n2;have HY:=n3;have HF:=n4;clear n1 n2 n3 n4;obtain ⟨cx0,cx1,cx2,cx3,cx4,cx5,cx6,cx7,cx8,cx9,cx10⟩:=cells11_ HX;obtain ⟨cy0,cy1,cy2,cy3,cy4⟩:=cells5_ HY))
      go_ret
      exact ⟨by first | rfl | (simp;done) | (simp [*];done),(by repeat (first | exact HB.out | (with_reducible apply pw_below_drewN) | (with_reducible apply below_drew1) | (with_reducible apply below_alloc) | exact Below.refl _ _))⟩
def impl_CpuTwin.f (k : Nat) (l0_0 : List S67) (l0_1 : List Int) (l0_2 : List Int) (l0_3 : List (List Int)) (l0_4 : List (List Int)) (l0_5 : List Int) (a0_6 : Int) (a0_7 : Int) (l0_8 : List S74) (l0_9 : List Int) (l0_10 : List Int) (l1_0 : List S84) (l1_1 : List Int) (l1_2 : List Int) (l1_3 : List (List Int)) (l1_4 : List S74) : Option Bool:=cpuTwinV k ⟨l0_0,l0_1,l0_2,l0_3,l0_4,l0_5,a0_6,a0_7,l0_8,l0_9,l0_10⟩ ⟨l1_0,l1_1,l1_2,l1_3,l1_4⟩
theorem impl_CpuTwin.calls (k : Nat) (A0_0 : Option Addr) (c0_0 : Nat) (l0_0 : List S67) (A0_1 : Option Addr) (c0_1 : Nat) (l0_1 : List Int) (A0_2 : Option Addr) (c0_2 : Nat) (l0_2 : List Int) (A0_3 : Option Addr) (c0_3 : Nat) (l0_3 : List (List Int)) (A0_4 : Option Addr) (c0_4 : Nat) (l0_4 : List (List Int)) (A0_5 : Option Addr) (c0_5 : Nat) (l0_5 : List Int) (a0_6 : Int) (a0_7 : Int) (A0_8 : Option Addr) (c0_8 : Nat) (l0_8 : List S74) (A0_9 : Option Addr) (c0_9 : Nat) (l0_9 : List Int) (A0_10 : Option Addr) (c0_10 : Nat) (l0_10 : List Int) (A1_0 : Option Addr) (c1_0 : Nat) (l1_0 : List S84) (A1_1 : Option Addr) (c1_1 : Nat) (l1_1 : List Int) (A1_2 : Option Addr) (c1_2 : Nat) (l1_2 : List Int) (A1_3 : Option Addr) (c1_3 : Nat) (l1_3 : List (List Int)) (A1_4 : Option Addr) (c1_4 : Nat) (l1_4 : List S74) (r : Bool) (w : World) (hr0_0 : Kd.C k67 w A0_0 l0_0.length l0_0) (hc0_0 : l0_0.length ≤ c0_0) (hr0_1 : Kd.C (Kd.int .i64) w A0_1 l0_1.length l0_1) (hc0_1 : l0_1.length ≤ c0_1) (hr0_2 : Kd.C (Kd.int .i64) w A0_2 l0_2.length l0_2) (hc0_2 : l0_2.length ≤ c0_2) (hr0_3 : Kd.C (Kd.slice 3 (Kd.int .i64)) w A0_3 l0_3.length l0_3) (hc0_3 : l0_3.length ≤ c0_3) (hr0_4 : Kd.C (Kd.slice 3 (Kd.int .i64)) w A0_4 l0_4.length l0_4) (hc0_4 : l0_4.length ≤ c0_4) (hr0_5 : Kd.C (Kd.int .i64) w A0_5 l0_5.length l0_5) (hc0_5 : l0_5.length ≤ c0_5) (hr0_8 : Kd.C k74 w A0_8 l0_8.length l0_8) (hc0_8 : l0_8.length ≤ c0_8) (hr0_9 : Kd.C (Kd.int .i64) w A0_9 l0_9.length l0_9) (hc0_9 : l0_9.length ≤ c0_9) (hr0_10 : Kd.C (Kd.int .i64) w A0_10 l0_10.length l0_10) (hc0_10 : l0_10.length ≤ c0_10) (hr1_0 : Kd.C k84 w A1_0 l1_0.length l1_0) (hc1_0 : l1_0.length ≤ c1_0) (hr1_1 : Kd.C (Kd.int .i64) w A1_1 l1_1.length l1_1) (hc1_1 : l1_1.length ≤ c1_1) (hr1_2 : Kd.C (Kd.int .i64) w A1_2 l1_2.length l1_2) (hc1_2 : l1_2.length ≤ c1_2) (hr1_3 : Kd.C (Kd.slice 3 (Kd.int .i64)) w A1_3 l1_3.length l1_3) (hc1_3 : l1_3.length ≤ c1_3) (hr1_4 : Kd.C k74 w A1_4 l1_4.length l1_4) (hc1_4 : l1_4.length ≤ c1_4) (h : impl_CpuTwin.f k l0_0 l0_1 l0_2 l0_3 l0_4 l0_5 a0_6 a0_7 l0_8 l0_9 l0_10 l1_0 l1_1 l1_2 l1_3 l1_4 = some r) :
    Calls Try.prog 22 #[.agg #[.slice A0_0 l0_0.length c0_0,.slice A0_1 l0_1.length c0_1,.slice A0_2 l0_2.length c0_2,.slice A0_3 l0_3.length c0_3,.slice A0_4 l0_4.length c0_4,.slice A0_5 l0_5.length c0_5,.int .i64 a0_6,.int .i64 a0_7,.slice A0_8 l0_8.length c0_8,.slice A0_9 l0_9.length c0_9,.slice A0_10 l0_10.length c0_10],.agg #[.slice A1_0 l1_0.length c1_0,.slice A1_1 l1_1.length c1_1,.slice A1_2 l1_2.length c1_2,.slice A1_3 l1_3.length c1_3,.slice A1_4 l1_4.length c1_4]] w fun e w'=>e = .returned (.bool r) ∧ Below w.heap.size w w' :=
  cpuTwinW k ⟨l0_0,l0_1,l0_2,l0_3,l0_4,l0_5,a0_6,a0_7,l0_8,l0_9,l0_10⟩ ⟨l1_0,l1_1,l1_2,l1_3,l1_4⟩ A0_0 c0_0 A0_1 c0_1 A0_2 c0_2 A0_3 c0_3 A0_4 c0_4 A0_5 c0_5 A0_8 c0_8 A0_9 c0_9 A0_10 c0_10 A1_0 c1_0 A1_1 c1_1 A1_2 c1_2 A1_3 c1_3 A1_4 c1_4 r w hr0_0 hc0_0 hr0_1 hc0_1 hr0_2 hc0_2 hr0_3 hc0_3 hr0_4 hc0_4 hr0_5 hc0_5 hr0_8 hc0_8 hr0_9 hc0_9 hr0_10 hc0_10 hr1_0 hc1_0 hr1_1 hc1_1 hr1_2 hc1_2 hr1_3 hc1_3 hr1_4 hc1_4 h
end Go.Proofs.Ythbflhimmmfonaa.P
