/- Parts of the proof of FnWholeOk: plain Lean functions of Go functions, and that the calls come to what they say; no condition beyond those that each theorem names. -/
import Derived.Test.YthgdapgophkklaaZFnWholeOk13
import Derived.RangeFuncNested
import Derived.RangeFuncBound
import Derived.RangeFuncCalls
import Derived.RangeFuncLeaves
import Derived.WalkKit
import Derived.OwnWalkIn
import Derived.TacticsInMore
import Derived.LoopNIn
import Derived.LoopIn
import Derived.RangeFuncBox
import Derived.Shelf.Abstract
import Derived.Test.YthgdapgophkklaaZFnWholeOk4
import Derived.Test.YthgdapgophkklaaZFnWholeOk12
namespace Go.Proofs.Ythgdapgophkklaa.P
open Go.RowKit Go.Proofs.YthgdapgophkklaaW.PrintWords Go.Proofs.YthgdapgophkklaaW.PrintLast Go.Proofs.YthgdapgophkklaaW.PrintMore
attribute [local go_sem] Oper.semAt_some
set_option linter.unusedVariables false
set_option linter.unusedSimpArgs false
structure Pl where
 k : Int
 a : Int
 b : Int
 n : Int
 s4 : Option Addr × Nat × Nat
 s5 : Option Addr × Nat × Nat
 rm : Int
def Pl.enc (x : Pl) : Array Value:=#[.agg #[.int .i64 x.k,.int .i64 x.a,.int .i64 x.b,.int .i64 x.n,.slice x.s4.1 x.s4.2.1 x.s4.2.2,.slice x.s5.1 x.s5.2.1 x.s5.2.2,.int .i64 x.rm]]
abbrev I5:=Int × Int × Int × Int × Int
def Pl.ints (x : Pl) : I5:=(x.k,x.a,x.b,x.n,x.rm)
def allL (T : S41 → Int → Option (List I5)) (rm : Int) : List S41 → Option (List I5)
 | []=>some []
 | x :: t=>(T x rm).bind fun a=>(allL T rm t).bind fun b=>some (a ++ b)
def innR (s : S41) (rm : Int) : Int:=if s.f0 = 8 then s.f1 else rm
def allT (L : List S41 → Int → Option (List I5)) (s : S41) (rm : Int) : Option (List I5) :=
 (L s.f4 (innR s rm)).bind fun a=>(L s.f5 (innR s rm)).bind fun b=>some ((s.f0,s.f1,s.f2,s.f3,rm) :: (a ++ b))
def allK : Nat → List S41 → Int → Option (List I5)
 | 0=>fun _ _=>none
 | k + 1=>fun l rm=>allL (allT (allK k)) rm l
structure Kq (n₀ B : Nat) (W W' : World) : Prop where
 below : Below n₀ W W'
 cells : ∀ (k : Nat) (cs : Array Value) (t : TypeId) (fr : Nat × Nat),B ≤ k → W.heap[k]? = some (.cells cs t fr) → W'.heap[k]? = some (.cells cs t fr)
theorem Kq.refl (n₀ B : Nat) (W : World) : Kq n₀ B W W:=⟨Below.refl _ _,fun _ _ _ _ _ h=>h⟩
theorem Kq.trans {n₀ B : Nat} {X Y Z : World} (h : Kq n₀ B X Y) (k : Kq n₀ B Y Z) : Kq n₀ B X Z:=⟨h.below.trans k.below,fun i cs t fr hi hc=>k.cells i cs t fr hi (h.cells i cs t fr hi hc)⟩
theorem Kq.alloc {n₀ B : Nat} {X Y : World} (h : Kq n₀ B X Y) (hn : n₀ ≤ Y.heap.size) (o : Obj) : Kq n₀ B X (Y.alloc o) :=
 ⟨h.below.alloc hn o,fun i cs t fr hi hc=>(Below.heap_alloc Y o i (Array.getElem?_eq_some_iff.1 (h.cells i cs t fr hi hc)).1).trans (h.cells i cs t fr hi hc)⟩
theorem Kq.drewN {n₀ B : Nat} {X Y : World} (h : Kq n₀ B X Y) (n : Nat) : Kq n₀ B X (Y.drewN n):=⟨pw_below_drewN h.below n,fun i cs t fr hi hc=>h.cells i cs t fr hi hc⟩
theorem Kq.drew {n₀ B : Nat} {X Y : World} (h : Kq n₀ B X Y) : Kq n₀ B X Y.drew:=⟨h.below.drew,fun i cs t fr hi hc=>h.cells i cs t fr hi hc⟩
theorem Kq.t {n₀ B : Nat} {X Y Z : World} (h : Kq n₀ B X Y) (k : Kq n₀ B Y Z) : Kq n₀ B X Z:=h.trans k
theorem Kq.b {n₀ B : Nat} {w : World} (hn : n₀ ≤ w.heap.size) (W : World) (l : Nat) (o o' : Obj) (hl : w.heap.size ≤ l) (h : W.heap[l]? = some o) (hc : o.isCells = false) (hw : o.isWalk = false) : Kq n₀ B W (W.putObj l o') :=
 ⟨belowK_b hn W l o o' hl h hc hw,fun k cs t fr _ hk=>by
  by_cases e : k = l
  ·subst e
   rw [h] at hk
   cases hk
   cases hc
  ·exact (World.putObj_heap_other e).trans hk⟩
theorem Kq.box {n₀ B : Nat} {W W' : World} (h : Kq n₀ B W W') {b : Nat} (hb : B ≤ b) {v : Value} {t : TypeId} (hv : W.heap[b]? = some (.cells #[v] t (0,0))) : W'.heap[b]? = some (.cells #[v] t (0,0)):=h.cells _ _ _ _ hb hv
structure WAt (w0 : World) (l By Bw : Nat) (W : World) : Prop where
 b : Below w0.heap.size w0 W
 y : W.heap[By]? = some (.cells #[.func (.yield l) #[] #[]] 57 (0,0))
 k : W.heap[Bw]? = some (.cells #[.func (.func 28) #[] #[.pointer (some ⟨By,0,none⟩),.pointer (some ⟨Bw,0,none⟩)]] 58 (0,0))
theorem WAt.step {w0 : World} {l By Bw B : Nat} {W W' : World} (h : WAt w0 l By Bw W) (hy : B ≤ By) (hk : B ≤ Bw) (q : Kq w0.heap.size B W W') : WAt w0 l By Bw W':=⟨h.b.trans q.below,q.box hy h.y,q.box hk h.k⟩
theorem WAt.cells {w0 : World} {l By Bw : Nat} {W : World} (h : WAt w0 l By Bw W) : W.cell? ⟨By,0,none⟩ = some (.func (.yield l) #[] #[]) ∧ W.cell? ⟨Bw,0,none⟩ = some (.func (.func 28) #[] #[.pointer (some ⟨By,0,none⟩),.pointer (some ⟨Bw,0,none⟩)]):=⟨cell_of h.y 0 rfl,cell_of h.k 0 rfl⟩
def WPost (xs : List I5) (n₀ B : Nat) (J Jx : List Pl → World → Prop) (pre : List Pl) (W : World) (e : Ending) (W' : World) : Prop :=
 (e = .returned (.bool true) ∧ ∃ ys : List Pl,ys.map Pl.ints = xs ∧ J (pre ++ ys) W' ∧ Kq n₀ B W W') ∨ (e = .returned (.bool false) ∧ ∃ ys : List Pl,ys.map Pl.ints <+: xs ∧ Jx (pre ++ ys) W')
def Rounds (G : I5 → Prop) (l N n₀ B : Nat) (J Jx : List Pl → World → Prop) : Prop :=
 ∀ (m : Nat) (pre : List Pl) (x : Pl) (W : World),J pre W → pre.length < N → G x.ints → YieldAt Fence.wide m Try.prog l x.enc W fun e W'=>(e = .returned (.bool true) ∧ J (pre ++ [x]) W' ∧ Kq n₀ B W W') ∨ (e = .returned (.bool false) ∧ Jx (pre ++ [x]) W')
def Grows (J : List Pl → World → Prop) : Prop:=∀ s W W',J s W → W.grownBy W' none → J s W'
def WSays (G : I5 → Prop) (w0 : World) (l By Bw B N : Nat) (J Jx : List Pl → World → Prop) (L : List S41 → Int → Option (List I5)) : Prop :=
 ∀ (n : Nat) (A : Option Addr) (c : Nat) (ls : List S41) (rm : Int) (pre : List Pl) (W : World) (xs : List I5),Kd.C k41 w0 A ls.length ls → WAt w0 l By Bw W → J pre W → L ls rm = some xs → (∀ z ∈ xs,G z) → pre.length + xs.length ≤ N →
  CallsIn Fence.wide n Try.prog 28 #[.slice A ls.length c,.int .i64 rm,.pointer (some ⟨By,0,none⟩),.pointer (some ⟨Bw,0,none⟩)] W (WPost xs w0.heap.size B J Jx pre W)
set_option maxRecDepth 100000 in
set_option maxHeartbeats 4000000 in
theorem walk_of (G : I5 → Prop) (w0 : World) (l By Bw B N : Nat) (J Jx : List Pl → World → Prop) (hB : w0.heap.size ≤ B) (hy : B ≤ By) (hw : B ≤ Bw) (hR : Rounds G l N w0.heap.size B J Jx) (hJ : Grows J)
  (L : List S41 → Int → Option (List I5)) (hL : WSays G w0 l By Bw B N J Jx L) : WSays G w0 l By Bw B N J Jx (fun ls rm=>allL (allT L) rm ls):=by
 intro n A c ls rm pre W xs hC hW h0 h hG hN
 have HG:=Aside0.mk hG
 clear hG
 have HL:=Aside0.mk hL
 have HR:=Aside0.mk hR
 have HC:=Aside0.mk hC
 have HW:=Aside0.mk hW
 have HJ:=Aside0.mk hJ
 have H:=Aside0.mk h
 have H0:=Aside0.mk h0
 have hl : ls.length ≤ 9223372036854775807:=hC.2.1
 have hdd : ∀ k : Nat,(Fence.wide.depth.isSome = true → 1 ≤ k):=fun k h=>by cases h
 clear hL hR hC hW hJ h h0
 refine callsIn_of_wp Try.func28 rfl trivial ?_ rfl
 simp only [Try.ntmps28,List.size_toArray,List.length_cons,List.length_nil,Nat.reduceAdd,Nat.reduceSub,Array.replicate_succ,Array.replicate_zero,List.push_toArray,List.append_toArray,List.nil_append,List.cons_append]
 gi_wp2
 gi_loopw [12] (fun p wr=>∃ (i : Nat) (ys : List Pl) (rest : List I5),p = .int .i64 i ∧ i ≤ ls.length ∧ Aside0 (xs = ys.map Pl.ints ++ rest) ∧ Aside0 (allL (allT L) rm (ls.drop i) = some rest) ∧ Aside0 (J (pre ++ ys) wr) ∧ Aside0 (Kq w0.heap.size B W wr)) (fun p _=>ls.length - (intOf p).toNat)
 case atStart=>exact ⟨0,[],xs,rfl,Nat.zero_le _,⟨rfl⟩,H,⟨by simpa using H0.out⟩,⟨Kq.refl _ _ _⟩⟩
 case round =>
  obtain ⟨i,ys,rest,rfl,hi,HX,HA,HJS,HK⟩:=hrel
  clear H H0
  by_cases hlt : i < ls.length
  ·have hltz : decide ((i : Int) < (ls.length : Int)) = true:=decide_eq_true (by omega)
   have p1 : 0 ≤ (i : Int):=by omega
   have q1 : (i : Int) < (ls.length : Int):=by omega
   have HW2:=Aside0.mk (HW.out.step hy hw HK.out)
   obtain ⟨ad,A4,c4,A5,c5,e1,f0,f1,f2,f3,f4,f5,hc4,H4,hc5,H5⟩:=at_T41 HC.out (i : Int) p1 q1
   cases e1
   rw [Int.toNat_natCast] at f0 f1 f2 f3 f4 f5
   have tr : ∀ {p : Addr} {v : Value},w0.cell? p = some v → wr.cell? p = some v:=fun h=>(HW2.out.b.cell (World.block_lt_of_cell? w0 _ h)).trans h
   have g0:=tr f0
   have g1:=tr f1
   have g2:=tr f2
   have g3:=tr f3
   have g4:=tr f4
   have g5:=tr f5
   clear f0 f1 f2 f3 f4 f5 tr
   have ex : ls.drop i = rd_T41 ls (i : Int) :: ls.drop (i + 1):=by
    rw [List.drop_eq_getElem_cons hlt]
    unfold rd_T41
    rw [Int.toNat_natCast,List.getD_eq_getElem?_getD,List.getElem?_eq_getElem hlt]
    rfl
   have ha:=HA.out
   rw [ex] at ha
   clear HA ex
   generalize rd_T41 ls (i : Int) = x at *
   obtain ⟨a,ha1,ha⟩:=Option.bind_eq_some_iff.1 ha
   obtain ⟨b,hb1,hb2⟩:=Option.bind_eq_some_iff.1 ha
   obtain rfl : a ++ b = rest:=Option.some.inj hb2
   obtain ⟨a4,h4,ha1⟩:=Option.bind_eq_some_iff.1 ha1
   obtain ⟨a5,h5,ha1⟩:=Option.bind_eq_some_iff.1 ha1
   obtain rfl:=Option.some.inj ha1
   clear ha hb2 ha1
   have hxl : xs.length = ys.length + (1 + a4.length + a5.length + b.length):=by rw [HX.out];simp;omega
   obtain ⟨cy,ck⟩:=HW2.out.cells
   have ly:=World.block_lt_of_cell? wr _ cy
   have lk:=World.block_lt_of_cell? wr _ ck
   have my : ∀ o,(wr.alloc o).cell? ⟨By,0,none⟩ = some (.func (.yield l) #[] #[]):=fun o=>((below_alloc (Below.refl _ wr) o).cell ly).trans cy
   clear cy ck
   obtain ⟨pl,hpl⟩ : ∃ pl : Pl,pl = ⟨x.f0,x.f1,x.f2,x.f3,(A4,x.f4.length,c4),(A5,x.f5.length,c5),rm⟩:=⟨_,rfl⟩
   have hint : pl.ints = (x.f0,x.f1,x.f2,x.f3,rm):=by rw [hpl];rfl
   obtain ⟨fn,tmps,assign,body,hyy,hRd⟩:=HR.out (n - 1) (pre ++ ys) pl (wr.alloc (.cells #[.int .i64 x.f0,.int .i64 x.f1,.int .i64 x.f2,.int .i64 x.f3,.slice A4 x.f4.length c4,.slice A5 x.f5.length c5] 41)) (HJ.out _ _ _ HJS.out (World.grownBy_alloc wr _ none)) (by simp;omega) (by rw [hint];exact HG.out _ (by rw [HX.out];simp))
   rw [hpl] at hyy
   dsimp only [Pl.enc] at hyy
   have HH:=Aside0.mk (And.intro (And.intro h4 h5) hb1)
   have HRd:=Aside0.mk hRd
   have HI:=Aside0.mk hint
   clear hRd h4 h5 hb1 hint hpl
   gi_wp2
   (try refine ⟨hdd _,?_⟩)
   refine HRd.out.mono ?_
   clear HRd hyy my g0 g1 g2 g3 g4 g5
   rintro e W3 (⟨rfl,hJ3,hk3⟩ | ⟨rfl,hJx3⟩)
   ·have hBw : B ≤ wr.heap.size:=Nat.le_of_lt (Nat.lt_of_le_of_lt hy ly)
    have hs3:=hk3.cells _ _ _ _ hBw (World.alloc_heap_new wr (.cells #[.int .i64 x.f0,.int .i64 x.f1,.int .i64 x.f2,.int .i64 x.f3,.slice A4 x.f4.length c4,.slice A5 x.f5.length c5] 41))
    have hk3' : Kq w0.heap.size B W W3:=(HK.out.alloc (by omega) _).trans hk3
    have HW3:=Aside0.mk (HW.out.step hy hw hk3')
    have HK3:=Aside0.mk hk3'
    have HJ3:=Aside0.mk hJ3
    obtain ⟨cy,ck⟩:=HW3.out.cells
    have e0:=cell_of hs3 0 rfl
    have e1:=cell_of hs3 1 rfl
    have e4:=cell_of hs3 4 rfl
    have e5:=cell_of hs3 5 rfl
    have HS3:=Aside0.mk hs3
    clear hs3 hk3 hk3' hJ3 HJS HK HW2
    obtain ⟨⟨h4,h5⟩,hb1⟩:=HH.out
    clear HH
    have HB1:=Aside0.mk hb1
    clear hb1
    have h8 : ((x.f0 == 8) = true ∧ innR x rm = x.f1) ∨ ((x.f0 == 8) = false ∧ innR x rm = rm):=by
     by_cases q : x.f0 = 8
     ·exact .inl ⟨by simpa using q,if_pos q⟩
     ·exact .inr ⟨by simpa using q,if_neg q⟩
    rcases h8 with ⟨h8,hin⟩ | ⟨h8,hin⟩
    all_goals (
     rw [hin] at h4 h5
     clear hin
     have ih1:=(HL.out (n - 1) A4 c4 x.f4 _ (pre ++ ys ++ [pl]) W3 a4 H4 HW3.out HJ3.out h4 (fun z hz=>HG.out z (by rw [HX.out];simp [hz])) (by simp;omega)).mono (R':=fun e W1 =>
      (e = .returned (.bool true) ∧ W1.cell? ⟨wr.heap.size,5,none⟩ = some (.slice A5 x.f5.length c5) ∧ W1.cell? ⟨Bw,0,none⟩ = some (.func (.func 28) #[] #[.pointer (some ⟨By,0,none⟩),.pointer (some ⟨Bw,0,none⟩)]) ∧ ∃ zs : List Pl,Aside0 (zs.map Pl.ints = a4 ∧ J (pre ++ ys ++ [pl] ++ zs) W1 ∧ Kq w0.heap.size B W W1)) ∨
      (e = .returned (.bool false) ∧ ∃ zs : List Pl,zs.map Pl.ints <+: a4 ∧ Jx (pre ++ ys ++ [pl] ++ zs) W1))
      (fun e W1 h=>h.elim (fun ⟨he,zs,hz,hj,hk⟩=>.inl ⟨he,cell_of (hk.cells _ _ _ _ hBw HS3.out) 5 rfl,(HW3.out.step hy hw hk).cells.2,zs,⟨hz,hj,HK3.out.trans hk⟩⟩) .inr)
     have ih2:=fun W1 zs (hj : J (pre ++ ys ++ [pl] ++ zs) W1) (hz : zs.map Pl.ints = a4) (hk : Kq w0.heap.size B W W1)=>HL.out (n - 1) A5 c5 x.f5 _ (pre ++ ys ++ [pl] ++ zs) W1 a5 H5 (HW.out.step hy hw hk) hj h5 (fun z hz=>HG.out z (by rw [HX.out];simp [hz])) (by have:=congrArg List.length hz;simp at this;simp;omega)
     clear h4 h5
     gi_wp2
     refine ⟨trivial,hdd _,?_⟩
     refine ih1.mono ?_
     clear ih1
     rintro e W1 (⟨rfl,c5',ck',zs,HZ⟩ | ⟨rfl,zs,hzs,hx4⟩)
     ·gi_wp2
      refine ⟨trivial,hdd _,?_⟩
      refine (ih2 _ zs HZ.out.2.1 HZ.out.1 HZ.out.2.2).mono ?_
      clear ih2
      rintro e W2 (⟨rfl,us,hus,hJ5,hk5⟩ | ⟨rfl,us,hus,hx5⟩)
      ·gi_wp2
       go_roundw
       case rel=>exact ⟨i + 1,ys ++ [pl] ++ zs ++ us,b,by go_num,by omega,⟨by rw [HX.out];simp [HI.out,HZ.out.1,hus]⟩,HB1,⟨by simpa [List.append_assoc] using hJ5⟩,⟨HZ.out.2.2.trans hk5⟩⟩
       case measure=>simp [intOf];omega
      ·gi_wp2
       go_ret
       refine .inr ⟨rfl,ys ++ [pl] ++ zs ++ us,?_,by simpa [List.append_assoc] using hx5⟩
       rw [HX.out]
       obtain ⟨q,hq⟩:=hus
       exact ⟨q ++ b,by simp [HI.out,HZ.out.1,← hq]⟩
     ·gi_wp2
      refine ⟨fun _ h=>(by cases h),?_⟩
      gi_wp2
      go_ret
      refine .inr ⟨rfl,ys ++ [pl] ++ zs,?_,by simpa [List.append_assoc] using hx4⟩
      rw [HX.out]
      obtain ⟨q,hq⟩:=hzs
      exact ⟨q ++ a5 ++ b,by simp [HI.out,← hq]⟩)
   ·gi_wp2
    go_ret
    refine .inr ⟨rfl,ys ++ [pl],?_,by simpa [List.append_assoc] using hJx3⟩
    rw [HX.out]
    exact ⟨a4 ++ a5 ++ b,by simp [HI.out]⟩
  ·have hltz : decide ((i : Int) < (ls.length : Int)) = false:=decide_eq_false (by omega)
   have ha:=HA.out
   rw [List.drop_of_length_le (by omega)] at ha
   obtain rfl:=Option.some.inj (show some [] = some rest from ha)
   clear ha HA
   gi_wp2
   go_ret
   exact .inl ⟨rfl,ys,by rw [HX.out,List.append_nil],HJS.out,HK.out⟩
end Go.Proofs.Ythgdapgophkklaa.P
namespace Go.Proofs.Ythgdapgophkklaa.P
open Go.RowKit Go.Proofs.YthgdapgophkklaaW.PrintWords Go.Proofs.YthgdapgophkklaaW.PrintLast Go.Proofs.YthgdapgophkklaaW.PrintMore
attribute [local go_sem] Oper.semAt_some
set_option linter.unusedVariables false
set_option linter.unusedSimpArgs false
theorem run_store_fn (P : Program) (w : World) (a : Addr) (m : Mode) (fn : Fn) (first cap : Array Value) : (store a (.func fn first cap) m).run P w = stored P w a (.func fn first cap) m:=run_store P w a _ m rfl
attribute [local go_sem] run_store_fn
theorem walk_says (G : I5 → Prop) (w0 : World) (l By Bw B N : Nat) (J Jx : List Pl → World → Prop) (hB : w0.heap.size ≤ B) (hy : B ≤ By) (hw : B ≤ Bw) (hR : Rounds G l N w0.heap.size B J Jx) (hJ : Grows J) : ∀ k,WSays G w0 l By Bw B N J Jx (allK k)
 | 0=>fun _ _ _ _ _ _ _ _ _ _ _ h _ _=>by cases h
 | k + 1=>walk_of G w0 l By Bw B N J Jx hB hy hw hR hJ (allK k) (walk_says G w0 l By Bw B N J Jx hB hy hw hR hJ k)
theorem yield_any {m m' : Nat} {P : Program} {l : Nat} {args : Array Value} {W : World} {R : Ending → World → Prop} (h : YieldAt Fence.wide m P l args W R) : YieldAt Fence.wide m' P l args W R:=by
 obtain ⟨fn,tmps,assign,body,hy,hR⟩:=h
 exact ⟨fn,tmps,assign,body,hy,hR.1,fun c cs _=>hR.2 c cs (fun d h=>by cases h)⟩
set_option maxHeartbeats 2000000 in
theorem all1_in (G : I5 → Prop) (w0 : World) (n l Bl Br N B : Nat) (J Jx : List Pl → World → Prop) (hB : w0.heap.size ≤ B) (hR : Rounds G l N w0.heap.size B J Jx) (hJ : Grows J) (A : Option Addr) (c : Nat) (ls : List S41) (rm : Int) (xs : List I5) (k : Nat)
  (hC : Kd.C k41 w0 A ls.length ls) (W : World) (hW : Below w0.heap.size w0 W) (hBW : B ≤ W.heap.size) (hl : W.cell? ⟨Bl,0,none⟩ = some (.slice A ls.length c)) (hr : W.cell? ⟨Br,0,none⟩ = some (.int .i64 rm)) (h0 : J [] W) (h : allK k ls rm = some xs) (hG : ∀ z ∈ xs,G z) (hN : xs.length ≤ N) :
  CallsIn Fence.wide n Try.prog 27 #[.func (.yield l) #[] #[],.pointer (some ⟨Bl,0,none⟩),.pointer (some ⟨Br,0,none⟩)] W fun e W'=>(∃ v,e = .returned v) ∧ ((∃ ys : List Pl,ys.map Pl.ints = xs ∧ J ys W') ∨ (∃ pre : List Pl,pre.map Pl.ints <+: xs ∧ Jx pre W')):=by
 have hdd : ∀ k : Nat,(Fence.wide.depth.isSome = true → 1 ≤ k):=fun k h=>by cases h
 have l1:=World.block_lt_of_cell? W _ hl
 have l2:=World.block_lt_of_cell? W _ hr
 obtain ⟨W2,hW2⟩ : ∃ W2,W2 = (W.alloc (.cells #[.func (.yield l) #[] #[]] 57)).alloc (.cells #[.func (.func 28) #[] #[.pointer (some ⟨W.heap.size,0,none⟩),.pointer (some ⟨W.heap.size + 1,0,none⟩)]] 58):=⟨_,rfl⟩
 have hq : Kq w0.heap.size B W W2:=by rw [hW2];exact ((Kq.refl _ _ W).alloc (Nat.le_trans hB hBW) _).alloc (by rw [size_alloc];omega) _
 have hy2 : W2.heap[W.heap.size]? = some (.cells #[.func (.yield l) #[] #[]] 57 (0,0)):=by rw [hW2];exact blk_alloc (blk_new W _) _
 have hw2 : W2.heap[W.heap.size + 1]? = some (.cells #[.func (.func 28) #[] #[.pointer (some ⟨W.heap.size,0,none⟩),.pointer (some ⟨W.heap.size + 1,0,none⟩)]] 58 (0,0)):=by
  rw [hW2,← size_alloc W (.cells #[.func (.yield l) #[] #[]] 57)]
  exact blk_new _ _
 have hj2 : J [] W2:=by rw [hW2];exact hJ _ _ _ (hJ _ _ _ h0 (World.grownBy_alloc _ _ none)) (World.grownBy_alloc _ _ none)
 have hp:=walk_says G w0 l W.heap.size (W.heap.size + 1) B N J Jx hB hBW (by omega) hR hJ k (n - 1) A c ls rm [] W2 xs hC ⟨hW.trans hq.below,hy2,hw2⟩ hj2 h hG (by simpa using hN)
 have m1 : ∀ v t v' t',((W.alloc (.cells v t)).alloc (.cells v' t')).cell? ⟨Bl,0,none⟩ = some (.slice A ls.length c):=fun v t v' t'=>((below_alloc (below_alloc (Below.refl _ W) _) _).cell l1).trans hl
 have m2 : ∀ v t v' t',((W.alloc (.cells v t)).alloc (.cells v' t')).cell? ⟨Br,0,none⟩ = some (.int .i64 rm):=fun v t v' t'=>((below_alloc (below_alloc (Below.refl _ W) _) _).cell l2).trans hr
 have hmf : ∀ (fn : Fn) (first cap : Array Value) (w : World),(Instr.makeFunc fn first cap).run Try.prog w = .ok (.func fn first cap) w:=by
  intros
  rfl
 rw [hW2] at hp
 have HP:=Aside0.mk hp
 clear hp hj2 hw2 hy2 hq hW2 hR hJ hC h0 h hl hr
 refine callsIn_of_wp Try.func27 rfl trivial ?_ rfl
 simp only [Try.ntmps27,List.size_toArray,List.length_cons,List.length_nil,Nat.reduceAdd,Nat.reduceSub,Array.replicate_succ,Array.replicate_zero,List.push_toArray,List.append_toArray,List.nil_append,List.cons_append]
 gi_wp2
 refine ⟨trivial,hdd _,?_⟩
 refine HP.out.mono ?_
 rintro e W3 (⟨rfl,ys,hys,hj,_⟩ | ⟨rfl,ys,hys,hx⟩)
 ·gi_wp2
  go_end0
  exact ⟨⟨_,rfl⟩,.inl ⟨ys,hys,by simpa using hj⟩⟩
 ·gi_wp2
  go_end0
  exact ⟨⟨_,rfl⟩,.inr ⟨ys,hys,by simpa using hx⟩⟩
theorem all_stops (w0 : World) (n Bl Br : Nat) (A : Option Addr) (c : Nat) (ls : List S41) (rm : Int) (xs : List I5) (k : Nat) (hC : Kd.C k41 w0 A ls.length ls) (w : World) (hw : Below w0.heap.size w0 w)
  (hl : w.cell? ⟨Bl,0,none⟩ = some (.slice A ls.length c)) (hr : w.cell? ⟨Br,0,none⟩ = some (.int .i64 rm)) (h : allK k ls rm = some xs) :
  SeqStopsK Fence.wide n Try.prog 27 #[.pointer (some ⟨Bl,0,none⟩),.pointer (some ⟨Br,0,none⟩)] Pl.enc (Kq w0.heap.size w.heap.size) (fun ys=>ys.map Pl.ints = xs) (fun pre=>pre.map Pl.ints <+: xs) xs.length w:=fun l J Jx W hW hJ _ hY h0 =>
 all1_in (fun _=>True) w0 n l Bl Br xs.length w.heap.size J Jx hw.size (fun m pre x W1 hj hlen _=>yield_any (hY pre x W1 hj hlen)) (fun s X Y hs hg=>hJ s X Y none hs hg (fun r e=>by cases e)) A c ls rm xs k hC W (hw.trans (hW.mono hw.size)) hW.size
  ((hW.cell (World.block_lt_of_cell? w _ hl)).trans hl) ((hW.cell (World.block_lt_of_cell? w _ hr)).trans hr) h0 h (fun _ _=>trivial) (Nat.le_refl _)
theorem all_stopsG (w0 : World) (n Bl Br : Nat) (A : Option Addr) (c : Nat) (ls : List S41) (rm : Int) (xs : List I5) (k : Nat) (hC : Kd.C k41 w0 A ls.length ls) (w : World) (hw : Below w0.heap.size w0 w)
  (hl : w.cell? ⟨Bl,0,none⟩ = some (.slice A ls.length c)) (hr : w.cell? ⟨Br,0,none⟩ = some (.int .i64 rm)) (h : allK k ls rm = some xs) :
  SeqStopsK Fence.wide n Try.prog 27 #[.pointer (some ⟨Bl,0,none⟩),.pointer (some ⟨Br,0,none⟩)] (fun x : {x : Pl // x.ints ∈ xs}=>Pl.enc x.1) (Kq w0.heap.size w.heap.size) (fun ys=>ys.map (fun y=>y.1.ints) = xs) (fun pre=>pre.map (fun y=>y.1.ints) <+: xs) xs.length w:=fun l J Jx W hW hJ _ hY h0=>by
 have e:=all1_in (fun z=>z ∈ xs) w0 n l Bl Br xs.length w.heap.size (fun (s : List Pl) W=>∃ s' : List {x : Pl // x.ints ∈ xs},s'.map Subtype.val = s ∧ J s' W) (fun (s : List Pl) W=>∃ s' : List {x : Pl // x.ints ∈ xs},s'.map Subtype.val = s ∧ Jx s' W) hw.size (fun m pre x W1 hj hlen hx=>by
   obtain ⟨s',hs,hj⟩:=hj
   obtain ⟨fn,tmps,assign,body,hyy,hRd⟩:=yield_any (m':=m) (hY s' ⟨x,hx⟩ W1 hj (by rw [← hs,List.length_map] at hlen;exact hlen))
   refine ⟨fn,tmps,assign,body,hyy,hRd.mono ?_⟩
   rintro e W' (⟨h1,h2,h3⟩ | ⟨h1,h2⟩)
   ·exact .inl ⟨h1,⟨_,by rw [List.map_append,hs];rfl,h2⟩,h3⟩
   ·exact .inr ⟨h1,⟨_,by rw [List.map_append,hs];rfl,h2⟩⟩)
  (fun s X Y hs hg=>by
   obtain ⟨s',hs,hj⟩:=hs
   exact ⟨s',hs,hJ s' X Y none hj hg (fun r e=>by cases e)⟩) A c ls rm xs k hC W (hw.trans (hW.mono hw.size)) hW.size
  ((hW.cell (World.block_lt_of_cell? w _ hl)).trans hl) ((hW.cell (World.block_lt_of_cell? w _ hr)).trans hr) ⟨[],rfl,h0⟩ h (fun _ hz=>hz) (Nat.le_refl _)
 refine e.mono ?_
 rintro e W' ⟨hv,⟨ys,hys,s',hs,hj⟩ | ⟨pre,hpre,s',hs,hj⟩⟩
 ·subst hs
  rw [List.map_map] at hys
  exact ⟨hv,.inl ⟨s',hys,hj⟩⟩
 ·subst hs
  rw [List.map_map] at hpre
  exact ⟨hv,.inr ⟨s',hpre,hj⟩⟩
theorem Kq.setCell {n₀ B : Nat} (W : World) {b : Nat} (v : Value) (h1 : n₀ ≤ b) (h2 : b < B) : Kq n₀ B W (W.setCell ⟨b,0,none⟩ v) :=
 ⟨(Below.refl n₀ W).setCell (p:=⟨b,0,none⟩) h1 v,fun k cs t fr hk h=>(Below.heap_setCell W ⟨b,0,none⟩ v k (by show k ≠ b;omega)).trans h⟩
theorem boxed_own (B : Nat) (t : TypeId) (f : List Pl → Value) : Own (fun s W=>Boxed W B t (f s)):=by
 intro s X Y row hs hg hr
 refine hs.kept hg fun e=>?_
 obtain ⟨o,ho,hc⟩:=hr B e.symm
 rw [show X.heap[B]? = _ from hs] at ho
 cases ho
 cases hc
theorem wrap_len (pre : List Pl) (x : Pl) : wrap64 (wrap64 (pre.length : Int) + 1) = wrap64 (((pre ++ [x]).length : Nat) : Int):=by
 rw [List.length_append,List.length_singleton]
 unfold wrap64
 push_cast
 omega
theorem all_calls (A : Option Addr) (n c : Nat) (rm : Int) (w : World) : Calls Try.prog 13 #[.slice A n c,.int .i64 rm] w fun e w'=>e = .returned (.func (.func 27) #[] #[.pointer (some ⟨w.heap.size,0,none⟩),.pointer (some ⟨w.heap.size + 1,0,none⟩)]) ∧ w' = (w.alloc (.cells #[.slice A n c] 36)).alloc (.cells #[.int .i64 rm] 3):=by
 have hmf : ∀ (fn : Fn) (first cap : Array Value) (w : World),(Instr.makeFunc fn first cap).run Try.prog w = .ok (.func fn first cap) w:=by
  intros
  rfl
 go_enter Try.func13,Try.ntmps13
 go_wp2
 go_ret
 exact ⟨by first | rfl | simp,by first | rfl | simp⟩
set_option maxRecDepth 100000 in
set_option maxHeartbeats 2000000 in
theorem stmtsOk_walk (A : Option Addr) (c : Nat) (ls : List S41) (b : Bool) (xs : List I5) (k : Nat) (w : World) (hC : Kd.C k41 w A ls.length ls) (hc : ls.length ≤ c) (hb : impl_listOk.f k ls 3 (-1) = some b) (hx : b = true → allK k ls (-1) = some xs) :
  Calls Try.prog 25 #[.slice A ls.length c] w fun e w'=>e = .returned (.bool (b && decide (wrap64 (xs.length : Int) ≤ 14))) ∧ Below w.heap.size w w':=by
 have hdd : ∀ k : Nat,(Fence.wide.depth.isSome = true → 1 ≤ k):=fun k h=>by cases h
 have HC:=Aside0.mk hC
 have HB:=Aside0.mk hb
 have HX:=Aside0.mk hx
 clear hC hb hx
 refine (callsIn_wide (n:=9)).1 ?_
 refine callsIn_of_wp_marks Try.func25 rfl trivial ?_ rfl
 simp only [Try.ntmps25,List.size_toArray,List.length_cons,List.length_nil,Nat.reduceAdd,Nat.reduceSub,Array.replicate_succ,Array.replicate_zero,List.push_toArray,List.append_toArray,List.nil_append,List.cons_append]
 gi_wp2
 refine ⟨trivial,?_⟩
 refine (callsIn_wide.2 (impl_listOk.calls k A c ls 3 (-1) b w HC.out hc HB.out)).mono ?_
 rintro e W1 ⟨rfl,hb1⟩
 cases b with
 | false =>
  gi_wp2
  exact ⟨_,results_tmp rfl _ _ _,rfl,hb1⟩
 | true =>
  have HB1:=Aside0.mk hb1
  clear hb1
  gi_wp2
  refine ⟨trivial,?_⟩
  refine (callsIn_wide.2 (all_calls A ls.length c (-1) _)).mono ?_
  rintro e W3 ⟨rfl,rfl⟩
  obtain ⟨W2,hW2⟩ : ∃ W2,W1.alloc (.cells #[.int .i64 0] 3) = W2:=⟨_,rfl⟩
  rw [hW2]
  have hx:=HX.out trivial
  clear HX
  have z1 : W2.heap.size = W1.heap.size + 1:=by rw [← hW2,size_alloc]
  have hm0 : W2.heap[W1.heap.size]? = some (.cells #[.int .i64 0] 3 (0,0)):=by rw [← hW2];exact blk_new W1 _
  have hB2 : Below w.heap.size w W2:=by rw [← hW2];exact below_alloc HB1.out _
  obtain ⟨W3,hW3⟩ : ∃ W3,(W2.alloc (.cells #[.slice A ls.length c] 36)).alloc (.cells #[.int .i64 (-1)] 3) = W3:=⟨_,rfl⟩
  have hB3 : Below w.heap.size w W3:=by rw [← hW3];exact below_alloc (below_alloc hB2 _) _
  have z3 : W3.heap.size = W1.heap.size + 3:=by rw [← hW3,size_alloc,size_alloc,z1]
  have c1 : W3.cell? ⟨W2.heap.size,0,none⟩ = some (.slice A ls.length c):=cell_of (by rw [← hW3];exact blk_alloc (blk_new W2 _) _) 0 rfl
  have c2 : W3.cell? ⟨W2.heap.size + 1,0,none⟩ = some (.int .i64 (-1)):=cell_of (by rw [← hW3,← size_alloc W2 (.cells #[.slice A ls.length c] 36)];exact blk_new _ _) 0 rfl
  have hm3 : W3.heap[W1.heap.size]? = some (.cells #[.int .i64 0] 3 (0,0)):=by rw [← hW3];exact blk_alloc (blk_alloc hm0 _) _
  rw [z1] at c1 c2
  have hs:=all_stops w 8 (W1.heap.size + 1) (W1.heap.size + 1 + 1) A c ls (-1) xs k HC.out W3 hB3 c1 c2 hx
  have hle:=HB1.out.size
  rw [hW3]
  have HS:=Aside0.mk (And.intro hs (And.intro hx (And.intro hW2 hW3)))
  clear hs hx hW2 hW3
  gi_wp2
  refine wpIn_rangeFunc_ownF rfl (by omega) (gf:=27) (lb:=#[.pointer (some ⟨W1.heap.size + 1,0,none⟩),.pointer (some ⟨W1.heap.size + 1 + 1,0,none⟩)]) rfl trivial (Go.Proofs.enters_of Try.func27 (by kernel_rfl) rfl)
   HS.out.1 (fun h k=>Kq.t h k) (Kq.b (by omega)) (Below.refl _ _) (fun _=>rfl)
   (fun pre W=>Boxed W W1.heap.size 3 (.int .i64 (wrap64 (pre.length : Int))) ∧ Below w.heap.size w W)
   (fun _ _ _=>False)
   (OwnFrom.and (Own.from (boxed_own W1.heap.size 3 (fun pre=>.int .i64 (wrap64 (pre.length : Int)))) _) (ownFrom_below (Nat.le_refl _) (by omega)))
   (fun _ _ _ _ _ hs _ _=>hs)
   ⟨by rw [show wrap64 (([] : List Pl).length : Int) = 0 from by simp [wrap64]];exact hm3,hB3⟩
   (fun x=>{ tmps:=#[.slice A ls.length c,undef,.bool false,.pointer (some ⟨W1.heap.size,0,none⟩),.slice A ls.length c,.bool true,.bool false,.slice A ls.length c,.func (.func 27) #[] #[.pointer (some ⟨W1.heap.size + 1,0,none⟩),.pointer (some ⟨W1.heap.size + 1 + 1,0,none⟩)],(.agg #[.int .i64 x.k,.int .i64 x.a,.int .i64 x.b,.int .i64 x.n,.slice x.s4.1 x.s4.2.1 x.s4.2.2,.slice x.s5.1 x.s5.2.1 x.s5.2.2,.int .i64 x.rm]),undef,undef,undef,undef],defers:=[] }) ?assign ?body ?done ?stop
  case assign =>
   intro l x W K hK
   gi_wp2
   unfold Pl.enc
   simpa using hK
  case body =>
   rintro l pre x W ⟨hc,hb⟩ _
   have hcc:=hc.cell
   have hff:=hc.frozen
   gi_wp2
   refine ⟨KeepsOthers.setCell _ _ _,Kq.setCell _ _ (by omega) (by omega),?_,hb.setCell (p:=⟨W1.heap.size,0,none⟩) (by show w.heap.size ≤ W1.heap.size;omega) _⟩
   rw [← wrap_len]
   exact hc.set _
  case done =>
   rintro D ys W hD hS ⟨hc,hb⟩ hK
   have hcc:=hc.cell
   gi_wp2
   refine ⟨by simp,.inl ⟨_,_,rfl,run_takeDeferred hK,?_⟩⟩
   refine ⟨_,results_tmp rfl _ _ _,?_,hb.trans (belowK_b (w:=w) (Nat.le_refl _) W D _ _ (by omega) hK rfl rfl)⟩
   rw [show xs.length = ys.length by rw [← hS,List.length_map]]
   simp
  case stop =>
   rintro D c pre W _ _ h _
   exact h.elim
def impl_StmtsOk.f (k : Nat) (l0 : List S41) : Option Bool:=(impl_listOk.f k l0 3 (-1)).bind fun b=>if b = true then (allK k l0 (-1)).bind fun xs=>some (decide (wrap64 (xs.length : Int) ≤ 14)) else some false
theorem impl_StmtsOk.calls (k : Nat) (A0 : Option Addr) (c0 : Nat) (l0 : List S41) (r : Bool) (w : World) (hr0 : Kd.C k41 w A0 l0.length l0) (hc0 : l0.length ≤ c0) (h : impl_StmtsOk.f k l0 = some r) :
  Calls Try.prog 25 #[.slice A0 l0.length c0] w fun e w'=>e = .returned (.bool r) ∧ Below w.heap.size w w':=by
 obtain ⟨b,hb,h⟩:=Option.bind_eq_some_iff.1 h
 cases b with
 | false =>
  obtain rfl:=Option.some.inj (show some false = some r by simpa using h)
  have q:=stmtsOk_walk A0 c0 l0 false [] k w hr0 hc0 hb (fun h=>by cases h)
  rw [Bool.false_and] at q
  exact q
 | true =>
  obtain ⟨xs,hx,h⟩:=Option.bind_eq_some_iff.1 (show ((allK k l0 (-1)).bind fun xs=>some (decide (wrap64 (xs.length : Int) ≤ 14))) = some r by simpa using h)
  have q:=stmtsOk_walk A0 c0 l0 true xs k w hr0 hc0 hb (fun _=>hx)
  rw [Bool.true_and,Option.some.inj h] at q
  exact q
end Go.Proofs.Ythgdapgophkklaa.P

namespace Go.Proofs.Ythgdapgophkklaa.P
open Go.RowKit Go.Maps Go.Proofs.YthgdapgophkklaaW.PrintWords Go.Proofs.YthgdapgophkklaaW.PrintLast Go.Proofs.YthgdapgophkklaaW.PrintMore
attribute [local go_sem] max2_int min2_int max_two min_two max_three min_three max_four min_four
set_option linter.unusedVariables false
set_option linter.unusedSimpArgs false
def listG {α : Type} (T : α → Option Bool) : List α → Option Bool
 | []=>some true
 | x :: t=>(T x).bind fun b=>if b = true then listG T t else some false
theorem progOk1_calls (k : Nat) (A : Option Addr) (c : Nat) (l : List S41) (r : Bool) (w : World) (hr : Kd.C k41 w A l.length l) (hc : l.length ≤ c) (h : impl_StmtsOk.f k l = some r) :
  Calls Try.prog 24 #[.slice A l.length c] w fun e w'=>e = .returned (.bool (!r)) ∧ Below w.heap.size w w':=by
 have HI:=Aside0.mk (impl_StmtsOk.calls k A c l r w hr hc h)
 clear hr h
 go_enter Try.func24,Try.ntmps24
 go_wp2_with (go_at_call 25;refine HI.out.mono ?_;rintro e w' ⟨rfl,hb⟩;have HB:=Aside0.mk hb;clear hb)
 go_ret
 exact ⟨by first | rfl | (simp;done),(by repeat (first | exact HB.out | (with_reducible apply pw_below_drewN) | (with_reducible apply below_drew1) | (with_reducible apply below_alloc) | exact Below.refl _ _))⟩
set_option maxHeartbeats 4000000 in
theorem pgIdx_calls (k : Nat) (A : Option Addr) (c : Nat) (l : List (List S41)) (r : Bool) (w : World) (hr : Kd.C (Kd.slice 41 k41) w A l.length l) (h : listG (impl_StmtsOk.f k) l = some r) :
  Calls Try.prog 31 #[.slice A l.length c,.func (.func 24) #[] #[]] w fun e w'=>(∃ i : Int,e = .returned (.int .i64 i) ∧ decide (0 ≤ i) = !r) ∧ Below w.heap.size w w':=by
 have HR:=Aside0.mk hr
 have H:=Aside0.mk h
 have hl : l.length ≤ 9223372036854775807:=hr.2.1
 clear hr h
 go_enter Try.func31,Try.ntmps31
 go_wp2
 go_loopg [5,8] l.length (fun gg _ s8 wr=>∃ kk : Nat,kk ≤ l.length ∧ l.length - kk ≤ gg ∧ s8 = .int .i64 kk ∧ Aside0 (listG (impl_StmtsOk.f k) (l.drop kk) = some r) ∧ Aside0 (Below w.heap.size w wr))
 case atStart=>exact ⟨0,Nat.zero_le _,by omega,rfl,H,⟨Below.refl _ w⟩⟩
 case round =>
  obtain ⟨kk,hkk,hg,rfl,HA,HB⟩:=hrel
  clear H
  by_cases hlt : kk < l.length
  ·have hltz : decide ((kk : Int) < (l.length : Int)) = true:=decide_eq_true (by omega)
   have p1 : 0 ≤ (kk : Int):=by omega
   have q1 : (kk : Int) < (l.length : Int):=by omega
   obtain ⟨ad,cs,e1,_,hK,hc0⟩:=Kd.C_get (Kd.C_below HR.out HB.out) ([] : List S41) (kk : Int) p1 q1
   obtain ⟨A0,c0,rfl,hc0',H0⟩:=hK
   have hq : wr.cell? (ad.add ((kk : Int).toNat * 1 + 0)) = some (.slice A0 (l.getD (kk : Int).toNat []).length c0):=hc0 0 _ rfl
   rw [Nat.mul_one,Nat.add_zero,Int.toNat_natCast] at hq
   rw [Int.toNat_natCast] at hc0' H0
   clear hc0
   cases e1
   have ex : l.drop kk = l.getD kk [] :: l.drop (kk + 1):=by
    rw [List.drop_eq_getElem_cons hlt,List.getD_eq_getElem?_getD,List.getElem?_eq_getElem hlt]
    rfl
   have ha:=HA.out
   rw [ex] at ha
   clear HA ex
   obtain ⟨b,hb1,hb2⟩:=Option.bind_eq_some_iff.1 ha
   clear ha
   generalize l.getD kk [] = x at *
   have HC:=Aside0.mk (fun W h0=>progOk1_calls k A0 c0 x b W h0 hc0' hb1)
   have HH:=Aside0.mk H0
   clear hb1 H0
   replace p1:=eq_true p1
   replace q1:=eq_true q1
   cases b with
   | false =>
    obtain rfl:=Option.some.inj (show some false = some r by simpa using hb2)
    clear hb2
    go_wp2_with (go_at_call 24;refine (HC.out _ HH.out).mono ?_;rintro e w' ⟨rfl,hb'⟩;have n2:=Aside0.mk (below_step HB.out hb');clear HB HC hb' hq;have HB:=n2;clear n2)
    go_ret
    exact ⟨⟨(kk : Int),rfl,by rw [decide_eq_true (by omega : (0 : Int) ≤ kk)];rfl⟩,(by repeat (first | exact HB.out | (with_reducible apply pw_below_drewN) | (with_reducible apply below_drew1) | (with_reducible apply below_alloc) | exact Below.refl _ _))⟩
   | true =>
    have HN:=Aside0.mk (show listG (impl_StmtsOk.f k) (l.drop (kk + 1)) = some r by simpa using hb2)
    clear hb2
    go_wp2_with (go_at_call 24;refine (HC.out _ HH.out).mono ?_;rintro e w' ⟨rfl,hb'⟩;have n2:=Aside0.mk (below_step HB.out hb');clear HB HC hb' hq;have HB:=n2;clear n2)
    go_roundg (l.length - (kk + 1))
    case measure=>omega
    case rel=>exact ⟨kk + 1,by omega,by omega,by go_num,HN,⟨(by repeat (first | exact HB.out | (with_reducible apply pw_below_drewN) | (with_reducible apply below_drew1) | (with_reducible apply below_alloc) | exact Below.refl _ _))⟩⟩
  ·have hltz : decide ((kk : Int) < (l.length : Int)) = false:=decide_eq_false (by omega)
   have ha:=HA.out
   rw [List.drop_of_length_le (by omega)] at ha
   obtain rfl:=Option.some.inj (show some true = some r from ha)
   clear ha HA
   go_wp2
   go_ret
   exact ⟨⟨-1,rfl,by rw [decide_eq_false (by omega)];rfl⟩,(by repeat (first | exact HB.out | (with_reducible apply pw_below_drewN) | (with_reducible apply below_drew1) | (with_reducible apply below_alloc) | exact Below.refl _ _))⟩
theorem pgAny_calls (k : Nat) (A : Option Addr) (c : Nat) (l : List (List S41)) (r : Bool) (w : World) (hr : Kd.C (Kd.slice 41 k41) w A l.length l) (h : listG (impl_StmtsOk.f k) l = some r) :
  Calls Try.prog 23 #[.slice A l.length c,.func (.func 24) #[] #[]] w fun e w'=>e = .returned (.bool (!r)) ∧ Below w.heap.size w w':=by
 have HI:=Aside0.mk (pgIdx_calls k A c l r w hr h)
 clear hr h
 go_enter Try.func23,Try.ntmps23
 go_wp2_with (go_at_call 31;refine HI.out.mono ?_;rintro e w' ⟨⟨i,rfl,hi⟩,hb⟩;have HB:=Aside0.mk hb;clear hb)
 go_ret
 exact ⟨by first | rfl | rw [hi],(by repeat (first | exact HB.out | (with_reducible apply pw_below_drewN) | (with_reducible apply below_drew1) | (with_reducible apply below_alloc) | exact Below.refl _ _))⟩
def impl_ProgOk.f (k : Nat) (l0 : List (List S41)) : Option Bool:=if 1 ≤ (l0.length : Int) then if (l0.length : Int) ≤ 3 then listG (impl_StmtsOk.f k) l0 else some false else some false
set_option maxHeartbeats 2000000 in
theorem impl_ProgOk.calls (k : Nat) (A0 : Option Addr) (c0 : Nat) (l0 : List (List S41)) (r : Bool) (w : World) (hr0 : Kd.C (Kd.slice 41 k41) w A0 l0.length l0) (hc0 : l0.length ≤ c0) (h : impl_ProgOk.f k l0 = some r) :
  Calls Try.prog 10 #[.slice A0 l0.length c0] w fun e w'=>e = .returned (.bool r) ∧ Below w.heap.size w w':=by
 have HR:=Aside0.mk hr0
 clear hr0
 unfold impl_ProgOk.f at h
 by_cases h1 : 1 ≤ (l0.length : Int)
 ·have b1 : decide (1 ≤ (l0.length : Int)) = true:=decide_eq_true h1
  rw [if_pos h1] at h
  by_cases h2 : (l0.length : Int) ≤ 3
  ·have b2 : decide ((l0.length : Int) ≤ 3) = true:=decide_eq_true h2
   rw [if_pos h2] at h
   have HI:=Aside0.mk (fun W hW=>pgAny_calls k A0 c0 l0 r W hW h)
   clear h1 h2 h
   go_enter Try.func10,Try.ntmps10
   go_wp2_with (go_at_call 23;refine (HI.out _ HR.out).mono ?_;rintro e w' ⟨rfl,hb⟩;have HB:=Aside0.mk hb;clear hb)
   go_ret
   exact ⟨by first | rfl | (simp;done),(by repeat (first | exact HB.out | (with_reducible apply pw_below_drewN) | (with_reducible apply below_drew1) | (with_reducible apply below_alloc) | exact Below.refl _ _))⟩
  ·have b2 : decide ((l0.length : Int) ≤ 3) = false:=decide_eq_false h2
   rw [if_neg h2] at h
   obtain rfl:=Option.some.inj h
   clear h1 h2 h
   go_enter Try.func10,Try.ntmps10
   go_wp2
   go_ret
   exact ⟨by first | rfl | (simp;done),(by repeat (first | (with_reducible apply pw_below_drewN) | (with_reducible apply below_drew1) | (with_reducible apply below_alloc) | exact Below.refl _ _))⟩
 ·have b1 : decide (1 ≤ (l0.length : Int)) = false:=decide_eq_false h1
  rw [if_neg h1] at h
  obtain rfl:=Option.some.inj h
  clear h1 h
  go_enter Try.func10,Try.ntmps10
  go_wp2
  go_ret
  exact ⟨by first | rfl | (simp;done),(by repeat (first | (with_reducible apply pw_below_drewN) | (with_reducible apply below_drew1) | (with_reducible apply below_alloc) | exact Below.refl _ _))⟩
end Go.Proofs.Ythgdapgophkklaa.P

namespace Go.Proofs.Ythgdapgophkklaa.P
open Go.RowKit Go.Proofs.YthgdapgophkklaaW.PrintWords Go.Proofs.YthgdapgophkklaaW.PrintLast Go.Proofs.YthgdapgophkklaaW.PrintMore
attribute [local go_sem] max2_int min2_int max_two min_two max_three min_three max_four min_four
set_option linter.unusedVariables false
set_option linter.unusedSimpArgs false
def ownOff (n : Int) : Bool:=decide (n < 0) || decide (n ≥ 2)
theorem ownOff_calls (n : Int) (w : World) : Calls Try.prog 12 #[.int .i64 n] w fun e w'=>e = .returned (.bool (ownOff n)) ∧ Drawn0 w w':=by
 unfold ownOff
 by_cases h : n < 0
 ·have h0 : decide (n < 0) = true:=decide_eq_true h
  rw [h0]
  go_enter Try.func12,Try.ntmps12
  go_wp2
  go_ret
  exact ⟨by simp,by repeat (first | exact Drawn0.refl _ | apply Drawn0.step)⟩
 ·have h0 : decide (n < 0) = false:=decide_eq_false h
  rw [h0]
  go_enter Try.func12,Try.ntmps12
  go_wp2
  go_ret
  exact ⟨by simp,by repeat (first | exact Drawn0.refl _ | apply Drawn0.step)⟩
set_option maxHeartbeats 2000000 in
theorem ownIdx_calls (A : Option Addr) (c : Nat) (l : List Int) (w : World) (hr : Kd.C (Kd.int .i64) w A l.length l) :
  Calls Try.prog 26 #[.slice A l.length c,.func (.func 12) #[] #[]] w fun e w'=>(∃ i : Int,e = .returned (.int .i64 i) ∧ decide (0 ≤ i) = l.any ownOff) ∧ Drawn0 w w':=by
 have HR:=Aside0.mk hr
 have hl : l.length ≤ 9223372036854775807:=hr.2.1
 clear hr
 go_enter Try.func26,Try.ntmps26
 go_wp2
 go_loopg [5,8] l.length (fun gg _ s8 wr=>∃ kk : Nat,kk ≤ l.length ∧ l.length - kk ≤ gg ∧ s8 = .int .i64 kk ∧ Aside0 (∀ j,j < kk → ownOff (rd l (j : Int)) = false) ∧ Drawn0 w wr)
 case atStart=>exact ⟨0,Nat.zero_le _,by omega,rfl,⟨fun j hj=>absurd hj (Nat.not_lt_zero _)⟩,by repeat (first | exact Drawn0.refl _ | apply Drawn0.step)⟩
 case round =>
  obtain ⟨kk,hkk,hg,rfl,HA,⟨m1,rfl⟩⟩:=hrel
  by_cases hlt : kk < l.length
  ·have hltz : decide ((kk : Int) < (l.length : Int)) = true:=decide_eq_true (by omega)
   have p1 : 0 ≤ (kk : Int):=by omega
   have q1 : (kk : Int) < (l.length : Int):=by omega
   obtain ⟨ad,e1,hx⟩:=Kd.at_int HR.out (kk : Int) p1 q1
   cases e1
   rw [Int.toNat_natCast] at hx
   replace p1:=eq_true p1
   replace q1:=eq_true q1
   have hcall:=fun W=>ownOff_calls (rd l (kk : Int)) W
   cases hq : ownOff (rd l (kk : Int)) with
   | true =>
    rw [hq] at hcall
    go_wp2_with (go_at_call 12;refine (hcall _).mono ?_;rintro e w' ⟨rfl,⟨nd,rfl⟩⟩)
    go_ret
    refine ⟨⟨(kk : Int),rfl,?_⟩,by repeat (first | exact Drawn0.refl _ | apply Drawn0.step)⟩
    rw [decide_eq_true (by omega : (0 : Int) ≤ kk),eq_comm,List.any_eq_true]
    refine ⟨rd l (kk : Int),?_,hq⟩
    unfold rd
    rw [Int.toNat_natCast,List.getD_eq_getElem?_getD,List.getElem?_eq_getElem hlt]
    exact List.getElem_mem hlt
   | false =>
    rw [hq] at hcall
    go_wp2_with (go_at_call 12;refine (hcall _).mono ?_;rintro e w' ⟨rfl,⟨nd,rfl⟩⟩)
    go_roundg (l.length - (kk + 1))
    case measure=>omega
    case rel =>
     refine ⟨kk + 1,by omega,by omega,by go_num,⟨fun j hj=>?_⟩,by repeat (first | exact Drawn0.refl _ | apply Drawn0.step)⟩
     by_cases e : j = kk
     ·subst e
      exact hq
     ·exact HA.out j (by omega)
  ·have hltz : decide ((kk : Int) < (l.length : Int)) = false:=decide_eq_false (by omega)
   go_wp2
   go_ret
   refine ⟨⟨-1,rfl,?_⟩,by repeat (first | exact Drawn0.refl _ | apply Drawn0.step)⟩
   rw [decide_eq_false (by omega),eq_comm,List.any_eq_false]
   intro x hx
   obtain ⟨i,hi,rfl⟩:=List.mem_iff_getElem.1 hx
   have:=HA.out i (by omega)
   unfold rd at this
   rw [Int.toNat_natCast,List.getD_eq_getElem?_getD,List.getElem?_eq_getElem hi] at this
   simpa using this
theorem ownAny_calls (A : Option Addr) (c : Nat) (l : List Int) (w : World) (hr : Kd.C (Kd.int .i64) w A l.length l) :
  Calls Try.prog 11 #[.slice A l.length c,.func (.func 12) #[] #[]] w fun e w'=>e = .returned (.bool (l.any ownOff)) ∧ Drawn0 w w':=by
 have HR:=Aside0.mk hr
 clear hr
 go_enter Try.func11,Try.ntmps11
 go_wp2_with (go_at_call 26;refine (ownIdx_calls _ _ l _ HR.out).mono ?_;rintro e w' ⟨⟨i,rfl,hi⟩,⟨nd,rfl⟩⟩)
 go_ret
 exact ⟨by first | rfl | rw [hi],by repeat (first | exact Drawn0.refl _ | apply Drawn0.step)⟩
def ownB (x : I5) (own : List Int) : Option Bool :=
 if x.1 = 3 then (if 0 ≤ x.2.2.1 ∧ x.2.2.1 < (own.length : Int) then some (x.2.2.2.2 == rd own x.2.2.1) else none)
 else if x.1 = 4 then (if 0 ≤ x.2.1 ∧ x.2.1 < (own.length : Int) then some (x.2.2.2.2 == rd own x.2.1) else none)
 else if x.1 = 9 ∨ x.1 = 10 then (if 0 ≤ x.2.1 ∧ 3 + x.2.1 < (own.length : Int) then some (x.2.2.2.2 == rd own (3 + x.2.1)) else none)
 else some true
set_option maxHeartbeats 4000000 in
theorem owned_calls (x : Pl) (A : Option Addr) (c : Nat) (own : List Int) (r : Bool) (w : World) (hr : Kd.C (Kd.int .i64) w A own.length own) (h : ownB x.ints own = some r) :
  Calls Try.prog 14 #[.agg #[.int .i64 x.k,.int .i64 x.a,.int .i64 x.b,.int .i64 x.n,.slice x.s4.1 x.s4.2.1 x.s4.2.2,.slice x.s5.1 x.s5.2.1 x.s5.2.2,.int .i64 x.rm],.slice A own.length c] w fun e w'=>e = .returned (.bool r) ∧ Below w.heap.size w w':=by
 obtain ⟨k,a,b,n,⟨A4,l4,c4⟩,⟨A5,l5,c5⟩,rm⟩:=x
 have hl : own.length ≤ 9223372036854775807:=hr.2.1
 unfold ownB Pl.ints at h
 dsimp only at h ⊢
 have hu:=Try.underlying43
 have hu2:=Try.underlying41
 by_cases h3 : k = 3
 ·rw [if_pos h3] at h
  have k3 : (k == 3) = true:=beq_iff_eq.mpr h3
  clear h3
  by_cases hb : 0 ≤ b ∧ b < (own.length : Int)
  ·rw [if_pos hb] at h
   obtain rfl:=Option.some.inj h
   clear h
   obtain ⟨p1,q1⟩:=hb
   obtain ⟨ad,e1,hx⟩:=Kd.at_int hr (b) (by omega) q1
   cases e1
   have hx2 : ∀ o,(w.alloc o).cell? (ad.add (b : Int).toNat) = some (.int .i64 (rd own (b))):=fun o=>pw_cell_below (below_alloc (Below.refl _ w) o) hx
   have hx3:=hx2 (.cells #[.int .i64 k,.int .i64 a,.int .i64 b,.int .i64 n,.slice A4 l4 c4,.slice A5 l5 c5,.int .i64 rm] 43)
   clear hx hx2 hr
   generalize rd own (b) = q at *
   replace p1:=eq_true p1
   replace q1:=eq_true q1
   go_enter Try.func14,Try.ntmps14
   go_wp2
   go_quiet (fail)
   go_wp2
   go_ret
   exact ⟨by first | rfl | (simp;done) | (simp [*];done),by repeat (first | exact Below.refl _ _ | (with_reducible apply pw_below_drewN) | (with_reducible apply below_drew1) | (with_reducible apply below_alloc))⟩
  ·rw [if_neg hb] at h
   cases h
 ·rw [if_neg h3] at h
  have k3 : (k == 3) = false:=beq_eq_false_iff_ne.mpr h3
  clear h3
  by_cases h4 : k = 4
  ·rw [if_pos h4] at h
   have k4 : (k == 4) = true:=beq_iff_eq.mpr h4
   clear h4
   by_cases hb : 0 ≤ a ∧ a < (own.length : Int)
   ·rw [if_pos hb] at h
    obtain rfl:=Option.some.inj h
    clear h
    obtain ⟨p1,q1⟩:=hb
    obtain ⟨ad,e1,hx⟩:=Kd.at_int hr (a) (by omega) q1
    cases e1
    have hx2 : ∀ o,(w.alloc o).cell? (ad.add (a : Int).toNat) = some (.int .i64 (rd own (a))):=fun o=>pw_cell_below (below_alloc (Below.refl _ w) o) hx
    have hx3:=hx2 (.cells #[.int .i64 k,.int .i64 a,.int .i64 b,.int .i64 n,.slice A4 l4 c4,.slice A5 l5 c5,.int .i64 rm] 43)
    clear hx hx2 hr
    generalize rd own (a) = q at *
    replace p1:=eq_true p1
    replace q1:=eq_true q1
    go_enter Try.func14,Try.ntmps14
    go_wp2
    go_quiet (fail)
    go_wp2
    go_ret
    exact ⟨by first | rfl | (simp;done) | (simp [*];done),by repeat (first | exact Below.refl _ _ | (with_reducible apply pw_below_drewN) | (with_reducible apply below_drew1) | (with_reducible apply below_alloc))⟩
   ·rw [if_neg hb] at h
    cases h
  ·rw [if_neg h4] at h
   have k4 : (k == 4) = false:=beq_eq_false_iff_ne.mpr h4
   clear h4
   by_cases h9 : k = 9 ∨ k = 10
   ·rw [if_pos h9] at h
    by_cases hb : 0 ≤ a ∧ 3 + a < (own.length : Int)
    ·rw [if_pos hb] at h
     by_cases h9' : k = 9
     ·have k9 : (k == 9) = true:=beq_iff_eq.mpr h9'
      clear h9 h9'
      obtain rfl:=Option.some.inj h
      clear h
      obtain ⟨p1,q1⟩:=hb
      obtain ⟨ad,e1,hx⟩:=Kd.at_int hr (3 + a) (by omega) q1
      cases e1
      have hx2 : ∀ o,(w.alloc o).cell? (ad.add (3 + a : Int).toNat) = some (.int .i64 (rd own (3 + a))):=fun o=>pw_cell_below (below_alloc (Below.refl _ w) o) hx
      have hx3:=hx2 (.cells #[.int .i64 k,.int .i64 a,.int .i64 b,.int .i64 n,.slice A4 l4 c4,.slice A5 l5 c5,.int .i64 rm] 43)
      clear hx hx2 hr
      generalize rd own (3 + a) = q at *
      have hs : IntKind.i64.wrap (3 + a) = 3 + a:=by
       rw [i64_w]
       unfold wrap64
       omega
      have p2 : 0 ≤ 3 + a:=by omega
      replace p2:=eq_true p2
      replace p1:=eq_true p1
      replace q1:=eq_true q1
      go_enter Try.func14,Try.ntmps14
      go_wp2
      go_quiet (fail)
      go_wp2
      go_ret
      exact ⟨by first | rfl | (simp;done) | (simp [*];done),by repeat (first | exact Below.refl _ _ | (with_reducible apply pw_below_drewN) | (with_reducible apply below_drew1) | (with_reducible apply below_alloc))⟩
     ·have k9 : (k == 9) = false:=beq_eq_false_iff_ne.mpr h9'
      have k10 : (k == 10) = true:=beq_iff_eq.mpr (h9.resolve_left h9')
      clear h9 h9'
      obtain rfl:=Option.some.inj h
      clear h
      obtain ⟨p1,q1⟩:=hb
      obtain ⟨ad,e1,hx⟩:=Kd.at_int hr (3 + a) (by omega) q1
      cases e1
      have hx2 : ∀ o,(w.alloc o).cell? (ad.add (3 + a : Int).toNat) = some (.int .i64 (rd own (3 + a))):=fun o=>pw_cell_below (below_alloc (Below.refl _ w) o) hx
      have hx3:=hx2 (.cells #[.int .i64 k,.int .i64 a,.int .i64 b,.int .i64 n,.slice A4 l4 c4,.slice A5 l5 c5,.int .i64 rm] 43)
      clear hx hx2 hr
      generalize rd own (3 + a) = q at *
      have hs : IntKind.i64.wrap (3 + a) = 3 + a:=by
       rw [i64_w]
       unfold wrap64
       omega
      have p2 : 0 ≤ 3 + a:=by omega
      replace p2:=eq_true p2
      replace p1:=eq_true p1
      replace q1:=eq_true q1
      go_enter Try.func14,Try.ntmps14
      go_wp2
      go_quiet (fail)
      go_wp2
      go_ret
      exact ⟨by first | rfl | (simp;done) | (simp [*];done),by repeat (first | exact Below.refl _ _ | (with_reducible apply pw_below_drewN) | (with_reducible apply below_drew1) | (with_reducible apply below_alloc))⟩
    ·rw [if_neg hb] at h
     cases h
   ·rw [if_neg h9] at h
    have k9 : (k == 9) = false:=beq_eq_false_iff_ne.mpr (fun e=>h9 (.inl e))
    have k10 : (k == 10) = false:=beq_eq_false_iff_ne.mpr (fun e=>h9 (.inr e))
    clear h9 hr
    obtain rfl:=Option.some.inj h
    clear h
    go_enter Try.func14,Try.ntmps14
    go_wp2
    go_ret
    exact ⟨by first | rfl | (simp;done) | (simp [*];done),by repeat (first | exact Below.refl _ _ | (with_reducible apply pw_below_drewN) | (with_reducible apply below_drew1) | (with_reducible apply below_alloc))⟩
end Go.Proofs.Ythgdapgophkklaa.P

namespace Go.Proofs.Ythgdapgophkklaa.P
open Go.RowKit Go.Proofs.YthgdapgophkklaaW.PrintWords Go.Proofs.YthgdapgophkklaaW.PrintLast Go.Proofs.YthgdapgophkklaaW.PrintMore
attribute [local go_sem] Oper.semAt_some
attribute [local go_sem] run_store_fn
set_option linter.unusedVariables false
set_option linter.unusedSimpArgs false
def ownL (own : List Int) : List I5 → Option Bool
 | []=>some true
 | x :: t=>(ownB x own).bind fun b=>(ownL own t).bind fun c=>some (b && c)
theorem ownL_def {own : List Int} : ∀ {xs : List I5} {q : Bool},ownL own xs = some q → ∀ x ∈ xs,∃ b,ownB x own = some b
 | [],_,_,x,hx=>by cases hx
 | y :: t,q,h,x,hx=>by
  obtain ⟨b,hb,h1⟩:=Option.bind_eq_some_iff.1 h
  obtain ⟨c,hc,_⟩:=Option.bind_eq_some_iff.1 h1
  rcases List.mem_cons.1 hx with e | hx
  ·rw [e];exact ⟨b,hb⟩
  ·exact ownL_def hc x hx
theorem ownL_all {own : List Int} : ∀ {xs : List I5},(∀ x ∈ xs,ownB x own = some true) → ownL own xs = some true
 | [],_=>rfl
 | y :: t,h=>by
  unfold ownL
  rw [h y (List.mem_cons_self ..),ownL_all fun x hx=>h x (List.mem_cons_of_mem _ hx)]
  rfl
theorem ownL_one {own : List Int} : ∀ {xs : List I5} {q : Bool},ownL own xs = some q → (∃ x ∈ xs,ownB x own = some false) → q = false
 | [],_,_,⟨x,hx,_⟩=>by cases hx
 | y :: t,q,h,⟨x,hx,hf⟩=>by
  obtain ⟨b,hb,h1⟩:=Option.bind_eq_some_iff.1 h
  obtain ⟨c,hc,h2⟩:=Option.bind_eq_some_iff.1 h1
  have e:=Option.some.inj h2
  rcases List.mem_cons.1 hx with e1 | hx
  ·rw [← e1,hf] at hb
   rw [← Option.some.inj hb] at e
   exact e.symm
  ·have e2:=ownL_one hc ⟨x,hx,hf⟩
   rw [e2,Bool.and_false] at e
   exact e.symm
def wholeL (k : Nat) (own : List Int) : List (List S41) → Option Bool
 | []=>some true
 | l :: t=>(allK k l (-1)).bind fun xs=>(ownL own xs).bind fun b=>if b = true then wholeL k own t else some false
def Marks (lo : Nat) : Nat → List Deferred → World → Prop
 | _,[],_=>True
 | hi,d :: ds,W=>∃ D,d = { target:=.collected D,args:=#[] } ∧ lo ≤ D ∧ D < hi ∧ W.heap[D]? = some (.deferred (some [])) ∧ Marks lo D ds W
theorem Marks.step {lo : Nat} : ∀ {hi : Nat} {ds : List Deferred} {W W' : World},Marks lo hi ds W → (∀ k,lo ≤ k → k < hi → W.heap[k]? = some (.deferred (some [])) → W'.heap[k]? = some (.deferred (some []))) → Marks lo hi ds W'
 | _,[],_,_,_,_=>trivial
 | _,d :: ds,W,W',⟨D,h1,h2,h3,h4,h5⟩,hk=>⟨D,h1,h2,h3,hk D h2 h3 h4,Marks.step h5 (fun k a b c=>hk k a (by omega) c)⟩
theorem Marks.mono {lo : Nat} {hi hi' : Nat} {ds : List Deferred} {W : World} (h : Marks lo hi ds W) (hle : hi ≤ hi') : Marks lo hi' ds W:=by
 cases ds with
 | nil=>trivial
 | cons d ds =>
  obtain ⟨D,h1,h2,h3,h4,h5⟩:=h
  exact ⟨D,h1,h2,by omega,h4,h5⟩
theorem leaves_marks {F : Fence} {n : Nat} {fn : Func} {tmps : Array Value} {R : Ending → World → Prop} {lo : Nat} : ∀ (ds : List Deferred) (hi : Nat) (W : World),Marks lo hi ds W →
  (∀ W',Below lo W W' → (∀ (k : Nat) (cs : Array Value) (t : TypeId) (fr : Nat × Nat),W.heap[k]? = some (.cells cs t fr) → W'.heap[k]? = some (.cells cs t fr)) → LeavesInM F n Try.prog fn tmps R [] .returning W') → LeavesInM F n Try.prog fn tmps R ds .returning W
 | [],_,W,_,h=>h W (Below.refl _ _) (fun _ _ _ _ h=>h)
 | d :: ds,hi,W,⟨D,h1,h2,h3,h4,h5⟩,h=>by
  refine ⟨by simp,.inl ⟨D,_,by rw [h1],run_takeDeferred h4,?_⟩⟩
  have hb : Below lo W (W.putObj D (.deferred none)):=(Below.refl lo W).grown (grownBy_putObj' W D _) (by have:=(Array.getElem?_eq_some_iff.1 h4).1;omega) (fun k e=>by cases e;omega)
  refine leaves_marks ds D _ (Marks.step h5 fun k a b c=>(World.putObj_heap_other (by omega)).trans c) fun W' hW' hC=>h W' (hb.trans hW') fun k cs t fr hk=>hC k cs t fr ((World.putObj_heap_other (fun e=>by subst e;rw [h4] at hk;cases hk)).trans hk)
structure WhI (w : World) (Ao : Option Addr) (co : Nat) (own : List Int) (q : Bool) (W : World) : Prop where
 b : Below w.heap.size w W
 z : w.heap.size + 2 ≤ W.heap.size
 o : W.heap[w.heap.size]? = some (.cells #[.slice Ao own.length co] 24 (0,0))
 r : W.heap[w.heap.size + 1]? = some (.cells #[.bool q] 4 (0,0))
theorem WhI.step {w : World} {Ao : Option Addr} {co : Nat} {own : List Int} {q : Bool} {W W' : World} (h : WhI w Ao co own q W) {B : Nat} (hB : w.heap.size + 2 ≤ B) (hb : Below B W W') : WhI w Ao co own q W' :=
 ⟨h.b.trans (hb.mono (by omega)),Nat.le_trans h.z hb.size,(hb.block _ (by omega)).trans h.o,(hb.block _ (by omega)).trans h.r⟩
theorem WhI.own {w : World} {Ao : Option Addr} {co : Nat} {own : List Int} {q : Bool} {β : Type} {B : Nat} (hB : w.heap.size + 2 ≤ B) : OwnFrom B (fun (_ : β) W=>WhI w Ao co own q W) :=
 fun _ X Y row hs hg hr=>⟨(ownFrom_below (β:=Unit) (w₀:=w) (Nat.le_refl _) (by omega : w.heap.size ≤ B)) () X Y row hs.b hg hr,Nat.le_trans hs.z hg.size,
  (hg.block _ (by have:=hs.z;omega) (fun e=>by have:=(hr _ e.symm).1;omega)).trans hs.o,(hg.block _ (by have:=hs.z;omega) (fun e=>by have:=(hr _ e.symm).1;omega)).trans hs.r⟩
theorem Marks.own {lo hi : Nat} {ds : List Deferred} {β : Type} : OwnFrom hi (fun (_ : β) W=>Marks lo hi ds W) :=
 fun _ X Y row hs hg hr=>Marks.step hs fun k a b c=>(hg.block k (Array.getElem?_eq_some_iff.1 c).1 (fun e=>by have:=(hr _ e.symm).1;omega)).trans c
theorem kf_of_below {B : Nat} {W W' : World} (h : Below W.heap.size W W') : KeepsFrom B W W':=⟨h.size,fun k o _ h0 _=>(h.block k (Array.getElem?_eq_some_iff.1 h0).1).trans h0⟩
theorem kq_of_below {n₀ B : Nat} {W W' : World} (hn : n₀ ≤ W.heap.size) (h : Below W.heap.size W W') : Kq n₀ B W W':=⟨h.mono hn,fun i cs t fr _ hc=>(h.block i (Array.getElem?_eq_some_iff.1 hc).1).trans hc⟩
theorem results_box {fn : Func} {t : Tmp} {ty : TypeId} (h : fn.results = #[.cell t ty]) (tmps : Array Value) (P : Program) (w : World) (g : Nat) (r : Bool) (hp : tmps.getD t undef = .pointer (some ⟨g,0,none⟩)) (hg : w.cell? ⟨g,0,none⟩ = some (.bool r)) (hu : P.underlying ty = some .bool) :
  (results fn tmps).run P w = .ok (.bool r) w:=by
 have hp' : tmps[t]?.getD undef = .pointer (some ⟨g,0,none⟩):=by simpa using hp
 have hl : (loadVar ty ⟨g,0,none⟩).run P w = .ok (.bool r) w:=by
  have ha : (isAgg ty).run P w = .ok false w:=by simp [isAgg,run_underlying hu]
  simp [loadVar,Sem.run_bind,ha,Result.andThen,hg]
 simp [results,h,hp',asAddr,hl]
set_option maxRecDepth 100000 in
set_option maxHeartbeats 4000000 in
theorem wholeOk_walk (k : Nat) (A : Option Addr) (c : Nat) (p : List (List S41)) (Ao : Option Addr) (co : Nat) (own : List Int) (b r : Bool) (w : World) (hp : Kd.C (Kd.slice 41 k41) w A p.length p) (hc : p.length ≤ c) (ho : Kd.C (Kd.int .i64) w Ao own.length own) (hoc : own.length ≤ co)
  (hb : impl_ProgOk.f k p = some b) (h : (if b = true then (if own.length = 5 then (if own.any ownOff = true then some false else wholeL k own p) else some false) else some false) = some r) :
  Calls Try.prog 5 #[.slice A p.length c,.slice Ao own.length co] w fun e w'=>e = .returned (.bool r) ∧ Below w.heap.size w w':=by
 have hdd : ∀ k : Nat,(Fence.wide.depth.isSome = true → 1 ≤ k):=fun k h=>by cases h
 have HP:=Aside0.mk hp
 have HO:=Aside0.mk ho
 have HB:=Aside0.mk hb
 have H:=Aside0.mk h
 clear hp ho hb h
 refine (callsIn_wide (n:=9)).1 ?_
 refine callsIn_of_wp_marks Try.func5 rfl trivial ?_ rfl
 simp only [Try.ntmps5,List.size_toArray,List.length_cons,List.length_nil,Nat.reduceAdd,Nat.reduceSub,Array.replicate_succ,Array.replicate_zero,List.push_toArray,List.append_toArray,List.nil_append,List.cons_append]
 gi_wp2
 refine ⟨trivial,?_⟩
 refine (callsIn_wide.2 (impl_ProgOk.calls k A c p b _ (Kd.C_alloc (Kd.C_alloc HP.out _) _) hc HB.out)).mono ?_
 rintro e W1 ⟨rfl,hb1⟩
 obtain ⟨W0,hW0⟩ : ∃ W0,(w.alloc (.cells #[.slice Ao own.length co] 24)).alloc (.cells #[.bool false] 4) = W0:=⟨_,rfl⟩
 have b0 : W0.heap[w.heap.size]? = some (.cells #[.slice Ao own.length co] 24 (0,0)):=by rw [← hW0];exact blk_alloc (blk_new w _) _
 have b1 : W0.heap[w.heap.size + 1]? = some (.cells #[.bool false] 4 (0,0)):=by rw [← hW0,← size_alloc w (.cells #[.slice Ao own.length co] 24)];exact blk_new _ _
 have z0 : W0.heap.size = w.heap.size + 2:=by rw [← hW0,size_alloc,size_alloc]
 have h0 : Below w.heap.size w W0:=by rw [← hW0];exact below_alloc (below_alloc (Below.refl _ w) _) _
 rw [hW0] at hb1
 clear hW0
 have b0':=blk_below b0 hb1
 have b1':=blk_below b1 hb1
 have HW:=Aside0.mk (below_step h0 hb1)
 have HZ:=Aside0.mk (show w.heap.size + 2 ≤ W1.heap.size by have:=hb1.size;omega)
 have c0 : W1.cell? ⟨w.heap.size,0,none⟩ = some (.slice Ao own.length co):=cell_of b0' 0 rfl
 have c1 : W1.cell? ⟨w.heap.size + 1,0,none⟩ = some (.bool false):=cell_of b1' 0 rfl
 have f1 : W1.frozen? ⟨w.heap.size + 1,0,none⟩ = false:=blk_frozen b1' 0
 have HB0:=Aside0.mk b0'
 have HB1:=Aside0.mk b1'
 clear b0 b1 h0 hb1 z0 b0' b1' HB W0
 have h:=H.out
 clear H
 have out : ∀ (W : World) (q : Bool) (tmps : Array Value),tmps.getD 4 undef = .pointer (some ⟨w.heap.size + 1,0,none⟩) → W.cell? ⟨w.heap.size + 1,0,none⟩ = some (.bool q) → Below w.heap.size w W → LeavesInM Fence.wide 9 Try.prog Try.f5 tmps (fun e w'=>e = .returned (.bool q) ∧ Below w.heap.size w w') [] .returning W:=fun W q tmps h1 h2 h3=>⟨_,results_box rfl _ _ _ _ q h1 h2 Try.underlying4,rfl,h3⟩
 have HOut:=Aside0.mk out
 clear out
 cases b with
 | false =>
  obtain rfl:=Option.some.inj (show some false = some r by simpa using h)
  clear h
  gi_wp2
  refine ⟨trivial,?_⟩
  gi_wp2
  exact HOut.out _ false _ rfl (by simp [c1,go_sem]) (HW.out.setCell (p:=⟨w.heap.size + 1,0,none⟩) (by show w.heap.size ≤ w.heap.size + 1;omega) _)
 | true =>
  rw [if_pos rfl] at h
  by_cases h5 : own.length = 5
  ·rw [if_pos h5] at h
   have k5 : ((own.length : Int) != 5) = false:=bne_eq_false_iff_eq.mpr (by omega)
   clear h5
   gi_wp2
   refine ⟨trivial,?_⟩
   refine (callsIn_wide.2 (ownAny_calls Ao co own _ (Kd.C_below HO.out HW.out))).mono ?_
   rintro e W2 ⟨rfl,nd,rfl⟩
   cases ha : own.any ownOff with
   | true =>
    rw [ha,if_pos rfl] at h
    obtain rfl:=Option.some.inj h
    clear h
    gi_wp2
    exact HOut.out _ false _ rfl (by simp [c1,go_sem]) ((pw_below_drewN HW.out nd).setCell (p:=⟨w.heap.size + 1,0,none⟩) (by show w.heap.size ≤ w.heap.size + 1;omega) _)
   | false =>
    rw [ha,if_neg (by simp)] at h
    have HH:=Aside0.mk h
    have HC:=Aside0.mk hc
    clear h ha k5 hc hoc c0 c1 f1
    gi_wp2
    have hl : p.length ≤ 9223372036854775807:=HP.out.2.1
    refine wpIn_loop (fun a W=>∃ (i : Nat) (u6 u23 u24 u25 u26 u27 u33 : Value) (ds : List Deferred),a = { tmps:=#[.slice A p.length c,.slice Ao own.length co,undef,.pointer (some ⟨w.heap.size,0,none⟩),.pointer (some ⟨w.heap.size + 1,0,none⟩),undef,u6,undef,.slice A p.length c,.bool true,.bool false,.bool false,.slice Ao own.length co,.int .i64 own.length,.bool false,.bool false,.bool false,.slice Ao own.length co,.bool false,.bool false,.slice A p.length c,.int .i64 p.length,.int .i64 i,u23,u24,u25,u26,u27,undef,undef,undef,undef,undef,u33],defers:=ds } ∧
      i ≤ p.length ∧ Aside0 (wholeL k own (p.drop i) = some r) ∧ Aside0 (WhI w Ao co own false W) ∧ Aside0 (Marks (w.heap.size + 2) W.heap.size ds W)) (fun a _=>p.length - (intOf (a.tmps.getD 22 undef)).toNat) ?_ ?_
    ·exact ⟨0,_,_,_,_,_,_,_,[],rfl,Nat.zero_le _,HH,⟨⟨pw_below_drewN HW.out nd,HZ.out,HB0.out,HB1.out⟩⟩,⟨trivial⟩⟩
    ·rintro a W ⟨i,u6,u23,u24,u25,u26,u27,u33,ds,rfl,hi,HL,HI,HM⟩
     clear HH HW HZ HB0 HB1
     by_cases hlt : i < p.length
     ·have hltz : decide ((i : Int) < (p.length : Int)) = true:=decide_eq_true (by omega)
      have p1 : 0 ≤ (i : Int):=by omega
      have q1 : (i : Int) < (p.length : Int):=by omega
      obtain ⟨ad,cs,e1,_,hK,hcs⟩:=Kd.C_get HP.out [] (i : Int) p1 q1
      cases e1
      obtain ⟨A4,c4,rfl,hc4,hC4⟩:=hK
      have g0 : W.cell? (ad.add i) = some (.slice A4 (p.getD i []).length c4):=by
       have:=hcs 0 _ rfl
       rw [Int.toNat_natCast] at this
       have e : i * (Kd.slice 41 k41).sz + 0 = i:=Nat.mul_one i
       rw [e] at this
       exact (HI.out.b.cell (World.block_lt_of_cell? w _ this)).trans this
      rw [Int.toNat_natCast] at hC4
      have ex : p.drop i = p.getD i [] :: p.drop (i + 1):=by
       rw [List.drop_eq_getElem_cons hlt,List.getD_eq_getElem?_getD,List.getElem?_eq_getElem hlt]
       rfl
      have hL:=HL.out
      rw [ex] at hL
      clear HL ex hcs
      obtain ⟨xs,hx,h1⟩:=Option.bind_eq_some_iff.1 hL
      obtain ⟨q,hq,h2⟩:=Option.bind_eq_some_iff.1 h1
      clear hL h1
      generalize p.getD i [] = ls at *
      replace p1:=eq_true p1
      replace q1:=eq_true q1
      have HC4:=Aside0.mk hC4
      have HX:=Aside0.mk hx
      have HQ:=Aside0.mk hq
      have HN:=Aside0.mk h2
      clear hC4 hx hq h2
      gi_wp2
      refine ⟨trivial,?_⟩
      refine (callsIn_wide.2 (all_calls A4 ls.length c4 (-1) _)).mono ?_
      rintro e W3 ⟨rfl,rfl⟩
      obtain ⟨W3,hW3⟩ : ∃ W3,(W.alloc (.cells #[.slice A4 ls.length c4] 36)).alloc (.cells #[.int .i64 (-1)] 3) = W3:=⟨_,rfl⟩
      have hB3 : Below W.heap.size W W3:=by rw [← hW3];exact below_alloc (below_alloc (Below.refl _ W) _) _
      have z3 : W3.heap.size = W.heap.size + 2:=by rw [← hW3,size_alloc,size_alloc]
      have c1 : W3.cell? ⟨W.heap.size,0,none⟩ = some (.slice A4 ls.length c4):=cell_of (by rw [← hW3];exact blk_alloc (blk_new W _) _) 0 rfl
      have c2 : W3.cell? ⟨W.heap.size + 1,0,none⟩ = some (.int .i64 (-1)):=cell_of (by rw [← hW3,← size_alloc W (.cells #[.slice A4 ls.length c4] 36)];exact blk_new _ _) 0 rfl
      have hz:=HI.out.z
      have hI3 : WhI w Ao co own false W3:=HI.out.step hz hB3
      have hM3 : Marks (w.heap.size + 2) W3.heap.size ds W3:=(Marks.step HM.out fun k1 a b c=>(hB3.block k1 b).trans c).mono (by omega)
      have hs:=all_stopsG w 8 W.heap.size (W.heap.size + 1) A4 c4 ls (-1) xs k HC4.out W3 hI3.b c1 c2 HX.out
      rw [hW3]
      have HS:=Aside0.mk (And.intro hs (And.intro hW3 (And.intro hI3 (And.intro hM3 (And.intro z3 hz)))))
      clear hs hW3 hI3 hM3 z3 hz c1 c2 hB3 HI HM g0
      gi_wp2
      have hz2:=HS.out.2.2.2.2.1
      have hz1:=HS.out.2.2.2.2.2
      refine wpIn_rangeFunc_ownH rfl (by omega) (gf:=27) (lb:=#[.pointer (some ⟨W.heap.size,0,none⟩),.pointer (some ⟨W.heap.size + 1,0,none⟩)]) rfl trivial (Go.Proofs.enters_of Try.func27 (by kernel_rfl) rfl)
       HS.out.1 (fun h k=>Kq.t h k) (Kq.b (by omega)) (Below.refl _ _) (fun _=>rfl)
       (fun pre W'=>WhI w Ao co own false W' ∧ Marks (w.heap.size + 2) W3.heap.size ds W' ∧ ∀ y ∈ pre,ownB y.1.ints own = some true)
       (fun c pre W'=>WhI w Ao co own false W' ∧ Marks (w.heap.size + 2) W3.heap.size ds W' ∧ c = .ret ∧ ∃ y ∈ pre,ownB y.1.ints own = some false)
       (OwnFrom.and (WhI.own (by omega)) (OwnFrom.and Marks.own (ownFrom_pure _ _)))
       (fun c=>OwnFrom.and (WhI.own (by omega)) (OwnFrom.and Marks.own (ownFrom_pure _ _)))
       ⟨HS.out.2.2.1,HS.out.2.2.2.1,fun y hy=>by cases hy⟩
       (fun x a' W'=>∃ bs,a' = { tmps:=#[.slice (some ad) p.length c,.slice Ao own.length co,undef,.pointer (some ⟨w.heap.size,0,none⟩),.pointer (some ⟨w.heap.size + 1,0,none⟩),undef,.slice A4 ls.length c4,.pointer (some ⟨bs,0,none⟩),.slice (some ad) p.length c,.bool true,.bool false,.bool false,.slice Ao own.length co,.int .i64 own.length,.bool false,.bool false,.bool false,.slice Ao own.length co,.bool false,.bool false,.slice (some ad) p.length c,.int .i64 p.length,.int .i64 i,.bool true,.pointer (some (ad.add i)),.slice A4 ls.length c4,.slice A4 ls.length c4,.func (.func 27) #[] #[.pointer (some ⟨W.heap.size,0,none⟩),.pointer (some ⟨W.heap.size + 1,0,none⟩)],(.agg #[.int .i64 x.1.k,.int .i64 x.1.a,.int .i64 x.1.b,.int .i64 x.1.n,.slice x.1.s4.1 x.1.s4.2.1 x.1.s4.2.2,.slice x.1.s5.1 x.1.s5.2.1 x.1.s5.2.2,.int .i64 x.1.rm]),undef,undef,undef,undef,u33],defers:=[] } ∧ W'.heap[bs]? = some (.cells #[.int .i64 x.1.k,.int .i64 x.1.a,.int .i64 x.1.b,.int .i64 x.1.n,.slice x.1.s4.1 x.1.s4.2.1 x.1.s4.2.2,.slice x.1.s5.1 x.1.s5.2.1 x.1.s5.2.2,.int .i64 x.1.rm] 43 (0,0)))
       (fun x a' _ X Y row hs hg hr=>by
        obtain ⟨bs,h2,h3⟩:=hs
        refine ⟨bs,h2,(hg.block bs (Array.getElem?_eq_some_iff.1 h3).1 (fun e=>?_)).trans h3⟩
        obtain ⟨_,o,ho,hoc⟩:=hr bs e.symm
        rw [h3] at ho
        cases ho
        cases hoc) ?assign ?body ?done ?stop
      case assign =>
       intro l pre x W' K hI hK
       have ez : (#[28].zip (Pl.enc x.1) : Array (Tmp × Value)) = #[(28,.agg #[.int .i64 x.1.k,.int .i64 x.1.a,.int .i64 x.1.b,.int .i64 x.1.n,.slice x.1.s4.1 x.1.s4.2.1 x.1.s4.2.2,.slice x.1.s5.1 x.1.s5.2.1 x.1.s5.2.2,.int .i64 x.1.rm])]:=by simp [Pl.enc]
       rw [ez]
       clear ez
       change Code.wpIn _ _ _ _ _ ({ tmps:=#[.slice (some ad) p.length c,.slice Ao own.length co,undef,.pointer (some ⟨w.heap.size,0,none⟩),.pointer (some ⟨w.heap.size + 1,0,none⟩),undef,.slice A4 ls.length c4,undef,.slice (some ad) p.length c,.bool true,.bool false,.bool false,.slice Ao own.length co,.int .i64 own.length,.bool false,.bool false,.bool false,.slice Ao own.length co,.bool false,.bool false,.slice (some ad) p.length c,.int .i64 p.length,.int .i64 i,.bool true,.pointer (some (ad.add i)),.slice A4 ls.length c4,.slice A4 ls.length c4,.func (.func 27) #[] #[.pointer (some ⟨W.heap.size,0,none⟩),.pointer (some ⟨W.heap.size + 1,0,none⟩)],(.agg #[.int .i64 x.1.k,.int .i64 x.1.a,.int .i64 x.1.b,.int .i64 x.1.n,.slice x.1.s4.1 x.1.s4.2.1 x.1.s4.2.2,.slice x.1.s5.1 x.1.s5.2.1 x.1.s5.2.2,.int .i64 x.1.rm]),undef,undef,undef,undef,u33],defers:=[] } : Act) W'
       gi_wp2
       refine hK _ _ ((KeepsOthers.alloc _ _).from _) ((Kq.refl _ _ _).alloc (by have:=hI.1.z;omega) _) ⟨hI.1.step hI.1.z (below_alloc (Below.refl _ _) _),(Marks.step hI.2.1 fun k1 _ _ c=>((below_alloc (Below.refl W'.heap.size W') (.cells #[.int .i64 x.1.k,.int .i64 x.1.a,.int .i64 x.1.b,.int .i64 x.1.n,.slice x.1.s4.1 x.1.s4.2.1 x.1.s4.2.2,.slice x.1.s5.1 x.1.s5.2.1 x.1.s5.2.2,.int .i64 x.1.rm] 43)).block k1 (Array.getElem?_eq_some_iff.1 c).1).trans c),hI.2.2⟩ ⟨_,rfl,blk_new _ _⟩
      case body =>
       rintro l pre x a' W' hl _ ⟨hI,hM,hP⟩ ⟨bs,rfl,hbx⟩ hlen
       obtain ⟨bb,hbb⟩:=ownL_def HQ.out _ x.2
       have HI:=Aside0.mk hI
       have HM:=Aside0.mk hM
       have HPP:=Aside0.mk hP
       have HBB:=Aside0.mk hbb
       have d0:=cell_of hbx 0 rfl
       have d1:=cell_of hbx 1 rfl
       have d2:=cell_of hbx 2 rfl
       have d3:=cell_of hbx 3 rfl
       have d4:=cell_of hbx 4 rfl
       have d5:=cell_of hbx 5 rfl
       have d6:=cell_of hbx 6 rfl
       have g0:=cell_of hI.o 0 rfl
       have g1:=cell_of hI.r 0 rfl
       have f1:=blk_frozen hI.r 0
       clear hI hM hP hbb hbx
       gi_wp2
       refine ⟨trivial,?_⟩
       refine (CallsIn.inRound l (callsIn_wide.2 (owned_calls x.1 Ao co own bb _ (Kd.C_below HO.out HI.out.b) HBB.out))).mono ?_
       rintro e W4 ⟨rfl,hb4⟩
       have HB4:=Aside0.mk hb4
       have hz4:=HI.out.z
       have HI4:=Aside0.mk (HI.out.step HI.out.z hb4)
       have HM4:=Aside0.mk (Marks.step HM.out fun k1 _ _ c=>(hb4.block k1 (Array.getElem?_eq_some_iff.1 c).1).trans c)
       have h1:=cell_of HI4.out.r 0 rfl
       have h2:=blk_frozen HI4.out.r 0
       clear hb4
       cases bb with
       | true =>
        gi_wp2
        refine ⟨kf_of_below HB4.out,kq_of_below (by omega) HB4.out,HI4.out,HM4.out,?_⟩
        intro y hy
        rcases List.mem_append.1 hy with hy | hy
        ·exact HPP.out y hy
        ·rw [List.mem_singleton.1 hy]
         exact HBB.out
       | false =>
        gi_wp2
        refine ⟨(kf_of_below HB4.out).trans ((KeepsOthers.setCell _ _ _).from _),?_,?_,rfl,x,List.mem_append.2 (.inr (List.mem_singleton.2 rfl)),HBB.out⟩
        ·exact ⟨HI4.out.b.setCell (p:=⟨w.heap.size + 1,0,none⟩) (by show w.heap.size ≤ w.heap.size + 1;omega) _,Nat.le_trans HI4.out.z (by simp),(Below.heap_setCell W4 ⟨w.heap.size + 1,0,none⟩ _ w.heap.size (by show w.heap.size ≠ w.heap.size + 1;omega)).trans HI4.out.o,blk_set HI4.out.r 0 (.bool false)⟩
        ·exact Marks.step HM4.out fun k1 a b c=>(Below.heap_setCell W4 ⟨w.heap.size + 1,0,none⟩ _ k1 (by show k1 ≠ w.heap.size + 1;omega)).trans c
      case done =>
       rintro D ys W' hD hS ⟨hI,hM,hP⟩ hK
       have hz3:=HS.out.2.2.2.2.1
       have hq : q = true:=Option.some.inj (HQ.out.symm.trans (ownL_all fun x hx=>by
        rw [← hS] at hx
        obtain ⟨y,hy,rfl⟩:=List.mem_map.1 hx
        exact hP y hy))
       have hN:=HN.out
       rw [if_pos hq] at hN
       have HI:=Aside0.mk hI
       have HM:=Aside0.mk (show Marks (w.heap.size + 2) W'.heap.size ({ target:=.collected D,args:=#[] } :: ds) W' from ⟨D,rfl,by omega,(Array.getElem?_eq_some_iff.1 hK).1,hK,Marks.mono hM hD⟩)
       have HN':=Aside0.mk hN
       clear hI hM hP hN hK hS
       gi_wp2
       exact ⟨⟨i + 1,_,_,_,_,_,_,_,_,rfl,hlt,HN',HI,HM⟩,by
        show p.length - ((i : Int) + 1).toNat < p.length - (i : Int).toNat
        omega⟩
      case stop =>
       rintro D cd pre W' hD hS ⟨hI,hM,rfl,y,hy,hf⟩ hK
       have hz3:=HS.out.2.2.2.2.1
       have hq : q = false:=ownL_one HQ.out ⟨_,y.2,hf⟩
       have hN:=HN.out
       rw [hq,if_neg (by simp)] at hN
       obtain rfl:=Option.some.inj hN
       have HI:=Aside0.mk hI
       have HM:=Aside0.mk (show Marks (w.heap.size + 2) W'.heap.size ({ target:=.collected D,args:=#[] } :: ds) W' from ⟨D,rfl,by omega,(Array.getElem?_eq_some_iff.1 hK).1,hK,Marks.mono hM hD⟩)
       clear hI hM hN hK hS hq
       gi_wp2
       exact leaves_marks (lo:=w.heap.size + 2) _ W'.heap.size _ HM.out fun W5 hb hc=>HOut.out W5 false _ rfl (cell_of (hc _ _ _ _ HI.out.r) 0 rfl) (HI.out.b.trans (hb.mono (by omega)))
     ·have hltz : decide ((i : Int) < (p.length : Int)) = false:=decide_eq_false (by omega)
      have hL:=HL.out
      rw [List.drop_of_length_le (by omega)] at hL
      obtain rfl:=Option.some.inj (show some true = some r from hL)
      clear hL HL
      have c1 : W.cell? ⟨w.heap.size + 1,0,none⟩ = some (.bool false):=cell_of HI.out.r 0 rfl
      have f1 : W.frozen? ⟨w.heap.size + 1,0,none⟩ = false:=blk_frozen HI.out.r 0
      have hs : (W.setCell ⟨w.heap.size + 1,0,none⟩ (.bool true)).heap[w.heap.size + 1]? = some (.cells #[.bool true] 4 (0,0)):=blk_set HI.out.r 0 (.bool true)
      have HS:=Aside0.mk hs
      clear hs
      gi_wp2
      refine leaves_marks (lo:=w.heap.size + 2) ds W.heap.size _ (Marks.step HM.out fun k1 a b c=>(Below.heap_setCell W ⟨w.heap.size + 1,0,none⟩ _ k1 (by show k1 ≠ w.heap.size + 1;omega)).trans c) fun W' hb hc=>HOut.out W' true _ rfl (cell_of (hc _ _ _ _ HS.out) 0 rfl) ?_
      exact (HI.out.b.setCell (p:=⟨w.heap.size + 1,0,none⟩) (by show w.heap.size ≤ w.heap.size + 1;omega) _).trans (hb.mono (by omega))
  ·rw [if_neg h5] at h
   have k5 : ((own.length : Int) != 5) = true:=bne_iff_ne.mpr (by omega)
   clear h5
   obtain rfl:=Option.some.inj h
   clear h
   gi_wp2
   refine ⟨trivial,?_⟩
   gi_wp2
   exact HOut.out _ false _ rfl (by simp [c1,go_sem]) (HW.out.setCell (p:=⟨w.heap.size + 1,0,none⟩) (by show w.heap.size ≤ w.heap.size + 1;omega) _)
def impl_WholeOk.f (k : Nat) (l0 : List (List S41)) (l1 : List Int) : Option Bool:=(impl_ProgOk.f k l0).bind fun b=>if b = true then (if l1.length = 5 then (if l1.any ownOff = true then some false else wholeL k l1 l0) else some false) else some false
theorem impl_WholeOk.calls (k : Nat) (A0 : Option Addr) (c0 : Nat) (l0 : List (List S41)) (A1 : Option Addr) (c1 : Nat) (l1 : List Int) (r : Bool) (w : World) (hr0 : Kd.C (Kd.slice 41 k41) w A0 l0.length l0) (hc0 : l0.length ≤ c0) (hr1 : Kd.C (Kd.int .i64) w A1 l1.length l1) (hc1 : l1.length ≤ c1) (h : impl_WholeOk.f k l0 l1 = some r) :
  Calls Try.prog 5 #[.slice A0 l0.length c0,.slice A1 l1.length c1] w fun e w'=>e = .returned (.bool r) ∧ Below w.heap.size w w':=by
 obtain ⟨b,hb,h⟩:=Option.bind_eq_some_iff.1 h
 exact wholeOk_walk k A0 c0 l0 A1 c1 l1 b r w hr0 hc0 hr1 hc1 hb h
end Go.Proofs.Ythgdapgophkklaa.P

namespace Go.Proofs.Ythgdapgophkklaa.P
open Go.RowKit Go.Proofs.YthgdapgophkklaaW.PrintWords Go.Proofs.YthgdapgophkklaaW.PrintLast Go.Proofs.YthgdapgophkklaaW.PrintMore
open Go.Proofs.YthgdapgophkklaaW.PrintWords renaming Aside0.mk → O, Kd.C_alloc → Z, Kd.C_drewN → J, Kd.C_drew → Y
open Option renaming bind_eq_some_iff → E
attribute [local go_sem] max2_int min2_int max_two min_two max_three min_three max_four min_four
set_option linter.unusedVariables false
set_option linter.unusedSimpArgs false
mutual
def laws_FnWholeOk.j0 : Nat → List (List (S41)) → List Int → Bool → Bool → Option (Bool)
 | 0,_,_,_,_=>none
 | k + 1,x3,x4,x5,x27=>if x27 = true then ((spec_WholeOk.f k x3 x4).bind fun t437=>(some (x5 == t437))) else (laws_FnWholeOk.l0 k x3 x4 0)
def laws_FnWholeOk.l0 : Nat → List (List (S41)) → List Int → Int → Option (Bool)
 | 0,_,_,_=>none
 | k + 1,x3,x4,x6=>if x6 < (x4.length : Int) then ((some (([] : List Int) : List Int)).bind fun y443=>(if y443.length + x4.length < 17592186044416 then ((some (y443 ++ x4 : List Int)).bind fun y446=>(if 0 ≤ x6 then (if x6 < (y446.length : Int) then ((impl_WholeOk.f k x3 (y446.set (x6 : Int).toNat (wrap64 (1 - (rd x4 x6))))).bind fun t451=>((laws_wpTouches.f k x3 x6).bind fun t452=>(if (t451 != (!t452)) = true then (some false) else (laws_FnWholeOk.l0 k x3 x4 (wrap64 (x6 + 1)))))) else (none)) else (none))) else (none))) else (if 1 ≤ (x4.length : Int) then ((impl_WholeOk.f k x3 (x4.drop 1)).bind fun t442=>(some (!t442))) else (none))
end
def laws_FnWholeOk.f (k : Nat) (l0 : List Int) : Option (Bool):=if (l0.length : Int) > 1048576 then (some true) else ((spec_DrawWholeOk.f k l0).bind fun bt429=>((impl_WholeOk.f k bt429.1 bt429.2).bind fun t435=>((spec_WholeOk.f k bt429.1 bt429.2).bind fun t436=>(if (t435 != t436) = true then (laws_FnWholeOk.j0 k bt429.1 bt429.2 t435 true) else (laws_FnWholeOk.j0 k bt429.1 bt429.2 t435 (!t435))))))
set_option maxHeartbeats 8000000 in
set_option maxRecDepth 100000 in
theorem laws_FnWholeOk.calls (k : Nat) (A0 : Option Addr) (c0 : Nat) (l0 : List Int) (r : Bool) (w : World) (hr0 : Kd.C (Kd.int .u8) w A0 l0.length l0) (hc0 : l0.length ≤ c0) (h : laws_FnWholeOk.f k l0 = some r) :
  Calls Try.prog 3 #[.slice A0 l0.length c0] w fun e w'=>e = .returned (.bool r) ∧ Below w.heap.size w w':=by
 have HR0:=O hr0;have HC0:=O hc0;clear hr0 hc0;have HB:=O (Below.refl w.heap.size w);have H : (if (l0.length : Int) > 1048576 then (some true) else ((spec_DrawWholeOk.f k l0).bind fun bt429=>((impl_WholeOk.f k bt429.1 bt429.2).bind fun t435=>((spec_WholeOk.f k bt429.1 bt429.2).bind fun t436=>(if (t435 != t436) = true then (laws_FnWholeOk.j0 k bt429.1 bt429.2 t435 true) else (laws_FnWholeOk.j0 k bt429.1 bt429.2 t435 (!t435))))))) = some r:=h;clear h
 by_cases c2 : (l0.length : Int) > 1048576
 ·rw [if_pos c2] at H;have c2b0 : decide (1048576 < (l0.length : Int)) = true:=decide_eq_true c2
  have c2b1 : decide (1048576 < l0.length) = true:=decide_eq_true (by omega)
  clear c2;obtain rfl:=Option.some.inj H;go_enter Try.func3,Try.ntmps3
  go_wp2
  go_ret
  exact ⟨by first | rfl | (simp [errW_none,errW_some] <;> rfl) | (simp [*,errW_none,errW_some] <;> rfl),by repeat (first | (with_reducible first | exact HB.out | apply below_alloc | apply pw_below_drewN | apply below_drew1) | exact HB.out)⟩
 ·rw [if_neg c2] at H;have c2b0 : decide (1048576 < (l0.length : Int)) = false:=decide_eq_false c2
  have c2b1 : decide (1048576 < l0.length) = false:=decide_eq_false (by omega)
  clear c2;replace H:=E.mp H;obtain ⟨⟨t429,t432⟩,A30,H⟩:=H;replace H : ((impl_WholeOk.f k t429 t432).bind fun t435=>((spec_WholeOk.f k t429 t432).bind fun t436=>(if (t435 != t436) = true then (laws_FnWholeOk.j0 k t429 t432 t435 true) else (laws_FnWholeOk.j0 k t429 t432 t435 (!t435))))) = some r:=H;have A3:=O A30;clear A30;replace H:=E.mp H;obtain ⟨t435,A40,H⟩:=H;replace H : ((spec_WholeOk.f k t429 t432).bind fun t436=>(if (t435 != t436) = true then (laws_FnWholeOk.j0 k t429 t432 t435 true) else (laws_FnWholeOk.j0 k t429 t432 t435 (!t435)))) = some r:=H;have A4:=O A40;clear A40;have HC5:=O H;clear H;go_enter Try.func3,Try.ntmps3
  go_upto_region 5 with (first | ((with_reducible refine gate_callee (f:=4) rfl ?_);refine goesM_ (some 13) Try.func4 #[.slice A0 l0.length c0] ?_;(with_reducible refine (spec_DrawWholeOk.calls k _ _ l0 t429 t432 _ ?side1 ?side2 A3.out).mono ?_);(case side1=>repeat (first | exact HR0.out | (with_reducible refine Z ?_ _) | (with_reducible refine J ?_ _) | (with_reducible refine Y ?_)));(case side2=>exact HC0.out);rintro e w6 ⟨v430,v433,rfl,ho0,ho1,hb⟩;refine ⟨_,rfl,?_⟩;have n0_:=O (Kd.N_lower (Kd.N_mono (ok':=fun k_=>some k_ ≠ (v433 : Value).ownBlock) ho0 (fun k_ hk_=>hk_.2)) (below_size (q3_ HB)));have n1_:=O (Kd.Q_lower (Kd.Q_mono (ok':=fun k_=>True) ho1 (fun _ hk_=>trivial)) (below_size (q3_ HB)));have n2_:=O (below_step (q3_ HB) hb);clear HB;have HO431:=n0_;have HO434:=n1_;have HB:=n2_;clear n0_ n1_ n2_;(try clear hb);(try clear ho0);(try clear ho1);obtain ⟨Ao7,co7,eo7⟩:=Kd.N_slice HO431.out;subst eo7;obtain ⟨Ao8,co8,eo8,_⟩:=Kd.Q_slice HO434.out;subst eo8) | ((with_reducible refine gate_callee (f:=5) rfl ?_);refine goesM_ (some 18) Try.func5 #[.slice Ao7 t429.length co7,.slice Ao8 t432.length co8] ?_;(with_reducible refine (impl_WholeOk.calls k _ _ t429 _ _ t432 t435 _ ?side1 ?side2 ?side3 ?side4 A4.out).mono ?_);(case side1=>repeat (first | exact (Kd.N_reads' HO431.out).2.2 | (with_reducible refine Z ?_ _) | (with_reducible refine J ?_ _) | (with_reducible refine Y ?_)));(case side2=>exact (Kd.N_reads' HO431.out).2.1);(case side3=>repeat (first | exact (Kd.Q_reads' HO434.out).2.2 | (with_reducible refine Z ?_ _) | (with_reducible refine J ?_ _) | (with_reducible refine Y ?_)));(case side4=>exact (Kd.Q_reads' HO434.out).2.1);rintro e w9 ⟨rfl,hb⟩;refine ⟨_,rfl,?_⟩;have n0_:=O (Kd.N_below (q11_ HO431) hb);have n1_:=O (Kd.Q_below (by (with_reducible repeat (first | apply Kd.Q_alloc | apply Kd.Q_drewN | apply Kd.Q_drew));exact HO434.out) hb);have n2_:=O (below_step (q3_ HB) hb);clear HO431 HO434 HB;have HO431:=n0_;have HO434:=n1_;have HB:=n2_;clear n0_ n1_ n2_;(try clear hb)))
  (try simp only [Act.put,List.setIfInBounds_toArray,List.set_cons_zero,List.set_cons_succ])
  go_cut [27] (fun v27 wc=>∃ (kq : Nat) (x27_4 : Bool),v27 = .bool x27_4 ∧ Aside0 (laws_FnWholeOk.j0 kq t429 t432 t435 x27_4 = some r) ∧ Aside0 (kq ≤ k) ∧ Aside0 (Kd.N (Kd.slice 41 k41) 36 wc w.heap.size (fun k_=>some k_ ≠ ((.slice Ao8 t432.length co8) : Value).ownBlock) (.slice Ao7 t429.length co7) t429) ∧ Aside0 (Kd.Q (Kd.int .i64) 3 wc w.heap.size (fun _=>True) (.slice Ao8 t432.length co8) t432) ∧ Aside0 (Below w.heap.size w wc))
  case first =>
   have H:=HC5.out;clear HC5;replace H:=E.mp H;obtain ⟨t436,A100,H⟩:=H;replace H : (if (t435 != t436) = true then (laws_FnWholeOk.j0 k t429 t432 t435 true) else (laws_FnWholeOk.j0 k t429 t432 t435 (!t435))) = some r:=H;have A10:=O A100;clear A100
   by_cases c11 : (t435 != t436) = true
   ·rw [if_pos c11] at H;have c11b0 : (t435 != t436) = true:=c11
    (try (have c11b1 : decide (t435 = t436) = false:=by simpa using c11))
    (try (have c11b2 : (t435 == t436) = false:=by simpa using c11))
    (try (have c11b3 : ¬ (t435 = t436):=by simpa using c11))
    clear c11
    (first | rw [c11b0] | (simp only [i64_w,i32_w];rw [c11b0]) | skip)
    have H':=O H;clear H
    go_wp2_with (first | ((with_reducible refine gate_callee (f:=6) rfl ?_);refine goesM_ (some 22) Try.func6 #[.slice Ao7 t429.length co7,.slice Ao8 t432.length co8] ?_;(with_reducible refine (spec_WholeOk.calls k _ _ t429 _ _ t432 t436 _ ?side1 ?side2 ?side3 ?side4 A10.out).mono ?_);(case side1=>repeat (first | exact (Kd.N_reads' HO431.out).2.2 | (with_reducible refine Z ?_ _) | (with_reducible refine J ?_ _) | (with_reducible refine Y ?_)));(case side2=>exact (Kd.N_reads' HO431.out).2.1);(case side3=>repeat (first | exact (Kd.Q_reads' HO434.out).2.2 | (with_reducible refine Z ?_ _) | (with_reducible refine J ?_ _) | (with_reducible refine Y ?_)));(case side4=>exact (Kd.Q_reads' HO434.out).2.1);rintro e w12 ⟨rfl,hb⟩;refine ⟨_,rfl,?_⟩;have n0_:=O (Kd.N_below (q11_ HO431) hb);have n1_:=O (Kd.Q_below (by (with_reducible repeat (first | apply Kd.Q_alloc | apply Kd.Q_drewN | apply Kd.Q_drew));exact HO434.out) hb);have n2_:=O (below_step (q3_ HB) hb);clear HO431 HO434 HB;have HO431:=n0_;have HO434:=n1_;have HB:=n2_;clear n0_ n1_ n2_;(try clear hb)))
    go_meet
    case rel=>exact ⟨_,(true),(by first | rfl | (simp;done) | (simp [*];done)),H',⟨by first | omega | exact Nat.le_refl _⟩,⟨by (with_reducible repeat (first | apply Kd.N_alloc | apply Kd.N_drewN | apply Kd.N_drew));exact HO431.out⟩,⟨by (with_reducible repeat (first | apply Kd.Q_alloc | apply Kd.Q_drewN | apply Kd.Q_drew));exact HO434.out⟩,⟨by repeat (first | (with_reducible first | exact HB.out | apply below_alloc | apply pw_below_drewN | apply below_drew1) | exact HB.out)⟩⟩
   ·rw [if_neg c11] at H
    have c11b0 : (t435 != t436) = false:=by simpa using c11
    (try (have c11b1 : decide (t435 = t436) = true:=by simpa using c11))
    (try (have c11b2 : (t435 == t436) = true:=by simpa using c11))
    clear c11
    (first | rw [c11b0] | (simp only [i64_w,i32_w];rw [c11b0]) | skip)
    have H':=O H;clear H
    go_wp2_with (first | ((with_reducible refine gate_callee (f:=6) rfl ?_);refine goesM_ (some 22) Try.func6 #[.slice Ao7 t429.length co7,.slice Ao8 t432.length co8] ?_;(with_reducible refine (spec_WholeOk.calls k _ _ t429 _ _ t432 t436 _ ?side1 ?side2 ?side3 ?side4 A10.out).mono ?_);(case side1=>repeat (first | exact (Kd.N_reads' HO431.out).2.2 | (with_reducible refine Z ?_ _) | (with_reducible refine J ?_ _) | (with_reducible refine Y ?_)));(case side2=>exact (Kd.N_reads' HO431.out).2.1);(case side3=>repeat (first | exact (Kd.Q_reads' HO434.out).2.2 | (with_reducible refine Z ?_ _) | (with_reducible refine J ?_ _) | (with_reducible refine Y ?_)));(case side4=>exact (Kd.Q_reads' HO434.out).2.1);rintro e w13 ⟨rfl,hb⟩;refine ⟨_,rfl,?_⟩;have n0_:=O (Kd.N_below (q11_ HO431) hb);have n1_:=O (Kd.Q_below (by (with_reducible repeat (first | apply Kd.Q_alloc | apply Kd.Q_drewN | apply Kd.Q_drew));exact HO434.out) hb);have n2_:=O (below_step (q3_ HB) hb);clear HO431 HO434 HB;have HO431:=n0_;have HO434:=n1_;have HB:=n2_;clear n0_ n1_ n2_;(try clear hb)))
    go_meet
    case rel=>exact ⟨_,(!t435),(by first | rfl | (simp;done) | (simp [*];done)),H',⟨by first | omega | exact Nat.le_refl _⟩,⟨by (with_reducible repeat (first | apply Kd.N_alloc | apply Kd.N_drewN | apply Kd.N_drew));exact HO431.out⟩,⟨by (with_reducible repeat (first | apply Kd.Q_alloc | apply Kd.Q_drewN | apply Kd.Q_drew));exact HO434.out⟩,⟨by repeat (first | (with_reducible first | exact HB.out | apply below_alloc | apply pw_below_drewN | apply below_drew1) | exact HB.out)⟩⟩
  case rest =>
   clear HC5;(try clear c1);(try clear c2);(try clear c2b0);(try clear c2b1);(try clear p2);(try clear c3);(try clear c4);(try clear c5);(try clear c6);(try clear c11);(try clear c11b0);(try clear c11b1);(try clear c11b2);obtain ⟨kq,x27_4,rfl,HA,HJ4,HO_3,HO_4,HB⟩:=hcut
   cases kq with
   | zero=>exact absurd HA.out (by simp [laws_FnWholeOk.j0])
   | succ kj4 =>
    have H:=HA.out;clear HA;simp only [laws_FnWholeOk.j0] at H
    by_cases c14 : x27_4 = true
    ·subst c14
     have H1 : ((spec_WholeOk.f kj4 t429 t432).bind fun t437=>(some (t435 == t437))) = some r:=by rw [if_pos rfl] at H;exact H
     clear H;have H:=H1;clear H1;replace H:=E.mp H;obtain ⟨t437,A150,H⟩:=H;replace H : (some (t435 == t437)) = some r:=H;have A15:=O A150;clear A150;obtain rfl:=Option.some.inj H
     go_wp2_with (first | ((with_reducible refine gate_callee (f:=6) rfl ?_);refine goesM_ (some 31) Try.func6 #[.slice Ao7 t429.length co7,.slice Ao8 t432.length co8] ?_;(with_reducible refine (spec_WholeOk.calls kj4 _ _ t429 _ _ t432 t437 _ ?side1 ?side2 ?side3 ?side4 A15.out).mono ?_);(case side1=>repeat (first | exact (Kd.N_reads' HO_3.out).2.2 | (with_reducible refine Z ?_ _) | (with_reducible refine J ?_ _) | (with_reducible refine Y ?_)));(case side2=>exact (Kd.N_reads' HO_3.out).2.1);(case side3=>repeat (first | exact (Kd.Q_reads' HO_4.out).2.2 | (with_reducible refine Z ?_ _) | (with_reducible refine J ?_ _) | (with_reducible refine Y ?_)));(case side4=>exact (Kd.Q_reads' HO_4.out).2.1);rintro e w16 ⟨rfl,hb⟩;refine ⟨_,rfl,?_⟩;have n0_:=O (Kd.N_below (q11_ HO_3) hb);have n1_:=O (Kd.Q_below (by (with_reducible repeat (first | apply Kd.Q_alloc | apply Kd.Q_drewN | apply Kd.Q_drew));exact HO_4.out) hb);have n2_:=O (below_step (q3_ HB) hb);clear HO_3 HO_4 HB;have HO_3:=n0_;have HO_4:=n1_;have HB:=n2_;clear n0_ n1_ n2_;(try clear hb)))
     go_ret
     exact ⟨by first | rfl | (simp [errW_none,errW_some] <;> rfl) | (simp [*,errW_none,errW_some] <;> rfl),by repeat (first | (with_reducible first | exact HB.out | apply below_alloc | apply pw_below_drewN | apply below_drew1) | exact HB.out)⟩
    ·replace c14:=Bool.eq_false_iff.mpr c14;subst c14
     have H1 : (laws_FnWholeOk.l0 kj4 t429 t432 0) = some r:=by rw [if_neg (show ¬ (false = true) by decide)] at H;exact H
     clear H;have H:=H1;clear H1;have H':=O H;clear H
     go_wp2
     go_loopg [6] kj4 (fun kq v6 w'=>∃ (x4_2 : List Int) (x6_2 : Int),v6 = .int .i64 x6_2 ∧ Aside0 (laws_FnWholeOk.l0 kq t429 x4_2 x6_2 = some r) ∧ Aside0 (kq ≤ kj4) ∧ Aside0 (Kd.N (Kd.slice 41 k41) 36 w' w.heap.size (fun k_=>some k_ ≠ ((.slice Ao8 t432.length co8) : Value).ownBlock) (.slice Ao7 t429.length co7) t429) ∧ Aside0 (Kd.Q (Kd.int .i64) 3 w' w.heap.size (fun _=>True) (.slice Ao8 t432.length co8) x4_2) ∧ Aside0 (Below w.heap.size w w'))
     case atStart=>exact ⟨(t432),(0),(by first | rfl | (simp;done) | (simp [*];done)),H',⟨Nat.le_refl _⟩,⟨by (with_reducible repeat (first | apply Kd.N_alloc | apply Kd.N_drewN | apply Kd.N_drew));exact HO_3.out⟩,⟨by (with_reducible repeat (first | apply Kd.Q_alloc | apply Kd.Q_drewN | apply Kd.Q_drew));exact HO_4.out⟩,⟨by repeat (first | (with_reducible first | exact HB.out | apply below_alloc | apply pw_below_drewN | apply below_drew1) | exact HB.out)⟩⟩
     case round =>
      clear H';(try clear c1);(try clear c2);(try clear c2b0);(try clear c2b1);(try clear p2);(try clear c3);(try clear c4);(try clear c5);(try clear c6);(try clear c11);(try clear c11b0);(try clear c11b1);(try clear c11b2);(try clear c14);(try clear p2);obtain ⟨x4_2,x6_2,rfl,HA,HK2,HO_3,HO_4,HB⟩:=hrel;have hl4_2:=(Kd.Q_reads' HO_4.out).1;rw [hl4_2] at HO_4
      (try simp only [hl4_2])
      (try simp only [hl4_2] at HO_3)
      cases gk with
      | zero=>exact absurd HA.out (by simp [laws_FnWholeOk.l0])
      | succ k2 =>
       have H:=HA.out;clear HA;simp only [laws_FnWholeOk.l0] at H
       by_cases c17 : x6_2 < (x4_2.length : Int)
       ·rw [if_pos c17] at H;have c17b0 : decide (x6_2 < (x4_2.length : Int)) = true:=decide_eq_true c17;clear c17;obtain ⟨y443,hy443⟩ : ∃ y_ : List Int,y_ = (([] : List Int)):=⟨_,rfl⟩
        replace H : (if y443.length + x4_2.length < 17592186044416 then ((some (y443 ++ x4_2 : List Int)).bind fun y446=>(if 0 ≤ x6_2 then (if x6_2 < (y446.length : Int) then ((impl_WholeOk.f k2 t429 (y446.set (x6_2 : Int).toNat (wrap64 (1 - (rd x4_2 x6_2))))).bind fun t451=>((laws_wpTouches.f k2 t429 x6_2).bind fun t452=>(if (t451 != (!t452)) = true then (some false) else (laws_FnWholeOk.l0 k2 t429 x4_2 (wrap64 (x6_2 + 1)))))) else (none)) else (none))) else (none)) = some r:=by first | (rw [hy443];with_reducible exact H) | (have H2_:=(Option.bind_some _ _).symm.trans H;rw [hy443];with_reducible exact H2_) | (have H2_:=(Option.bind_some _ _).symm.trans H;with_reducible exact H2_) | with_reducible exact H | (rw [hy443];exact H) | exact H
        have Ny443:=O hy443;clear hy443
        by_cases c18 : y443.length + x4_2.length < 17592186044416
        ·rw [if_pos c18] at H;have LMc18:=O c18;clear c18;obtain ⟨y446,hy446⟩ : ∃ y_ : List Int,y_ = (y443 ++ x4_2):=⟨_,rfl⟩
         replace H : (if 0 ≤ x6_2 then (if x6_2 < (y446.length : Int) then ((impl_WholeOk.f k2 t429 (y446.set (x6_2 : Int).toNat (wrap64 (1 - (rd x4_2 x6_2))))).bind fun t451=>((laws_wpTouches.f k2 t429 x6_2).bind fun t452=>(if (t451 != (!t452)) = true then (some false) else (laws_FnWholeOk.l0 k2 t429 x4_2 (wrap64 (x6_2 + 1)))))) else (none)) else (none)) = some r:=by first | (rw [hy446];with_reducible exact H) | (have H2_:=(Option.bind_some _ _).symm.trans H;rw [hy446];with_reducible exact H2_) | (have H2_:=(Option.bind_some _ _).symm.trans H;with_reducible exact H2_) | with_reducible exact H | (rw [hy446];exact H) | exact H
         have Ny446:=O hy446;clear hy446
         by_cases c19 : 0 ≤ x6_2
         ·rw [if_pos c19] at H;have c19b0 : decide (0 ≤ x6_2) = true:=decide_eq_true c19;clear c19
          by_cases c20 : x6_2 < (y446.length : Int)
          ·rw [if_pos c20] at H;have c20b0 : decide (x6_2 < (y446.length : Int)) = true:=decide_eq_true c20;clear c20;obtain ⟨y450,hy450⟩ : ∃ y_ : List Int,y_ = (y446.set (x6_2 : Int).toNat (wrap64 (1 - (rd x4_2 x6_2)))):=⟨_,rfl⟩
           replace H : ((impl_WholeOk.f k2 t429 y450).bind fun t451=>((laws_wpTouches.f k2 t429 x6_2).bind fun t452=>(if (t451 != (!t452)) = true then (some false) else (laws_FnWholeOk.l0 k2 t429 x4_2 (wrap64 (x6_2 + 1)))))) = some r:=by first | (rw [hy450];with_reducible exact H) | (have H2_:=(Option.bind_some _ _).symm.trans H;rw [hy450];with_reducible exact H2_) | (have H2_:=(Option.bind_some _ _).symm.trans H;with_reducible exact H2_) | with_reducible exact H | (rw [hy450];exact H) | exact H
           have Ny450:=O hy450;clear hy450;replace H:=E.mp H;obtain ⟨t451,A220,H⟩:=H;replace H : ((laws_wpTouches.f k2 t429 x6_2).bind fun t452=>(if (t451 != (!t452)) = true then (some false) else (laws_FnWholeOk.l0 k2 t429 x4_2 (wrap64 (x6_2 + 1))))) = some r:=H;have A22:=O A220;clear A220;replace H:=E.mp H;obtain ⟨t452,A230,H⟩:=H;replace H : (if (t451 != (!t452)) = true then (some false) else (laws_FnWholeOk.l0 k2 t429 x4_2 (wrap64 (x6_2 + 1)))) = some r:=H;have A23:=O A230;clear A230
           by_cases c24 : (t451 != (!t452)) = true
           ·rw [if_pos c24] at H;have c24b0 : (t451 != (!t452)) = true:=c24
            (try (have c24b1 : decide (t451 = (!t452)) = false:=by simpa using c24))
            (try (have c24b2 : (t451 == (!t452)) = false:=by simpa using c24))
            have c24b5 : (!(t451 == (!t452))) = true:=c24b0
            (try (have c24b3 : ¬ (t451 = (!t452)):=by simpa using c24))
            clear c24;obtain rfl:=Option.some.inj H
            go_wp2_with (first | ((with_reducible refine gate_dst (N:=39) rfl ?_);refine Kd.R_lit (Kd.int .i64) _ 3 ?hg (N:=39) ?hd (xs:=([] : List Int)) (inner:=[]) (ok:=fun _=>True) (okp:=fun _=>True) ?hr ?hp (fun _ hk=>hk) trivial (Below.refl _ _) (Nat.le_refl _) (by simp) ?_;(case hd=>rfl);(case hg=>rfl);(case hr=>first | (go_simp;done) | (go_simp;rfl));(case hp=>exact (Reps.none _ _));intro v444 w25 ho26 hb hg_ hnew_;clear hg_ hnew_;(first | rw [← Ny443.out] at ho26 | (simp only [Int.reduceToNat] at ho26;rw [← Ny443.out] at ho26));have n0_:=O (Kd.N_elder' (q11_ HO_3) (Kd.R_base ho26) hb);have n1_:=O (Kd.Q_elder' (by (with_reducible repeat (first | apply Kd.Q_alloc | apply Kd.Q_drewN | apply Kd.Q_drew));exact HO_4.out) (Kd.R_base ho26) hb);have n2_:=O (Kd.R_lower (Kd.R_new' ho26 (Kd.Q_lt (by (with_reducible repeat (first | apply Kd.Q_alloc | apply Kd.Q_drewN | apply Kd.Q_drew));exact HO_4.out))) (below_size (q3_ HB)));have n3_:=O (below_step (q3_ HB) hb);clear HO_3 HO_4 HB;have HO_3:=n0_;have HO_4:=n1_;have HO445:=n2_;have HB:=n3_;clear n0_ n1_ n2_ n3_ hb ho26) | ((with_reducible refine gate_builtin (b:=.append) (xs:=#[.tmp 39,.tmp 40]) rfl ?_);at_builtin;refine Kd.R_append_rows (Kd.int .i64) (w0:=w) w.heap.size rfl (.tmp 39) (.tmp 40) 24 3 (.int .i64 0) 8 rfl Try.underlying24 info3 rfl (by decide) (by omega) v444 y443 x4_2 _ _ _ (fun k_=>some k_ ≠ (.slice Ao8 x4_2.length co8 : Value).ownBlock) (fun _=>False) rfl rfl ?aO ?aR (fun _ _ h=>h) (fun _ h=>h.elim) ?aF ?aB ?aS ?aL ?_;(case aR=>repeat (first | exact (Kd.Q_reads' HO_4.out).2.2 | (with_reducible refine Z ?_ _) | (with_reducible refine J ?_ _) | (with_reducible refine Y ?_)));(case aB=>exact q3_ HB);(case aF=>exact (fun k_ hk=>Kd.fresh' (Kd.Q_lt (by (with_reducible repeat (first | apply Kd.Q_alloc | apply Kd.Q_drewN | apply Kd.Q_drew));exact HO_4.out)) k_ hk));(case aO=>exact (by (with_reducible repeat (first | apply Kd.R_alloc | apply Kd.R_drewN | apply Kd.R_drew));exact Kd.R_mono HO445.out (fun _ hk=>hk.2)));(case aS=>exact (below_size (q3_ HB)));(case aL=>have:=LMc18.out;omega);intro v447 w27 ho hb hg hat;rw [← Ny446.out] at ho;have n0_:=O (Kd.N_afterv (ok:=(fun k_=>some k_ ≠ (.slice Ao8 x4_2.length co8 : Value).ownBlock)) (q11_ HO_3) hg hat);have n1_:=O (Kd.Q_after (ok:=(fun _=>True)) (by (with_reducible repeat (first | apply Kd.Q_alloc | apply Kd.Q_drewN | apply Kd.Q_drew));exact HO_4.out) hg hat);have n2_:=O (hb);have n3_:=O (ho);clear HO_3 HO_4 HB HO445;have HO_3:=n0_;have HO_4:=n1_;have HB:=n2_;have HO448:=n3_;clear n0_ n1_ n2_ n3_ ho hb hg hat;have p449 : 0 ≤ (x6_2 : Int):=of_decide_eq_true (by first | (with_reducible assumption) | assumption);have q449 : x6_2 < (x4_2.length : Int):=of_decide_eq_true (by first | (with_reducible assumption) | assumption);obtain ⟨ad449,e449,hx449_0⟩:=Kd.at_int (Kd.Q_reads' HO_4.out).2.2 x6_2 p449 q449;cases e449;replace p449:=eq_true p449;replace q449:=eq_true q449;have p21 : 0 ≤ (x6_2 : Int):=of_decide_eq_true (by first | (with_reducible assumption) | assumption);have q21 : (x6_2 : Int) < ((y446.length : Int) : Int):=of_decide_eq_true (by first | (with_reducible assumption) | assumption);obtain ⟨go21,co21,eo21,gb21,gl21,cl21,HG21⟩:=Kd.R_form HO448.out (by omega);(first | cases eo21 | (injection eo21 with ea_ en_ ec_;(first | subst ea_ | (injection ea_ with ea_;subst ea_));subst ec_;clear en_));have GB21:=O gb21;have GG21:=O HG21;clear gb21 gl21 HG21;obtain ⟨hx21_0,hf21_0⟩:=Kd.R_celln 0 HO448.out (x6_2 : Int) p21 q21;replace p21:=eq_true p21;replace q21:=eq_true q21;obtain ⟨hy28_,hz28_⟩:=Kd.R_celln 0 HO448.out (x6_2 : Int) (of_decide_eq_true (by first | (with_reducible assumption) | assumption)) (of_decide_eq_true (by first | (with_reducible assumption) | assumption));have HP28:=Kd.R_putg HO448.out (x6_2 : Int) (wrap64 (1 - (rd x4_2 x6_2)))) | ((with_reducible refine gate_store (t:=3) (p:=49) rfl ?_);refine store_event (t:=3) (p:=49) (v:=?vo_w29) (w1:=(w27.setCell ⟨go21,(x6_2 : Int).toNat,none⟩ (.int .i64 (wrap64 (1 - (rd x4_2 x6_2)))))) ?hg ?ho ?hn ?hr ?_;(case ho=>rfl);(case hg=>rfl);(case hn=>rfl);(case hr=>first | (go_simp;done) | (go_simp;rfl));intro w29 hw;have hg : w27.grownBy w29 (some go21):=(by rw [hw];exact HP28.2);have hp_ : Kd.R (Kd.int .i64) 3 w29 w.heap.size (fun k_=>some k_ ≠ (.slice (some ad449) x4_2.length co8 : Value).ownBlock) (.slice (some ⟨go21,0,none⟩) y446.length co21) y450:=(by rw [hw,Ny450.out];exact HP28.1);clear HP28;have n0_:=O (Kd.N_afterv (v:=(.slice (some ⟨go21,0,none⟩) y446.length co21)) (v1:=(.slice (some ⟨go21,0,none⟩) y446.length co21)) (ok:=(fun k_=>some k_ ≠ (.slice (some ad449) x4_2.length co8 : Value).ownBlock)) (q11_ HO_3) hg (.inl rfl));have n1_:=O (Kd.Q_after (v:=(.slice (some ⟨go21,0,none⟩) y446.length co21)) (v1:=(.slice (some ⟨go21,0,none⟩) y446.length co21)) (ok:=(fun _=>True)) (by (with_reducible repeat (first | apply Kd.Q_alloc | apply Kd.Q_drewN | apply Kd.Q_drew));exact HO_4.out) hg (.inl rfl));have n2_:=O (hp_);have n3_:=O ((by rw [hw];exact below_set (HB.out) GB21.out : Below w.heap.size w w29));clear HO_3 HO_4 HO448 HB;have HO_3:=n0_;have HO_4:=n1_;have HO448:=n2_;have HB:=n3_;clear n0_ n1_ n2_ n3_ hg hw hp_) | ((with_reducible refine gate_callee (f:=5) rfl ?_);refine goesL_ (some 52) rfl rfl Try.func5 (by kernel_rfl) rfl #[.slice Ao7 t429.length co7,.slice (some ⟨go21,0,none⟩) y450.length co21] rfl (by (try simp only [List.map_toArray,List.map_cons,List.map_nil]);first | done | (rw [show y450.length = y446.length from (Kd.R_reads' HO448.out).1.symm] <;> rfl) | rfl | (simp only [List.length_drop,List.length_take];rfl)) ?_;(with_reducible refine (impl_WholeOk.calls k2 _ _ t429 _ _ y450 t451 _ ?side1 ?side2 ?side3 ?side4 A22.out).mono ?_);(case side1=>repeat (first | exact (Kd.N_reads' HO_3.out).2.2 | (with_reducible refine Z ?_ _) | (with_reducible refine J ?_ _) | (with_reducible refine Y ?_)));(case side2=>exact (Kd.N_reads' HO_3.out).2.1);(case side3=>repeat (first | exact (Kd.R_reads' HO448.out).2.2 | (with_reducible refine Z ?_ _) | (with_reducible refine J ?_ _) | (with_reducible refine Y ?_)));(case side4=>rw [show y450.length = y446.length from (Kd.R_reads' HO448.out).1.symm];exact (Kd.R_reads' HO448.out).2.1);rintro e w30 ⟨rfl,hb⟩;refine ⟨_,rfl,?_⟩;have n0_:=O (Kd.N_below (q11_ HO_3) hb);have n1_:=O (Kd.Q_below (by (with_reducible repeat (first | apply Kd.Q_alloc | apply Kd.Q_drewN | apply Kd.Q_drew));exact HO_4.out) hb);have n2_:=O (Kd.R_below (q9_ HO448) hb);have n3_:=O (below_step (q3_ HB) hb);clear HO_3 HO_4 HO448 HB;have HO_3:=n0_;have HO_4:=n1_;have HO448:=n2_;have HB:=n3_;clear n0_ n1_ n2_ n3_;(try clear hb);(try clear hk)) | ((with_reducible refine gate_callee (f:=7) rfl ?_);refine goesM_ (some 55) Try.func7 #[.slice Ao7 t429.length co7,.int .i64 x6_2] ?_;(with_reducible refine (laws_wpTouches.calls k2 _ _ t429 x6_2 t452 _ ?side1 ?side2 A23.out).mono ?_);(case side1=>repeat (first | exact (Kd.N_reads' HO_3.out).2.2 | (with_reducible refine Z ?_ _) | (with_reducible refine J ?_ _) | (with_reducible refine Y ?_)));(case side2=>exact (Kd.N_reads' HO_3.out).2.1);rintro e w31 ⟨rfl,hb⟩;refine ⟨_,rfl,?_⟩;have n0_:=O (Kd.N_below (q11_ HO_3) hb);have n1_:=O (Kd.Q_below (by (with_reducible repeat (first | apply Kd.Q_alloc | apply Kd.Q_drewN | apply Kd.Q_drew));exact HO_4.out) hb);have n2_:=O (Kd.R_below (q9_ HO448) hb);have n3_:=O (below_step (q3_ HB) hb);clear HO_3 HO_4 HO448 HB;have HO_3:=n0_;have HO_4:=n1_;have HO448:=n2_;have HB:=n3_;clear n0_ n1_ n2_ n3_;(try clear hb);(try clear hk)))
            go_ret
            exact ⟨by first | rfl | (simp [errW_none,errW_some] <;> rfl) | (simp [*,errW_none,errW_some] <;> rfl),by repeat (first | (with_reducible first | exact HB.out | apply below_alloc | apply pw_below_drewN | apply below_drew1) | exact HB.out)⟩
           ·rw [if_neg c24] at H
            have c24b0 : (t451 != (!t452)) = false:=by simpa using c24
            (try (have c24b1 : decide (t451 = (!t452)) = true:=by simpa using c24))
            (try (have c24b2 : (t451 == (!t452)) = true:=by simpa using c24))
            have c24b5 : (!(t451 == (!t452))) = false:=c24b0;clear c24;have H':=O H;clear H
            go_wp2_with (first | ((with_reducible refine gate_dst (N:=39) rfl ?_);refine Kd.R_lit (Kd.int .i64) _ 3 ?hg (N:=39) ?hd (xs:=([] : List Int)) (inner:=[]) (ok:=fun _=>True) (okp:=fun _=>True) ?hr ?hp (fun _ hk=>hk) trivial (Below.refl _ _) (Nat.le_refl _) (by simp) ?_;(case hd=>rfl);(case hg=>rfl);(case hr=>first | (go_simp;done) | (go_simp;rfl));(case hp=>exact (Reps.none _ _));intro v444 w32 ho33 hb hg_ hnew_;clear hg_ hnew_;(first | rw [← Ny443.out] at ho33 | (simp only [Int.reduceToNat] at ho33;rw [← Ny443.out] at ho33));have n0_:=O (Kd.N_elder' (q11_ HO_3) (Kd.R_base ho33) hb);have n1_:=O (Kd.Q_elder' (by (with_reducible repeat (first | apply Kd.Q_alloc | apply Kd.Q_drewN | apply Kd.Q_drew));exact HO_4.out) (Kd.R_base ho33) hb);have n2_:=O (Kd.R_lower (Kd.R_new' ho33 (Kd.Q_lt (by (with_reducible repeat (first | apply Kd.Q_alloc | apply Kd.Q_drewN | apply Kd.Q_drew));exact HO_4.out))) (below_size (q3_ HB)));have n3_:=O (below_step (q3_ HB) hb);clear HO_3 HO_4 HB;have HO_3:=n0_;have HO_4:=n1_;have HO445:=n2_;have HB:=n3_;clear n0_ n1_ n2_ n3_ hb ho33) | ((with_reducible refine gate_builtin (b:=.append) (xs:=#[.tmp 39,.tmp 40]) rfl ?_);at_builtin;refine Kd.R_append_rows (Kd.int .i64) (w0:=w) w.heap.size rfl (.tmp 39) (.tmp 40) 24 3 (.int .i64 0) 8 rfl Try.underlying24 info3 rfl (by decide) (by omega) v444 y443 x4_2 _ _ _ (fun k_=>some k_ ≠ (.slice Ao8 x4_2.length co8 : Value).ownBlock) (fun _=>False) rfl rfl ?aO ?aR (fun _ _ h=>h) (fun _ h=>h.elim) ?aF ?aB ?aS ?aL ?_;(case aR=>repeat (first | exact (Kd.Q_reads' HO_4.out).2.2 | (with_reducible refine Z ?_ _) | (with_reducible refine J ?_ _) | (with_reducible refine Y ?_)));(case aB=>exact q3_ HB);(case aF=>exact (fun k_ hk=>Kd.fresh' (Kd.Q_lt (by (with_reducible repeat (first | apply Kd.Q_alloc | apply Kd.Q_drewN | apply Kd.Q_drew));exact HO_4.out)) k_ hk));(case aO=>exact (by (with_reducible repeat (first | apply Kd.R_alloc | apply Kd.R_drewN | apply Kd.R_drew));exact Kd.R_mono HO445.out (fun _ hk=>hk.2)));(case aS=>exact (below_size (q3_ HB)));(case aL=>have:=LMc18.out;omega);intro v447 w34 ho hb hg hat;rw [← Ny446.out] at ho;have n0_:=O (Kd.N_afterv (ok:=(fun k_=>some k_ ≠ (.slice Ao8 x4_2.length co8 : Value).ownBlock)) (q11_ HO_3) hg hat);have n1_:=O (Kd.Q_after (ok:=(fun _=>True)) (by (with_reducible repeat (first | apply Kd.Q_alloc | apply Kd.Q_drewN | apply Kd.Q_drew));exact HO_4.out) hg hat);have n2_:=O (hb);have n3_:=O (ho);clear HO_3 HO_4 HB HO445;have HO_3:=n0_;have HO_4:=n1_;have HB:=n2_;have HO448:=n3_;clear n0_ n1_ n2_ n3_ ho hb hg hat;have p449 : 0 ≤ (x6_2 : Int):=of_decide_eq_true (by first | (with_reducible assumption) | assumption);have q449 : x6_2 < (x4_2.length : Int):=of_decide_eq_true (by first | (with_reducible assumption) | assumption);obtain ⟨ad449,e449,hx449_0⟩:=Kd.at_int (Kd.Q_reads' HO_4.out).2.2 x6_2 p449 q449;cases e449;replace p449:=eq_true p449;replace q449:=eq_true q449;have p21 : 0 ≤ (x6_2 : Int):=of_decide_eq_true (by first | (with_reducible assumption) | assumption);have q21 : (x6_2 : Int) < ((y446.length : Int) : Int):=of_decide_eq_true (by first | (with_reducible assumption) | assumption);obtain ⟨go21,co21,eo21,gb21,gl21,cl21,HG21⟩:=Kd.R_form HO448.out (by omega);(first | cases eo21 | (injection eo21 with ea_ en_ ec_;(first | subst ea_ | (injection ea_ with ea_;subst ea_));subst ec_;clear en_));have GB21:=O gb21;have GG21:=O HG21;clear gb21 gl21 HG21;obtain ⟨hx21_0,hf21_0⟩:=Kd.R_celln 0 HO448.out (x6_2 : Int) p21 q21;replace p21:=eq_true p21;replace q21:=eq_true q21;obtain ⟨hy35_,hz35_⟩:=Kd.R_celln 0 HO448.out (x6_2 : Int) (of_decide_eq_true (by first | (with_reducible assumption) | assumption)) (of_decide_eq_true (by first | (with_reducible assumption) | assumption));have HP35:=Kd.R_putg HO448.out (x6_2 : Int) (wrap64 (1 - (rd x4_2 x6_2)))) | ((with_reducible refine gate_store (t:=3) (p:=49) rfl ?_);refine store_event (t:=3) (p:=49) (v:=?vo_w36) (w1:=(w34.setCell ⟨go21,(x6_2 : Int).toNat,none⟩ (.int .i64 (wrap64 (1 - (rd x4_2 x6_2)))))) ?hg ?ho ?hn ?hr ?_;(case ho=>rfl);(case hg=>rfl);(case hn=>rfl);(case hr=>first | (go_simp;done) | (go_simp;rfl));intro w36 hw;have hg : w34.grownBy w36 (some go21):=(by rw [hw];exact HP35.2);have hp_ : Kd.R (Kd.int .i64) 3 w36 w.heap.size (fun k_=>some k_ ≠ (.slice (some ad449) x4_2.length co8 : Value).ownBlock) (.slice (some ⟨go21,0,none⟩) y446.length co21) y450:=(by rw [hw,Ny450.out];exact HP35.1);clear HP35;have n0_:=O (Kd.N_afterv (v:=(.slice (some ⟨go21,0,none⟩) y446.length co21)) (v1:=(.slice (some ⟨go21,0,none⟩) y446.length co21)) (ok:=(fun k_=>some k_ ≠ (.slice (some ad449) x4_2.length co8 : Value).ownBlock)) (q11_ HO_3) hg (.inl rfl));have n1_:=O (Kd.Q_after (v:=(.slice (some ⟨go21,0,none⟩) y446.length co21)) (v1:=(.slice (some ⟨go21,0,none⟩) y446.length co21)) (ok:=(fun _=>True)) (by (with_reducible repeat (first | apply Kd.Q_alloc | apply Kd.Q_drewN | apply Kd.Q_drew));exact HO_4.out) hg (.inl rfl));have n2_:=O (hp_);have n3_:=O ((by rw [hw];exact below_set (HB.out) GB21.out : Below w.heap.size w w36));clear HO_3 HO_4 HO448 HB;have HO_3:=n0_;have HO_4:=n1_;have HO448:=n2_;have HB:=n3_;clear n0_ n1_ n2_ n3_ hg hw hp_) | ((with_reducible refine gate_callee (f:=5) rfl ?_);refine goesL_ (some 52) rfl rfl Try.func5 (by kernel_rfl) rfl #[.slice Ao7 t429.length co7,.slice (some ⟨go21,0,none⟩) y450.length co21] rfl (by (try simp only [List.map_toArray,List.map_cons,List.map_nil]);first | done | (rw [show y450.length = y446.length from (Kd.R_reads' HO448.out).1.symm] <;> rfl) | rfl | (simp only [List.length_drop,List.length_take];rfl)) ?_;(with_reducible refine (impl_WholeOk.calls k2 _ _ t429 _ _ y450 t451 _ ?side1 ?side2 ?side3 ?side4 A22.out).mono ?_);(case side1=>repeat (first | exact (Kd.N_reads' HO_3.out).2.2 | (with_reducible refine Z ?_ _) | (with_reducible refine J ?_ _) | (with_reducible refine Y ?_)));(case side2=>exact (Kd.N_reads' HO_3.out).2.1);(case side3=>repeat (first | exact (Kd.R_reads' HO448.out).2.2 | (with_reducible refine Z ?_ _) | (with_reducible refine J ?_ _) | (with_reducible refine Y ?_)));(case side4=>rw [show y450.length = y446.length from (Kd.R_reads' HO448.out).1.symm];exact (Kd.R_reads' HO448.out).2.1);rintro e w37 ⟨rfl,hb⟩;refine ⟨_,rfl,?_⟩;have n0_:=O (Kd.N_below (q11_ HO_3) hb);have n1_:=O (Kd.Q_below (by (with_reducible repeat (first | apply Kd.Q_alloc | apply Kd.Q_drewN | apply Kd.Q_drew));exact HO_4.out) hb);have n2_:=O (Kd.R_below (q9_ HO448) hb);have n3_:=O (below_step (q3_ HB) hb);clear HO_3 HO_4 HO448 HB;have HO_3:=n0_;have HO_4:=n1_;have HO448:=n2_;have HB:=n3_;clear n0_ n1_ n2_ n3_;(try clear hb);(try clear hk)) | ((with_reducible refine gate_callee (f:=7) rfl ?_);refine goesM_ (some 55) Try.func7 #[.slice Ao7 t429.length co7,.int .i64 x6_2] ?_;(with_reducible refine (laws_wpTouches.calls k2 _ _ t429 x6_2 t452 _ ?side1 ?side2 A23.out).mono ?_);(case side1=>repeat (first | exact (Kd.N_reads' HO_3.out).2.2 | (with_reducible refine Z ?_ _) | (with_reducible refine J ?_ _) | (with_reducible refine Y ?_)));(case side2=>exact (Kd.N_reads' HO_3.out).2.1);rintro e w38 ⟨rfl,hb⟩;refine ⟨_,rfl,?_⟩;have n0_:=O (Kd.N_below (q11_ HO_3) hb);have n1_:=O (Kd.Q_below (by (with_reducible repeat (first | apply Kd.Q_alloc | apply Kd.Q_drewN | apply Kd.Q_drew));exact HO_4.out) hb);have n2_:=O (Kd.R_below (q9_ HO448) hb);have n3_:=O (below_step (q3_ HB) hb);clear HO_3 HO_4 HO448 HB;have HO_3:=n0_;have HO_4:=n1_;have HO448:=n2_;have HB:=n3_;clear n0_ n1_ n2_ n3_;(try clear hb);(try clear hk)))
            (try simp only [← hl4_2])
            go_roundg k2
            case measure=>have:=HJ4.out;have:=HK2.out;omega
            case rel=>exact ⟨(x4_2),(wrap64 (x6_2 + 1)),(by first | rfl | (simp;done) | (simp [*];done)),H',⟨by have:=HJ4.out;have:=HK2.out;omega⟩,⟨by (try simp only [hl4_2]);(with_reducible repeat (first | apply Kd.N_alloc | apply Kd.N_drewN | apply Kd.N_drew));exact Kd.N_mono HO_3.out (fun _ hk=>hk.1)⟩,⟨by (try simp only [hl4_2]);(with_reducible repeat (first | apply Kd.Q_alloc | apply Kd.Q_drewN | apply Kd.Q_drew));exact Kd.Q_mono HO_4.out (fun _ hk=>trivial)⟩,⟨by repeat (first | (with_reducible first | exact HB.out | apply below_alloc | apply pw_below_drewN | apply below_drew1) | exact HB.out)⟩⟩
          ·rw [if_neg c20] at H
           exact absurd H (by simp)
         ·rw [if_neg c19] at H
          exact absurd H (by simp)
        ·rw [if_neg c18] at H
         exact absurd H (by simp)
       ·rw [if_neg c17] at H;have c17b0 : decide (x6_2 < (x4_2.length : Int)) = false:=decide_eq_false c17;clear c17
        by_cases c39 : 1 ≤ (x4_2.length : Int)
        ·rw [if_pos c39] at H;have c39b0:=eq_true c39;have c39b1 : decide (1 ≤ (x4_2.length : Int)) = true:=decide_eq_true c39;clear c39;obtain ⟨y438,hy438⟩ : ∃ y_ : List Int,y_ = (x4_2.drop 1):=⟨_,rfl⟩
         replace H : ((impl_WholeOk.f k2 t429 y438).bind fun t442=>(some (!t442))) = some r:=by first | (rw [hy438];with_reducible exact H) | (have H2_:=(Option.bind_some _ _).symm.trans H;rw [hy438];with_reducible exact H2_) | (have H2_:=(Option.bind_some _ _).symm.trans H;with_reducible exact H2_) | with_reducible exact H | (rw [hy438];exact H) | exact H
         have Ny438:=O hy438;clear hy438;replace H:=E.mp H;obtain ⟨t442,A400,H⟩:=H;replace H : (some (!t442)) = some r:=H;have A40:=O A400;clear A400;obtain rfl:=Option.some.inj H
         have q41 : (1 : Int) ≤ ((x4_2.length : Int) : Int):=of_decide_eq_true (by first | (with_reducible assumption) | assumption)
         obtain ⟨i041,hi041,_,hsz41,_⟩:=info_parts info3;have hroom41 : x4_2.length ≤ co8:=(Kd.Q_reads' HO_4.out).2.1;have hC41 : Kd.C (Kd.int .i64) _ Ao8 x4_2.length x4_2:=(Kd.Q_reads' HO_4.out).2.2
         have hcut41:=cut_from (P:=Try.prog) 24 3 .i64 Try.underlying24 hi041 1 hsz41 Ao8 x4_2.length co8 1 (by omega) q41
         have hr41:=Kd.C_drop (m:=(1 : Int).toNat) (c:=co8) hC41 (by omega) hroom41
         obtain ⟨A41,hA41⟩ : ∃ A1,A1 = (if co8 = (1 : Int).toNat then Ao8 else (Ao8 : Option Addr).map (·.add ((1 : Int).toNat * 1))):=⟨_,rfl⟩;obtain ⟨c41,hc41⟩ : ∃ c1,c1 = co8 - (1 : Int).toNat:=⟨_,rfl⟩
         have hy41 : y438.length = x4_2.length - (1 : Int).toNat:=(by rw [Ny438.out,List.length_drop] <;> omega)
         rw [show (x4_2).drop (1 : Int).toNat = y438 from Ny438.out.symm] at hr41
         replace hr41 : Kd.C (Kd.int .i64) _ A41 y438.length y438:=(by rw [hA41];exact hr41)
         rw [← hy41,← hA41,← hc41] at hcut41;have HR441:=O hr41
         have HC441:=O (show y438.length ≤ c41 from by rw [hy41,hc41];exact Nat.sub_le_sub_right hroom41 _)
         clear hr41 hC41 hroom41 hi041 hsz41 hc41;have KY41:=O hy41;have KA41:=O hA41;clear hy41 hA41
         have KL41:=O (show 1 ≤ x4_2.length from by omega)
         replace q41:=eq_true q41
         go_wp2_with (first | ((with_reducible refine gate_callee (f:=5) rfl ?_);refine goesM_ (some 61) Try.func5 #[.slice Ao7 t429.length co7,.slice A41 y438.length c41] ?_;(with_reducible refine (impl_WholeOk.calls k2 _ _ t429 _ _ y438 t442 _ ?side1 ?side2 ?side3 ?side4 A40.out).mono ?_);(case side1=>repeat (first | exact (Kd.N_reads' HO_3.out).2.2 | (with_reducible refine Z ?_ _) | (with_reducible refine J ?_ _) | (with_reducible refine Y ?_)));(case side2=>exact (Kd.N_reads' HO_3.out).2.1);(case side3=>repeat (first | exact (by repeat (first | (with_reducible exact HR441.out) | (with_reducible refine Z ?_ _) | (with_reducible refine J ?_ _) | (with_reducible refine Y ?_) | exact HR441.out)) | (with_reducible refine Z ?_ _) | (with_reducible refine J ?_ _) | (with_reducible refine Y ?_)));(case side4=>exact HC441.out);rintro e w42 ⟨rfl,hb⟩;refine ⟨_,rfl,?_⟩;have n0_:=O (Kd.N_below (q11_ HO_3) hb);have n1_:=O (Kd.Q_below (by (with_reducible repeat (first | apply Kd.Q_alloc | apply Kd.Q_drewN | apply Kd.Q_drew));exact HO_4.out) hb);have n2_:=O (Kd.C_below (by repeat (first | (with_reducible exact HR441.out) | (with_reducible refine Z ?_ _) | (with_reducible refine J ?_ _) | (with_reducible refine Y ?_) | exact HR441.out)) hb);have n3_:=O (below_step (q3_ HB) hb);clear HO_3 HO_4 HR441 HB;have HO_3:=n0_;have HO_4:=n1_;have HR441:=n2_;have HB:=n3_;clear n0_ n1_ n2_ n3_;(try clear hb)))
         go_ret
         exact ⟨by first | rfl | (simp [errW_none,errW_some] <;> rfl) | (simp [*,errW_none,errW_some] <;> rfl),by repeat (first | (with_reducible first | exact HB.out | apply below_alloc | apply pw_below_drewN | apply below_drew1) | exact HB.out)⟩
        ·rw [if_neg c39] at H
         exact absurd H (by simp)
def laws_FnWholeOk.Pure : Prop:=∀ (l0 : List Int),l0.length ≤ maxLen → l0.length * 1 ≤ 140737488351232 → (∀ x ∈ l0,(Lit.int .u8 x).wf = true) → ∃ k,laws_FnWholeOk.f k l0 = some true
theorem laws_FnWholeOk.walk (P : laws_FnWholeOk.Pure) (a0 : Option Addr) (len0 cap0 : Nat) (z0 : List Int) (w : World) (w0 : (a0 = none ∧ len0 = 0 ∧ cap0 = 0 ∧ z0 = []) ∨ ∃ x,a0 = some x ∧ len0 ≤ cap0 ∧ cap0 ≤ maxLen ∧ z0.length = cap0 ∧ (∀ i,i < z0.length → w.cell? (x.add i) = some (.int .u8 (z0.getD i 0))) ∧ ∀ n ∈ z0,(Lit.int .u8 n).wf = true) (y0 : len0 * 1 ≤ 140737488351232) :
  Calls Try.prog 3 #[.slice a0 len0 cap0] w fun e w'=>e = .returned (.bool true) ∧ Below w.heap.size w w':=by
 obtain ⟨l0,rfl,hr0,hm0,hw0,hc0⟩:=ReadsInt.ofRowC w0;obtain ⟨k,h⟩:=P l0 hm0 y0 hw0
 refine (laws_FnWholeOk.calls k _ _ l0 true w (Kd.C_of_reads (d:=(0 : Int)) (h1:=fun _=>rfl) hr0) hc0 h).mono ?_
 rintro e w' ⟨rfl,hd⟩
 exact ⟨rfl,hd⟩
end Go.Proofs.Ythgdapgophkklaa.P
