/- Parts of the proof of FnExactMeanOpen: plain Lean functions of Go functions, and that the calls come to what they say; no condition beyond those that each theorem names. -/
import Derived.Test.YtdjkmnkgaacmfaaZFnExactMeanOpen8
import Derived.RangeFuncNested
import Derived.RangeFuncBound
import Derived.RangeFuncCalls
import Derived.RangeFuncLeaves
import Derived.WalkKit
import Derived.OwnWalkIn
import Derived.TacticsInMore
import Derived.LoopNIn
import Derived.LoopIn
import Derived.RangeFuncBox
import Derived.Shelf.Abstract
namespace Go.Proofs.Ytdjkmnkgaacmfaa.P
open Go.RowKit Go.Proofs.YtdjkmnkgaacmfaaW.PrintWords Go.Proofs.YtdjkmnkgaacmfaaW.PrintLast Go.Proofs.YtdjkmnkgaacmfaaW.PrintMore
attribute [local go_sem] Oper.semAt_some
set_option linter.unusedVariables false
set_option linter.unusedSimpArgs false
structure Pl where
  k : Int
  a : Int
  b : Int
  n : Int
  s4 : Option Addr × Nat × Nat
  s5 : Option Addr × Nat × Nat
  rm : Int
def Pl.enc (x : Pl) : Array Value:=#[.agg #[.int .i64 x.k,.int .i64 x.a,.int .i64 x.b,.int .i64 x.n,.slice x.s4.1 x.s4.2.1 x.s4.2.2,.slice x.s5.1 x.s5.2.1 x.s5.2.2,.int .i64 x.rm]]
abbrev I5:=Int × Int × Int × Int × Int
def Pl.ints (x : Pl) : I5:=(x.k,x.a,x.b,x.n,x.rm)
def allL (T : S61 → Int → Option (List I5)) (rm : Int) : List S61 → Option (List I5)
  | []=>some []
  | x :: t=>(T x rm).bind fun a=>(allL T rm t).bind fun b=>some (a ++ b)
def innR (s : S61) (rm : Int) : Int:=if s.f0 = 8 then s.f1 else rm
def allT (L : List S61 → Int → Option (List I5)) (s : S61) (rm : Int) : Option (List I5) :=
  (L s.f4 (innR s rm)).bind fun a=>(L s.f5 (innR s rm)).bind fun b=>some ((s.f0,s.f1,s.f2,s.f3,rm) :: (a ++ b))
def allK : Nat → List S61 → Int → Option (List I5)
  | 0=>fun _ _=>none
  | k + 1=>fun l rm=>allL (allT (allK k)) rm l
structure Kq (n₀ B : Nat) (W W' : World) : Prop where
  below : Below n₀ W W'
  cells : ∀ (k : Nat) (cs : Array Value) (t : TypeId) (fr : Nat × Nat),B ≤ k → W.heap[k]? = some (.cells cs t fr) → W'.heap[k]? = some (.cells cs t fr)
theorem Kq.refl (n₀ B : Nat) (W : World) : Kq n₀ B W W:=⟨Below.refl _ _,fun _ _ _ _ _ h=>h⟩
theorem Kq.trans {n₀ B : Nat} {X Y Z : World} (h : Kq n₀ B X Y) (k : Kq n₀ B Y Z) : Kq n₀ B X Z:=⟨h.below.trans k.below,fun i cs t fr hi hc=>k.cells i cs t fr hi (h.cells i cs t fr hi hc)⟩
theorem Kq.alloc {n₀ B : Nat} {X Y : World} (h : Kq n₀ B X Y) (hn : n₀ ≤ Y.heap.size) (o : Obj) : Kq n₀ B X (Y.alloc o) :=
  ⟨h.below.alloc hn o,fun i cs t fr hi hc=>(Below.heap_alloc Y o i (Array.getElem?_eq_some_iff.1 (h.cells i cs t fr hi hc)).1).trans (h.cells i cs t fr hi hc)⟩
theorem Kq.drewN {n₀ B : Nat} {X Y : World} (h : Kq n₀ B X Y) (n : Nat) : Kq n₀ B X (Y.drewN n):=⟨pw_below_drewN h.below n,fun i cs t fr hi hc=>h.cells i cs t fr hi hc⟩
theorem Kq.drew {n₀ B : Nat} {X Y : World} (h : Kq n₀ B X Y) : Kq n₀ B X Y.drew:=⟨h.below.drew,fun i cs t fr hi hc=>h.cells i cs t fr hi hc⟩
theorem Kq.t {n₀ B : Nat} {X Y Z : World} (h : Kq n₀ B X Y) (k : Kq n₀ B Y Z) : Kq n₀ B X Z:=h.trans k
theorem Kq.b {n₀ B : Nat} {w : World} (hn : n₀ ≤ w.heap.size) (W : World) (l : Nat) (o o' : Obj) (hl : w.heap.size ≤ l) (h : W.heap[l]? = some o) (hc : o.isCells = false) (hw : o.isWalk = false) : Kq n₀ B W (W.putObj l o') :=
  ⟨belowK_b hn W l o o' hl h hc hw,fun k cs t fr _ hk=>by
    by_cases e : k = l
    · subst e
      rw [h] at hk
      cases hk
      cases hc
    · exact (World.putObj_heap_other e).trans hk⟩
theorem Kq.box {n₀ B : Nat} {W W' : World} (h : Kq n₀ B W W') {b : Nat} (hb : B ≤ b) {v : Value} {t : TypeId} (hv : W.heap[b]? = some (.cells #[v] t (0,0))) : W'.heap[b]? = some (.cells #[v] t (0,0)):=h.cells _ _ _ _ hb hv
structure WAt (w0 : World) (l By Bw : Nat) (W : World) : Prop where
  b : Below w0.heap.size w0 W
  y : W.heap[By]? = some (.cells #[.func (.yield l) #[] #[]] 79 (0,0))
  k : W.heap[Bw]? = some (.cells #[.func (.func 56) #[] #[.pointer (some ⟨By,0,none⟩),.pointer (some ⟨Bw,0,none⟩)]] 80 (0,0))
theorem WAt.step {w0 : World} {l By Bw B : Nat} {W W' : World} (h : WAt w0 l By Bw W) (hy : B ≤ By) (hk : B ≤ Bw) (q : Kq w0.heap.size B W W') : WAt w0 l By Bw W':=⟨h.b.trans q.below,q.box hy h.y,q.box hk h.k⟩
theorem WAt.cells {w0 : World} {l By Bw : Nat} {W : World} (h : WAt w0 l By Bw W) : W.cell? ⟨By,0,none⟩ = some (.func (.yield l) #[] #[]) ∧ W.cell? ⟨Bw,0,none⟩ = some (.func (.func 56) #[] #[.pointer (some ⟨By,0,none⟩),.pointer (some ⟨Bw,0,none⟩)]):=⟨cell_of h.y 0 rfl,cell_of h.k 0 rfl⟩
def WPost (xs : List I5) (n₀ B : Nat) (J Jx : List Pl → World → Prop) (pre : List Pl) (W : World) (e : Ending) (W' : World) : Prop :=
  (e = .returned (.bool true) ∧ ∃ ys : List Pl,ys.map Pl.ints = xs ∧ J (pre ++ ys) W' ∧ Kq n₀ B W W') ∨ (e = .returned (.bool false) ∧ ∃ ys : List Pl,ys.map Pl.ints <+: xs ∧ Jx (pre ++ ys) W')
def Rounds (G : I5 → Prop) (l N n₀ B : Nat) (J Jx : List Pl → World → Prop) : Prop :=
  ∀ (m : Nat) (pre : List Pl) (x : Pl) (W : World),J pre W → pre.length < N → G x.ints → YieldAt Fence.wide m Try.prog l x.enc W fun e W'=>(e = .returned (.bool true) ∧ J (pre ++ [x]) W' ∧ Kq n₀ B W W') ∨ (e = .returned (.bool false) ∧ Jx (pre ++ [x]) W')
def Grows (J : List Pl → World → Prop) : Prop:=∀ s W W',J s W → W.grownBy W' none → J s W'
def WSays (G : I5 → Prop) (w0 : World) (l By Bw B N : Nat) (J Jx : List Pl → World → Prop) (L : List S61 → Int → Option (List I5)) : Prop :=
  ∀ (n : Nat) (A : Option Addr) (c : Nat) (ls : List S61) (rm : Int) (pre : List Pl) (W : World) (xs : List I5),Kd.C k61 w0 A ls.length ls → WAt w0 l By Bw W → J pre W → L ls rm = some xs → (∀ z ∈ xs,G z) → pre.length + xs.length ≤ N →
    CallsIn Fence.wide n Try.prog 56 #[.slice A ls.length c,.int .i64 rm,.pointer (some ⟨By,0,none⟩),.pointer (some ⟨Bw,0,none⟩)] W (WPost xs w0.heap.size B J Jx pre W)
set_option maxRecDepth 100000 in
set_option maxHeartbeats 4000000 in
theorem walk_of (G : I5 → Prop) (w0 : World) (l By Bw B N : Nat) (J Jx : List Pl → World → Prop) (hB : w0.heap.size ≤ B) (hy : B ≤ By) (hw : B ≤ Bw) (hR : Rounds G l N w0.heap.size B J Jx) (hJ : Grows J)
    (L : List S61 → Int → Option (List I5)) (hL : WSays G w0 l By Bw B N J Jx L) : WSays G w0 l By Bw B N J Jx (fun ls rm=>allL (allT L) rm ls):=by
  intro n A c ls rm pre W xs hC hW h0 h hG hN
  have HG:=Aside0.mk hG
  clear hG
  have HL:=Aside0.mk hL
  have HR:=Aside0.mk hR
  have HC:=Aside0.mk hC
  have HW:=Aside0.mk hW
  have HJ:=Aside0.mk hJ
  have H:=Aside0.mk h
  have H0:=Aside0.mk h0
  have hl : ls.length ≤ 9223372036854775807:=hC.2.1
  have hdd : ∀ k : Nat,(Fence.wide.depth.isSome = true → 1 ≤ k):=fun k h=>by cases h
  clear hL hR hC hW hJ h h0
  refine callsIn_of_wp Try.func56 rfl trivial ?_ rfl
  simp only [Try.ntmps56,List.size_toArray,List.length_cons,List.length_nil,Nat.reduceAdd,Nat.reduceSub,Array.replicate_succ,Array.replicate_zero,List.push_toArray,List.append_toArray,List.nil_append,List.cons_append]
  gi_wp2
  gi_loopw [12] (fun p wr=>∃ (i : Nat) (ys : List Pl) (rest : List I5),p = .int .i64 i ∧ i ≤ ls.length ∧ Aside0 (xs = ys.map Pl.ints ++ rest) ∧ Aside0 (allL (allT L) rm (ls.drop i) = some rest) ∧ Aside0 (J (pre ++ ys) wr) ∧ Aside0 (Kq w0.heap.size B W wr)) (fun p _=>ls.length - (intOf p).toNat)
  case atStart=>exact ⟨0,[],xs,rfl,Nat.zero_le _,⟨rfl⟩,H,⟨by simpa using H0.out⟩,⟨Kq.refl _ _ _⟩⟩
  case round =>
    obtain ⟨i,ys,rest,rfl,hi,HX,HA,HJS,HK⟩:=hrel
    clear H H0
    by_cases hlt : i < ls.length
    · have hltz : decide ((i : Int) < (ls.length : Int)) = true:=decide_eq_true (by omega)
      have p1 : 0 ≤ (i : Int):=by omega
      have q1 : (i : Int) < (ls.length : Int):=by omega
      have HW2:=Aside0.mk (HW.out.step hy hw HK.out)
      obtain ⟨ad,A4,c4,A5,c5,e1,f0,f1,f2,f3,f4,f5,hc4,H4,hc5,H5⟩:=at_T61 HC.out (i : Int) p1 q1
      cases e1
      rw [Int.toNat_natCast] at f0 f1 f2 f3 f4 f5
      have tr : ∀ {p : Addr} {v : Value},w0.cell? p = some v → wr.cell? p = some v:=fun h=>(HW2.out.b.cell (World.block_lt_of_cell? w0 _ h)).trans h
      have g0:=tr f0
      have g1:=tr f1
      have g2:=tr f2
      have g3:=tr f3
      have g4:=tr f4
      have g5:=tr f5
      clear f0 f1 f2 f3 f4 f5 tr
      have ex : ls.drop i = rd_T61 ls (i : Int) :: ls.drop (i + 1):=by
        rw [List.drop_eq_getElem_cons hlt]
        unfold rd_T61
        rw [Int.toNat_natCast,List.getD_eq_getElem?_getD,List.getElem?_eq_getElem hlt]
        rfl
      have ha:=HA.out
      rw [ex] at ha
      clear HA ex
      generalize rd_T61 ls (i : Int) = x at *
      obtain ⟨a,ha1,ha⟩:=Option.bind_eq_some_iff.1 ha
      obtain ⟨b,hb1,hb2⟩:=Option.bind_eq_some_iff.1 ha
      obtain rfl : a ++ b = rest:=Option.some.inj hb2
      obtain ⟨a4,h4,ha1⟩:=Option.bind_eq_some_iff.1 ha1
      obtain ⟨a5,h5,ha1⟩:=Option.bind_eq_some_iff.1 ha1
      obtain rfl:=Option.some.inj ha1
      clear ha hb2 ha1
      have hxl : xs.length = ys.length + (1 + a4.length + a5.length + b.length):=by rw [HX.out];simp;omega
      obtain ⟨cy,ck⟩:=HW2.out.cells
      have ly:=World.block_lt_of_cell? wr _ cy
      have lk:=World.block_lt_of_cell? wr _ ck
      have my : ∀ o,(wr.alloc o).cell? ⟨By,0,none⟩ = some (.func (.yield l) #[] #[]):=fun o=>((below_alloc (Below.refl _ wr) o).cell ly).trans cy
      clear cy ck
      obtain ⟨pl,hpl⟩ : ∃ pl : Pl,pl = ⟨x.f0,x.f1,x.f2,x.f3,(A4,x.f4.length,c4),(A5,x.f5.length,c5),rm⟩:=⟨_,rfl⟩
      have hint : pl.ints = (x.f0,x.f1,x.f2,x.f3,rm):=by rw [hpl];rfl
      obtain ⟨fn,tmps,assign,body,hyy,hRd⟩:=HR.out (n - 1) (pre ++ ys) pl (wr.alloc (.cells #[.int .i64 x.f0,.int .i64 x.f1,.int .i64 x.f2,.int .i64 x.f3,.slice A4 x.f4.length c4,.slice A5 x.f5.length c5] 61)) (HJ.out _ _ _ HJS.out (World.grownBy_alloc wr _ none)) (by simp;omega) (by rw [hint];exact HG.out _ (by rw [HX.out];simp))
      rw [hpl] at hyy
      dsimp only [Pl.enc] at hyy
      have HH:=Aside0.mk (And.intro (And.intro h4 h5) hb1)
      have HRd:=Aside0.mk hRd
      have HI:=Aside0.mk hint
      clear hRd h4 h5 hb1 hint hpl
      gi_wp2
      (try refine ⟨hdd _,?_⟩)
      refine HRd.out.mono ?_
      clear HRd hyy my g0 g1 g2 g3 g4 g5
      rintro e W3 (⟨rfl,hJ3,hk3⟩ | ⟨rfl,hJx3⟩)
      · have hBw : B ≤ wr.heap.size:=Nat.le_of_lt (Nat.lt_of_le_of_lt hy ly)
        have hs3:=hk3.cells _ _ _ _ hBw (World.alloc_heap_new wr (.cells #[.int .i64 x.f0,.int .i64 x.f1,.int .i64 x.f2,.int .i64 x.f3,.slice A4 x.f4.length c4,.slice A5 x.f5.length c5] 61))
        have hk3' : Kq w0.heap.size B W W3:=(HK.out.alloc (by omega) _).trans hk3
        have HW3:=Aside0.mk (HW.out.step hy hw hk3')
        have HK3:=Aside0.mk hk3'
        have HJ3:=Aside0.mk hJ3
        obtain ⟨cy,ck⟩:=HW3.out.cells
        have e0:=cell_of hs3 0 rfl
        have e1:=cell_of hs3 1 rfl
        have e4:=cell_of hs3 4 rfl
        have e5:=cell_of hs3 5 rfl
        have HS3:=Aside0.mk hs3
        clear hs3 hk3 hk3' hJ3 HJS HK HW2
        obtain ⟨⟨h4,h5⟩,hb1⟩:=HH.out
        clear HH
        have HB1:=Aside0.mk hb1
        clear hb1
        have h8 : ((x.f0 == 8) = true ∧ innR x rm = x.f1) ∨ ((x.f0 == 8) = false ∧ innR x rm = rm):=by
          by_cases q : x.f0 = 8
          · exact .inl ⟨by simpa using q,if_pos q⟩
          · exact .inr ⟨by simpa using q,if_neg q⟩
        rcases h8 with ⟨h8,hin⟩ | ⟨h8,hin⟩
        all_goals (
          rw [hin] at h4 h5
          clear hin
          have ih1:=(HL.out (n - 1) A4 c4 x.f4 _ (pre ++ ys ++ [pl]) W3 a4 H4 HW3.out HJ3.out h4 (fun z hz=>HG.out z (by rw [HX.out];simp [hz])) (by simp;omega)).mono (R':=fun e W1 =>
            (e = .returned (.bool true) ∧ W1.cell? ⟨wr.heap.size,5,none⟩ = some (.slice A5 x.f5.length c5) ∧ W1.cell? ⟨Bw,0,none⟩ = some (.func (.func 56) #[] #[.pointer (some ⟨By,0,none⟩),.pointer (some ⟨Bw,0,none⟩)]) ∧ ∃ zs : List Pl,Aside0 (zs.map Pl.ints = a4 ∧ J (pre ++ ys ++ [pl] ++ zs) W1 ∧ Kq w0.heap.size B W W1)) ∨
            (e = .returned (.bool false) ∧ ∃ zs : List Pl,zs.map Pl.ints <+: a4 ∧ Jx (pre ++ ys ++ [pl] ++ zs) W1))
            (fun e W1 h=>h.elim (fun ⟨he,zs,hz,hj,hk⟩=>.inl ⟨he,cell_of (hk.cells _ _ _ _ hBw HS3.out) 5 rfl,(HW3.out.step hy hw hk).cells.2,zs,⟨hz,hj,HK3.out.trans hk⟩⟩) .inr)
          have ih2:=fun W1 zs (hj : J (pre ++ ys ++ [pl] ++ zs) W1) (hz : zs.map Pl.ints = a4) (hk : Kq w0.heap.size B W W1)=>HL.out (n - 1) A5 c5 x.f5 _ (pre ++ ys ++ [pl] ++ zs) W1 a5 H5 (HW.out.step hy hw hk) hj h5 (fun z hz=>HG.out z (by rw [HX.out];simp [hz])) (by have:=congrArg List.length hz;simp at this;simp;omega)
          clear h4 h5
          gi_wp2
          refine ⟨trivial,hdd _,?_⟩
          refine ih1.mono ?_
          clear ih1
          rintro e W1 (⟨rfl,c5',ck',zs,HZ⟩ | ⟨rfl,zs,hzs,hx4⟩)
          · gi_wp2
            refine ⟨trivial,hdd _,?_⟩
            refine (ih2 _ zs HZ.out.2.1 HZ.out.1 HZ.out.2.2).mono ?_
            clear ih2
            rintro e W2 (⟨rfl,us,hus,hJ5,hk5⟩ | ⟨rfl,us,hus,hx5⟩)
            · gi_wp2
              go_roundw
              case rel=>exact ⟨i + 1,ys ++ [pl] ++ zs ++ us,b,by go_num,by omega,⟨by rw [HX.out];simp [HI.out,HZ.out.1,hus]⟩,HB1,⟨by simpa [List.append_assoc] using hJ5⟩,⟨HZ.out.2.2.trans hk5⟩⟩
              case measure=>simp [intOf];omega
            · gi_wp2
              go_ret
              refine .inr ⟨rfl,ys ++ [pl] ++ zs ++ us,?_,by simpa [List.append_assoc] using hx5⟩
              rw [HX.out]
              obtain ⟨q,hq⟩:=hus
              exact ⟨q ++ b,by simp [HI.out,HZ.out.1,← hq]⟩
          · gi_wp2
            refine ⟨fun _ h=>(by cases h),?_⟩
            gi_wp2
            go_ret
            refine .inr ⟨rfl,ys ++ [pl] ++ zs,?_,by simpa [List.append_assoc] using hx4⟩
            rw [HX.out]
            obtain ⟨q,hq⟩:=hzs
            exact ⟨q ++ a5 ++ b,by simp [HI.out,← hq]⟩)
      · gi_wp2
        go_ret
        refine .inr ⟨rfl,ys ++ [pl],?_,by simpa [List.append_assoc] using hJx3⟩
        rw [HX.out]
        exact ⟨a4 ++ a5 ++ b,by simp [HI.out]⟩
    · have hltz : decide ((i : Int) < (ls.length : Int)) = false:=decide_eq_false (by omega)
      have ha:=HA.out
      rw [List.drop_of_length_le (by omega)] at ha
      obtain rfl:=Option.some.inj (show some [] = some rest from ha)
      clear ha HA
      gi_wp2
      go_ret
      exact .inl ⟨rfl,ys,by rw [HX.out,List.append_nil],HJS.out,HK.out⟩
end Go.Proofs.Ytdjkmnkgaacmfaa.P
namespace Go.Proofs.Ytdjkmnkgaacmfaa.P
open Go.RowKit Go.Proofs.YtdjkmnkgaacmfaaW.PrintWords Go.Proofs.YtdjkmnkgaacmfaaW.PrintLast Go.Proofs.YtdjkmnkgaacmfaaW.PrintMore
attribute [local go_sem] Oper.semAt_some
set_option linter.unusedVariables false
set_option linter.unusedSimpArgs false
theorem run_store_fn (P : Program) (w : World) (a : Addr) (m : Mode) (fn : Fn) (first cap : Array Value) : (store a (.func fn first cap) m).run P w = stored P w a (.func fn first cap) m:=run_store P w a _ m rfl
attribute [local go_sem] run_store_fn
theorem walk_says (G : I5 → Prop) (w0 : World) (l By Bw B N : Nat) (J Jx : List Pl → World → Prop) (hB : w0.heap.size ≤ B) (hy : B ≤ By) (hw : B ≤ Bw) (hR : Rounds G l N w0.heap.size B J Jx) (hJ : Grows J) : ∀ k,WSays G w0 l By Bw B N J Jx (allK k)
  | 0=>fun _ _ _ _ _ _ _ _ _ _ _ h _ _=>by cases h
  | k + 1=>walk_of G w0 l By Bw B N J Jx hB hy hw hR hJ (allK k) (walk_says G w0 l By Bw B N J Jx hB hy hw hR hJ k)
theorem yield_any {m m' : Nat} {P : Program} {l : Nat} {args : Array Value} {W : World} {R : Ending → World → Prop} (h : YieldAt Fence.wide m P l args W R) : YieldAt Fence.wide m' P l args W R:=by
  obtain ⟨fn,tmps,assign,body,hy,hR⟩:=h
  exact ⟨fn,tmps,assign,body,hy,hR.1,fun c cs _=>hR.2 c cs (fun d h=>by cases h)⟩
set_option maxHeartbeats 2000000 in
theorem all1_in (G : I5 → Prop) (w0 : World) (n l Bl Br N B : Nat) (J Jx : List Pl → World → Prop) (hB : w0.heap.size ≤ B) (hR : Rounds G l N w0.heap.size B J Jx) (hJ : Grows J) (A : Option Addr) (c : Nat) (ls : List S61) (rm : Int) (xs : List I5) (k : Nat)
    (hC : Kd.C k61 w0 A ls.length ls) (W : World) (hW : Below w0.heap.size w0 W) (hBW : B ≤ W.heap.size) (hl : W.cell? ⟨Bl,0,none⟩ = some (.slice A ls.length c)) (hr : W.cell? ⟨Br,0,none⟩ = some (.int .i64 rm)) (h0 : J [] W) (h : allK k ls rm = some xs) (hG : ∀ z ∈ xs,G z) (hN : xs.length ≤ N) :
    CallsIn Fence.wide n Try.prog 55 #[.func (.yield l) #[] #[],.pointer (some ⟨Bl,0,none⟩),.pointer (some ⟨Br,0,none⟩)] W fun e W'=>(∃ v,e = .returned v) ∧ ((∃ ys : List Pl,ys.map Pl.ints = xs ∧ J ys W') ∨ (∃ pre : List Pl,pre.map Pl.ints <+: xs ∧ Jx pre W')):=by
  have hdd : ∀ k : Nat,(Fence.wide.depth.isSome = true → 1 ≤ k):=fun k h=>by cases h
  have l1:=World.block_lt_of_cell? W _ hl
  have l2:=World.block_lt_of_cell? W _ hr
  obtain ⟨W2,hW2⟩ : ∃ W2,W2 = (W.alloc (.cells #[.func (.yield l) #[] #[]] 79)).alloc (.cells #[.func (.func 56) #[] #[.pointer (some ⟨W.heap.size,0,none⟩),.pointer (some ⟨W.heap.size + 1,0,none⟩)]] 80):=⟨_,rfl⟩
  have hq : Kq w0.heap.size B W W2:=by rw [hW2];exact ((Kq.refl _ _ W).alloc (Nat.le_trans hB hBW) _).alloc (by rw [size_alloc];omega) _
  have hy2 : W2.heap[W.heap.size]? = some (.cells #[.func (.yield l) #[] #[]] 79 (0,0)):=by rw [hW2];exact blk_alloc (blk_new W _) _
  have hw2 : W2.heap[W.heap.size + 1]? = some (.cells #[.func (.func 56) #[] #[.pointer (some ⟨W.heap.size,0,none⟩),.pointer (some ⟨W.heap.size + 1,0,none⟩)]] 80 (0,0)):=by
    rw [hW2,← size_alloc W (.cells #[.func (.yield l) #[] #[]] 79)]
    exact blk_new _ _
  have hj2 : J [] W2:=by rw [hW2];exact hJ _ _ _ (hJ _ _ _ h0 (World.grownBy_alloc _ _ none)) (World.grownBy_alloc _ _ none)
  have hp:=walk_says G w0 l W.heap.size (W.heap.size + 1) B N J Jx hB hBW (by omega) hR hJ k (n - 1) A c ls rm [] W2 xs hC ⟨hW.trans hq.below,hy2,hw2⟩ hj2 h hG (by simpa using hN)
  have m1 : ∀ v t v' t',((W.alloc (.cells v t)).alloc (.cells v' t')).cell? ⟨Bl,0,none⟩ = some (.slice A ls.length c):=fun v t v' t'=>((below_alloc (below_alloc (Below.refl _ W) _) _).cell l1).trans hl
  have m2 : ∀ v t v' t',((W.alloc (.cells v t)).alloc (.cells v' t')).cell? ⟨Br,0,none⟩ = some (.int .i64 rm):=fun v t v' t'=>((below_alloc (below_alloc (Below.refl _ W) _) _).cell l2).trans hr
  have hmf : ∀ (fn : Fn) (first cap : Array Value) (w : World),(Instr.makeFunc fn first cap).run Try.prog w = .ok (.func fn first cap) w:=by
    intros
    rfl
  rw [hW2] at hp
  have HP:=Aside0.mk hp
  clear hp hj2 hw2 hy2 hq hW2 hR hJ hC h0 h hl hr
  refine callsIn_of_wp Try.func55 rfl trivial ?_ rfl
  simp only [Try.ntmps55,List.size_toArray,List.length_cons,List.length_nil,Nat.reduceAdd,Nat.reduceSub,Array.replicate_succ,Array.replicate_zero,List.push_toArray,List.append_toArray,List.nil_append,List.cons_append]
  gi_wp2
  refine ⟨trivial,hdd _,?_⟩
  refine HP.out.mono ?_
  rintro e W3 (⟨rfl,ys,hys,hj,_⟩ | ⟨rfl,ys,hys,hx⟩)
  · gi_wp2
    go_end0
    exact ⟨⟨_,rfl⟩,.inl ⟨ys,hys,by simpa using hj⟩⟩
  · gi_wp2
    go_end0
    exact ⟨⟨_,rfl⟩,.inr ⟨ys,hys,by simpa using hx⟩⟩
theorem all_stops (w0 : World) (n Bl Br : Nat) (A : Option Addr) (c : Nat) (ls : List S61) (rm : Int) (xs : List I5) (k : Nat) (hC : Kd.C k61 w0 A ls.length ls) (w : World) (hw : Below w0.heap.size w0 w)
    (hl : w.cell? ⟨Bl,0,none⟩ = some (.slice A ls.length c)) (hr : w.cell? ⟨Br,0,none⟩ = some (.int .i64 rm)) (h : allK k ls rm = some xs) :
    SeqStopsK Fence.wide n Try.prog 55 #[.pointer (some ⟨Bl,0,none⟩),.pointer (some ⟨Br,0,none⟩)] Pl.enc (Kq w0.heap.size w.heap.size) (fun ys=>ys.map Pl.ints = xs) (fun pre=>pre.map Pl.ints <+: xs) xs.length w:=fun l J Jx W hW hJ _ hY h0 =>
  all1_in (fun _=>True) w0 n l Bl Br xs.length w.heap.size J Jx hw.size (fun m pre x W1 hj hlen _=>yield_any (hY pre x W1 hj hlen)) (fun s X Y hs hg=>hJ s X Y none hs hg (fun r e=>by cases e)) A c ls rm xs k hC W (hw.trans (hW.mono hw.size)) hW.size
    ((hW.cell (World.block_lt_of_cell? w _ hl)).trans hl) ((hW.cell (World.block_lt_of_cell? w _ hr)).trans hr) h0 h (fun _ _=>trivial) (Nat.le_refl _)
theorem Kq.setCell {n₀ B : Nat} (W : World) {b : Nat} (v : Value) (h1 : n₀ ≤ b) (h2 : b < B) : Kq n₀ B W (W.setCell ⟨b,0,none⟩ v) :=
  ⟨(Below.refl n₀ W).setCell (p:=⟨b,0,none⟩) h1 v,fun k cs t fr hk h=>(Below.heap_setCell W ⟨b,0,none⟩ v k (by show k ≠ b;omega)).trans h⟩
theorem boxed_own (B : Nat) (t : TypeId) (f : List Pl → Value) : Own (fun s W=>Boxed W B t (f s)):=by
  intro s X Y row hs hg hr
  refine hs.kept hg fun e=>?_
  obtain ⟨o,ho,hc⟩:=hr B e.symm
  rw [show X.heap[B]? = _ from hs] at ho
  cases ho
  cases hc
theorem wrap_len (pre : List Pl) (x : Pl) : wrap64 (wrap64 (pre.length : Int) + 1) = wrap64 (((pre ++ [x]).length : Nat) : Int):=by
  rw [List.length_append,List.length_singleton]
  unfold wrap64
  push_cast
  omega
theorem all_calls (A : Option Addr) (n c : Nat) (rm : Int) (w : World) : Calls Try.prog 49 #[.slice A n c,.int .i64 rm] w fun e w'=>e = .returned (.func (.func 55) #[] #[.pointer (some ⟨w.heap.size,0,none⟩),.pointer (some ⟨w.heap.size + 1,0,none⟩)]) ∧ w' = (w.alloc (.cells #[.slice A n c] 41)).alloc (.cells #[.int .i64 rm] 3):=by
  have hmf : ∀ (fn : Fn) (first cap : Array Value) (w : World),(Instr.makeFunc fn first cap).run Try.prog w = .ok (.func fn first cap) w:=by
    intros
    rfl
  go_enter Try.func49,Try.ntmps49
  go_wp2
  go_ret
  exact ⟨by first | rfl | simp,by first | rfl | simp⟩
set_option maxRecDepth 100000 in
set_option maxHeartbeats 2000000 in
theorem stmtsOk_walk (A : Option Addr) (c : Nat) (ls : List S61) (b : Bool) (xs : List I5) (k : Nat) (w : World) (hC : Kd.C k61 w A ls.length ls) (hc : ls.length ≤ c) (hb : impl_listOk.f k ls 3 (-1) = some b) (hx : b = true → allK k ls (-1) = some xs) :
    Calls Try.prog 40 #[.slice A ls.length c] w fun e w'=>e = .returned (.bool (b && decide (wrap64 (xs.length : Int) ≤ 14))) ∧ Below w.heap.size w w':=by
  have hdd : ∀ k : Nat,(Fence.wide.depth.isSome = true → 1 ≤ k):=fun k h=>by cases h
  have HC:=Aside0.mk hC
  have HB:=Aside0.mk hb
  have HX:=Aside0.mk hx
  clear hC hb hx
  refine (callsIn_wide (n:=9)).1 ?_
  refine callsIn_of_wp_marks Try.func40 rfl trivial ?_ rfl
  simp only [Try.ntmps40,List.size_toArray,List.length_cons,List.length_nil,Nat.reduceAdd,Nat.reduceSub,Array.replicate_succ,Array.replicate_zero,List.push_toArray,List.append_toArray,List.nil_append,List.cons_append]
  gi_wp2
  refine ⟨trivial,?_⟩
  refine (callsIn_wide.2 (impl_listOk.calls k A c ls 3 (-1) b w HC.out hc HB.out)).mono ?_
  rintro e W1 ⟨rfl,hb1⟩
  cases b with
  | false =>
    gi_wp2
    exact ⟨_,results_tmp rfl _ _ _,rfl,hb1⟩
  | true =>
    have HB1:=Aside0.mk hb1
    clear hb1
    gi_wp2
    refine ⟨trivial,?_⟩
    refine (callsIn_wide.2 (all_calls A ls.length c (-1) _)).mono ?_
    rintro e W3 ⟨rfl,rfl⟩
    obtain ⟨W2,hW2⟩ : ∃ W2,W1.alloc (.cells #[.int .i64 0] 3) = W2:=⟨_,rfl⟩
    rw [hW2]
    have hx:=HX.out trivial
    clear HX
    have z1 : W2.heap.size = W1.heap.size + 1:=by rw [← hW2,size_alloc]
    have hm0 : W2.heap[W1.heap.size]? = some (.cells #[.int .i64 0] 3 (0,0)):=by rw [← hW2];exact blk_new W1 _
    have hB2 : Below w.heap.size w W2:=by rw [← hW2];exact below_alloc HB1.out _
    obtain ⟨W3,hW3⟩ : ∃ W3,(W2.alloc (.cells #[.slice A ls.length c] 41)).alloc (.cells #[.int .i64 (-1)] 3) = W3:=⟨_,rfl⟩
    have hB3 : Below w.heap.size w W3:=by rw [← hW3];exact below_alloc (below_alloc hB2 _) _
    have z3 : W3.heap.size = W1.heap.size + 3:=by rw [← hW3,size_alloc,size_alloc,z1]
    have c1 : W3.cell? ⟨W2.heap.size,0,none⟩ = some (.slice A ls.length c):=cell_of (by rw [← hW3];exact blk_alloc (blk_new W2 _) _) 0 rfl
    have c2 : W3.cell? ⟨W2.heap.size + 1,0,none⟩ = some (.int .i64 (-1)):=cell_of (by rw [← hW3,← size_alloc W2 (.cells #[.slice A ls.length c] 41)];exact blk_new _ _) 0 rfl
    have hm3 : W3.heap[W1.heap.size]? = some (.cells #[.int .i64 0] 3 (0,0)):=by rw [← hW3];exact blk_alloc (blk_alloc hm0 _) _
    rw [z1] at c1 c2
    have hs:=all_stops w 8 (W1.heap.size + 1) (W1.heap.size + 1 + 1) A c ls (-1) xs k HC.out W3 hB3 c1 c2 hx
    have hle:=HB1.out.size
    rw [hW3]
    have HS:=Aside0.mk (And.intro hs (And.intro hx (And.intro hW2 hW3)))
    clear hs hx hW2 hW3
    gi_wp2
    refine wpIn_rangeFunc_ownF rfl (by omega) (gf:=55) (lb:=#[.pointer (some ⟨W1.heap.size + 1,0,none⟩),.pointer (some ⟨W1.heap.size + 1 + 1,0,none⟩)]) rfl trivial (Go.Proofs.enters_of Try.func55 (by kernel_rfl) rfl)
      HS.out.1 (fun h k=>Kq.t h k) (Kq.b (by omega)) (Below.refl _ _) (fun _=>rfl)
      (fun pre W=>Boxed W W1.heap.size 3 (.int .i64 (wrap64 (pre.length : Int))) ∧ Below w.heap.size w W)
      (fun _ _ _=>False)
      (OwnFrom.and (Own.from (boxed_own W1.heap.size 3 (fun pre=>.int .i64 (wrap64 (pre.length : Int)))) _) (ownFrom_below (Nat.le_refl _) (by omega)))
      (fun _ _ _ _ _ hs _ _=>hs)
      ⟨by rw [show wrap64 (([] : List Pl).length : Int) = 0 from by simp [wrap64]];exact hm3,hB3⟩
      (fun x=>{ tmps:=#[.slice A ls.length c,undef,.bool false,.pointer (some ⟨W1.heap.size,0,none⟩),.slice A ls.length c,.bool true,.bool false,.slice A ls.length c,.func (.func 55) #[] #[.pointer (some ⟨W1.heap.size + 1,0,none⟩),.pointer (some ⟨W1.heap.size + 1 + 1,0,none⟩)],(.agg #[.int .i64 x.k,.int .i64 x.a,.int .i64 x.b,.int .i64 x.n,.slice x.s4.1 x.s4.2.1 x.s4.2.2,.slice x.s5.1 x.s5.2.1 x.s5.2.2,.int .i64 x.rm]),undef,undef,undef,undef],defers:=[] }) ?assign ?body ?done ?stop
    case assign =>
      intro l x W K hK
      gi_wp2
      unfold Pl.enc
      simpa using hK
    case body =>
      rintro l pre x W ⟨hc,hb⟩ _
      have hcc:=hc.cell
      have hff:=hc.frozen
      gi_wp2
      refine ⟨KeepsOthers.setCell _ _ _,Kq.setCell _ _ (by omega) (by omega),?_,hb.setCell (p:=⟨W1.heap.size,0,none⟩) (by show w.heap.size ≤ W1.heap.size;omega) _⟩
      rw [← wrap_len]
      exact hc.set _
    case done =>
      rintro D ys W hD hS ⟨hc,hb⟩ hK
      have hcc:=hc.cell
      gi_wp2
      refine ⟨by simp,.inl ⟨_,_,rfl,run_takeDeferred hK,?_⟩⟩
      refine ⟨_,results_tmp rfl _ _ _,?_,hb.trans (belowK_b (w:=w) (Nat.le_refl _) W D _ _ (by omega) hK rfl rfl)⟩
      rw [show xs.length = ys.length by rw [← hS,List.length_map]]
      simp
    case stop =>
      rintro D c pre W _ _ h _
      exact h.elim
def impl_StmtsOk.f (k : Nat) (l0 : List S61) : Option Bool:=(impl_listOk.f k l0 3 (-1)).bind fun b=>if b = true then (allK k l0 (-1)).bind fun xs=>some (decide (wrap64 (xs.length : Int) ≤ 14)) else some false
theorem impl_StmtsOk.calls (k : Nat) (A0 : Option Addr) (c0 : Nat) (l0 : List S61) (r : Bool) (w : World) (hr0 : Kd.C k61 w A0 l0.length l0) (hc0 : l0.length ≤ c0) (h : impl_StmtsOk.f k l0 = some r) :
    Calls Try.prog 40 #[.slice A0 l0.length c0] w fun e w'=>e = .returned (.bool r) ∧ Below w.heap.size w w':=by
  obtain ⟨b,hb,h⟩:=Option.bind_eq_some_iff.1 h
  cases b with
  | false =>
    obtain rfl:=Option.some.inj (show some false = some r by simpa using h)
    have q:=stmtsOk_walk A0 c0 l0 false [] k w hr0 hc0 hb (fun h=>by cases h)
    rw [Bool.false_and] at q
    exact q
  | true =>
    obtain ⟨xs,hx,h⟩:=Option.bind_eq_some_iff.1 (show ((allK k l0 (-1)).bind fun xs=>some (decide (wrap64 (xs.length : Int) ≤ 14))) = some r by simpa using h)
    have q:=stmtsOk_walk A0 c0 l0 true xs k w hr0 hc0 hb (fun _=>hx)
    rw [Bool.true_and,Option.some.inj h] at q
    exact q
end Go.Proofs.Ytdjkmnkgaacmfaa.P

namespace Go.Proofs.Ytdjkmnkgaacmfaa.P
open Go.RowKit Go.Maps Go.Proofs.YtdjkmnkgaacmfaaW.PrintWords Go.Proofs.YtdjkmnkgaacmfaaW.PrintLast Go.Proofs.YtdjkmnkgaacmfaaW.PrintMore
attribute [local go_sem] max2_int min2_int max_two min_two max_three min_three max_four min_four
set_option linter.unusedVariables false
set_option linter.unusedSimpArgs false
def listG {α : Type} (T : α → Option Bool) : List α → Option Bool
  | []=>some true
  | x :: t=>(T x).bind fun b=>if b = true then listG T t else some false
theorem progOk1_calls (k : Nat) (A : Option Addr) (c : Nat) (l : List S61) (r : Bool) (w : World) (hr : Kd.C k61 w A l.length l) (hc : l.length ≤ c) (h : impl_StmtsOk.f k l = some r) :
    Calls Try.prog 39 #[.slice A l.length c] w fun e w'=>e = .returned (.bool (!r)) ∧ Below w.heap.size w w':=by
  have HI:=Aside0.mk (impl_StmtsOk.calls k A c l r w hr hc h)
  clear hr h
  go_enter Try.func39,Try.ntmps39
  go_wp2_with (go_at_call 40;refine HI.out.mono ?_;rintro e w' ⟨rfl,hb⟩;have HB:=Aside0.mk hb;clear hb)
  go_ret
  exact ⟨by first | rfl | (simp;done),(by repeat (first | exact HB.out | (with_reducible apply pw_below_drewN) | (with_reducible apply below_drew1) | (with_reducible apply below_alloc) | exact Below.refl _ _))⟩
set_option maxHeartbeats 4000000 in
theorem pgIdx_calls (k : Nat) (A : Option Addr) (c : Nat) (l : List (List S61)) (r : Bool) (w : World) (hr : Kd.C (Kd.slice 61 k61) w A l.length l) (h : listG (impl_StmtsOk.f k) l = some r) :
    Calls Try.prog 47 #[.slice A l.length c,.func (.func 39) #[] #[]] w fun e w'=>(∃ i : Int,e = .returned (.int .i64 i) ∧ decide (0 ≤ i) = !r) ∧ Below w.heap.size w w':=by
  have HR:=Aside0.mk hr
  have H:=Aside0.mk h
  have hl : l.length ≤ 9223372036854775807:=hr.2.1
  clear hr h
  go_enter Try.func47,Try.ntmps47
  go_wp2
  go_loopg [5,8] l.length (fun gg _ s8 wr=>∃ kk : Nat,kk ≤ l.length ∧ l.length - kk ≤ gg ∧ s8 = .int .i64 kk ∧ Aside0 (listG (impl_StmtsOk.f k) (l.drop kk) = some r) ∧ Aside0 (Below w.heap.size w wr))
  case atStart=>exact ⟨0,Nat.zero_le _,by omega,rfl,H,⟨Below.refl _ w⟩⟩
  case round =>
    obtain ⟨kk,hkk,hg,rfl,HA,HB⟩:=hrel
    clear H
    by_cases hlt : kk < l.length
    · have hltz : decide ((kk : Int) < (l.length : Int)) = true:=decide_eq_true (by omega)
      have p1 : 0 ≤ (kk : Int):=by omega
      have q1 : (kk : Int) < (l.length : Int):=by omega
      obtain ⟨ad,cs,e1,_,hK,hc0⟩:=Kd.C_get (Kd.C_below HR.out HB.out) ([] : List S61) (kk : Int) p1 q1
      obtain ⟨A0,c0,rfl,hc0',H0⟩:=hK
      have hq : wr.cell? (ad.add ((kk : Int).toNat * 1 + 0)) = some (.slice A0 (l.getD (kk : Int).toNat []).length c0):=hc0 0 _ rfl
      rw [Nat.mul_one,Nat.add_zero,Int.toNat_natCast] at hq
      rw [Int.toNat_natCast] at hc0' H0
      clear hc0
      cases e1
      have ex : l.drop kk = l.getD kk [] :: l.drop (kk + 1):=by
        rw [List.drop_eq_getElem_cons hlt,List.getD_eq_getElem?_getD,List.getElem?_eq_getElem hlt]
        rfl
      have ha:=HA.out
      rw [ex] at ha
      clear HA ex
      obtain ⟨b,hb1,hb2⟩:=Option.bind_eq_some_iff.1 ha
      clear ha
      generalize l.getD kk [] = x at *
      have HC:=Aside0.mk (fun W h0=>progOk1_calls k A0 c0 x b W h0 hc0' hb1)
      have HH:=Aside0.mk H0
      clear hb1 H0
      replace p1:=eq_true p1
      replace q1:=eq_true q1
      cases b with
      | false =>
        obtain rfl:=Option.some.inj (show some false = some r by simpa using hb2)
        clear hb2
        go_wp2_with (go_at_call 39;refine (HC.out _ HH.out).mono ?_;rintro e w' ⟨rfl,hb'⟩;have n2:=Aside0.mk (below_step HB.out hb');clear HB HC hb' hq;have HB:=n2;clear n2)
        go_ret
        exact ⟨⟨(kk : Int),rfl,by rw [decide_eq_true (by omega : (0 : Int) ≤ kk)];rfl⟩,(by repeat (first | exact HB.out | (with_reducible apply pw_below_drewN) | (with_reducible apply below_drew1) | (with_reducible apply below_alloc) | exact Below.refl _ _))⟩
      | true =>
        have HN:=Aside0.mk (show listG (impl_StmtsOk.f k) (l.drop (kk + 1)) = some r by simpa using hb2)
        clear hb2
        go_wp2_with (go_at_call 39;refine (HC.out _ HH.out).mono ?_;rintro e w' ⟨rfl,hb'⟩;have n2:=Aside0.mk (below_step HB.out hb');clear HB HC hb' hq;have HB:=n2;clear n2)
        go_roundg (l.length - (kk + 1))
        case measure=>omega
        case rel=>exact ⟨kk + 1,by omega,by omega,by go_num,HN,⟨(by repeat (first | exact HB.out | (with_reducible apply pw_below_drewN) | (with_reducible apply below_drew1) | (with_reducible apply below_alloc) | exact Below.refl _ _))⟩⟩
    · have hltz : decide ((kk : Int) < (l.length : Int)) = false:=decide_eq_false (by omega)
      have ha:=HA.out
      rw [List.drop_of_length_le (by omega)] at ha
      obtain rfl:=Option.some.inj (show some true = some r from ha)
      clear ha HA
      go_wp2
      go_ret
      exact ⟨⟨-1,rfl,by rw [decide_eq_false (by omega)];rfl⟩,(by repeat (first | exact HB.out | (with_reducible apply pw_below_drewN) | (with_reducible apply below_drew1) | (with_reducible apply below_alloc) | exact Below.refl _ _))⟩
theorem pgAny_calls (k : Nat) (A : Option Addr) (c : Nat) (l : List (List S61)) (r : Bool) (w : World) (hr : Kd.C (Kd.slice 61 k61) w A l.length l) (h : listG (impl_StmtsOk.f k) l = some r) :
    Calls Try.prog 38 #[.slice A l.length c,.func (.func 39) #[] #[]] w fun e w'=>e = .returned (.bool (!r)) ∧ Below w.heap.size w w':=by
  have HI:=Aside0.mk (pgIdx_calls k A c l r w hr h)
  clear hr h
  go_enter Try.func38,Try.ntmps38
  go_wp2_with (go_at_call 47;refine HI.out.mono ?_;rintro e w' ⟨⟨i,rfl,hi⟩,hb⟩;have HB:=Aside0.mk hb;clear hb)
  go_ret
  exact ⟨by first | rfl | rw [hi],(by repeat (first | exact HB.out | (with_reducible apply pw_below_drewN) | (with_reducible apply below_drew1) | (with_reducible apply below_alloc) | exact Below.refl _ _))⟩
def impl_ProgOk.f (k : Nat) (l0 : List (List S61)) : Option Bool:=if 1 ≤ (l0.length : Int) then if (l0.length : Int) ≤ 3 then listG (impl_StmtsOk.f k) l0 else some false else some false
set_option maxHeartbeats 2000000 in
theorem impl_ProgOk.calls (k : Nat) (A0 : Option Addr) (c0 : Nat) (l0 : List (List S61)) (r : Bool) (w : World) (hr0 : Kd.C (Kd.slice 61 k61) w A0 l0.length l0) (hc0 : l0.length ≤ c0) (h : impl_ProgOk.f k l0 = some r) :
    Calls Try.prog 17 #[.slice A0 l0.length c0] w fun e w'=>e = .returned (.bool r) ∧ Below w.heap.size w w':=by
  have HR:=Aside0.mk hr0
  clear hr0
  unfold impl_ProgOk.f at h
  by_cases h1 : 1 ≤ (l0.length : Int)
  · have b1 : decide (1 ≤ (l0.length : Int)) = true:=decide_eq_true h1
    rw [if_pos h1] at h
    by_cases h2 : (l0.length : Int) ≤ 3
    · have b2 : decide ((l0.length : Int) ≤ 3) = true:=decide_eq_true h2
      rw [if_pos h2] at h
      have HI:=Aside0.mk (fun W hW=>pgAny_calls k A0 c0 l0 r W hW h)
      clear h1 h2 h
      go_enter Try.func17,Try.ntmps17
      go_wp2_with (go_at_call 38;refine (HI.out _ HR.out).mono ?_;rintro e w' ⟨rfl,hb⟩;have HB:=Aside0.mk hb;clear hb)
      go_ret
      exact ⟨by first | rfl | (simp;done),(by repeat (first | exact HB.out | (with_reducible apply pw_below_drewN) | (with_reducible apply below_drew1) | (with_reducible apply below_alloc) | exact Below.refl _ _))⟩
    · have b2 : decide ((l0.length : Int) ≤ 3) = false:=decide_eq_false h2
      rw [if_neg h2] at h
      obtain rfl:=Option.some.inj h
      clear h1 h2 h
      go_enter Try.func17,Try.ntmps17
      go_wp2
      go_ret
      exact ⟨by first | rfl | (simp;done),(by repeat (first | (with_reducible apply pw_below_drewN) | (with_reducible apply below_drew1) | (with_reducible apply below_alloc) | exact Below.refl _ _))⟩
  · have b1 : decide (1 ≤ (l0.length : Int)) = false:=decide_eq_false h1
    rw [if_neg h1] at h
    obtain rfl:=Option.some.inj h
    clear h1 h
    go_enter Try.func17,Try.ntmps17
    go_wp2
    go_ret
    exact ⟨by first | rfl | (simp;done),(by repeat (first | (with_reducible apply pw_below_drewN) | (with_reducible apply below_drew1) | (with_reducible apply below_alloc) | exact Below.refl _ _))⟩
end Go.Proofs.Ytdjkmnkgaacmfaa.P
