/- impl.all, its closure, impl.StmtsOk and impl.StmtsMany by their contracts; no condition beyond the reading of the list. -/
import Derived.Test.YtphbdoljkpdflaaZFnCodeBent6
import Derived.RangeFuncNested
import Derived.RangeFuncBound
import Derived.RangeFuncCalls
import Derived.RangeFuncLeaves
import Derived.WalkKit
import Derived.OwnWalkIn
import Derived.TacticsInMore
import Derived.LoopNIn
import Derived.LoopIn
import Derived.RangeFuncBox
import Derived.Shelf.Abstract
namespace Go.Proofs.Ytphbdoljkpdflaa.P
open Go.RowKit Go.Proofs.YtphbdoljkpdflaaW.PrintWords Go.Proofs.YtphbdoljkpdflaaW.PrintLast Go.Proofs.YtphbdoljkpdflaaW.PrintMore
attribute [local go_sem] Oper.semAt_some
set_option linter.unusedVariables false
set_option linter.unusedSimpArgs false
structure Pl where
  k : Int
  a : Int
  b : Int
  n : Int
  v4 : Value
  v5 : Value
  rm : Int
def Pl.enc (x : Pl) : Array Value:=#[.agg #[.int .i64 x.k,.int .i64 x.a,.int .i64 x.b,.int .i64 x.n,x.v4,x.v5,.int .i64 x.rm]]
abbrev I5:=Int × Int × Int × Int × Int
def Pl.ints (x : Pl) : I5:=(x.k,x.a,x.b,x.n,x.rm)
def allL (T : S46 → Int → Option (List I5)) (rm : Int) : List S46 → Option (List I5)
  | []=>some []
  | x :: t=>(T x rm).bind fun a=>(allL T rm t).bind fun b=>some (a ++ b)
def innR (s : S46) (rm : Int) : Int:=if s.f0 = 8 then s.f1 else rm
def allT (L : List S46 → Int → Option (List I5)) (s : S46) (rm : Int) : Option (List I5) :=
  (L s.f4 (innR s rm)).bind fun a=>(L s.f5 (innR s rm)).bind fun b=>some ((s.f0,s.f1,s.f2,s.f3,rm) :: (a ++ b))
def allK : Nat → List S46 → Int → Option (List I5)
  | 0=>fun _ _=>none
  | k + 1=>fun l rm=>allL (allT (allK k)) rm l
structure Kq (n₀ B : Nat) (W W' : World) : Prop where
  below : Below n₀ W W'
  cells : ∀ (k : Nat) (cs : Array Value) (t : TypeId) (fr : Nat × Nat),B ≤ k → W.heap[k]? = some (.cells cs t fr) → W'.heap[k]? = some (.cells cs t fr)
theorem Kq.refl (n₀ B : Nat) (W : World) : Kq n₀ B W W:=⟨Below.refl _ _,fun _ _ _ _ _ h=>h⟩
theorem Kq.trans {n₀ B : Nat} {X Y Z : World} (h : Kq n₀ B X Y) (k : Kq n₀ B Y Z) : Kq n₀ B X Z:=⟨h.below.trans k.below,fun i cs t fr hi hc=>k.cells i cs t fr hi (h.cells i cs t fr hi hc)⟩
theorem Kq.alloc {n₀ B : Nat} {X Y : World} (h : Kq n₀ B X Y) (hn : n₀ ≤ Y.heap.size) (o : Obj) : Kq n₀ B X (Y.alloc o) :=
  ⟨h.below.alloc hn o,fun i cs t fr hi hc=>(Below.heap_alloc Y o i (Array.getElem?_eq_some_iff.1 (h.cells i cs t fr hi hc)).1).trans (h.cells i cs t fr hi hc)⟩
theorem Kq.drewN {n₀ B : Nat} {X Y : World} (h : Kq n₀ B X Y) (n : Nat) : Kq n₀ B X (Y.drewN n):=⟨pw_below_drewN h.below n,fun i cs t fr hi hc=>h.cells i cs t fr hi hc⟩
theorem Kq.drew {n₀ B : Nat} {X Y : World} (h : Kq n₀ B X Y) : Kq n₀ B X Y.drew:=⟨h.below.drew,fun i cs t fr hi hc=>h.cells i cs t fr hi hc⟩
theorem Kq.t {n₀ B : Nat} {X Y Z : World} (h : Kq n₀ B X Y) (k : Kq n₀ B Y Z) : Kq n₀ B X Z:=h.trans k
theorem Kq.b {n₀ B : Nat} {w : World} (hn : n₀ ≤ w.heap.size) (W : World) (l : Nat) (o o' : Obj) (hl : w.heap.size ≤ l) (h : W.heap[l]? = some o) (hc : o.isCells = false) (hw : o.isWalk = false) : Kq n₀ B W (W.putObj l o') :=
  ⟨belowK_b hn W l o o' hl h hc hw,fun k cs t fr _ hk=>by
    by_cases e : k = l
    · subst e
      rw [h] at hk
      cases hk
      cases hc
    · exact (World.putObj_heap_other e).trans hk⟩
theorem Kq.box {n₀ B : Nat} {W W' : World} (h : Kq n₀ B W W') {b : Nat} (hb : B ≤ b) {v : Value} {t : TypeId} (hv : W.heap[b]? = some (.cells #[v] t (0,0))) : W'.heap[b]? = some (.cells #[v] t (0,0)):=h.cells _ _ _ _ hb hv
structure WAt (w0 : World) (l By Bw : Nat) (W : World) : Prop where
  b : Below w0.heap.size w0 W
  y : W.heap[By]? = some (.cells #[.func (.yield l) #[] #[]] 94 (0,0))
  k : W.heap[Bw]? = some (.cells #[.func (.func 69) #[] #[.pointer (some ⟨By,0,none⟩),.pointer (some ⟨Bw,0,none⟩)]] 95 (0,0))
theorem WAt.step {w0 : World} {l By Bw B : Nat} {W W' : World} (h : WAt w0 l By Bw W) (hy : B ≤ By) (hk : B ≤ Bw) (q : Kq w0.heap.size B W W') : WAt w0 l By Bw W':=⟨h.b.trans q.below,q.box hy h.y,q.box hk h.k⟩
theorem WAt.cells {w0 : World} {l By Bw : Nat} {W : World} (h : WAt w0 l By Bw W) : W.cell? ⟨By,0,none⟩ = some (.func (.yield l) #[] #[]) ∧ W.cell? ⟨Bw,0,none⟩ = some (.func (.func 69) #[] #[.pointer (some ⟨By,0,none⟩),.pointer (some ⟨Bw,0,none⟩)]):=⟨cell_of h.y 0 rfl,cell_of h.k 0 rfl⟩
def WPost (xs : List I5) (n₀ B : Nat) (J Jx : List Pl → World → Prop) (pre : List Pl) (W : World) (e : Ending) (W' : World) : Prop :=
  (e = .returned (.bool true) ∧ ∃ ys : List Pl,ys.map Pl.ints = xs ∧ J (pre ++ ys) W' ∧ Kq n₀ B W W') ∨ (e = .returned (.bool false) ∧ ∃ ys : List Pl,ys.map Pl.ints <+: xs ∧ Jx (pre ++ ys) W')
def Rounds (l N n₀ B : Nat) (J Jx : List Pl → World → Prop) : Prop :=
  ∀ (m : Nat) (pre : List Pl) (x : Pl) (W : World),J pre W → pre.length < N → YieldAt Fence.wide m Try.prog l x.enc W fun e W'=>(e = .returned (.bool true) ∧ J (pre ++ [x]) W' ∧ Kq n₀ B W W') ∨ (e = .returned (.bool false) ∧ Jx (pre ++ [x]) W')
def Grows (J : List Pl → World → Prop) : Prop:=∀ s W W',J s W → W.grownBy W' none → J s W'
def WSays (w0 : World) (l By Bw B N : Nat) (J Jx : List Pl → World → Prop) (L : List S46 → Int → Option (List I5)) : Prop :=
  ∀ (n : Nat) (A : Option Addr) (c : Nat) (ls : List S46) (rm : Int) (pre : List Pl) (W : World) (xs : List I5),Kd.C k46 w0 A ls.length ls → WAt w0 l By Bw W → J pre W → L ls rm = some xs → pre.length + xs.length ≤ N →
    CallsIn Fence.wide n Try.prog 69 #[.slice A ls.length c,.int .i64 rm,.pointer (some ⟨By,0,none⟩),.pointer (some ⟨Bw,0,none⟩)] W (WPost xs w0.heap.size B J Jx pre W)
end Go.Proofs.Ytphbdoljkpdflaa.P
namespace Go.Proofs.Ytphbdoljkpdflaa.P
open Go.RowKit Go.Proofs.YtphbdoljkpdflaaW.PrintWords Go.Proofs.YtphbdoljkpdflaaW.PrintLast Go.Proofs.YtphbdoljkpdflaaW.PrintMore
attribute [local go_sem] Oper.semAt_some
set_option linter.unusedVariables false
set_option linter.unusedSimpArgs false
theorem run_store_fn (P : Program) (w : World) (a : Addr) (m : Mode) (fn : Fn) (first cap : Array Value) : (store a (.func fn first cap) m).run P w = stored P w a (.func fn first cap) m:=run_store P w a _ m rfl
attribute [local go_sem] run_store_fn
theorem Kq.setCell {n₀ B : Nat} (W : World) {b : Nat} (v : Value) (h1 : n₀ ≤ b) (h2 : b < B) : Kq n₀ B W (W.setCell ⟨b,0,none⟩ v) :=
  ⟨(Below.refl n₀ W).setCell (p:=⟨b,0,none⟩) h1 v,fun k cs t fr hk h=>(Below.heap_setCell W ⟨b,0,none⟩ v k (by show k ≠ b;omega)).trans h⟩
def impl_StmtsOk.f (k : Nat) (l0 : List S46) : Option Bool:=(impl_listOk.f k l0 3 (-1)).bind fun b=>if b = true then (allK k l0 (-1)).bind fun xs=>some (decide (wrap64 (xs.length : Int) ≤ 14)) else some false
def impl_StmtsMany.f (k : Nat) (l0 : List S46) : Option Int:=(impl_StmtsOk.f k l0).bind fun b=>if b = true then (allK k l0 (-1)).bind fun xs=>some (wrap64 (xs.length : Int)) else some 0
end Go.Proofs.Ytphbdoljkpdflaa.P
