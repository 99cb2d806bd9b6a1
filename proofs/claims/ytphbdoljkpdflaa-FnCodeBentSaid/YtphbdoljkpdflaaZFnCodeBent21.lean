/- The compiler's emit, forward and its first closure by their contracts; no condition but that code is no giant. -/
import Derived.Test.YtphbdoljkpdflaaZFnCodeBent6
import Derived.Deep.RegionHeld3
import Derived.Deep.DrawnRows
import Derived.Deep.AppendLies
import Derived.Deep.RegionLaw
namespace Go.Proofs.Ytphbdoljkpdflaa.P
open Go.RowKit Go.Maps Go.Proofs.YtphbdoljkpdflaaW.PrintWords Go.Proofs.YtphbdoljkpdflaaW.PrintLast Go.Proofs.YtphbdoljkpdflaaW.PrintMore
attribute [local go_sem] max2_int min2_int max_two min_two max_three min_three max_four min_four
attribute [local go_sem ↓] Go.wp_at_zero Go.wp_at_succ
set_option linter.unusedVariables false
set_option linter.unusedSimpArgs false
def lateE (p : Nat × Nat × Nat) : Value:=.func (.func 87) #[] #[.pointer (some ⟨p.1,0,none⟩),.pointer (some ⟨p.2.1,0,none⟩),.pointer (some ⟨p.2.2,0,none⟩)]
def lateK : Kd (Nat × Nat × Nat):=Kd.scalar lateE (fun _=>rfl)
structure LateAt (g : Nat) (W : World) (p : Nat × Nat × Nat) (q : Nat × Nat) : Prop where
  t : W.heap[p.1]? = some (.cells #[.int .i64 (q.2 : Int)] 3 (0,0))
  c : W.heap[p.2.1]? = some (.cells #[.pointer (some ⟨g,0,none⟩)] 86 (0,0))
  a : W.heap[p.2.2]? = some (.cells #[.int .i64 (q.1 : Int)] 3 (0,0))
def Kc (W W' : World) : Prop:=∀ (b : Nat) (cs : Array Value) (t : TypeId) (fr : Nat × Nat),t ≠ 42 → t ≠ 1 → t ≠ 89 → W.heap[b]? = some (.cells cs t fr) → W'.heap[b]? = some (.cells cs t fr)
theorem Kc.refl (W : World) : Kc W W:=fun _ _ _ _ _ _ _ h=>h
theorem Kc.trans {X Y Z : World} (h : Kc X Y) (k : Kc Y Z) : Kc X Z:=fun b cs t fr h1 h2 h3 hc=>k b cs t fr h1 h2 h3 (h b cs t fr h1 h2 h3 hc)
theorem Kc.alloc {X Y : World} (h : Kc X Y) (o : Obj) : Kc X (Y.alloc o):=fun b cs t fr h1 h2 h3 hc=>blk_alloc (h b cs t fr h1 h2 h3 hc) o
theorem Kc.drew {X Y : World} (h : Kc X Y) : Kc X Y.drew:=h
theorem Kc.drewN {X Y : World} (h : Kc X Y) (n : Nat) : Kc X (Y.drewN n):=h
theorem Kc.set {X Y : World} (h : Kc X Y) {g t : Nat} {cs : Array Value} (hg : Y.heap[g]? = some (.cells cs t (0,0))) (ht : t = 42 ∨ t = 1 ∨ t = 89) (j : Nat) (u : Value) : Kc X (Y.setCell ⟨g,j,none⟩ u) :=
  fun b cs' t' fr h1 h2 h3 hc=>by
    have hb:=h b cs' t' fr h1 h2 h3 hc
    refine (Below.heap_setCell Y ⟨g,j,none⟩ u b ?_).trans hb
    rintro rfl
    rw [hg] at hb
    injection hb with hb
    injection hb with _ hb _
    subst hb
    rcases ht with ht | ht | ht
    · exact h1 ht
    · exact h2 ht
    · exact h3 ht
theorem Kc.grown {X Y Z : World} (h : Kc X Y) {v : Value} (hg : Y.grownBy Z v.ownBlock) {t : Nat} (hv : ∀ k,v.ownBlock = some k → ∃ cells,Y.heap[k]? = some (.cells cells t (0,0))) (ht : t = 42 ∨ t = 1 ∨ t = 89) : Kc X Z :=
  fun b cs' t' fr h1 h2 h3 hc=>by
    have hb:=h b cs' t' fr h1 h2 h3 hc
    refine (hg.block b (blk_lt hb) ?_).trans hb
    intro e
    obtain ⟨cells,hk⟩:=hv b e.symm
    rw [hk] at hb
    injection hb with hb
    injection hb with _ hb _
    subst hb
    rcases ht with ht | ht | ht
    · exact h1 ht
    · exact h2 ht
    · exact h3 ht
structure CAt (w0 : World) (g : Nat) (vc vl : Value) (code : List S42) (ps : List (Nat × Nat × Nat)) (W : World) : Prop where
  blk : W.heap[g]? = some (.cells #[vc,vl] 89 (0,0))
  code : Kd.R k42 42 W w0.heap.size (fun _=>True) vc code
  late : Kd.R lateK 1 W w0.heap.size (fun _=>True) vl ps
  ge : w0.heap.size ≤ g
  below : Below w0.heap.size w0 W
def LAll (g : Nat) (W : World) (ps : List (Nat × Nat × Nat)) (pts : List (Nat × Nat)) : Prop:=ps.length = pts.length ∧ ∀ (j : Nat) (p : Nat × Nat × Nat) (q : Nat × Nat),ps[j]? = some p → pts[j]? = some q → LateAt g W p q
theorem LAll.snoc {g : Nat} {W : World} {ps : List (Nat × Nat × Nat)} {pts : List (Nat × Nat)} (h : LAll g W ps pts) {p : Nat × Nat × Nat} {q : Nat × Nat} (hp : LateAt g W p q) : LAll g W (ps ++ [p]) (pts ++ [q]):=by
  refine ⟨by simp [h.1],fun j p' q' a b=>?_⟩
  rcases Nat.lt_or_ge j ps.length with hj | hj
  · rw [List.getElem?_append_left hj] at a
    rw [List.getElem?_append_left (by have:=h.1;omega)] at b
    exact h.2 j p' q' a b
  · have e1:=(List.getElem?_eq_some_iff.1 a).1
    rw [List.length_append,List.length_singleton] at e1
    obtain rfl : j = ps.length:=by omega
    rw [List.getElem?_append_right (Nat.le_refl _)] at a
    rw [List.getElem?_append_right (by have:=h.1;omega),show ps.length - pts.length = 0 by have:=h.1;omega] at b
    simp at a b
    subst a
    subst b
    exact hp
def CSt (w0 : World) (g : Nat) (code : List S42) (pts : List (Nat × Nat)) (W : World) : Prop:=∃ vc vl ps,CAt w0 g vc vl code ps W ∧ LAll g W ps pts
theorem CAt.cells {w0 W : World} {g : Nat} {vc vl : Value} {code : List S42} {ps : List (Nat × Nat × Nat)} (h : CAt w0 g vc vl code ps W) : W.cell? ⟨g,0,none⟩ = some vc ∧ W.cell? ⟨g,1,none⟩ = some vl ∧ W.frozen? ⟨g,0,none⟩ = false ∧ W.frozen? ⟨g,1,none⟩ = false :=
  ⟨cell_of h.blk 0 rfl,cell_of h.blk 1 rfl,by have:=h.blk;simp [World.frozen?,this],by have:=h.blk;simp [World.frozen?,this]⟩
theorem CSt.lt {w0 W : World} {g : Nat} {code : List S42} {pts : List (Nat × Nat)} (h : CSt w0 g code pts W) : g < W.heap.size ∧ w0.heap.size ≤ g:=by
  obtain ⟨vc,vl,ps,hC,hL⟩:=h
  exact ⟨blk_lt hC.blk,hC.ge⟩
end Go.Proofs.Ytphbdoljkpdflaa.P
