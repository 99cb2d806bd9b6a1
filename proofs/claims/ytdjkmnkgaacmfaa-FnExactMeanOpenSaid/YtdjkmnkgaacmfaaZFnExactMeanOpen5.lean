/- Arguments that are read as the statement says can be read from memory; no condition. -/
import Derived.Test.YtdjkmnkgaacmfaaZFnExactMeanOpen4
import Derived.ProofKit
import Derived.ChangeSlices
import Derived.ChangeArms
import Derived.Deep.Slices
import Derived.WideShapes
import Derived.ChangeBears
import Derived.ChangeOld
namespace Go.Proofs.Ytdjkmnkgaacmfaa.P
open Go.RowKit Go.Proofs.YtdjkmnkgaacmfaaW.PrintWords Go.Proofs.YtdjkmnkgaacmfaaW.PrintLast Go.Proofs.YtdjkmnkgaacmfaaW.PrintMore
attribute [local go_sem] max2_int min2_int max_two min_two max_three min_three max_four min_four
set_option linter.unusedVariables false
set_option linter.unusedSimpArgs false
section
open Go.ChangeShapes Go.WideShapes Go.Deep
variable {H : Type} {enc : TypeId × Value → H} {w : World} {base : Nat} {spare : Nat → Bool} {held : Bool}
theorem op_int {P : Program} {t : TypeId} {k : IntKind} {fuel : Nat} {cs : List Value} {x : DataW H × List MemPlace} (ht : P.underlying t = some (.int k)) (h : DataW.trod enc P w base spare held fuel t cs = some x) : ∃ a,cs = [.int k a]:=by
  obtain ⟨n,hcs,_,_⟩:=DataW.trod_int ht h
  exact ⟨n,hcs⟩
theorem op_slice {P : Program} {α : Type} (d : Kd α) {t e : TypeId} (ht : P.underlying t = some (.slice e)) (hc : P.cellsOf e = d.sz) {fuel : Nat} {cs : List Value} {x : DataW H × List MemPlace}
    (he : ∀ n,n < fuel → ∀ cs x,DataW.trod enc P w base spare held n e cs = some x → ∃ a,d.K w a cs) (h : DataW.trod enc P w base spare held fuel t cs = some x) :
    ∃ A c xs,cs = [.slice A xs.length c] ∧ xs.length ≤ c ∧ d.C w A xs.length xs:=by
  rcases DataW.trod_slice ht h with ⟨hcs,_⟩ | ⟨a,len,cap,elems,rest,n,rfl,hcs,_,_,hl,hm,hlen,hel,_,_⟩
  · exact ⟨none,0,[],by simpa using hcs,by simp,rfl,by simp,fun hn=>absurd hn (by simp)⟩
  · have key : ∀ i,i < len → ∃ p,∃ c,c.length = d.sz ∧ d.K w p c ∧ ∀ j u,c[j]? = some u → w.cell? (a.add (i * d.sz + j)) = some u:=by
      intro i hi
      have q:=hel i hi
      rw [List.getElem?_eq_getElem (by omega),hc] at q
      obtain ⟨c,h1,h2⟩:=Option.bind_eq_some_iff.1 q
      obtain ⟨p,hp⟩:=he n (by omega) c _ h2
      obtain ⟨_,hcl,hat⟩:=World.cells?_some h1
      refine ⟨p,c,hcl,hp,fun j u hu=>?_⟩
      have hj : j < d.sz:=by have:=(List.getElem?_eq_some_iff.1 hu).1;omega
      rw [← Go.Deep.add_add,hat j hj,hu]
    let xs : List α:=(List.range len).pmap (fun i hi=>Classical.choose (key i hi)) (fun i hi=>List.mem_range.1 hi)
    have hxl : xs.length = len:=by simp [xs]
    refine ⟨some a,cap,xs,by rw [hxl];exact hcs,by omega,rfl,by unfold maxLen at hm;omega,fun _=>⟨a,rfl,fun j p hj=>?_⟩⟩
    have hjl : j < len:=by have:=(List.getElem?_eq_some_iff.1 hj).1;omega
    have : p = Classical.choose (key j hjl):=by
      have e : xs[j]? = some (Classical.choose (key j hjl)):=by simp [xs,List.getElem?_pmap,hjl]
      rw [hj] at e
      exact Option.some.inj e
    subst this
    exact Classical.choose_spec (key j hjl)
theorem op_T56 : ∀ (fuel : Nat) (cs : List Value) (x : DataW H × List MemPlace),DataW.trod enc Try.prog w base spare held fuel 56 cs = some x → ∃ a,k56.K w a cs:=by
  intro fuel
  induction fuel using Nat.strongRecOn with
  | _ fuel ih =>
  intro cs x h
  obtain ⟨xs,n,rfl,_,hlen,hxs,hg⟩:=DataW.trod_struct Try.underlying56 h
  rw [show Try.prog.cellsOf 56 = 6 from by kernel_rfl] at hlen
  match cs,hlen with
  | [c0,c1,c2,c3,c4,c5],_ =>
  match xs,hxs with
  | [y0,y1,y2,y3,y4,y5],_ =>
  have g0 : DataW.trod enc Try.prog w base spare held n 3 [c0] = some y0:=by have q : DataW.trod enc Try.prog w base spare held n 3 ((List.drop 0 [c0,c1,c2,c3,c4,c5]).take (Try.prog.cellsOf 3)) = some y0:=hg 0 _ rfl;rw [show Try.prog.cellsOf 3 = 1 from by kernel_rfl] at q;exact q
  have g1 : DataW.trod enc Try.prog w base spare held n 3 [c1] = some y1:=by have q : DataW.trod enc Try.prog w base spare held n 3 ((List.drop 1 [c0,c1,c2,c3,c4,c5]).take (Try.prog.cellsOf 3)) = some y1:=hg 1 _ rfl;rw [show Try.prog.cellsOf 3 = 1 from by kernel_rfl] at q;exact q
  have g2 : DataW.trod enc Try.prog w base spare held n 3 [c2] = some y2:=by have q : DataW.trod enc Try.prog w base spare held n 3 ((List.drop 2 [c0,c1,c2,c3,c4,c5]).take (Try.prog.cellsOf 3)) = some y2:=hg 2 _ rfl;rw [show Try.prog.cellsOf 3 = 1 from by kernel_rfl] at q;exact q
  have g3 : DataW.trod enc Try.prog w base spare held n 3 [c3] = some y3:=by have q : DataW.trod enc Try.prog w base spare held n 3 ((List.drop 3 [c0,c1,c2,c3,c4,c5]).take (Try.prog.cellsOf 3)) = some y3:=hg 3 _ rfl;rw [show Try.prog.cellsOf 3 = 1 from by kernel_rfl] at q;exact q
  have g4 : DataW.trod enc Try.prog w base spare held n 39 [c4] = some y4:=by have q : DataW.trod enc Try.prog w base spare held n 39 ((List.drop 4 [c0,c1,c2,c3,c4,c5]).take (Try.prog.cellsOf 39)) = some y4:=hg 4 _ rfl;rw [show Try.prog.cellsOf 39 = 1 from by kernel_rfl] at q;exact q
  have g5 : DataW.trod enc Try.prog w base spare held n 39 [c5] = some y5:=by have q : DataW.trod enc Try.prog w base spare held n 39 ((List.drop 5 [c0,c1,c2,c3,c4,c5]).take (Try.prog.cellsOf 39)) = some y5:=hg 5 _ rfl;rw [show Try.prog.cellsOf 39 = 1 from by kernel_rfl] at q;exact q
  obtain ⟨a0,e0⟩:=op_int Try.underlying3 g0
  obtain rfl:=List.singleton_inj.1 e0
  obtain ⟨a1,e1⟩:=op_int Try.underlying3 g1
  obtain rfl:=List.singleton_inj.1 e1
  obtain ⟨a2,e2⟩:=op_int Try.underlying3 g2
  obtain rfl:=List.singleton_inj.1 e2
  obtain ⟨a3,e3⟩:=op_int Try.underlying3 g3
  obtain rfl:=List.singleton_inj.1 e3
  obtain ⟨A4,d4,a4,e4,l4,C4⟩:=op_slice k56 Try.underlying39 (by kernel_rfl) (fun n_ hn_ cs_ x_ h_=>ih n_ (by omega) cs_ x_ h_) g4
  obtain rfl:=List.singleton_inj.1 e4
  obtain ⟨A5,d5,a5,e5,l5,C5⟩:=op_slice k56 Try.underlying39 (by kernel_rfl) (fun n_ hn_ cs_ x_ h_=>ih n_ (by omega) cs_ x_ h_) g5
  obtain rfl:=List.singleton_inj.1 e5
  exact ⟨⟨a0,a1,a2,a3,a4,a5⟩,k56_mk w _ l4 C4 l5 C5⟩
end
end Go.Proofs.Ytdjkmnkgaacmfaa.P
