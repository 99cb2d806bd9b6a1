/- Parts of the proof of FnCodeBoth: plain Lean functions of Go functions, and that the calls come to what they say; no condition beyond those that each theorem names. -/
import Derived.Test.YtphbdoljkpdflaaZFnCodeBoth23
import Derived.Test.YtphbdoljkpdflaaZFnCodeBoth21
import Derived.Test.YtphbdoljkpdflaaZFnCodeBoth16
namespace Go.Proofs.Ytphbdoljkpdflaa.P
open Go.RowKit Go.Proofs.YtphbdoljkpdflaaW.PrintWords Go.Proofs.YtphbdoljkpdflaaW.PrintMore
set_option linter.unusedVariables false
set_option linter.unusedSimpArgs false
def AllI (c : List S42) : Prop:=1 ≤ c.length ∧ c.length ≤ 60 ∧ ∀ j,j < c.length → OkI c j
def okJ (c : List S42) (j : Nat) : Bool:=insB (rd_T42 c j).f0 (rd_T42 c j).f1 (rd_T42 c j).f2 (rd_T42 c j).f3 (c.length : Int) && (decide ((rd_T42 c j).f0 = 13) == decide (j + 1 = c.length))
end Go.Proofs.Ytphbdoljkpdflaa.P

namespace Go.Proofs.Ytphbdoljkpdflaa.Pure
open Go.RowKit Go.Proofs.Ytphbdoljkpdflaa.P Go.Proofs.YtphbdoljkpdflaaW.PrintWords Go.Proofs.YtphbdoljkpdflaaW.PrintLast
open Go.Proofs.Ytphbdoljkpdflaa.P Go.Proofs.YtphbdoljkpdflaaW.PrintMore
theorem cnt_append (d : Nat) (a b : List S46) : cntL (d + 1) (a ++ b) = cntL (d + 1) a + cntL (d + 1) b:=by
  show (List.map _ (a ++ b)).sum = _
  rw [List.map_append,List.sum_append]
  rfl
theorem part_ok {ts a : List S46} (h : okLst ts = true) (hc : cntL 3 ts ≤ 5000000000000000) (hs : ∀ x ∈ a,x ∈ ts) (hn : cntL 3 a ≤ cntL 3 ts) : okLst a = true:=by
  have h14:=cnt14 h hc
  have hok:=okAll h
  rw [List.all_eq_true] at hok
  unfold okLst okList
  rw [Bool.and_eq_true,decide_eq_true_eq,wrap_cnt (by omega),List.all_eq_true]
  exact ⟨fun x hx=>hok x (hs x hx),by omega⟩
theorem rdT_eq (c : List S42) {j : Nat} (h : j < c.length) : rd_T42 c (j : Int) = c[j]:=by
  unfold rd_T42
  rw [Int.toNat_natCast,List.getD_eq_getElem?_getD,List.getElem?_eq_getElem h]
  rfl
theorem same_no (x : S42) : ¬ (!((x.f0) == (x.f0)) || (!((x.f1) == (x.f1)) || (!((x.f2) == (x.f2)) || (!((x.f3) == (x.f3)))))) = true:=by simp
theorem both_loop (A b : List S42) (a c : List S42) (ha : a = A ++ [⟨13,0,0,0⟩]) (hc : c = A ++ b.map (shfI A.length)) (hA : A.length ≤ 100) (hb : b.length ≤ 100) (hf : ∀ x ∈ b,x.f0 = 6 ∨ x.f0 = 7 → 0 ≤ x.f3 ∧ x.f3 ≤ 100) :
    ∀ (e i : Nat),i + e = c.length → Ev (fun k=>laws_FnCodeBoth.l0 k c a b (A.length : Int) (i : Int)) true:=by
  have hcl : c.length = A.length + b.length:=by rw [hc];simp
  have hal : a.length = A.length + 1:=by rw [ha];simp
  intro e
  induction e with
  | zero =>
    intro i hi
    exact Evs.succ (fun k=>by simp only [laws_FnCodeBoth.l0];rfl) (Evs.ite_neg (by omega) (Evs.some_ _))
  | succ e ih =>
    intro i hi
    have nx:=ih (i + 1) (by omega)
    rw [← wrap_succ (by omega)] at nx
    refine Evs.succ (fun k=>by simp only [laws_FnCodeBoth.l0];rfl) (Evs.ite_pos (by omega) ?_)
    by_cases hlt : i < A.length
    · have e1 : rd_T42 c (i : Int) = rd_T42 a (i : Int):=by
        rw [rdT_eq c (by omega),rdT_eq a (by omega)]
        subst ha hc
        rw [List.getElem_append_left hlt,List.getElem_append_left hlt]
      rw [e1]
      exact Evs.ite_pos (by omega) (Evs.ite_pos (by omega) (Evs.ite_pos (by omega) (Evs.ite_neg (same_no _) nx)))
    · have ew : wrap64 ((i : Int) - (A.length : Int)) = ((i - A.length : Nat) : Int):=by rw [wrap_id (by omega) (by omega)];omega
      have hib : i - A.length < b.length:=by omega
      have e1 : rd_T42 c (i : Int) = shfI A.length (rd_T42 b ((i - A.length : Nat) : Int)):=by
        rw [rdT_eq c (by omega),rdT_eq b hib]
        subst hc
        rw [List.getElem_append_right (by omega),List.getElem_map]
      have hm : rd_T42 b ((i - A.length : Nat) : Int) ∈ b:=by rw [rdT_eq b hib];exact List.getElem_mem _
      have hy:=hf _ hm
      refine Evs.ite_neg (by omega) ?_
      rw [ew]
      clear ew
      refine Evs.ite_pos (by omega) (Evs.ite_pos (by omega) ?_)
      generalize rd_T42 b ((i - A.length : Nat) : Int) = y at e1 hy
      have jt : y.f0 = 6 ∨ y.f0 = 7 → Ev (fun k=>laws_FnCodeBoth.j2 k c a b (A.length : Int) (i : Int) true y.f0 y.f1 y.f2 y.f3) true:=by
        intro h
        obtain ⟨h0,h1⟩:=hy h
        have e2 : rd_T42 c (i : Int) = ⟨y.f0,y.f1,y.f2,y.f3 + (A.length : Int)⟩:=by rw [e1];unfold shfI;rw [if_pos h]
        have e3 : wrap64 (y.f3 + (A.length : Int)) = y.f3 + (A.length : Int):=wrap_id (by omega) (by omega)
        refine Evs.succ (fun k=>by simp only [laws_FnCodeBoth.j2];rfl) (Evs.ite_pos (by trivial) (Evs.ite_pos (by omega) (Evs.ite_pos (by omega) ?_)))
        rw [e2,e3]
        clear e3
        exact Evs.ite_neg (by simp) nx
      by_cases h6 : y.f0 = 6
      · exact Evs.ite_pos h6 (jt (.inl h6))
      refine Evs.ite_neg h6 ?_
      by_cases h7 : y.f0 = 7
      · have : (y.f0 == 7) = true:=by simpa using h7
        rw [this]
        exact jt (.inr h7)
      · have : (y.f0 == 7) = false:=by simpa using h7
        rw [this]
        have e2 : rd_T42 c (i : Int) = y:=by rw [e1];unfold shfI;rw [if_neg (by omega)]
        refine Evs.succ (fun k=>by simp only [laws_FnCodeBoth.j2];rfl) (Evs.ite_neg (by simp) (Evs.ite_pos (by omega) (Evs.ite_pos (by omega) ?_)))
        rw [e2]
        exact Evs.ite_neg (same_no _) nx
theorem FnCodeBoth : laws_FnCodeBoth.Pure:=by
  intro l _ _ hw
  refine Ev.rounds (g:=fun k=>laws_FnCodeBoth.f k l) ?_
  unfold laws_FnCodeBoth.f
  by_cases c0 : (l.length : Int) > 1048576
  · exact Evs.ite_pos c0 (Evs.some_ _)
  obtain ⟨ts,ht,hd⟩:=drawCode_ev hw
  have hc:=smL_cnt ht
  have hl:=codeV_le hc
  have htl:=ht.1
  have bad : Ev (fun k=>laws_FnCodeBoth.j0 k ts (codeV ts) true) true :=
    Evs.succ (fun k=>by simp only [laws_FnCodeBoth.j0];rfl) (Evs.ite_pos (by trivial) (Evs.bind (specCode_ev (smL_sl ht 3) hc) (Evs.bind (implSame_refl (codeV ts) (by omega)) (Evs.some_ _))))
  refine Evs.ite_neg c0 (Evs.bind hd (Evs.bind (implCode_ev hc) (Evs.bind (specCode_ev (smL_sl ht 3) hc) (Evs.bind (implSame_refl _ (by omega)) (Evs.ite_pos rfl (Evs.bind (specOk (smL_sl ht 3)) ?_))))))
  cases hv : okLst ts with
  | false=>exact Evs.ite_neg (by simp) bad
  | true =>
    refine Evs.ite_pos rfl ?_
    by_cases hz : ts.length = 0
    · have : ((ts.length : Int) == 0) = true:=by simp [hz]
      rw [this]
      exact bad
    have : ((ts.length : Int) == 0) = false:=by simp;intro h;exact hz (by rw [h];rfl)
    rw [this]
    have ew : wrap64 ((ts.length : Int) - 1) = ((ts.length - 1 : Nat) : Int):=by rw [wrap_id (by omega) (by omega)];omega
    refine Evs.succ (fun k=>by simp only [laws_FnCodeBoth.j0];rfl) (Evs.ite_neg (by simp) ?_)
    rw [ew]
    clear ew
    refine Evs.ite_pos (by omega) (Evs.ite_pos (by omega) ?_)
    rw [Int.toNat_natCast]
    have es : ts.take (ts.length - 1) ++ ts.drop (ts.length - 1) = ts:=List.take_append_drop _ _
    have ec:=cnt_append 2 (ts.take (ts.length - 1)) (ts.drop (ts.length - 1))
    rw [es] at ec
    change cntL 3 ts = cntL 3 (ts.take (ts.length - 1)) + cntL 3 (ts.drop (ts.length - 1)) at ec
    have o1 : okLst (ts.take (ts.length - 1)) = true:=part_ok hv hc (fun x hx=>List.mem_of_mem_take hx) (by omega)
    have o2 : okLst (ts.drop (ts.length - 1)) = true:=part_ok hv hc (fun x hx=>List.mem_of_mem_drop hx) (by omega)
    have h1:=implCode_ev (l:=ts.take (ts.length - 1)) (by omega)
    have h2:=implCode_ev (l:=ts.drop (ts.length - 1)) (by omega)
    rw [codeV_ok o1] at h1
    rw [codeV_ok o2] at h2
    refine Evs.bind h1 (Evs.bind h2 ?_)
    rw [codeV_ok hv]
    have n1:=codF_le o1 (by omega)
    have n2:=codF_le o2 (by omega)
    have al:=codF_len (ts.take (ts.length - 1))
    have hform : codF ts = codL 3 (ts.take (ts.length - 1)) 0 ++ (codF (ts.drop (ts.length - 1))).map (shfI (codL 3 (ts.take (ts.length - 1)) 0).length):=by
      have e1:=codL_app 2 (ts.take (ts.length - 1)) (ts.drop (ts.length - 1)) 0
      rw [es] at e1
      change codL 3 ts 0 = codL 3 (ts.take (ts.length - 1)) 0 ++ codL 3 (ts.drop (ts.length - 1)) (0 + (codL 3 (ts.take (ts.length - 1)) 0).length) at e1
      unfold codF
      rw [e1,codL_shf,List.map_append,List.append_assoc]
      rfl
    have ew : wrap64 (((codF (ts.take (ts.length - 1))).length : Int) - 1) = (((codL 3 (ts.take (ts.length - 1)) 0).length : Nat) : Int):=by rw [al,wrap_id (by omega) (by omega)];omega
    rw [ew]
    clear ew
    refine Evs.ite_pos ?_ ?_
    · rw [hform]
      rw [wrap_id (by omega) (by omega),List.length_append,List.length_map]
      omega
    · refine both_loop (codL 3 (ts.take (ts.length - 1)) 0) (codF (ts.drop (ts.length - 1))) _ _ rfl hform (by omega) (by omega) ?_ (codF ts).length 0 (by omega)
      intro x hx hx6
      obtain ⟨j,hj,rfl⟩:=List.mem_iff_getElem.1 hx
      have hb:=codF_blk (okAll o2)
      have bl:=codF_len (ts.drop (ts.length - 1))
      by_cases hq : j = (codL 3 (ts.drop (ts.length - 1)) 0).length
      · subst hq
        have hg:=codF_last (ts.drop (ts.length - 1))
        rw [List.getElem?_eq_getElem hj] at hg
        rw [Option.some.inj hg] at hx6
        simp at hx6
      · obtain ⟨i,hi,hI,_⟩:=hb.ins (n:=(codF (ts.drop (ts.length - 1))).length) (by omega) j (Nat.zero_le _) (by omega)
        rw [List.getElem?_eq_getElem hj] at hi
        obtain rfl:=(Option.some.inj hi).symm
        unfold InsI LeafI at hI
        omega
end Go.Proofs.Ytphbdoljkpdflaa.Pure
