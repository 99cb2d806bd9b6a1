/- Parts of the proof of FnCodeEnd: plain Lean functions of Go functions, and that the calls come to what they say; no condition beyond those that each theorem names. -/
import Derived.Test.YtphbdoljkpdflaaZFnCodeEnd22
import Derived.Test.YtphbdoljkpdflaaZFnCodeEnd9
import Derived.Test.YtphbdoljkpdflaaZFnCodeEnd15
import Derived.Test.YtphbdoljkpdflaaZFnCodeEnd10
import Derived.Test.YtphbdoljkpdflaaZFnCodeEnd20
import Derived.Test.YtphbdoljkpdflaaZFnCodeEnd18
namespace Go.Proofs.Ytphbdoljkpdflaa.P
open Go.RowKit Go.Proofs.YtphbdoljkpdflaaW.PrintWords Go.Proofs.YtphbdoljkpdflaaW.PrintMore
set_option linter.unusedVariables false
set_option linter.unusedSimpArgs false
theorem one_len (g : List S46 → Nat → List S42) (d : Nat) (h : ∀ l p,(g l p).length ≤ 2 * cntL d l) (s : S46) (p : Nat) : (oneC g s p).length ≤ 2 * (1 + cntL d s.f4 + cntL d s.f5):=by
 unfold oneC
 have h4:=h s.f4 (p + 1)
 have h5:=h s.f5 (p + 2 + (g s.f4 (p + 1)).length)
 repeat' split
 all_goals simp only [List.length_cons,List.length_append,List.length_nil]
 all_goals omega
theorem codL_len_le : ∀ (d : Nat) (l : List S46) (p : Nat),(codL d l p).length ≤ 2 * cntL d l
 | 0,_,_=>by simp [codL]
 | d + 1,l,p=>by
  show (seqC (oneC (codL d)) l p).length ≤ 2 * (l.map fun x=>1 + cntL d x.f4 + cntL d x.f5).sum
  induction l generalizing p with
  | nil=>simp [seqC]
  | cons x t ih =>
   have h1:=one_len (codL d) d (codL_len_le d) x p
   have h2:=ih (p + (oneC (codL d) x p).length)
   rw [seqC,List.length_append,List.map_cons,List.sum_cons]
   omega
theorem specOne_ev (d : Nat) (s : S46) (p : Nat) (h4 : ∀ q,q + 2 * cntL d s.f4 ≤ 1000 → Ev (fun k=>spec_l4Of.f k s.f4 (q : Int)) (codL d s.f4 q)) (h5 : ∀ q,q + 2 * cntL d s.f5 ≤ 1000 → Ev (fun k=>spec_l4Of.f k s.f5 (q : Int)) (codL d s.f5 q)) (hp : p + 2 * (1 + cntL d s.f4 + cntL d s.f5) ≤ 1000) :
  Ev (fun k=>spec_l4One.f k s.f0 s.f1 s.f2 s.f3 s.f4 s.f5 (p : Int)) (oneC (codL d) s p):=by
 have l4:=codL_len_le d s.f4 (p + 1)
 have l5:=codL_len_le d s.f5 (p + 2 + (codL d s.f4 (p + 1)).length)
 have w1 : wrap64 ((p : Int) + 1) = ((p + 1 : Nat) : Int):=wrap_succ (by omega)
 have w2 : wrap64 ((p : Int) + 2) = ((p + 2 : Nat) : Int):=by rw [wrap_id (by omega) (by omega)];rfl
 have w3 : ∀ n : Nat,n ≤ 5000 → wrap64 (((p + 2 : Nat) : Int) + (n : Int)) = ((p + 2 + n : Nat) : Int):=fun n hn=>by rw [wrap_id (by omega) (by omega)];omega
 have w4 : ∀ n m : Nat,n ≤ 5000 → m ≤ 5000 → wrap64 (((p + 2 + n : Nat) : Int) + (m : Int)) = ((p + 2 + n + m : Nat) : Int):=fun n m hn hm=>by rw [wrap_id (by omega) (by omega)];omega
 refine Evs.succ (fun k=>by simp only [spec_l4One.f];rfl) ?_
 unfold oneC
 by_cases h6 : s.f0 = 6
 ·rw [if_pos h6]
  refine Evs.ite_pos h6 ?_
  rw [w1]
  refine Evs.bind (h4 _ (by omega)) ?_
  rw [w2,w3 _ (by omega)]
  refine Evs.bind (h5 _ (by omega)) ?_
  rw [w4 _ _ (by omega) (by omega)]
  refine Evs.bind0 rfl (Evs.ite_pos (by simp;omega) (Evs.bind0 rfl (Evs.bind0 rfl (Evs.ite_pos (by simp;omega) (Evs.bind0 rfl (Evs.ite_pos (by simp;omega) ?_))))))
  simpa using Evs.some_ _
 refine Evs.ite_neg h6 ?_
 rw [if_neg h6]
 by_cases h7 : s.f0 = 7
 ·rw [if_pos h7]
  refine Evs.ite_pos h7 ?_
  rw [w1]
  refine Evs.bind (h4 _ (by omega)) ?_
  rw [w2,w3 _ (by omega)]
  refine Evs.bind0 rfl (Evs.ite_pos (by simp;omega) (Evs.bind0 rfl (Evs.bind0 rfl (Evs.ite_pos (by simp;omega) ?_))))
  simpa using Evs.some_ _
 refine Evs.ite_neg h7 ?_
 rw [if_neg h7]
 by_cases h8 : s.f0 = 8
 ·rw [if_pos h8]
  refine Evs.ite_pos h8 ?_
  rw [w1]
  refine Evs.bind (h4 _ (by omega)) ?_
  refine Evs.bind0 rfl (Evs.ite_pos (by simp;omega) (Evs.bind0 rfl (Evs.bind0 rfl (Evs.ite_pos (by simp;omega) ?_))))
  simpa using Evs.some_ _
 refine Evs.ite_neg h8 ?_
 rw [if_neg h8]
 have jt : ∀ b : Bool,b = true → Ev (fun k=>spec_l4One.j0 k s.f0 b s.f0 s.f1 s.f2 s.f3 s.f4 s.f5) [⟨s.f0,s.f1,s.f2,s.f3⟩]:=fun b hb =>
  Evs.succ (fun k=>by simp only [spec_l4One.j0];rfl) (Evs.ite_pos hb (Evs.some_ _))
 unfold leafC
 by_cases n1 : s.f0 = 1
 ·rw [if_neg (by omega),if_neg (by omega),if_pos (by omega)]
  exact Evs.ite_pos n1 (jt _ (by simp [n1]))
 refine Evs.ite_neg n1 ?_
 by_cases n2 : s.f0 = 2
 ·rw [if_neg (by omega),if_neg (by omega),if_pos (by omega)]
  exact Evs.ite_pos n2 (jt _ (by simp [n2]))
 refine Evs.ite_neg n2 ?_
 by_cases n3 : s.f0 = 3
 ·rw [if_neg (by omega),if_neg (by omega),if_pos (by omega)]
  exact Evs.ite_pos n3 (jt _ (by simp [n3]))
 refine Evs.ite_neg n3 ?_
 by_cases n4 : s.f0 = 4
 ·rw [if_neg (by omega),if_neg (by omega),if_pos (by omega)]
  exact Evs.ite_pos n4 (jt _ (by simp [n4]))
 refine Evs.ite_neg n4 ?_
 by_cases n5 : s.f0 = 5
 ·rw [if_neg (by omega),if_neg (by omega),if_pos (by omega)]
  exact jt _ (by simp [n5])
 have e5 : (s.f0 == 5) = false:=by simpa using n5
 rw [e5]
 refine Evs.succ (fun k=>by simp only [spec_l4One.j0];rfl) (Evs.ite_neg (by simp) ?_)
 by_cases n9 : s.f0 = 9
 ·simp only [if_pos n9]
  exact Evs.some_ _
 simp only [if_neg n9]
 by_cases n10 : s.f0 = 10
 ·simp only [if_pos n10]
  exact Evs.some_ _
 have n15 : ¬ (s.f0 = 1 ∨ s.f0 = 2 ∨ s.f0 = 3 ∨ s.f0 = 4 ∨ s.f0 = 5):=by omega
 simp only [if_neg n10,if_neg n15]
 exact Evs.some_ _
theorem cntL_cons (d : Nat) (x : S46) (t : List S46) : cntL (d + 1) (x :: t) = (1 + cntL d x.f4 + cntL d x.f5) + cntL (d + 1) t:=by
 show (List.map _ (x :: t)).sum = _
 rw [List.map_cons,List.sum_cons]
 rfl
theorem cntL_len (d : Nat) : ∀ l : List S46,l.length ≤ cntL (d + 1) l
 | []=>Nat.zero_le _
 | x :: t=>by
  have:=cntL_len d t
  rw [cntL_cons,List.length_cons]
  omega
theorem specOf_ev : ∀ (d : Nat) (l : List S46) (p : Nat),dep d l → p + 2 * cntL d l ≤ 1000 → Ev (fun k=>spec_l4Of.f k l (p : Int)) (codL d l p)
 | 0,l,p,hd,_=>by
  obtain rfl : l = []:=hd
  exact Evs.succ (fun k=>by simp only [spec_l4Of.f];rfl) (Evs.succ (fun k=>by simp only [spec_l4Of.l0];rfl) (Evs.ite_neg (by simp) (Evs.some_ _)))
 | d + 1,l,p,hd,hp=>by
  refine Evs.succ (fun k=>by simp only [spec_l4Of.f];rfl) ?_
  have hd' : ∀ x ∈ l,dep d x.f4 ∧ dep d x.f5:=hd
  have hl:=cntL_len d l
  have key : ∀ (e i : Nat) (out : List S42),i + e = l.length → p + out.length + 2 * cntL (d + 1) (l.drop i) ≤ 1000 → Ev (fun k=>spec_l4Of.l0 k l (p : Int) out (i : Int)) (out ++ seqC (oneC (codL d)) (l.drop i) (p + out.length)):=by
   intro e
   induction e with
   | zero =>
    intro i out hi _
    rw [List.drop_of_length_le (by omega)]
    refine Evs.succ (fun k=>by simp only [spec_l4Of.l0];rfl) (Evs.ite_neg (by omega) ?_)
    simpa [seqC] using Evs.some_ _
   | succ e ih =>
    intro i out hi ho
    have hlt : i < l.length:=by omega
    rw [drop_rd l hlt] at ho ⊢
    rw [cntL_cons] at ho
    obtain ⟨d4,d5⟩:=hd' _ (rd_mem hlt)
    have h1:=specOne_ev d (rd_T46 l (i : Int)) (p + out.length) (fun q hq=>specOf_ev d _ q d4 hq) (fun q hq=>specOf_ev d _ q d5 hq) (by omega)
    have hle:=one_len (codL d) d (codL_len_le d) (rd_T46 l (i : Int)) (p + out.length)
    refine Evs.succ (fun k=>by simp only [spec_l4Of.l0];rfl) (Evs.ite_pos (by omega) (Evs.ite_pos (by omega) ?_))
    rw [show wrap64 ((p : Int) + (out.length : Int)) = ((p + out.length : Nat) : Int) by rw [wrap_id (by omega) (by omega)];omega]
    refine Evs.bind h1 (Evs.ite_pos (by omega) ?_)
    rw [wrap_succ (by omega),seqC,← List.append_assoc]
    have q:=ih (i + 1) (out ++ oneC (codL d) (rd_T46 l (i : Int)) (p + out.length)) (by omega) (by rw [List.length_append];omega)
    rw [List.length_append,← Nat.add_assoc] at q
    exact q
  have q:=key l.length 0 [] (by omega) (by simpa using hp)
  show Ev _ (seqC (oneC (codL d)) l p)
  simpa using q
def PT (h : List S42) (q : List (Nat × Nat)) (c : List S42) (p : Nat) : Prop:=∀ (pre post : List S42) (rest : List (Nat × Nat)),pre.length = p → ptB (q ++ rest) (pre ++ (h ++ post)) = ptB rest (pre ++ (c ++ post))
theorem PT.refl (h : List S42) (p : Nat) : PT h [] h p:=fun _ _ _ _=>rfl
theorem PT.seq {h c e : List S42} {q r : List (Nat × Nat)} {p : Nat} (a : PT h q c p) (b : PT c r e p) : PT h (q ++ r) e p:=fun pre post rest hp=>by
 rw [List.append_assoc,a pre post _ hp,b pre post _ hp]
theorem PT.front {h c : List S42} {q : List (Nat × Nat)} {p m : Nat} (x : List S42) (a : PT h q c m) (hm : m = p + x.length) : PT (x ++ h) q (x ++ c) p:=fun pre post rest hp=>by
 have:=a (pre ++ x) post rest (by rw [List.length_append];omega)
 simpa [List.append_assoc] using this
theorem PT.back {h c : List S42} {q : List (Nat × Nat)} {p : Nat} (a : PT h q c p) (y : List S42) : PT (h ++ y) q (c ++ y) p:=fun pre post rest hp=>by
 have:=a pre (y ++ post) rest hp
 simpa [List.append_assoc] using this
theorem PT.set (i : S42) (p t : Nat) : PT [i] [(p,t)] [⟨i.f0,i.f1,i.f2,(t : Int)⟩] p:=fun pre post rest hp=>by
 subst hp
 have e0 : ∀ c : List S42,ptB ((pre.length,t) :: rest) c = if pre.length < c.length then ptB rest (c.set pre.length ⟨(rd_T42 c (pre.length : Int)).f0,(rd_T42 c (pre.length : Int)).f1,(rd_T42 c (pre.length : Int)).f2,(t : Int)⟩) else none:=fun _=>rfl
 show ptB ((pre.length,t) :: rest) (pre ++ ([i] ++ post)) = _
 rw [e0]
 have e : rd_T42 (pre ++ ([i] ++ post)) ((pre.length : Nat) : Int) = i:=by
  unfold rd_T42
  rw [Int.toNat_natCast,List.getD_eq_getElem?_getD,List.getElem?_append_right (Nat.le_refl _)]
  simp
 rw [if_pos (by simp)]
 simp only [e]
 rw [List.set_append_right _ _ (Nat.le_refl _)]
 simp
theorem emB_ok {s : Cm} {i : S42} (h1 : s.1.length < 1000000000) (h2 : s.2.length < 1000000000) : emB s i = some (s.1 ++ [i],s.2):=if_pos ⟨h1,h2⟩
theorem ltB_ok {s : Cm} {a : Nat} (h1 : s.1.length < 1000000000) (h2 : s.2.length < 1000000000) : ltB s a = some (s.1,s.2 ++ [(a,s.1.length)]):=if_pos ⟨h1,h2⟩
def Cmp1 (F : Nat → Cm → Option Cm) (c : Nat → List S42) (n : Nat) : Prop :=
 ∀ s : Cm,s.1.length + 2 * n ≤ 1000 → s.2.length + 2 * n ≤ 1000 → ∃ h q,Ev (fun k=>F k s) (s.1 ++ h,s.2 ++ q) ∧ h.length = (c s.1.length).length ∧ q.length ≤ 2 * n ∧ PT h q (c s.1.length) s.1.length
theorem one_cmp (d : Nat) (x : S46) (rm : Int) (hok : okS (d + 1) x rm = true) (L : Nat → List S46 → Cm → Option Cm) (h4 : Cmp1 (fun k=>L k x.f4) (codL d x.f4) (cntL d x.f4)) (h5 : Cmp1 (fun k=>L k x.f5) (codL d x.f5) (cntL d x.f5)) :
  Cmp1 (fun k=>cmOne (L k) x) (oneC (codL d) x) (1 + cntL d x.f4 + cntL d x.f5):=by
 intro s b1 b2
 have l4:=codL_len_le d x.f4 (s.1.length + 1)
 have l5:=codL_len_le d x.f5 (s.1.length + 2 + (codL d x.f4 (s.1.length + 1)).length)
 unfold cmOne oneC
 by_cases h6 : x.f0 = 6
 ·simp only [if_pos h6]
  obtain ⟨u,q,e,hu,hq,pt⟩:=h4 (s.1 ++ [(⟨6,x.f1,0,0⟩ : S42)],s.2) (by simp;omega) (by simp;omega)
  have z1 : (s.1 ++ [(⟨6,x.f1,0,0⟩ : S42)]).length = s.1.length + 1:=by simp
  simp only [z1] at hu pt
  obtain ⟨u5,q5,e5,hu5,hq5,pt5⟩:=h5 (s.1 ++ [(⟨6,x.f1,0,0⟩ : S42)] ++ u ++ [(⟨7,0,0,0⟩ : S42)],s.2 ++ q ++ [(s.1.length,s.1.length + 2 + u.length)]) (by simp;omega) (by simp;omega)
  have z2 : (s.1 ++ [(⟨6,x.f1,0,0⟩ : S42)] ++ u ++ [(⟨7,0,0,0⟩ : S42)]).length = s.1.length + 2 + u.length:=by simp;omega
  have z3 : (s.1 ++ [(⟨6,x.f1,0,0⟩ : S42)] ++ u).length = s.1.length + 1 + u.length:=by simp;omega
  have z4 : (s.1 ++ [(⟨6,x.f1,0,0⟩ : S42)] ++ u ++ [(⟨7,0,0,0⟩ : S42)] ++ u5).length = s.1.length + 2 + u.length + u5.length:=by rw [List.length_append,z2]
  simp only [z2] at hu5 pt5
  have l6:=codL_len_le d x.f5 (s.1.length + 2 + u.length)
  refine ⟨⟨6,x.f1,0,0⟩ :: (u ++ ⟨7,0,0,0⟩ :: u5),(q ++ [(s.1.length,s.1.length + 2 + u.length)]) ++ (q5 ++ [(s.1.length + 1 + u.length,s.1.length + 2 + u.length + u5.length)]),?_,?_,by simp;omega,?_⟩
  ·refine Evs.bind0 (emB_ok (by omega) (by omega)) (Evs.bind e (Evs.bind0 (emB_ok (by simp;omega) (by simp;omega)) (Evs.bind0 (ltB_ok (by simp;omega) (by simp;omega)) ?_)))
   simp only [z2]
   refine Evs.bind e5 ?_
   refine Evs.const ?_
   rw [ltB_ok (by simp;omega) (by simp;omega)]
   simp only [z3,z4]
   simp
  ·rw [← hu]
   simp only [List.length_cons,List.length_append]
   omega
  ·rw [← hu,← hu5]
   have s1 : PT (⟨6,x.f1,0,0⟩ :: (u ++ ⟨7,0,0,0⟩ :: u5)) q (⟨6,x.f1,0,0⟩ :: (codL d x.f4 (s.1.length + 1) ++ ⟨7,0,0,0⟩ :: u5)) s.1.length:=PT.front (p:=s.1.length) [(⟨6,x.f1,0,0⟩ : S42)] (pt.back (⟨7,0,0,0⟩ :: u5)) rfl
   have s2:=(PT.set ⟨6,x.f1,0,0⟩ s.1.length (s.1.length + 2 + u.length)).back (codL d x.f4 (s.1.length + 1) ++ ⟨7,0,0,0⟩ :: u5)
   have s3:=PT.front (p:=s.1.length) (⟨6,x.f1,0,((s.1.length + 2 + u.length : Nat) : Int)⟩ :: (codL d x.f4 (s.1.length + 1) ++ [(⟨7,0,0,0⟩ : S42)])) pt5 (by simp [← hu];omega)
   have s4:=PT.front (p:=s.1.length) (⟨6,x.f1,0,((s.1.length + 2 + u.length : Nat) : Int)⟩ :: codL d x.f4 (s.1.length + 1)) ((PT.set ⟨7,0,0,0⟩ (s.1.length + 1 + u.length) (s.1.length + 2 + u.length + u5.length)).back (codL d x.f5 (s.1.length + 2 + u.length))) (by simp [← hu];omega)
   refine PT.seq (c:=⟨6,x.f1,0,((s.1.length + 2 + u.length : Nat) : Int)⟩ :: (codL d x.f4 (s.1.length + 1) ++ ⟨7,0,0,0⟩ :: u5)) (s1.seq ?_) (PT.seq (c:=⟨6,x.f1,0,((s.1.length + 2 + u.length : Nat) : Int)⟩ :: (codL d x.f4 (s.1.length + 1) ++ ⟨7,0,0,0⟩ :: codL d x.f5 (s.1.length + 2 + u.length))) ?_ ?_)
   ·simpa using s2
   ·simpa using s3
   ·simpa using s4
 simp only [if_neg h6]
 by_cases h7 : x.f0 = 7
 ·simp only [if_pos h7]
  obtain ⟨u,q,e,hu,hq,pt⟩:=h4 (s.1 ++ [(⟨6,x.f1,0,0⟩ : S42)],s.2) (by simp;omega) (by simp;omega)
  have z1 : (s.1 ++ [(⟨6,x.f1,0,0⟩ : S42)]).length = s.1.length + 1:=by simp
  simp only [z1] at hu pt
  have z2 : (s.1 ++ [(⟨6,x.f1,0,0⟩ : S42)] ++ u ++ [(⟨7,0,0,(s.1.length : Int)⟩ : S42)]).length = s.1.length + 2 + u.length:=by simp;omega
  refine ⟨⟨6,x.f1,0,0⟩ :: (u ++ [⟨7,0,0,(s.1.length : Int)⟩]),q ++ [(s.1.length,s.1.length + 2 + u.length)],?_,by simp [hu],by simp;omega,?_⟩
  ·refine Evs.bind0 (emB_ok (by omega) (by omega)) (Evs.bind e (Evs.bind0 (emB_ok (by simp;omega) (by simp;omega)) ?_))
   refine Evs.const ?_
   rw [ltB_ok (by simp;omega) (by simp;omega)]
   simp only [z2]
   simp
  ·rw [← hu]
   have s1 : PT (⟨6,x.f1,0,0⟩ :: (u ++ [⟨7,0,0,(s.1.length : Int)⟩])) q (⟨6,x.f1,0,0⟩ :: (codL d x.f4 (s.1.length + 1) ++ [⟨7,0,0,(s.1.length : Int)⟩])) s.1.length:=PT.front (p:=s.1.length) [(⟨6,x.f1,0,0⟩ : S42)] (pt.back [⟨7,0,0,(s.1.length : Int)⟩]) rfl
   have s2:=(PT.set ⟨6,x.f1,0,0⟩ s.1.length (s.1.length + 2 + u.length)).back (codL d x.f4 (s.1.length + 1) ++ [⟨7,0,0,(s.1.length : Int)⟩])
   refine s1.seq ?_
   simpa using s2
 simp only [if_neg h7]
 by_cases h8 : x.f0 = 8
 ·simp only [if_pos h8]
  obtain ⟨u,q,e,hu,hq,pt⟩:=h4 (s.1 ++ [(⟨8,x.f1,0,0⟩ : S42)],s.2) (by simp;omega) (by simp;omega)
  have z1 : (s.1 ++ [(⟨8,x.f1,0,0⟩ : S42)]).length = s.1.length + 1:=by simp
  simp only [z1] at hu pt
  have s1 : PT (⟨8,x.f1,0,0⟩ :: (u ++ [⟨9,x.f1,0,0⟩])) q (⟨8,x.f1,0,0⟩ :: (codL d x.f4 (s.1.length + 1) ++ [⟨9,x.f1,0,0⟩])) s.1.length:=PT.front (p:=s.1.length) [(⟨8,x.f1,0,0⟩ : S42)] (pt.back [⟨9,x.f1,0,0⟩]) rfl
  refine ⟨⟨8,x.f1,0,0⟩ :: (u ++ [⟨9,x.f1,0,0⟩]),q,?_,by simp [hu],by omega,s1⟩
  refine Evs.bind0 (emB_ok (by omega) (by omega)) (Evs.bind e ?_)
  refine Evs.const ?_
  rw [emB_ok (by simp;omega) (by simp;omega)]
  simp
 simp only [if_neg h8]
 have hleaf : (⟨smp x.f0,x.f1,x.f2,x.f3⟩ : S42) = leafC x:=by
  rw [okS_succ,if_neg h6] at hok
  by_cases e5 : x.f5.length = 0
  ·rw [if_pos e5,if_neg h7,if_neg h8,Bool.and_eq_true] at hok
   have ho:=hok.2
   unfold leafOk at ho
   unfold leafC smp
   by_cases n1 : x.f0 = 1
   ·simp [n1]
   by_cases n2 : x.f0 = 2
   ·simp [n2]
   by_cases n3 : x.f0 = 3
   ·simp [n3]
   by_cases n4 : x.f0 = 4
   ·simp [n4]
   by_cases n5 : x.f0 = 5
   ·simp [n5]
   simp only [n1,n2,n3,n4,n5,if_false] at ho
   by_cases n9 : x.f0 = 9
   ·rw [if_pos n9] at ho
    simp only [Bool.and_eq_true,decide_eq_true_eq] at ho
    simp [n9,ho.2.2.1,ho.2.2.2]
   rw [if_neg n9] at ho
   by_cases n10 : x.f0 = 10
   ·rw [if_pos n10] at ho
    simp only [Bool.and_eq_true,decide_eq_true_eq] at ho
    simp [n10,ho.2.1,ho.2.2]
   rw [if_neg n10] at ho
   by_cases n11 : x.f0 = 11
   ·rw [if_pos n11] at ho
    simp only [Bool.and_eq_true,decide_eq_true_eq] at ho
    simp [n11,ho.1,ho.2.1,ho.2.2]
   rw [if_neg n11] at ho
   cases ho
  ·rw [if_neg e5] at hok
   cases hok
 rw [hleaf]
 exact ⟨[leafC x],[],Evs.const (by rw [emB_ok (by omega) (by omega)];simp),rfl,Nat.zero_le _,PT.refl _ _⟩
theorem list_cmp (d : Nat) (T : Nat → S46 → Cm → Option Cm) : ∀ (l : List S46),(∀ x ∈ l,Cmp1 (fun k=>T k x) (oneC (codL d) x) (1 + cntL d x.f4 + cntL d x.f5)) → Cmp1 (fun k=>cmL (T k) l) (seqC (oneC (codL d)) l) (cntL (d + 1) l)
 | [],_=>fun s _ _=>⟨[],[],by show Ev (fun _=>some s) _;simpa using Evs.some_ s,rfl,Nat.zero_le _,PT.refl _ _⟩
 | x :: t,h=>fun s b1 b2=>by
  rw [cntL_cons] at b1 b2
  obtain ⟨u,q,e,hu,hq,pt⟩:=h x (List.mem_cons_self ..) s (by omega) (by omega)
  have hle:=one_len (codL d) d (codL_len_le d) x s.1.length
  obtain ⟨v,r,e2,hv,hr,pt2⟩:=list_cmp d T t (fun y hy=>h y (List.mem_cons_of_mem _ hy)) (s.1 ++ u,s.2 ++ q) (by simp;omega) (by simp;omega)
  have z : (s.1 ++ u).length = s.1.length + (oneC (codL d) x s.1.length).length:=by rw [List.length_append,hu]
  simp only [z] at hv pt2
  refine ⟨u ++ v,q ++ r,Evs.bind e (by simpa [List.append_assoc] using e2),?_,?_,?_⟩
  ·rw [seqC,List.length_append,List.length_append,hu,hv]
  ·rw [cntL_cons,List.length_append];omega
  ·rw [seqC]
   exact (pt.back v).seq (pt2.front _ rfl)
theorem cmK_cmp : ∀ (d : Nat) (l : List S46) (rm : Int),(∀ x ∈ l,okS d x rm = true) → Cmp1 (fun k=>cmK k l) (codL d l) (cntL d l)
 | 0,[],_,_=>fun s _ _=>⟨[],[],Evs.succ (f:=fun _=>some s) (fun k=>rfl) (by simpa using Evs.some_ s),rfl,Nat.zero_le _,PT.refl _ _⟩
 | 0,x :: t,_,h=>by cases h x (List.mem_cons_self ..)
 | d + 1,l,rm,h=>fun s b1 b2=>by
  have hk : ∀ x ∈ l,Cmp1 (fun k=>cmOne (cmK k) x) (oneC (codL d) x) (1 + cntL d x.f4 + cntL d x.f5):=fun x hx=>by
   obtain ⟨m,h4,h5⟩:=okS_kids2 (h x hx)
   exact one_cmp d x rm (h x hx) cmK (cmK_cmp d x.f4 m h4) (cmK_cmp d x.f5 m h5)
  obtain ⟨u,q,e,r⟩:=list_cmp d (fun k=>cmOne (cmK k)) l hk s b1 b2
  exact ⟨u,q,Evs.succ (fun k=>rfl) e,r⟩
def codeV (l : List S46) : List S42:=if okLst l = true then codF l else []
theorem cnt14 {l : List S46} (h : okLst l = true) (hc : cntL 3 l ≤ 5000000000000000) : cntL 3 l ≤ 14:=by
 unfold okLst at h
 rw [Bool.and_eq_true,decide_eq_true_eq,wrap_id (by omega) (by omega)] at h
 omega
theorem implCode_ev {l : List S46} (hc : cntL 3 l ≤ 5000000000000000) : Ev (fun k=>impl_CodeOf.f k l) (codeV l):=by
 unfold impl_CodeOf.f codeV
 refine Evs.bind (implOk l) ?_
 cases c : okLst l with
 | false=>exact Evs.ite_neg (by simp) (Evs.some_ _)
 | true =>
  have h14:=cnt14 c hc
  have hok:=okLst_list c
  unfold okList at hok
  rw [List.all_eq_true] at hok
  obtain ⟨u,q,e,hu,hq,pt⟩:=cmK_cmp 3 l (-1) hok ([],[]) (by simp;omega) (by simp;omega)
  refine Evs.ite_pos rfl ?_
  refine Evs.bind (b:=codF l) ?_ (Evs.some_ _)
  unfold impl_codeOf.f
  refine Evs.bind e ?_
  simp only [List.nil_append]
  have hl:=codL_len_le 3 l 0
  refine Evs.bind0 (emB_ok (by simp only [];rw [hu];simp;omega) (by simp only [];omega)) ?_
  have p:=pt [] [⟨13,0,0,0⟩] [] rfl
  simp only [List.append_nil,List.nil_append,List.length_nil] at p
  exact Evs.const p
theorem specCode_ev {l : List S46} (h : SL 3 l) (hc : cntL 3 l ≤ 5000000000000000) : Ev (fun k=>spec_CodeOf.f k l) (codeV l):=by
 unfold spec_CodeOf.f codeV
 refine Evs.bind (specOk h) ?_
 cases c : okLst l with
 | false=>exact Evs.ite_neg (by simp) (Evs.some_ _)
 | true =>
  have h14:=cnt14 c hc
  have e:=specOf_ev 3 l 0 (dep3 (okLst_list c)) (by omega)
  have hl:=codL_len_le 3 l 0
  refine Evs.ite_pos rfl (Evs.bind e (Evs.ite_pos (by omega) (Evs.some_ _)))
theorem smL_cnt {ts : List S46} (h : SmL ts) : cntL 3 ts ≤ 5000000000000000:=cnt3 (smL_sl h 2) (by have:=h.1;omega)
theorem codeV_no {ts : List S46} (h : okLst ts = false) : codeV ts = []:=if_neg (by rw [h];simp)
theorem codeV_ok {ts : List S46} (h : okLst ts = true) : codeV ts = codF ts:=if_pos h
theorem codF_le {ts : List S46} (h : okLst ts = true) (hc : cntL 3 ts ≤ 5000000000000000) : (codF ts).length ≤ 29:=by
 have h14:=cnt14 h hc
 have:=codL_len_le 3 ts 0
 rw [codF_len]
 omega
theorem codeV_le {ts : List S46} (hc : cntL 3 ts ≤ 5000000000000000) : (codeV ts).length ≤ 29:=by
 cases h : okLst ts with
 | true=>rw [codeV_ok h];exact codF_le h hc
 | false=>rw [codeV_no h];simp
theorem bentJ_ev {xs : List Int} (hb : Buf xs) (c : List S42) (hc : c.length ≤ 29) (hz : ¬ (c.length : Int) = 0) (p : Int) (p0 : 0 ≤ p) (p1 : p ≤ 100000000000) :
  ∃ (c' : List S42) (p' : Int),c'.length ≤ 30 ∧ Ev (fun k=>spec_l4Bent.j0 k c false xs p) (c',p'):=by
 obtain ⟨i,hi,hr,_⟩:=pick_ev (n:=(c.length : Int)) hb p0 (by omega)
 obtain ⟨i0,i1⟩:=hr (by omega)
 obtain ⟨v,hv,_⟩:=pick_ev (n:=6) hb (p:=p + 1) (by omega) (by omega)
 have i2 : i ≤ (c.length : Int):=by omega
 have ew : wrap64 (i + 1) = i + 1:=wrap_id (by omega) (by omega)
 have f0 : 0 ≤ wrap64 (i + 1):=by rw [ew];omega
 have f1 : wrap64 (i + 1) ≤ (c.length : Int):=by rw [ew];omega
 have e1 : ([] : List S42).length + (c.take i.toNat).length < 4398046511104:=by simp only [List.length_take,List.length_nil];omega
 have e2 : ([] ++ c.take i.toNat : List S42).length + ([⟨(rd_T42 c i).f0,(rd_T42 c i).f1,(rd_T42 c i).f2,(rd_T42 c i).f3⟩] : List S42).length < 4398046511104:=by simp only [List.length_append,List.length_take,List.length_nil,List.length_cons];omega
 have e3 : (([] ++ c.take i.toNat) ++ [⟨(rd_T42 c i).f0,(rd_T42 c i).f1,(rd_T42 c i).f2,(rd_T42 c i).f3⟩] : List S42).length + (c.drop i.toNat).length < 4398046511104:=by simp only [List.length_append,List.length_take,List.length_drop,List.length_nil,List.length_cons];omega
 have e4 : ([] ++ c.take i.toNat : List S42).length + (c.drop (wrap64 (i + 1)).toNat).length < 4398046511104:=by simp only [List.length_append,List.length_take,List.length_drop,List.length_nil];omega
 by_cases k0 : v = 0
 ·obtain ⟨a,_,ha⟩:=num_ev (l:=[0,14,8,9,10,13,-1]) hb (p:=p + 1 + 1) (by omega) (by omega) (by simp) (by simp)
  refine ⟨_,_,?_,Evs.succ (fun k=>by simp only [spec_l4Bent.j0];rfl) (Evs.ite_neg (by simp) (Evs.bind hi (Evs.bind hv (Evs.ite_pos k0 (Evs.bind ha (Evs.ite_pos i0 (Evs.ite_pos i1 (Evs.some_ _))))))))⟩
  rw [List.length_set];omega
 by_cases k1 : v = 1
 ·obtain ⟨a,_,ha⟩:=num_ev (l:=[-1,2,3,0]) hb (p:=p + 1 + 1) (by omega) (by omega) (by simp) (by simp)
  refine ⟨_,_,?_,Evs.succ (fun k=>by simp only [spec_l4Bent.j0];rfl) (Evs.ite_neg (by simp) (Evs.bind hi (Evs.bind hv (Evs.ite_neg k0 (Evs.ite_pos k1 (Evs.bind ha (Evs.ite_pos i0 (Evs.ite_pos i1 (Evs.some_ _)))))))))⟩
  rw [List.length_set];omega
 by_cases k2 : v = 2
 ·obtain ⟨a,_,ha⟩:=num_ev (l:=[-1,0,(c.length : Int),wrap64 ((c.length : Int) - 1),5]) hb (p:=p + 1 + 1) (by omega) (by omega) (by simp) (by simp)
  refine ⟨_,_,?_,Evs.succ (fun k=>by simp only [spec_l4Bent.j0];rfl) (Evs.ite_neg (by simp) (Evs.bind hi (Evs.bind hv (Evs.ite_neg k0 (Evs.ite_neg k1 (Evs.ite_pos k2 (Evs.bind ha (Evs.ite_pos i0 (Evs.ite_pos i1 (Evs.some_ _))))))))))⟩
  rw [List.length_set];omega
 by_cases k3 : v = 3
 ·refine ⟨_,_,?_,Evs.succ (fun k=>by simp only [spec_l4Bent.j0];rfl) (Evs.ite_neg (by simp) (Evs.bind hi (Evs.bind hv (Evs.ite_neg k0 (Evs.ite_neg k1 (Evs.ite_neg k2 (Evs.ite_pos k3 (Evs.ite_pos i0 (Evs.ite_pos i2 (Evs.some_ _))))))))))⟩
  rw [List.length_take];omega
 by_cases k4 : v = 4
 ·refine ⟨_,_,?_,Evs.succ (fun k=>by simp only [spec_l4Bent.j0];rfl) (Evs.ite_neg (by simp) (Evs.bind hi (Evs.bind hv (Evs.ite_neg k0 (Evs.ite_neg k1 (Evs.ite_neg k2 (Evs.ite_neg k3 (Evs.ite_pos k4 (Evs.bind0 rfl (Evs.ite_pos i0 (Evs.ite_pos i2 (Evs.bind0 rfl (Evs.ite_pos e1 (Evs.bind0 rfl (Evs.ite_pos i1 (Evs.bind0 rfl (Evs.ite_pos e2 (Evs.bind0 rfl (Evs.bind0 rfl (Evs.ite_pos e3 (Evs.some_ _)))))))))))))))))))))⟩
  simp only [List.length_append,List.length_take,List.length_drop,List.length_nil,List.length_cons];omega
 refine ⟨_,_,?_,Evs.succ (fun k=>by simp only [spec_l4Bent.j0];rfl) (Evs.ite_neg (by simp) (Evs.bind hi (Evs.bind hv (Evs.ite_neg k0 (Evs.ite_neg k1 (Evs.ite_neg k2 (Evs.ite_neg k3 (Evs.ite_neg k4 (Evs.bind0 rfl (Evs.ite_pos i0 (Evs.ite_pos i2 (Evs.bind0 rfl (Evs.ite_pos e1 (Evs.bind0 rfl (Evs.ite_pos f0 (Evs.ite_pos f1 (Evs.bind0 rfl (Evs.ite_pos e4 (Evs.some_ _)))))))))))))))))))⟩
 rw [ew];simp only [List.length_append,List.length_take,List.length_drop,List.length_nil];omega
theorem bentC_ev {xs : List Int} (hb : Buf xs) (c : List S42) (hc : c.length ≤ 29) (p : Int) (p0 : 0 ≤ p) (p1 : p ≤ 10000000000) :
  ∃ (c' : List S42) (p' : Int),c'.length ≤ 30 ∧ Ev (fun k=>spec_l4Bent.f k xs p c) (c',p'):=by
 have same : ∀ q,Ev (fun k=>spec_l4Bent.j0 k c true xs q) (c,q):=fun q=>by
  refine Evs.succ (fun k=>by simp only [spec_l4Bent.j0];rfl) ?_
  exact Evs.ite_pos (by trivial) (Evs.some_ _)
 unfold spec_l4Bent.f
 by_cases hz : (c.length : Int) = 0
 ·exact ⟨c,p,by omega,Evs.bind0 rfl (Evs.ite_pos (by simp only [List.length_nil];omega) (Evs.bind0 rfl (Evs.ite_pos hz (same p))))⟩
 obtain ⟨a,ha,_⟩:=pick_ev (n:=3) hb p0 (by omega)
 by_cases g : a > 0
 ·exact ⟨c,p + 1,by omega,Evs.bind0 rfl (Evs.ite_pos (by simp only [List.length_nil];omega) (Evs.bind0 rfl (Evs.ite_neg hz (Evs.bind ha (by rw [decide_eq_true g];exact same (p + 1))))))⟩
 obtain ⟨c',p',h1,h2⟩:=bentJ_ev hb c hc hz (p + 1) (by omega) (by omega)
 exact ⟨c',p',h1,Evs.bind0 rfl (Evs.ite_pos (by simp only [List.length_nil];omega) (Evs.bind0 rfl (Evs.ite_neg hz (Evs.bind ha (by rw [decide_eq_false g];exact h2)))))⟩
theorem drawOk_ev {l : List Int} (h : ∀ x ∈ l,(Lit.int .u8 x).wf = true) : ∃ c : List S42,c.length ≤ 30 ∧ Ev (fun k=>spec_DrawCodeOk.f k l) c:=by
 obtain ⟨ys,ho,hb⟩:=open_eq l
 have hb:=hb h
 obtain ⟨ts,q,s0,s1,s2,q1,q2,e0⟩:=some_ev hb 0 (by omega) (by omega)
 have ht : SmL ts:=⟨by omega,s1⟩
 have hc:=smL_cnt ht
 obtain ⟨c',p',h1,h2⟩:=bentC_ev hb (codeV ts) (codeV_le hc) q (by omega) (by omega)
 refine ⟨c',h1,?_⟩
 unfold spec_DrawCodeOk.f
 exact Evs.bind0 ho (Evs.bind e0 (Evs.bind (specCode_ev (smL_sl ht 3) hc) (Evs.bind h2 (Evs.some_ _))))
end Go.Proofs.Ytphbdoljkpdflaa.P
