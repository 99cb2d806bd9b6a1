/- The two checks of code come to one: each instruction by itself, and the rooms, by the same ways; code whose rooms fit is right; no condition but that code is no giant. -/
import Derived.Test.YtphbdoljkpdflaaZFnCodeEnd22
import Derived.Test.YtphbdoljkpdflaaZFnCodeEnd6
import Derived.Test.YtphbdoljkpdflaaZFnCodeEnd14
import Derived.Test.YtphbdoljkpdflaaZFnCodeEnd11
namespace Go.Proofs.Ytphbdoljkpdflaa.P
open Go.RowKit Go.Proofs.YtphbdoljkpdflaaW.PrintWords Go.Proofs.YtphbdoljkpdflaaW.PrintMore
set_option linter.unusedVariables false
set_option linter.unusedSimpArgs false
theorem rd_get {xs : List Int} {i : Nat} (h : i < xs.length) : rd xs (i : Int) = xs[i]:=by
 unfold rd
 rw [Int.toNat_natCast,List.getD_eq_getElem?_getD,List.getElem?_eq_getElem h]
 rfl
theorem rd_set_same {xs : List Int} {i : Nat} (h : i < xs.length) (v : Int) : rd (xs.set i v) (i : Int) = v:=by
 rw [rd_get (by simpa using h)]
 simp
theorem rd_set_ne {xs : List Int} {i j : Nat} (h : i ≠ j) (v : Int) : rd (xs.set i v) (j : Int) = rd xs (j : Int):=by
 unfold rd
 rw [Int.toNat_natCast,List.getD_eq_getElem?_getD,List.getD_eq_getElem?_getD,List.getElem?_set,if_neg h]
def OkI (c : List S42) (j : Nat) : Prop:=insB (rd_T42 c j).f0 (rd_T42 c j).f1 (rd_T42 c j).f2 (rd_T42 c j).f3 (c.length : Int) = true ∧ ((rd_T42 c j).f0 = 13 ↔ j + 1 = c.length)
theorem mov_range {i : S42} {n rm : Int} (h : insB i.f0 i.f1 i.f2 i.f3 n = true) (h1 : -1 ≤ rm) (h2 : rm ≤ 1) : -1 ≤ (movI i rm).1 ∧ (movI i rm).1 ≤ 1:=by
 unfold movI
 by_cases h8 : i.f0 = 8
 ·rw [if_pos h8]
  unfold insB at h
  rw [h8] at h
  simp only [Bool.and_eq_true] at h
  have:=h.2.1
  rw [show gmA 8 = 2 from rfl,fit_pos (by omega)] at this
  unfold inR at this
  simp only [Bool.and_eq_true,decide_eq_true_eq] at this
  simp only []
  omega
 rw [if_neg h8]
 by_cases h9 : i.f0 = 9
 ·rw [if_pos h9];simp
 rw [if_neg h9]
 by_cases h10 : i.f0 = 10
 ·rw [if_pos h10];exact ⟨h1,h2⟩
 rw [if_neg h10]
 by_cases h13 : i.f0 = 13
 ·rw [if_pos h13];exact ⟨h1,h2⟩
 rw [if_neg h13];exact ⟨h1,h2⟩
theorem suc_range {c : List S42} {j : Nat} (h : OkI c j) (hj : j < c.length) : ∀ t ∈ sucI (rd_T42 c j) j,0 ≤ t ∧ t < (c.length : Int):=by
 intro t ht
 obtain ⟨h1,h2⟩:=h
 generalize rd_T42 c j = i at *
 unfold sucI at ht
 unfold insB at h1
 simp only [Bool.and_eq_true] at h1
 by_cases h13 : i.f0 = 13
 ·rw [if_pos h13] at ht;cases ht
 rw [if_neg h13] at ht
 have hj1 : j + 1 < c.length:=by
  have : ¬ j + 1 = c.length:=fun e=>h13 (h2.2 e)
  omega
 have hx : gmX i.f0 = true → 0 ≤ i.f3 ∧ i.f3 < (c.length : Int):=by
  intro hx
  have:=h1.2.2.2
  unfold insN at this
  rw [if_pos hx] at this
  simpa using this
 by_cases h7 : i.f0 = 7
 ·rw [if_pos h7] at ht
  obtain rfl:=List.mem_singleton.1 ht
  exact hx (by unfold gmX;simp [h7])
 rw [if_neg h7] at ht
 by_cases h6 : i.f0 = 6
 ·rw [if_pos h6] at ht
  rcases List.mem_cons.1 ht with rfl | ht
  ·omega
  ·obtain rfl:=List.mem_singleton.1 ht
   exact hx (by unfold gmX;simp [h6])
 rw [if_neg h6] at ht
 obtain rfl:=List.mem_singleton.1 ht
 omega
theorem moves_eq (i : S42) (rm : Int) : impl_Ins_moves.f i.f0 i.f1 i.f2 i.f3 rm = some (movI i rm):=by
 unfold impl_Ins_moves.f movI
 have e1 : (rm == -1) = decide (rm = -1):=rfl
 have e2 : (rm == i.f1) = decide (rm = i.f1):=rfl
 have e3 : (rm != -1) = decide (rm ≠ -1):=by simp [bne];rfl
 rw [e1,e2,e3]
 repeat' split
 all_goals rfl
theorem suc_eq (i : S42) (j : Nat) (hj : j < 1000) : impl_Ins_successors.f i.f0 i.f1 i.f2 i.f3 (j : Int) = some (sucI i j):=by
 unfold impl_Ins_successors.f sucI
 rw [wrap_succ (by omega)]
 repeat' split
 all_goals rfl
theorem next_eq (c : List S42) (j : Nat) (hj : j < c.length) (hc : j < 1000) : spec_l4Next.f c (j : Int) = some (sucI (rd_T42 c j) j):=by
 unfold spec_l4Next.f sucI
 rw [if_pos (by omega),if_pos (by omega),wrap_succ (by omega)]
 repeat' split
 all_goals rfl
theorem held_eq {i : S42} {n rm : Int} (h : insB i.f0 i.f1 i.f2 i.f3 n = true) (h1 : -1 ≤ rm) (h2 : rm ≤ 1) : ∃ x,spec_l4Held.f i.f0 i.f1 i.f2 i.f3 (rm + 1) = some (x,(movI i rm).2) ∧ (i.f0 ≠ 13 → x = (movI i rm).1 + 1):=by
 have hA : i.f0 = 8 ∨ i.f0 = 9 → 0 ≤ i.f1 ∧ i.f1 < 2:=by
  intro h89
  unfold insB at h
  simp only [Bool.and_eq_true] at h
  have:=h.2.1
  have e : gmA i.f0 = 2:=by unfold gmA;rw [if_neg (by omega),if_pos (by omega)]
  rw [e,fit_pos (by omega)] at this
  unfold inR at this
  simpa using this
 unfold spec_l4Held.f movI
 have b1 : (rm + 1 == 0) = decide (rm = -1):=by rw [Bool.eq_iff_iff];simp;omega
 have b3 : decide (rm + 1 > 0) = decide (rm ≠ -1):=by rw [decide_eq_decide];omega
 by_cases h8 : i.f0 = 8
 ·have:=hA (.inl h8)
  rw [if_pos h8,if_pos h8,wrap_id (by omega) (by omega),b1]
  exact ⟨_,rfl,fun _=>rfl⟩
 rw [if_neg h8,if_neg h8]
 by_cases h9 : i.f0 = 9
 ·have:=hA (.inr h9)
  have b2 : (rm + 1 == i.f1 + 1) = decide (rm = i.f1):=by rw [Bool.eq_iff_iff];simp
  rw [if_pos h9,if_pos h9,wrap_id (by omega) (by omega),b2]
  exact ⟨_,rfl,fun _=>rfl⟩
 rw [if_neg h9,if_neg h9]
 by_cases h10 : i.f0 = 10
 ·rw [if_pos h10,if_pos h10,b3]
  exact ⟨_,rfl,fun _=>rfl⟩
 rw [if_neg h10,if_neg h10]
 by_cases h13 : i.f0 = 13
 ·rw [if_pos h13,if_pos h13,b1]
  exact ⟨_,rfl,fun h=>absurd h13 h⟩
 rw [if_neg h13,if_neg h13]
 exact ⟨_,rfl,fun _=>rfl⟩
structure BInv (c : List S42) (rooms pend : List Int) : Prop where
 len : rooms.length = c.length
 rng : ∀ v ∈ rooms,-2 ≤ v ∧ v ≤ 1
 pend : ∀ p ∈ pend,0 ≤ p ∧ p < (c.length : Int) ∧ rd rooms p ≠ -2
def LabOk (c : List S42) (rooms : List Int) : Prop:=∀ j : Nat,j < c.length → rd rooms (j : Int) = -2 ∨ rd rooms (j : Int) = labI c j
def Both (c : List S42) (rooms todo : List Int) (x7 : Nat) : Prop :=
 ∃ b : Bool,Ev (fun k=>impl_roomsOk.l0 k c rooms (todo.drop x7)) b ∧ (∃ rs,Ev (fun k=>spec_l4Rooms.l1 k c (rooms.map (· + 1)) todo (x7 : Int)) (rs,b)) ∧ ((∀ j,j < c.length → FitI c 0 c.length j) → LabOk c rooms → b = true)
theorem rd_map1 (xs : List Int) (i : Nat) (h : i < xs.length) : rd (xs.map (· + 1)) (i : Int) = rd xs (i : Int) + 1:=by
 rw [rd_get (by simpa using h),rd_get h]
 simp
theorem rd_rng {c : List S42} {rooms pend : List Int} (h : BInv c rooms pend) {i : Nat} (hi : i < c.length) : -2 ≤ rd rooms (i : Int) ∧ rd rooms (i : Int) ≤ 1:=by
 rw [rd_get (by rw [h.len];exact hi)]
 exact h.rng _ (List.getElem_mem _)
theorem inner_loop (c : List S42) (hc : c.length ≤ 60) (x7 : Nat) (hx : x7 < 1000) (room : Int) (hr1 : -1 ≤ room) (hr2 : room ≤ 1) (ss : List Int) (hs : ∀ t ∈ ss,0 ≤ t ∧ t < (c.length : Int)) (hsl : ss.length ≤ 2) (N : Nat)
  (hgo : ∀ rooms todo,x7 < todo.length → BInv c rooms (todo.drop (x7 + 1)) → todo.length + rooms.count (-2) ≤ 1000 → (todo.drop (x7 + 1)).length + rooms.count (-2) ≤ N → Both c rooms todo (x7 + 1)) :
  ∀ (d j : Nat),j + d = ss.length → ∀ rooms todo,x7 < todo.length → BInv c rooms (todo.drop (x7 + 1)) → todo.length + rooms.count (-2) ≤ 1000 → (todo.drop (x7 + 1)).length + rooms.count (-2) ≤ N →
   ∃ b : Bool,Ev (fun k=>impl_roomsOk.l1 k c rooms (todo.drop (x7 + 1)) room ss (ss.length : Int) (j : Int)) b ∧ (∃ rs,Ev (fun k=>spec_l4Rooms.l2 k c (rooms.map (· + 1)) todo (x7 : Int) (room + 1) ss (j : Int)) (rs,b)) ∧
    ((∀ j,j < c.length → FitI c 0 c.length j) → LabOk c rooms → (∀ t ∈ ss,∃ n : Nat,t = (n : Int) ∧ labI c n = room) → b = true):=by
 intro d
 induction d with
 | zero =>
  intro j hj rooms todo hlt hI hT hN
  obtain ⟨b,h1,⟨rs,h2⟩,h3⟩:=hgo rooms todo hlt hI hT hN
  refine ⟨b,?_,⟨rs,?_⟩,fun hf hl _=>h3 hf hl⟩
  ·exact Evs.succ (fun k=>by simp only [impl_roomsOk.l1];rfl) (Evs.ite_neg (by omega) h1)
  ·refine Evs.succ (fun k=>by simp only [spec_l4Rooms.l2];rfl) (Evs.ite_neg (by omega) ?_)
   rw [wrap_succ (by omega)]
   exact h2
 | succ d ih =>
  intro j hj rooms todo hlt hI hT hN
  have hjl : j < ss.length:=by omega
  have hmem : rd ss (j : Int) ∈ ss:=by rw [rd_get hjl];exact List.getElem_mem _
  obtain ⟨t0,t1⟩:=hs _ hmem
  obtain ⟨t,ht⟩:=Int.eq_ofNat_of_zero_le t0
  have htc : t < c.length:=by rw [ht] at t1;omega
  have htl : t < rooms.length:=by rw [hI.len];exact htc
  obtain ⟨q0,q1⟩:=rd_rng hI htc
  have hm1:=rd_map1 rooms t htl
  by_cases hu : rd rooms (t : Int) = -2
  ·-- not known yet
   have hset : (rooms.set t room).map (· + 1) = (rooms.map (· + 1)).set t (room + 1):=by rw [List.map_set]
   have hcnt : (rooms.set t room).count (-2) + 1 = rooms.count (-2):=by
    have e:=List.count_set (b:=(-2 : Int)) (a:=room) htl
    have hg : rooms[t] = -2:=by rw [← rd_get htl];exact hu
    have hp : 0 < rooms.count (-2):=List.count_pos_iff.2 (by rw [← hg];exact List.getElem_mem _)
    rw [hg,if_pos (by simp),if_neg (by simpa using (show room ≠ -2 by omega))] at e
    omega
   have hdrop : (todo ++ [(t : Int)]).drop (x7 + 1) = todo.drop (x7 + 1) ++ [(t : Int)]:=by rw [List.drop_append_of_le_length (by omega)]
   have hI2 : BInv c (rooms.set t room) ((todo ++ [(t : Int)]).drop (x7 + 1)):=by
    refine ⟨by rw [List.length_set];exact hI.len,fun v hv=>?_,fun p hp=>?_⟩
    ·rcases List.mem_or_eq_of_mem_set hv with hv | rfl
     ·exact hI.rng v hv
     ·omega
    ·rw [hdrop] at hp
     have key : ∀ q : Nat,q < c.length → rd rooms (q : Int) ≠ -2 ∨ q = t → rd (rooms.set t room) (q : Int) ≠ -2:=by
      intro q hq hh
      by_cases e : t = q
      ·subst e
       rw [rd_set_same htl]
       omega
      ·rw [rd_set_ne e]
       rcases hh with hh | hh
       ·exact hh
       ·exact absurd hh.symm e
     rcases List.mem_append.1 hp with hp | hp
     ·obtain ⟨a,b,h⟩:=hI.pend p hp
      obtain ⟨q,rfl⟩:=Int.eq_ofNat_of_zero_le a
      exact ⟨a,b,key q (by omega) (.inl h)⟩
     ·obtain rfl:=List.mem_singleton.1 hp
      exact ⟨by omega,by omega,key t htc (.inr rfl)⟩
   obtain ⟨b,h1,⟨rs,h2⟩,h3⟩:=ih (j + 1) (by omega) (rooms.set t room) (todo ++ [(t : Int)]) (by simp;omega) hI2 (by simp;omega) (by rw [hdrop,List.length_append,List.length_singleton];omega)
   refine ⟨b,?_,⟨rs,?_⟩,fun hf hl hss=>h3 hf ?_ hss⟩
   ·refine Evs.succ (fun k=>by simp only [impl_roomsOk.l1];rfl) (Evs.ite_pos (by omega) (Evs.ite_pos (by omega) (Evs.ite_pos (by omega) ?_)))
    rw [ht]
    refine Evs.ite_pos (by omega) (Evs.ite_pos (by omega) (Evs.ite_pos hu (Evs.ite_pos (by rw [List.length_drop];omega) ?_)))
    rw [Int.toNat_natCast,wrap_succ (by omega),← hdrop]
    exact h1
   ·refine Evs.succ (fun k=>by simp only [spec_l4Rooms.l2];rfl) (Evs.ite_pos (by omega) (Evs.ite_pos (by omega) ?_))
    rw [ht]
    refine Evs.ite_pos (by omega) (Evs.ite_pos (by simp;omega) (Evs.ite_pos (by omega) (Evs.bind0 rfl (Evs.ite_pos (by omega) ?_))))
    rw [Int.toNat_natCast,← hset]
    have e : rd ((rooms.set t room).map (· + 1)) (t : Int) = room + 1:=by rw [rd_map1 _ _ (by simpa using htl),rd_set_same htl]
    refine Evs.ite_pos e ?_
    rw [wrap_succ (by omega)]
    exact h2
   ·intro i hi
    by_cases e : t = i
    ·subst e
     right
     rw [rd_set_same htl]
     obtain ⟨n,hn,hlab⟩:=hss _ hmem
     rw [ht] at hn
     obtain rfl : t = n:=by omega
     exact hlab.symm
    ·rw [rd_set_ne e]
     exact hl i hi
  ·by_cases he : rd rooms (t : Int) = room
   ·obtain ⟨b,h1,⟨rs,h2⟩,h3⟩:=ih (j + 1) (by omega) rooms todo hlt hI hT hN
    refine ⟨b,?_,⟨rs,?_⟩,h3⟩
    ·refine Evs.succ (fun k=>by simp only [impl_roomsOk.l1];rfl) (Evs.ite_pos (by omega) (Evs.ite_pos (by omega) (Evs.ite_pos (by omega) ?_)))
     rw [ht]
     refine Evs.ite_pos (by omega) (Evs.ite_pos (by omega) (Evs.ite_neg hu (Evs.ite_pos he ?_)))
     rw [wrap_succ (by omega)]
     exact h1
    ·refine Evs.succ (fun k=>by simp only [spec_l4Rooms.l2];rfl) (Evs.ite_pos (by omega) (Evs.ite_pos (by omega) ?_))
     rw [ht]
     refine Evs.ite_pos (by omega) (Evs.ite_pos (by simp;omega) (Evs.ite_neg (by omega) (Evs.ite_pos (by omega) ?_)))
     rw [wrap_succ (by omega)]
     exact h2
   ·refine ⟨false,?_,⟨rooms.map (· + 1),?_⟩,fun hf hl hss=>?_⟩
    ·refine Evs.succ (fun k=>by simp only [impl_roomsOk.l1];rfl) (Evs.ite_pos (by omega) (Evs.ite_pos (by omega) (Evs.ite_pos (by omega) ?_)))
     rw [ht]
     exact Evs.ite_pos (by omega) (Evs.ite_pos (by omega) (Evs.ite_neg hu (Evs.ite_neg he (Evs.some_ _))))
    ·refine Evs.succ (fun k=>by simp only [spec_l4Rooms.l2];rfl) (Evs.ite_pos (by omega) (Evs.ite_pos (by omega) ?_))
     rw [ht]
     exact Evs.ite_pos (by omega) (Evs.ite_pos (by simp;omega) (Evs.ite_neg (by omega) (Evs.ite_neg (by omega) (Evs.some_ _))))
    ·exfalso
     obtain ⟨n,hn,hlab⟩:=hss _ hmem
     rw [ht] at hn
     obtain rfl : t = n:=by omega
     rcases hl t htc with h | h
     ·exact hu h
     ·exact he (h.trans hlab)
theorem rd_T_get (c : List S42) {j : Nat} (h : j < c.length) : c[j]? = some (rd_T42 c (j : Int)):=by
 unfold rd_T42
 rw [Int.toNat_natCast,List.getD_eq_getElem?_getD,List.getElem?_eq_getElem h]
 rfl
theorem outer_loop (c : List S42) (hc : c.length ≤ 60) (hok : ∀ j,j < c.length → OkI c j) :
  ∀ (N : Nat) (x7 : Nat) (rooms todo : List Int),x7 ≤ todo.length → BInv c rooms (todo.drop x7) → todo.length + rooms.count (-2) ≤ 1000 → (todo.drop x7).length + rooms.count (-2) ≤ N → Both c rooms todo x7:=by
 intro N
 induction N with
 | zero =>
  intro x7 rooms todo hx hI hT hN
  have hx7 : todo.length ≤ x7:=by
   have : (todo.drop x7).length = 0:=by omega
   rw [List.length_drop] at this
   omega
  refine ⟨true,?_,⟨rooms.map (· + 1),?_⟩,fun _ _=>rfl⟩
  ·exact Evs.succ (fun k=>by simp only [impl_roomsOk.l0];rfl) (Evs.ite_neg (by rw [List.length_drop];omega) (Evs.some_ _))
  ·exact Evs.succ (fun k=>by simp only [spec_l4Rooms.l1];rfl) (Evs.ite_neg (by omega) (Evs.some_ _))
 | succ N ih =>
  intro x7 rooms todo hx hI hT hN
  by_cases hlt : x7 < todo.length
  ·have hd : todo.drop x7 = rd todo (x7 : Int) :: todo.drop (x7 + 1):=by rw [List.drop_eq_getElem_cons hlt,rd_get hlt]
   have hhd : rd (todo.drop x7) 0 = rd todo (x7 : Int):=by rw [hd];rfl
   have htl : (todo.drop x7).drop 1 = todo.drop (x7 + 1):=by rw [hd];rfl
   obtain ⟨p0,p1,pk⟩:=hI.pend _ (by rw [hd];exact List.mem_cons_self ..)
   obtain ⟨p,hp⟩:=Int.eq_ofNat_of_zero_le p0
   have hpc : p < c.length:=by rw [hp] at p1;omega
   have hpl : p < rooms.length:=by rw [hI.len];exact hpc
   have hok':=hok p hpc
   obtain ⟨q0,q1⟩:=rd_rng hI hpc
   rw [hp] at pk
   have hr : -1 ≤ rd rooms (p : Int):=by omega
   obtain ⟨m1,m2⟩:=mov_range hok'.1 hr q1
   obtain ⟨x,hx1,hx2⟩:=held_eq hok'.1 hr q1
   have hmap:=rd_map1 rooms p hpl
   have hlen1 : (todo.drop x7).length = (todo.drop (x7 + 1)).length + 1:=by rw [hd];rfl
   have hI' : BInv c rooms (todo.drop (x7 + 1)):=⟨hI.len,hI.rng,fun q hq=>hI.pend q (by rw [hd];exact List.mem_cons_of_mem _ hq)⟩
   have hsuc : (sucI (rd_T42 c (p : Int)) p).length ≤ 2:=by
    unfold sucI
    repeat' split
    all_goals simp
   cases hmv : (movI (rd_T42 c (p : Int)) (rd rooms (p : Int))).2 with
   | false =>
    refine ⟨false,?_,⟨rooms.map (· + 1),?_⟩,fun hf hl=>?_⟩
    ·refine Evs.succ (fun k=>by simp only [impl_roomsOk.l0];rfl) (Evs.ite_pos (by omega) (Evs.ite_pos (by omega) (Evs.ite_pos (by omega) ?_)))
     rw [hhd,hp]
     exact Evs.ite_pos (by omega) (Evs.ite_pos (by omega) (Evs.ite_pos (by omega) (Evs.bind0 (moves_eq _ _) (Evs.ite_neg (by rw [hmv];simp) (Evs.some_ _)))))
    ·refine Evs.succ (fun k=>by simp only [spec_l4Rooms.l1];rfl) (Evs.ite_pos (by omega) (Evs.ite_pos (by omega) ?_))
     rw [hp,hmap]
     exact Evs.ite_pos (by omega) (Evs.ite_pos (by omega) (Evs.ite_pos (by simp;omega) (Evs.bind0 hx1 (Evs.ite_neg (by rw [hmv];simp) (Evs.some_ _)))))
    ·exfalso
     obtain ⟨i,hi,hm,_⟩:=hf p hpc
     rw [rd_T_get c hpc] at hi
     obtain rfl:=Option.some.inj hi
     rcases hl p hpc with h | h
     ·exact pk h
     ·rw [h] at hmv
      rw [hmv] at hm
      cases hm
   | true =>
    by_cases h13 : (rd_T42 c (p : Int)).f0 = 13
    ·-- the end: nothing behind
     have hs0 : sucI (rd_T42 c (p : Int)) p = []:=by unfold sucI;rw [if_pos h13]
     obtain ⟨b,h1,⟨rs,h2⟩,h3⟩:=ih (x7 + 1) rooms todo (by omega) hI' hT (by omega)
     refine ⟨b,?_,⟨rs,?_⟩,h3⟩
     ·refine Evs.succ (fun k=>by simp only [impl_roomsOk.l0];rfl) (Evs.ite_pos (by omega) (Evs.ite_pos (by omega) (Evs.ite_pos (by omega) ?_)))
      rw [hhd,hp]
      refine Evs.ite_pos (by omega) (Evs.ite_pos (by omega) (Evs.ite_pos (by omega) (Evs.bind0 (moves_eq _ _) (Evs.ite_pos hmv (Evs.bind0 (suc_eq _ _ (by omega)) ?_)))))
      rw [hs0,show (1 : Int).toNat = 1 from rfl,htl]
      exact Evs.succ (fun k=>by simp only [impl_roomsOk.l1];rfl) (Evs.ite_neg (by simp) h1)
     ·refine Evs.succ (fun k=>by simp only [spec_l4Rooms.l1];rfl) (Evs.ite_pos (by omega) (Evs.ite_pos (by omega) ?_))
      rw [hp,hmap]
      refine Evs.ite_pos (by omega) (Evs.ite_pos (by omega) (Evs.ite_pos (by simp;omega) (Evs.bind0 hx1 (Evs.ite_pos hmv (Evs.bind0 (next_eq c p hpc (by omega)) ?_)))))
      rw [hs0]
      refine Evs.succ (fun k=>by simp only [spec_l4Rooms.l2];rfl) (Evs.ite_neg (by simp) ?_)
      rw [wrap_succ (by omega)]
      exact h2
    ·obtain ⟨b,h1,⟨rs,h2⟩,h3⟩:=inner_loop c hc x7 (by omega) _ m1 m2 (sucI (rd_T42 c (p : Int)) p) (suc_range hok' hpc) hsuc N (fun rooms todo hl hI hT hN=>ih (x7 + 1) rooms todo hl hI hT hN) (sucI (rd_T42 c (p : Int)) p).length 0 (by omega) rooms todo hlt hI' hT (by omega)
     refine ⟨b,?_,⟨rs,?_⟩,fun hf hl=>h3 hf hl ?_⟩
     ·refine Evs.succ (fun k=>by simp only [impl_roomsOk.l0];rfl) (Evs.ite_pos (by omega) (Evs.ite_pos (by omega) (Evs.ite_pos (by omega) ?_)))
      rw [hhd,hp]
      refine Evs.ite_pos (by omega) (Evs.ite_pos (by omega) (Evs.ite_pos (by omega) (Evs.bind0 (moves_eq _ _) (Evs.ite_pos hmv (Evs.bind0 (suc_eq _ _ (by omega)) ?_)))))
      rw [show (1 : Int).toNat = 1 from rfl,htl]
      exact h1
     ·refine Evs.succ (fun k=>by simp only [spec_l4Rooms.l1];rfl) (Evs.ite_pos (by omega) (Evs.ite_pos (by omega) ?_))
      rw [hp,hmap]
      refine Evs.ite_pos (by omega) (Evs.ite_pos (by omega) (Evs.ite_pos (by simp;omega) (Evs.bind0 hx1 (Evs.ite_pos hmv (Evs.bind0 (next_eq c p hpc (by omega)) ?_)))))
      simp only [hx2 h13]
      exact h2
     ·obtain ⟨i,hi,hm,hs⟩:=hf p hpc
      rw [rd_T_get c hpc] at hi
      obtain rfl:=Option.some.inj hi
      rcases hl p hpc with h | h
      ·exact absurd h pk
      ·rw [h]
       intro t ht
       obtain ⟨n,e,_,_,l⟩:=hs t ht
       exact ⟨n,e,l⟩
  ·refine ⟨true,?_,⟨rooms.map (· + 1),?_⟩,fun _ _=>rfl⟩
   ·exact Evs.succ (fun k=>by simp only [impl_roomsOk.l0];rfl) (Evs.ite_neg (by rw [List.length_drop];omega) (Evs.some_ _))
   ·exact Evs.succ (fun k=>by simp only [spec_l4Rooms.l1];rfl) (Evs.ite_neg (by omega) (Evs.some_ _))
end Go.Proofs.Ytphbdoljkpdflaa.P
