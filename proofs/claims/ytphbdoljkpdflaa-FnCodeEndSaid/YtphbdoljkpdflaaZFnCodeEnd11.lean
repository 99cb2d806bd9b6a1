/- Parts of the proof of FnCodeEnd: plain Lean functions of Go functions, and that the calls come to what they say; no condition beyond those that each theorem names. -/
import Derived.Test.YtphbdoljkpdflaaZFnCodeEnd6
import Derived.Test.YtphbdoljkpdflaaZFnCodeEnd5
import Derived.Laws.CopyOwn
import Derived.Deep.RegionLaw
import Derived.Laws.BitsAllLaws
import Derived.IntWalk
import Derived.Deep.DrawnRows
namespace Go.Proofs.Ytphbdoljkpdflaa.P
open Go.RowKit Go.Proofs.YtphbdoljkpdflaaW.PrintWords Go.Proofs.YtphbdoljkpdflaaW.PrintLast Go.Proofs.YtphbdoljkpdflaaW.PrintMore
attribute [local go_sem] max2_int min2_int max_two min_two max_three min_three max_four min_four
attribute [local go_sem ↓] Go.wp_at_zero Go.wp_at_succ
set_option linter.unusedVariables false
set_option linter.unusedSimpArgs false
theorem low32 (n : Nat) (h : n < 4294967296) : Go.bits .and .u64 (n : Int) 4294967295 = (n : Int):=by
 have e:=u64_and_nat n 4294967295 (by omega) (by omega)
 rw [show ((4294967295 : Nat) : Int) = 4294967295 from rfl] at e
 rw [e,show (4294967295 : Nat) = 2 ^ 32 - 1 from rfl,Nat.and_two_pow_sub_one_eq_mod,Nat.mod_eq_of_lt (by simpa using h)]
theorem mul_one_n (n : Nat) (h : n < 4294967296) : bits_Mul.f 1 (n : Int) = some (0,(n : Int)):=by
 have e1:=low32 n h
 have e2:=low32 1 (by omega)
 have e3:=low32 0 (by omega)
 rw [show ((1 : Nat) : Int) = 1 from rfl] at e2
 rw [show ((0 : Nat) : Int) = 0 from rfl] at e3
 have w0 : IntKind.u64.wrap 0 = 0:=rfl
 have wn : IntKind.u64.wrap (n : Int) = (n : Int):=by rw [IntKind.wrap_u64];omega
 have d1 : (1 : Int) / 4294967296 = 0:=rfl
 have dn : (n : Int) / 4294967296 = 0:=by omega
 have d0 : (0 : Int) / 4294967296 = 0:=rfl
 unfold bits_Mul.f bits_Mul64.f
 simp only [e1,e2,d1,dn,d0,Int.zero_mul,Int.one_mul,Int.mul_zero,Int.zero_add,Int.add_zero,w0,wn,e3,Option.bind_some]
def slices_Repeat_int_int.f (l0 : List Int) (a1 : Int) : Option (List Int):=if l0.length = 1 ∧ 1 ≤ a1 ∧ a1 ≤ 1000000 then some (List.replicate a1.toNat (rd l0 0)) else none
theorem step_copyN {P : Program} {ops : Array Oper} {o : Oper} {a : Act} {w : World} {K : Act → World → Prop} {Q : Exit → Act → World → Prop} {E : Prop} (N : Tmp) (hN : o.dst = some N) (hgd : o.guard = none) (d s : Operand) (dT sT : TypeId)
  (ho : o.op = .call { callee:=.builtin .copy,args:=#[d,s],argTypes:=#[dT,sT] }) (elem : TypeId) (hu : P.underlying dT = some (.slice elem)) (hsz : (P.info? elem).map (·.size) = some 1)
  (dp sp : Option Addr) (dLen dCap sLen sCap : Nat) (hd : a.eval d = .slice dp dLen dCap) (hs : a.eval s = .slice sp sLen sCap)
  (g off : Nat) (cur : List Value) (t : TypeId) (hg : w.heap[g]? = some (.cells cur.toArray t (0,0))) (cs : List Value) (hn : cs.length = Nat.min sLen dLen)
  (hpos : 0 < cs.length → dp = some ⟨g,off,none⟩ ∧ ∃ ad,sp = some ad ∧ ∀ j v,cs[j]? = some v → w.cell? (ad.add j) = some v)
  (hfit : off + cs.length ≤ cur.length) (h1 : ∀ v ∈ cs,v.oneCell' = true) (B : Nat) (w0 : World) (hb : Below B w0 w) (hBg : B ≤ g)
  (h : ∀ w',Aside0 (w'.heap[g]? = some (.cells (splice cur off cs).toArray t (0,0))) → Aside0 (Below B w0 w') → K (a.put (some N) (.int .i64 (cs.length : Int))) w') :
  if Region.wanted o (yielded ops a.tmps) = true then Oper.wp P o a w K Q else E :=
 step_copy_splice hgd d s dT sT ho elem hu hsz dp sp dLen dCap sLen sCap hd hs g off cur t hg cs hn hpos hfit h1 B w0 hb hBg (fun w' q1 q2=>by rw [hN];exact h w' ⟨q1.out⟩ ⟨q2⟩)
set_option maxHeartbeats 8000000 in
set_option maxRecDepth 100000 in
theorem repeat_walk (A : Option Addr) (c n : Nat) (a : Int) (w : World) (hr : Kd.C (Kd.int .i64) w A 1 [a]) (h1 : 1 ≤ n) (h2 : n ≤ 1000000) :
  Calls Try.prog 60 #[.slice A 1 c,.int .i64 (n : Int)] w fun e w'=>∃ g cur,e = .returned (.slice (some ⟨g,0,none⟩) n n) ∧ w'.heap[g]? = some (.cells (List.toArray cur) 3 (0,0)) ∧ w.heap.size ≤ g ∧ cur.length = n ∧ (∀ j,j < n → cur[j]? = some (.int .i64 a)) ∧ Below w.heap.size w w':=by
 have hm:=mul_one_n n (by omega)
 obtain ⟨ad,cs,rfl,hcl,hcr,hcc⟩:=ReadsRow.get_ hr 0 0 (by omega) (by omega)
 have hcr' : cs = [.int .i64 a]:=hcr
 subst hcr'
 have fc:=hcc 0 _ rfl
 simp only [Int.toNat_zero,Nat.zero_mul,Nat.add_zero] at fc
 have HM:=Aside0.mk hm
 have HR:=Aside0.mk hr
 clear hm hr hcc hcr hcl
 have q1 : (n : Int) ≤ 1000000:=by omega
 have q2 : 1 ≤ (n : Int):=by omega
 obtain ⟨i0,hi,hz0,hz1,hz2⟩:=info_parts info3
 have hmk : ∀ W : World,(Instr.makeSlice 51 (.int .i64 (n : Int)) (.int .i64 (n : Int))).run Try.prog W = .ok (.slice (some ⟨W.heap.size,0,none⟩) n n) (W.alloc (.cells (madeCells #[.int .i64 0] n) 3)):=by
  intro W
  have e:=run_make (P:=Try.prog) (w:=W) 51 3 i0 _ Try.underlying51 hi hz0 .i64 .i64 (n : Int) (n : Int) (by omega) (by omega) (by rw [hz2];omega) (by omega)
  rw [hz1,Int.toNat_natCast,Nat.mul_one] at e
  exact e
 clear hi hz0 hz1 hz2
 go_enter Try.func60,Try.ntmps60
 go_upto_region 7 with (go_at_call 77;refine (bits_Mul.calls _ _ _ _ _ HM.out).mono ?_;rintro e w' ⟨rfl,⟨nd,rfl⟩⟩)
 have hblk : ((w.drewN nd).alloc (.cells (madeCells #[.int .i64 0] n) 3)).heap[w.heap.size]? = some (.cells (madeCells #[.int .i64 0] n).toList.toArray 3 (0,0)):=by simpa using blk_new (w.drewN nd) (.cells (madeCells #[.int .i64 0] n) 3)
 have hbel : Below w.heap.size w ((w.drewN nd).alloc (.cells (madeCells #[.int .i64 0] n) 3)):=below_alloc (pw_below_drewN (Below.refl _ w) _) _
 have hcell : ((w.drewN nd).alloc (.cells (madeCells #[.int .i64 0] n) 3)).cell? (ad.add 0) = some (.int .i64 a):=(hbel.cell (World.block_lt_of_cell? w _ fc)).trans fc
 have hsz : (madeCells #[.int .i64 0] n).toList.length = n:=by simp [size_madeCells]
 have HB:=Aside0.mk (And.intro hblk (And.intro hbel (And.intro hcell hsz)))
 clear hblk hbel hcell hsz
 have hcs : ∀ (j : Nat) (v : Value),[Value.int .i64 a][j]? = some v → ((w.drewN nd).alloc (.cells (madeCells #[.int .i64 0] n) 3)).cell? (ad.add j) = some v:=by
  intro j v hj
  match j,hj with
  | 0,hj=>simp at hj;subst hj;exact HB.out.2.2.1
 have HCS:=Aside0.mk hcs
 have hcf : 0 + [Value.int .i64 a].length ≤ (madeCells #[.int .i64 0] n).toList.length:=by rw [HB.out.2.2.2];show 0 + 1 ≤ n;omega
 have HCF:=Aside0.mk hcf
 clear hcs hcf
 go_wp2_with (refine wpList_copy_splice (o:=⟨some 33,_,_,_,_,_⟩) rfl (.tmp 31) (.tmp 32) 51 51 rfl 3 Try.underlying51 (by kernel_rfl) (some ⟨w.heap.size,0,none⟩) (some ad) n n 1 c (by rfl) (by rfl) w.heap.size 0 (madeCells #[.int .i64 0] n).toList 3 HB.out.1 [.int .i64 a] (Nat.min_eq_left h1).symm (fun _=>⟨rfl,ad,rfl,HCS.out⟩) HCF.out (by simp [Value.oneCell']) w.heap.size w HB.out.2.1 (Nat.le_refl _) ?_;intro w2 hw2 hb2)
 have hl2 : (splice (madeCells #[.int .i64 0] n).toList 0 [Value.int .i64 a]).length = n:=by rw [length_splice _ _ _ (by rw [HB.out.2.2.2];show 0 + 1 ≤ n;omega)];exact HB.out.2.2.2
 have hf2 : ∀ j,j < 1 → (splice (madeCells #[.int .i64 0] n).toList 0 [Value.int .i64 a])[j]? = some (.int .i64 a):=by
  intro j hj
  obtain rfl : j = 0:=by omega
  simp [splice]
 have HW:=Aside0.mk (And.intro hw2.out (And.intro hl2 (And.intro hf2 hb2)))
 clear hw2 hb2 hl2 hf2 HB HM HR HCS HCF
 go_wp2_with fail
 go_loopw [8] (fun p wr=>∃ (m : Nat) (cur : List Value),1 ≤ m ∧ m ≤ n ∧ p = .int .i64 m ∧ Aside0 (wr.heap[w.heap.size]? = some (.cells cur.toArray 3 (0,0)) ∧ cur.length = n ∧ (∀ j,j < m → cur[j]? = some (.int .i64 a)) ∧ Below w.heap.size w wr)) (fun p _=>n - (intOf p).toNat)
 case atStart=>exact ⟨1,_,Nat.le_refl _,h1,rfl,HW⟩
 case round =>
  obtain ⟨m,cur,hm1,hm2,rfl,HC⟩:=hrel
  clear HW
  by_cases hlt : m < n
  ·have hltz : decide ((m : Int) < (n : Int)) = true:=decide_eq_true (by omega)
   have p1 : 0 ≤ (m : Int):=by omega
   have p2 : (m : Int) ≤ (n : Int):=by omega
   have p3 : ¬ n = m:=by omega
   have p4 : m ≤ n:=by omega
   have hb0:=HC.out.1
   obtain ⟨cs,hcs0⟩ : ∃ cs,cs = cur.take (min m (n - m)):=⟨_,rfl⟩
   have hlen : cs.length = min m (n - m):=by rw [hcs0,List.length_take];have:=HC.out.2.1;omega
   have hcs : ∀ (j : Nat) (v : Value),cs[j]? = some v → v = .int .i64 a:=by
    intro j v hj
    rw [hcs0,List.getElem?_take] at hj
    split at hj
    ·rw [HC.out.2.2.1 j (by omega)] at hj
     exact (Option.some.inj hj).symm
    ·cases hj
   have hsrc : ∀ (j : Nat) (v : Value),cs[j]? = some v → wr.cell? ((⟨w.heap.size,0,none⟩ : Addr).add j) = some v:=by
    intro j v hj
    rw [add_plain,blk_cell hb0]
    rw [hcs0,List.getElem?_take] at hj
    split at hj
    ·simpa using hj
    ·cases hj
   have hone : ∀ v ∈ cs,v.oneCell' = true:=by
    intro v hv
    obtain ⟨j,hj,rfl⟩:=List.mem_iff_getElem.1 hv
    rw [hcs j _ (List.getElem?_eq_getElem hj)]
    rfl
   have hfit : m + cs.length ≤ cur.length:=by rw [hlen];have:=HC.out.2.1;omega
   have HL:=Aside0.mk (And.intro hlen (And.intro hcs (And.intro hsrc (And.intro hone hfit))))
   have q3 : (m : Int) + ((cs.length : Nat) : Int) ≤ 1000000:=by rw [hlen];omega
   have q4 : IntKind.i64.wrap ((m : Int) + ((cs.length : Nat) : Int)) = (m : Int) + ((cs.length : Nat) : Int):=IntWalk.i64_in _ (by omega)
   clear hb0 hcs hsrc hone hfit hcs0 hlen
   go_wp2_with fail
   go_region_law
    ((refine step_copyN 45 (by rfl) rfl (.tmp 41) (.tmp 44) 51 51 rfl 3 Try.underlying51 (by kernel_rfl) (some ⟨w.heap.size,m,none⟩) (some ⟨w.heap.size,0,none⟩) (n - m) (n - m) m n (by rfl) (by rfl) w.heap.size m cur 3 HC.out.1 cs HL.out.1 (fun _=>⟨rfl,_,rfl,HL.out.2.2.1⟩) HL.out.2.2.2.2 HL.out.2.2.2.1 w.heap.size w (below_drew1 HC.out.2.2.2) (Nat.le_refl _) ?_;intro w2 hw2 hb2))
   all_goals (
    have hsl : (splice cur m cs).length = n:=by rw [length_splice _ _ _ HL.out.2.2.2.2];exact HC.out.2.1
    have hsv : ∀ j,j < m + cs.length → (splice cur m cs)[j]? = some (.int .i64 a):=by
     intro j hj
     have h0:=HC.out.2.1
     unfold splice
     rcases Nat.lt_or_ge j m with hjm | hjm
     ·rw [List.getElem?_append_left (by rw [List.length_take];omega),List.getElem?_take,if_pos hjm]
      exact HC.out.2.2.1 j hjm
     ·rw [List.getElem?_append_right (by rw [List.length_take];omega),List.length_take,Nat.min_eq_left (by omega),List.getElem?_append_left (by omega)]
      have e:=List.getElem?_eq_getElem (l:=cs) (i:=j - m) (by omega)
      rw [e,HL.out.2.1 _ _ e]
    have HN:=Aside0.mk (And.intro hw2.out (And.intro hsl (And.intro hsv hb2.out)))
    have hpos : 0 < cs.length:=by rw [HL.out.1];omega
    have hle : m + cs.length ≤ n:=by rw [HL.out.1];omega
    clear hsl hsv q4
    show Exit.inBlock 1 _ Exit.normal (Act.put (Act.put _ (some 46) _) (some 8) _) _
    simp only [Act.put,List.setIfInBounds_toArray,List.set_cons_zero,List.set_cons_succ]
    go_wp2_with fail

    go_roundw
    case rel=>exact ⟨m + cs.length,_,by omega,hle,by go_num,HN⟩
    case measure=>simp [intOf];omega)
  ·have hltz : decide ((m : Int) < (n : Int)) = false:=decide_eq_false (by omega)
   obtain rfl : m = n:=by omega
   go_wp2
   go_ret
   exact ⟨_,cur,rfl,HC.out.1,Nat.le_refl _,HC.out.2.1,HC.out.2.2.1,HC.out.2.2.2⟩
theorem slices_Repeat_int_int.calls (A0 : Option Addr) (c0 : Nat) (l0 : List Int) (a1 : Int) (r : List Int) (w : World) (hr0 : Kd.C (Kd.int .i64) w A0 l0.length l0) (hc0 : l0.length ≤ c0) (h : slices_Repeat_int_int.f l0 a1 = some r) :
  Calls Try.prog 60 #[.slice A0 l0.length c0,.int .i64 a1] w fun e w'=>∃ v0_ : Value,e = .returned (v0_) ∧ Kd.R (Kd.int .i64) 3 w' w.heap.size (fun _=>True) v0_ r ∧ Below w.heap.size w w':=by
 unfold slices_Repeat_int_int.f at h
 by_cases c : l0.length = 1 ∧ 1 ≤ a1 ∧ a1 ≤ 1000000
 ·rw [if_pos c] at h
  obtain rfl:=Option.some.inj h
  obtain ⟨c1,c2,c3⟩:=c
  obtain ⟨n,rfl⟩:=Int.eq_ofNat_of_zero_le (show 0 ≤ a1 by omega)
  match l0,c1,hr0 with
  | [a],_,hr0 =>
   refine (repeat_walk A0 c0 n a w hr0 (by omega) (by omega)).mono ?_
   rintro e w' ⟨g,cur,rfl,hb,hg,hl,hv,hbel⟩
   refine ⟨_,rfl,?_,hbel⟩
   rw [Int.toNat_natCast,show rd [a] 0 = a from rfl]
   have hcur : cur = encs (Value.int .i64) (List.replicate n a):=by
    apply List.ext_getElem?
    intro j
    unfold encs
    rw [List.map_replicate]
    rcases Nat.lt_or_ge j n with hj | hj
    ·rw [hv j hj,List.getElem?_replicate,if_pos hj]
    ·rw [List.getElem?_eq_none (by omega),List.getElem?_eq_none (by simpa using hj)]
   refine Kd.R_of_own ?_ (fun _ _=>trivial)
   refine ⟨by rw [← hcur,hl];simp,.inr ⟨g,n,cur.toArray,by simp,hg,hb,by simp,by unfold maxLen;omega,by simp [hl],?_⟩⟩
   rw [← hcur,List.take_of_length_le (by simp [hl])]
 ·rw [if_neg c] at h
  cases h
end Go.Proofs.Ytphbdoljkpdflaa.P

namespace Go.Proofs.Ytphbdoljkpdflaa.P
open Go.RowKit Go.Proofs.YtphbdoljkpdflaaW.PrintWords Go.Proofs.YtphbdoljkpdflaaW.PrintLast Go.Proofs.YtphbdoljkpdflaaW.PrintMore
open Bool renaming true → O, false → Z
open Go.Proofs.YtphbdoljkpdflaaW.PrintWords renaming Aside0.mk → J
open List renaming setIfInBounds_toArray → Y, set_cons_zero → E, set_cons_succ → U
open Option renaming bind_some → G
open Go renaming World.block_lt_of_cell? → X, Act.put → W
attribute [local go_sem] max2_int min2_int max_two min_two max_three min_three max_four min_four
set_option linter.unusedVariables false
set_option linter.unusedSimpArgs false
mutual
def impl_roomsOk.l0 : Nat → List (S42) → List Int → List Int → Option (Bool)
 | 0,_,_,_=>none
 | k + 1,x0,x3,x4=>if (x4.length : Int) > 0 then (if 0 < (x4.length : Int) then (if 1 ≤ (x4.length : Int) then (if 0 ≤ (rd x4 0) then (if (rd x4 0) < (x0.length : Int) then (if (rd x4 0) < (x3.length : Int) then ((impl_Ins_moves.f ((rd_T42 x0 (rd x4 0)).f0) ((rd_T42 x0 (rd x4 0)).f1) ((rd_T42 x0 (rd x4 0)).f2) ((rd_T42 x0 (rd x4 0)).f3) (rd x3 (rd x4 0))).bind fun bt198=>(if bt198.2 = true then ((impl_Ins_successors.f ((rd_T42 x0 (rd x4 0)).f0) ((rd_T42 x0 (rd x4 0)).f1) ((rd_T42 x0 (rd x4 0)).f2) ((rd_T42 x0 (rd x4 0)).f3) (rd x4 0)).bind fun t201=>(impl_roomsOk.l1 k x0 x3 (x4.drop (1 : Int).toNat) bt198.1 t201 (t201.length : Int) 0)) else (some false))) else (none)) else (none)) else (none)) else (none)) else (none)) else (some true)
def impl_roomsOk.l1 : Nat → List (S42) → List Int → List Int → Int → List Int → Int → Int → Option (Bool)
 | 0,_,_,_,_,_,_,_=>none
 | k + 1,x0,x3,x4,x6,x44,x45,x46=>if x46 < x45 then (if 0 ≤ x46 then (if x46 < (x44.length : Int) then (if 0 ≤ (rd x44 x46) then (if (rd x44 x46) < (x3.length : Int) then (if (rd x3 (rd x44 x46)) = (-2) then (if x4.length < 17592186044416 then (impl_roomsOk.l1 k x0 (x3.set ((rd x44 x46) : Int).toNat x6) (x4 ++ [rd x44 x46]) x6 x44 x45 (wrap64 (x46 + 1))) else (none)) else (if (rd x3 (rd x44 x46)) = x6 then (impl_roomsOk.l1 k x0 x3 x4 x6 x44 x45 (wrap64 (x46 + 1))) else (some false))) else (none)) else (none)) else (none)) else (none)) else (impl_roomsOk.l0 k x0 x3 x4)
end
def impl_roomsOk.f (k : Nat) (l0 : List (S42)) : Option (Bool):=(slices_Repeat_int_int.f (([(-2)] : List Int)) (l0.length : Int)).bind fun t185=>(if 0 < (t185.length : Int) then (impl_roomsOk.l0 k l0 (t185.set (0 : Int).toNat (-1)) (([0] : List Int))) else (none))
def impl_roomsOk.T7 : Bool × List (List Nat × List Nat):=(true,[([],[]),([],[]),([0,1],[0,1]),([2],[2]),([],[]),([],[]),([4,5],[4,5]),([6],[6]),([3,7],[3,7]),([8],[8]),([9],[9]),([9],[9]),([10,8,0,1,2,3,4,5,6,7,8,9,10],[10]),([11,12,0,1,2,3,4,5,6,7,8,9,10,11,12],[11])])
def impl_roomsOk.B7 : List Nat:=[0,0,3,7,0,0,48,112,255,511,1023,1023,2047,8191]
theorem impl_roomsOk.tab7 : rtab .any (opsOf Try.f37 7) = impl_roomsOk.T7:=by kernel_rfl
theorem impl_roomsOk.bits7 : waitsOk impl_roomsOk.T7.2 impl_roomsOk.B7 = true:=by kernel_rfl
set_option maxHeartbeats 8000000 in
set_option maxRecDepth 100000 in
theorem impl_roomsOk.calls (k : Nat) (A0 : Option Addr) (c0 : Nat) (l0 : List (S42)) (r : Bool) (w : World) (hr0 : Kd.C k42 w A0 l0.length l0) (hc0 : l0.length ≤ c0) (h : impl_roomsOk.f k l0 = some r) :
  Calls Try.prog 37 #[.slice A0 l0.length c0] w fun e w'=>e = .returned (.bool r) ∧ Below w.heap.size w w':=by
 have hu42:=Try.underlying42;have HR0:=J hr0;have HC0:=J hc0;clear hr0 hc0;have HB:=J (Below.refl w.heap.size w);have H : ((slices_Repeat_int_int.f (([(-2)] : List Int)) (l0.length : Int)).bind fun t185=>(if 0 < (t185.length : Int) then (impl_roomsOk.l0 k l0 (t185.set (0 : Int).toNat (-1)) (([0] : List Int))) else (none))) = some r:=h;clear h;obtain ⟨y182,hy182⟩ : ∃ y_ : List Int,y_ = (([(-2)] : List Int)):=⟨_,rfl⟩
 replace H : ((slices_Repeat_int_int.f y182 (l0.length : Int)).bind fun t185=>(if 0 < (t185.length : Int) then (impl_roomsOk.l0 k l0 (t185.set (0 : Int).toNat (-1)) (([0] : List Int))) else (none))) = some r:=by first | (rw [hy182];with_reducible exact H) | (have H2_:=(G _ _).symm.trans H;rw [hy182];with_reducible exact H2_) | (have H2_:=(G _ _).symm.trans H;with_reducible exact H2_) | with_reducible exact H | (rw [hy182];exact H) | exact H
 have Ny182:=J hy182;clear hy182;replace H:=Option.bind_eq_some_iff.mp H;obtain ⟨t185,A20,H⟩:=H;replace H : (if 0 < (t185.length : Int) then (impl_roomsOk.l0 k l0 (t185.set (0 : Int).toNat (-1)) (([0] : List Int))) else (none)) = some r:=H;have A2:=J A20;clear A20
 by_cases c3 : 0 < (t185.length : Int)
 ·rw [if_pos c3] at H;have c3b0 : decide (0 < (t185.length : Int)) = true:=decide_eq_true c3
  have c3b1 : decide (0 < t185.length) = true:=decide_eq_true (by omega)
  clear c3;obtain ⟨y188,hy188⟩ : ∃ y_ : List Int,y_ = (t185.set (0 : Int).toNat (-1)):=⟨_,rfl⟩
  replace H : (impl_roomsOk.l0 k l0 y188 (([0] : List Int))) = some r:=by first | (rw [hy188];with_reducible exact H) | (have H2_:=(G _ _).symm.trans H;rw [hy188];with_reducible exact H2_) | (have H2_:=(G _ _).symm.trans H;with_reducible exact H2_) | with_reducible exact H | (rw [hy188];exact H) | exact H
  have Ny188:=J hy188;clear hy188;obtain ⟨y189,hy189⟩ : ∃ y_ : List Int,y_ = (([0] : List Int)):=⟨_,rfl⟩
  replace H : (impl_roomsOk.l0 k l0 y188 y189) = some r:=by first | (rw [hy189];with_reducible exact H) | (have H2_:=(G _ _).symm.trans H;rw [hy189];with_reducible exact H2_) | (have H2_:=(G _ _).symm.trans H;with_reducible exact H2_) | with_reducible exact H | (rw [hy189];exact H) | exact H
  have Ny189:=J hy189;clear hy189;have H':=J H;clear H;go_enter Try.func37,Try.ntmps37
  go_wp2_with (first | ((with_reducible refine gate_dst (N:=10) rfl ?_);refine Kd.R_lit (Kd.int .i64) _ 3 ?hg (N:=10) ?hd (xs:=([(-2)] : List Int)) (inner:=[.int .i64 (-2)]) (ok:=fun _=>True) (okp:=fun _=>True) ?hr ?hp (fun _ hk=>hk) trivial (Below.refl _ _) (Nat.le_refl _) (by simp) ?_;(case hd=>rfl);(case hg=>rfl);(case hr=>first | (go_simp;done) | (go_simp;rfl));(case hp=>exact (Reps.one (show Kd.M (Kd.int .i64) _ _ _ (-2) [.int .i64 (-2)] from rfl) (Reps.none _ _)));intro v183 w5 ho6 hb hg_ hnew_;clear hg_ hnew_;(first | rw [← Ny182.out] at ho6 | (simp only [Int.reduceToNat] at ho6;rw [← Ny182.out] at ho6));have n0_:=J (Kd.R_lower ho6 (below_size (q0_ HB)));have n1_:=J (below_step (q0_ HB) hb);clear HB;have HO184:=n0_;have HB:=n1_;clear n0_ n1_ hb ho6;obtain ⟨Ao7,co7,eo7⟩:=Kd.R_slice HO184.out;subst eo7) | ((with_reducible refine gate_callee (f:=60) rfl ?_);refine goesM_ (some 13) Try.func60 #[.slice Ao7 y182.length co7,.int .i64 (l0.length : Int)] ?_;(with_reducible refine (slices_Repeat_int_int.calls _ _ y182 (l0.length : Int) t185 _ ?side1 ?side2 A2.out).mono ?_);(case side1=>repeat (first | exact (Kd.R_reads' HO184.out).2.2 | (with_reducible refine Kd.C_alloc ?_ _) | (with_reducible refine Kd.C_drewN ?_ _) | (with_reducible refine Kd.C_drew ?_)));(case side2=>exact (Kd.R_reads' HO184.out).2.1);rintro e w8 ⟨v186,rfl,ho0,hb⟩;refine ⟨_,rfl,?_⟩;have n0_:=J (Kd.R_elder' (q3_ HO184) (Kd.R_base ho0) hb);have n1_:=J (Kd.R_lower (Kd.R_new' ho0 (Kd.R_lt (q3_ HO184))) (below_size (q0_ HB)));have n2_:=J (below_step (q0_ HB) hb);clear HO184 HB;have HO184:=n0_;have HO187:=n1_;have HB:=n2_;clear n0_ n1_ n2_;(try clear hb);(try clear hk);(try clear ho0);have p4 : 0 ≤ (0 : Int):=(by omega);have q4 : (0 : Int) < ((t185.length : Int) : Int):=of_decide_eq_true (by first | (with_reducible assumption) | assumption);have qi4 : (0 < t185.length) = True:=eq_true (by omega);obtain ⟨go4,co4,eo4,gb4,gl4,cl4,HG4⟩:=Kd.R_form HO187.out (by omega);(first | cases eo4 | (injection eo4 with ea_ en_ ec_;(first | subst ea_ | (injection ea_ with ea_;subst ea_));subst ec_;clear en_));have GB4:=J gb4;have GG4:=J HG4;clear gb4 gl4 HG4;obtain ⟨hx4_0,hf4_0⟩:=Kd.R_celln 0 HO187.out (0 : Int) p4 q4;(try rw [show ((0 : Int)).toNat = 0 from rfl] at hx4_0);(try simp only [Nat.reduceMul,Nat.zero_mul,Nat.zero_add,Nat.reduceAdd] at hx4_0);(try rw [show ((0 : Int)).toNat = 0 from rfl] at hf4_0);(try simp only [Nat.reduceMul,Nat.zero_mul,Nat.zero_add,Nat.reduceAdd] at hf4_0);replace p4:=eq_true p4;replace q4:=eq_true q4;have n_:=J (Kd.R_mono (ok':=(fun k_=>some k_ ≠ (.slice Ao7 y182.length co7 : Value).ownBlock)) HO187.out (fun k_ hk=>hk.2));clear HO187;have HO187:=n_;clear n_;obtain ⟨hy9_,hz9_⟩:=Kd.R_celln 0 HO187.out (0 : Int) (by omega) (of_decide_eq_true (by first | (with_reducible assumption) | assumption));(try simp only [Int.reduceToNat,Int.toNat_zero,Int.toNat_ofNat,Nat.reduceMul,Nat.zero_mul,Nat.zero_add] at hy9_ hz9_);(try rw [show ((0 : Int)).toNat = 0 from rfl] at hy9_);(try rw [show ((0 : Int)).toNat = 0 from rfl] at hz9_);have HP9:=Kd.R_putg HO187.out (0 : Int) (-1)) | ((with_reducible refine gate_store (t:=3) (p:=15) rfl ?_);refine store_event (t:=3) (p:=15) (v:=?vo_w10) (w1:=(w8.setCell ⟨go4,(0 : Int).toNat,none⟩ (.int .i64 (-1)))) ?hg ?ho ?hn ?hr ?_;(case ho=>rfl);(case hg=>rfl);(case hn=>rfl);(case hr=>first | (go_simp;done) | (go_simp;rfl));intro w10 hw;have hg : w8.grownBy w10 (some go4):=(by rw [hw];exact HP9.2);have hp_ : Kd.R (Kd.int .i64) 3 w10 w.heap.size (fun k_=>some k_ ≠ (.slice Ao7 y182.length co7 : Value).ownBlock) (.slice (some ⟨go4,0,none⟩) t185.length co4) y188:=(by rw [hw,Ny188.out];exact HP9.1);clear HP9;have n0_:=J (Kd.R_after (v:=(.slice (some ⟨go4,0,none⟩) t185.length co4)) (v1:=(.slice (some ⟨go4,0,none⟩) t185.length co4)) (ok:=(fun _=>True)) (q3_ HO184) hg (.inl rfl));have n1_:=J (hp_);have n2_:=J ((by rw [hw];exact below_set (HB.out) GB4.out : Below w.heap.size w w10));clear HO184 HO187 HB;have HO184:=n0_;have HO187:=n1_;have HB:=n2_;clear n0_ n1_ n2_ hg hw hp_) | ((with_reducible refine gate_dst (N:=16) rfl ?_);refine Kd.R_lit (Kd.int .i64) _ 3 ?hg (N:=16) ?hd (xs:=([0] : List Int)) (inner:=[.int .i64 0]) (ok:=fun _=>True) (okp:=fun _=>True) ?hr ?hp (fun _ hk=>hk) trivial (Below.refl _ _) (Nat.le_refl _) (by simp) ?_;(case hd=>rfl);(case hg=>rfl);(case hr=>first | (go_simp;done) | (go_simp;rfl));(case hp=>exact (Reps.one (show Kd.M (Kd.int .i64) _ _ _ 0 [.int .i64 0] from rfl) (Reps.none _ _)));intro v190 w11 ho12 hb hg_ hnew_;clear hg_ hnew_;(first | rw [← Ny189.out] at ho12 | (simp only [Int.reduceToNat] at ho12;rw [← Ny189.out] at ho12));have n0_:=J (Kd.R_elder' (q3_ HO184) (Kd.R_base ho12) hb);have n1_:=J (Kd.R_elder' (q3_ HO187) (Kd.R_base ho12) hb);have n2_:=J (Kd.R_lower (Kd.R_new' (Kd.R_new' ho12 (Kd.R_lt (q3_ HO184))) (Kd.R_lt (q3_ HO187))) (below_size (q0_ HB)));have n3_:=J (below_step (q0_ HB) hb);clear HO184 HO187 HB;have HO184:=n0_;have HO187:=n1_;have HO191:=n2_;have HB:=n3_;clear n0_ n1_ n2_ n3_ hb ho12))
  go_loopg [4] k (fun kq v4 w'=>∃ (x3_1 : List Int) (x4_1 : List Int),Aside0 (impl_roomsOk.l0 kq l0 x3_1 x4_1 = some r) ∧ Aside0 (kq ≤ k) ∧ Aside0 (Kd.R (Kd.int .i64) 3 w' w.heap.size (fun k_=>some k_ ≠ (v4 : Value).ownBlock) (.slice (some ⟨go4,0,none⟩) t185.length co4) x3_1) ∧ Aside0 (Kd.Q (Kd.int .i64) 3 w' w.heap.size (fun k_=>some k_ ≠ ((.slice (some ⟨go4,0,none⟩) t185.length co4) : Value).ownBlock) v4 x4_1) ∧ Aside0 (Below w.heap.size w w'))
  case atStart=>exact ⟨(y188),(y189),H',⟨Nat.le_refl _⟩,⟨by (with_reducible repeat (first | apply Kd.R_alloc | apply Kd.R_drewN | apply Kd.R_drew));exact Kd.R_mono HO187.out (fun _ hk=>hk.2)⟩,⟨Kd.Q_of_R (by (with_reducible repeat (first | apply Kd.R_alloc | apply Kd.R_drewN | apply Kd.R_drew));exact Kd.R_mono HO191.out (fun _ hk=>hk.2))⟩,⟨by repeat (first | (with_reducible first | exact HB.out | apply below_alloc | apply pw_below_drewN | apply below_drew1) | exact HB.out)⟩⟩
  case round =>
   clear H';(try clear p2);(try clear c3);(try clear c3b0);(try clear c3b1);(try clear p4);(try clear q4);(try clear hx4);(try clear qi4);(try clear hf4);(try clear c6);(try clear hx4_0);(try clear p4);(try clear q4);obtain ⟨x3_1,x4_1,HA,HK1,HO_3,HO_4,HB⟩:=hrel;have hl3_1:=(Kd.R_reads' HO_3.out).1;rw [hl3_1] at HO_3
   (try simp only [hl3_1])
   (try simp only [hl3_1] at HO_4)
   cases gk with
   | zero=>exact absurd HA.out (by simp [impl_roomsOk.l0])
   | succ k1 =>
    have H:=HA.out;clear HA;simp only [impl_roomsOk.l0] at H
    by_cases c13 : (x4_1.length : Int) > 0
    ·rw [if_pos c13] at H;have c13b0 : decide (0 < (x4_1.length : Int)) = true:=decide_eq_true c13
     have c13b1 : decide (0 < x4_1.length) = true:=decide_eq_true (by omega)
     clear c13
     by_cases c14 : 0 < (x4_1.length : Int)
     ·rw [if_pos c14] at H;have c14b0 : decide (0 < (x4_1.length : Int)) = true:=decide_eq_true c14
      have c14b1 : decide (0 < x4_1.length) = true:=decide_eq_true (by omega)
      clear c14
      by_cases c15 : 1 ≤ (x4_1.length : Int)
      ·rw [if_pos c15] at H;have c15b0:=eq_true c15;have c15b1 : decide (1 ≤ (x4_1.length : Int)) = true:=decide_eq_true c15;clear c15;obtain ⟨y193,hy193⟩ : ∃ y_ : List Int,y_ = (x4_1.drop (1 : Int).toNat):=⟨_,rfl⟩
       replace H : (if 0 ≤ (rd x4_1 0) then (if (rd x4_1 0) < (l0.length : Int) then (if (rd x4_1 0) < (x3_1.length : Int) then ((impl_Ins_moves.f ((rd_T42 l0 (rd x4_1 0)).f0) ((rd_T42 l0 (rd x4_1 0)).f1) ((rd_T42 l0 (rd x4_1 0)).f2) ((rd_T42 l0 (rd x4_1 0)).f3) (rd x3_1 (rd x4_1 0))).bind fun bt198=>(if bt198.2 = true then ((impl_Ins_successors.f ((rd_T42 l0 (rd x4_1 0)).f0) ((rd_T42 l0 (rd x4_1 0)).f1) ((rd_T42 l0 (rd x4_1 0)).f2) ((rd_T42 l0 (rd x4_1 0)).f3) (rd x4_1 0)).bind fun t201=>(impl_roomsOk.l1 k1 l0 x3_1 y193 bt198.1 t201 (t201.length : Int) 0)) else (some false))) else (none)) else (none)) else (none)) = some r:=by first | (rw [hy193];with_reducible exact H) | (have H2_:=(G _ _).symm.trans H;rw [hy193];with_reducible exact H2_) | (have H2_:=(G _ _).symm.trans H;with_reducible exact H2_) | with_reducible exact H | (rw [hy193];exact H) | exact H
       have Ny193:=J hy193;clear hy193
       by_cases c16 : 0 ≤ (rd x4_1 0)
       ·rw [if_pos c16] at H;have c16b0 : decide (0 ≤ (rd x4_1 0)) = true:=decide_eq_true c16;clear c16
        by_cases c17 : (rd x4_1 0) < (l0.length : Int)
        ·rw [if_pos c17] at H;have c17b0 : decide ((rd x4_1 0) < (l0.length : Int)) = true:=decide_eq_true c17;clear c17
         by_cases c18 : (rd x4_1 0) < (x3_1.length : Int)
         ·rw [if_pos c18] at H;have c18b0 : decide ((rd x4_1 0) < (x3_1.length : Int)) = true:=decide_eq_true c18;clear c18;replace H:=Option.bind_eq_some_iff.mp H;obtain ⟨⟨t198,t199⟩,A190,H⟩:=H;replace H : (if t199 = true then ((impl_Ins_successors.f ((rd_T42 l0 (rd x4_1 0)).f0) ((rd_T42 l0 (rd x4_1 0)).f1) ((rd_T42 l0 (rd x4_1 0)).f2) ((rd_T42 l0 (rd x4_1 0)).f3) (rd x4_1 0)).bind fun t201=>(impl_roomsOk.l1 k1 l0 x3_1 y193 t198 t201 (t201.length : Int) 0)) else (some false)) = some r:=H;have A19:=J A190;clear A190
          by_cases c20 : t199 = true
          ·subst c20
           have H1 : ((impl_Ins_successors.f ((rd_T42 l0 (rd x4_1 0)).f0) ((rd_T42 l0 (rd x4_1 0)).f1) ((rd_T42 l0 (rd x4_1 0)).f2) ((rd_T42 l0 (rd x4_1 0)).f3) (rd x4_1 0)).bind fun t201=>(impl_roomsOk.l1 k1 l0 x3_1 y193 t198 t201 (t201.length : Int) 0)) = some r:=by rw [if_pos rfl] at H;exact H
           clear H;have H:=H1;clear H1;replace H:=Option.bind_eq_some_iff.mp H;obtain ⟨t201,A210,H⟩:=H;replace H : (impl_roomsOk.l1 k1 l0 x3_1 y193 t198 t201 (t201.length : Int) 0) = some r:=H;have A21:=J A210;clear A210;have H':=J H;clear H;obtain ⟨Ao22,co22,eo22,_⟩:=Kd.Q_slice HO_4.out;subst eo22
           have p192 : 0 ≤ (0 : Int):=(by omega)
           have q192 : 0 < (x4_1.length : Int):=of_decide_eq_true (by first | (with_reducible assumption) | assumption)
           obtain ⟨ad192,e192,hx192_0⟩:=Kd.at_int (Kd.Q_reads' HO_4.out).2.2 0 p192 q192
           cases e192
           have qi192 : (0 < x4_1.length) = True:=eq_true (by omega)
           (try rw [show ((0 : Int)).toNat = 0 from rfl] at hx192_0)
           (try rw [Addr.add_zero'] at hx192_0)
           replace p192:=eq_true p192;replace q192:=eq_true q192
           have q23 : (1 : Int) ≤ ((x4_1.length : Int) : Int):=of_decide_eq_true (by first | (with_reducible assumption) | assumption)
           obtain ⟨i023,hi023,_,hsz23,_⟩:=info_parts info3
           have hcut23:=cut_from (P:=Try.prog) 51 3 .i64 Try.underlying51 hi023 1 hsz23 (some ad192) x4_1.length co22 1 (by omega) q23
           have hr23:=Kd.Q_drop (k:=(1 : Int).toNat) HO_4.out (by omega)
           obtain ⟨A23,hA23⟩ : ∃ A1,A1 = (if co22 = (1 : Int).toNat then (some ad192) else ((some ad192) : Option Addr).map (·.add ((1 : Int).toNat * 1))):=⟨_,rfl⟩;obtain ⟨c23,hc23⟩ : ∃ c1,c1 = co22 - (1 : Int).toNat:=⟨_,rfl⟩
           have hy23 : y193.length = x4_1.length - (1 : Int).toNat:=(by rw [Ny193.out,List.length_drop])
           rw [← Ny193.out] at hr23;rw [← hy23,← hA23,← hc23] at hcut23
           replace hr23 : Kd.Q (Kd.int .i64) 3 wr w.heap.size (fun k_=>some k_ ≠ (.slice (some ⟨go4,0,none⟩) x3_1.length co4 : Value).ownBlock) (.slice A23 y193.length c23) y193:=(by rw [hA23,hc23,hy23];exact hr23)
           have HE23 : Aside0 ((Value.slice A23 y193.length c23).ownBlock = (.slice (some ad192) x4_1.length co22 : Value).ownBlock):=⟨by rw [hA23];split <;> (cases ((some ad192) : Option Addr) <;> rfl)⟩
           clear hy23 hi023 hsz23 HO_4 hA23 hc23;have HO195:=J hr23;clear hr23;replace q23:=eq_true q23
           have n_:=J (Kd.R_mono (ok':=fun k_=>some k_ ≠ (.slice A23 y193.length c23 : Value).ownBlock) HO_3.out (fun k_ hk=>(by rw [HE23.out];exact hk)))
           clear HO_3;have HO_3:=n_;clear n_
           try go_wp2
           have n0_:=J (Kd.R_drew HO_3.out);have n1_:=J (Kd.Q_drew HO195.out);have n2_:=J (below_drew1 HB.out);clear HO_3 HO195 HB;have HO_3:=n0_;have HO195:=n1_;have HB:=n2_;clear n0_ n1_ n2_
           have p196 : 0 ≤ ((rd x4_1 0) : Int):=of_decide_eq_true (by first | (with_reducible assumption) | assumption)
           have q196 : (rd x4_1 0) < (l0.length : Int):=of_decide_eq_true (by first | (with_reducible assumption) | assumption)
           obtain ⟨ad196,e196,hx196_0,hx196_1,hx196_2,hx196_3⟩:=at_T42 HR0.out (rd x4_1 0) p196 q196;have hw196_3:=hx196_3;have hw196_2:=hx196_2;have hw196_1:=hx196_1;have hw196_0:=hx196_0
           cases e196
           replace hx196_0:=(HB.out.cell (X w _ hx196_0)).trans hx196_0;replace hx196_1:=(HB.out.cell (X w _ hx196_1)).trans hx196_1;replace hx196_2:=(HB.out.cell (X w _ hx196_2)).trans hx196_2;replace hx196_3:=(HB.out.cell (X w _ hx196_3)).trans hx196_3;replace p196:=eq_true p196;replace q196:=eq_true q196
           have p197 : 0 ≤ ((rd x4_1 0) : Int):=of_decide_eq_true (by first | (with_reducible assumption) | assumption)
           have q197 : (rd x4_1 0) < (x3_1.length : Int):=of_decide_eq_true (by first | (with_reducible assumption) | assumption)
           obtain ⟨ad197,e197,hx197_0⟩:=Kd.at_int (Kd.R_reads' HO_3.out).2.2 (rd x4_1 0) p197 q197
           obtain rfl : (⟨go4,0,none⟩ : Addr) = ad197:=(by injection e197)
           (first | simp only [add_plain] at hx197_0 | simp only [add_at] at hx197_0 | simp only [Addr.add,Nat.zero_add] at hx197_0 | skip)
           replace p197:=eq_true p197;replace q197:=eq_true q197
           refine start_ (n:=14) (S:=fun w'=>w'.cell? (ad196.add (((rd x4_1 0)).toNat * 4)) = some (.int .i64 ((rd_T42 l0 (rd x4_1 0)).f0)) ∧ w'.cell? ⟨(ad196.add (((rd x4_1 0)).toNat * 4)).block,(ad196.add (((rd x4_1 0)).toNat * 4)).off + 1,none⟩ = some (.int .i64 ((rd_T42 l0 (rd x4_1 0)).f1)) ∧ w'.cell? ⟨(ad196.add (((rd x4_1 0)).toNat * 4)).block,(ad196.add (((rd x4_1 0)).toNat * 4)).off + 2,none⟩ = some (.int .i64 ((rd_T42 l0 (rd x4_1 0)).f2)) ∧ w'.cell? ⟨(ad196.add (((rd x4_1 0)).toNat * 4)).block,(ad196.add (((rd x4_1 0)).toNat * 4)).off + 3,none⟩ = some (.int .i64 ((rd_T42 l0 (rd x4_1 0)).f3)) ∧ w'.cell? ⟨go4,((rd x4_1 0)).toNat,none⟩ = some (.int .i64 (rd x3_1 (rd x4_1 0)))) (ds:=[]) #[Z,Z,Z,Z,Z,Z,Z,Z,Z,Z,Z,Z,Z,Z] (by kernel_rfl) rfl rfl ⟨((HB.out.cell (X w _ hw196_0)).trans hw196_0),((HB.out.cell (X w _ hw196_1)).trans hw196_1),((HB.out.cell (X w _ hw196_2)).trans hw196_2),((HB.out.cell (X w _ hw196_3)).trans hw196_3),hx197_0⟩ (fun hHeld=>?_);refine with_tabW impl_roomsOk.tab7 impl_roomsOk.bits7 (fun HT_ HW_=>?_)
           generalize wr.drew = w24 at HO_3 HO195 HB hx196_0 hx196_1 hx196_2 hx196_3 hx197_0 hHeld ⊢
           refine pure_ (i:=0) (N:=some 26) (v:=?_) (a':=?_) #[O,Z,Z,Z,Z,Z,Z,Z,Z,Z,Z,Z,Z,Z] rfl rfl (any_of HT_.out (by kernel_rfl)) (fun _ _ _ h=>h) (Or.inl ⟨by rfl,?_⟩) ?_ ?_;rotate_left;(intro w';go_simp;with_reducible rfl);rotate_left;((try simp only [W,Y,E,U,i64_w,i32_w]);rfl)
           refine pure_ (i:=1) (N:=some 27) (v:=?_) (a':=?_) #[O,O,Z,Z,Z,Z,Z,Z,Z,Z,Z,Z,Z,Z] rfl rfl (any_of HT_.out (by kernel_rfl)) (fun _ _ _ h=>h) (Or.inl ⟨by rfl,?_⟩) ?_ ?_;rotate_left;(intro w';go_simp;with_reducible rfl);rotate_left;((try simp only [W,Y,E,U,i64_w,i32_w]);rfl)
           refine pure_ (i:=2) (N:=some 28) (v:=?_) (a':=?_) #[O,O,O,Z,Z,Z,Z,Z,Z,Z,Z,Z,Z,Z] rfl rfl (any_of HT_.out (by kernel_rfl)) (fun _ _ _ h=>h) (Or.inl ⟨by rfl,?_⟩) ?_ ?_;rotate_left;(intro w';go_simp;with_reducible rfl);rotate_left;((try simp only [W,Y,E,U,i64_w,i32_w]);rfl)
           refine pure_ (i:=4) (N:=some 30) (v:=?_) (a':=?_) #[O,O,O,Z,O,Z,Z,Z,Z,Z,Z,Z,Z,Z] rfl rfl (any_of HT_.out (by kernel_rfl)) (fun _ _ _ h=>h) (Or.inl ⟨by rfl,?_⟩) ?_ ?_;rotate_left;(intro w';go_simp;with_reducible rfl);rotate_left;((try simp only [W,Y,E,U,i64_w,i32_w]);rfl)
           refine pure_ (i:=5) (N:=some 31) (v:=?_) (a':=?_) #[O,O,O,Z,O,O,Z,Z,Z,Z,Z,Z,Z,Z] rfl rfl (any_of HT_.out (by kernel_rfl)) (fun _ _ _ h=>h) (Or.inl ⟨by rfl,?_⟩) ?_ ?_;rotate_left;(intro w';go_simp;with_reducible rfl);rotate_left;((try simp only [W,Y,E,U,i64_w,i32_w]);rfl)
           refine pure_ (i:=6) (N:=some 32) (v:=?_) (a':=?_) #[O,O,O,Z,O,O,O,Z,Z,Z,Z,Z,Z,Z] rfl rfl (any_of HT_.out (by kernel_rfl)) (fun _ _ _ h=>h) (Or.inl ⟨by rfl,?_⟩) ?_ ?_;rotate_left;(intro w';go_simp;with_reducible rfl);rotate_left;((try simp only [W,Y,E,U,i64_w,i32_w]);rfl)
           refine take_ (i:=3) (N:=some 29) (v:=?_) (a':=?_) #[O,O,O,O,O,O,O,Z,Z,Z,Z,Z,Z,Z] rfl rfl (take_ofW HT_.out HW_.out (by kernel_rfl)) (fun _ _ _ h=>h) (Or.inl ⟨by rfl,?_⟩) hHeld ?_ ?_;rotate_left;(rintro w' ⟨s0,s1,s2,s3,s4⟩;go_simp;with_reducible rfl);rotate_left;((try simp only [W,Y,E,U,i64_w,i32_w]);rfl)
           refine take_ (i:=7) (N:=some 33) (v:=?_) (a':=?_) #[O,O,O,O,O,O,O,O,Z,Z,Z,Z,Z,Z] rfl rfl (take_ofW HT_.out HW_.out (by kernel_rfl)) (fun _ _ _ h=>h) (Or.inl ⟨by rfl,?_⟩) hHeld ?_ ?_;rotate_left;(rintro w' ⟨s0,s1,s2,s3,s4⟩;go_simp;with_reducible rfl);rotate_left;((try simp only [W,Y,E,U,i64_w,i32_w]);rfl)
           refine one_ (i:=8) (N:=some 34) #[O,O,O,O,O,O,O,O,O,Z,Z,Z,Z,Z] rfl rfl (one_of HT_.out (by kernel_rfl)) (by decide) (fun K hK=>?_)
           refine goes_ Try.func61 (by kernel_rfl) rfl #[.agg #[.int .i64 ((rd_T42 l0 (rd x4_1 0)).f0),.int .i64 ((rd_T42 l0 (rd x4_1 0)).f1),.int .i64 ((rd_T42 l0 (rd x4_1 0)).f2),.int .i64 ((rd_T42 l0 (rd x4_1 0)).f3)],.int .i64 (rd x3_1 (rd x4_1 0))] (by rfl) rfl rfl (by (try simp only [List.map_toArray,List.map_cons,List.map_nil]);first | done | rfl | (simp only [List.length_drop,List.length_take];rfl)) ?_
           with_reducible refine (impl_Ins_moves.calls ((rd_T42 l0 (rd x4_1 0)).f0) ((rd_T42 l0 (rd x4_1 0)).f1) ((rd_T42 l0 (rd x4_1 0)).f2) ((rd_T42 l0 (rd x4_1 0)).f3) (rd x3_1 (rd x4_1 0)) t198 true _ A19.out).mono ?_
           rintro e w25 ⟨rfl,hb⟩
           have HS4_:=(hb.cell (X _ _ (hHeld.2.2.2.2))).trans (hHeld.2.2.2.2)
           refine ⟨_,rfl,?_⟩
           have n0_:=J (Kd.R_below (q3_ HO_3) hb)
           have n1_:=J (Kd.Q_below (by (with_reducible repeat (first | apply Kd.Q_alloc | apply Kd.Q_drewN | apply Kd.Q_drew));exact HO195.out) hb)
           have n2_:=J (below_step (q0_ HB) hb)
           clear HO_3 HO195 HB;have HO_3:=n0_;have HO195:=n1_;have HB:=n2_;clear n0_ n1_ n2_
           refine hK.out _ _ ⟨((HB.out.cell (X w _ hw196_0)).trans hw196_0),((HB.out.cell (X w _ hw196_1)).trans hw196_1),((HB.out.cell (X w _ hw196_2)).trans hw196_2),((HB.out.cell (X w _ hw196_3)).trans hw196_3),HS4_⟩ (fun hHeld=>?_)
           clear hK K
           refine norm_ (a':=?_) ?_ ?_
           rotate_left
           ·show W _ (some 34) _ = _
            simp only [W,Y,E,U,i64_w,i32_w]
            rfl
           refine pure_ (i:=9) (N:=some 25) (v:=?_) (a':=?_) #[O,O,O,O,O,O,O,O,O,O,Z,Z,Z,Z] rfl rfl (any_of HT_.out (by kernel_rfl)) (fun _ _ _ h=>h) (Or.inl ⟨by rfl,?_⟩) ?_ ?_;rotate_left;(intro w';go_simp;with_reducible rfl);rotate_left;((try simp only [W,Y,E,U,i64_w,i32_w]);rfl)
           refine pure_ (i:=10) (N:=some 35) (v:=?_) (a':=?_) #[O,O,O,O,O,O,O,O,O,O,O,Z,Z,Z] rfl rfl (any_of HT_.out (by kernel_rfl)) (fun _ _ _ h=>h) (Or.inl ⟨by rfl,?_⟩) ?_ ?_;rotate_left;(intro w';go_simp;with_reducible rfl);rotate_left;((try simp only [W,Y,E,U,i64_w,i32_w]);rfl)
           refine pure_ (i:=11) (N:=some 36) (v:=?_) (a':=?_) #[O,O,O,O,O,O,O,O,O,O,O,O,Z,Z] rfl rfl (any_of HT_.out (by kernel_rfl)) (fun _ _ _ h=>h) (Or.inl ⟨by rfl,?_⟩) ?_ ?_;rotate_left;(intro w';go_simp;with_reducible rfl);rotate_left;((try simp only [W,Y,E,U,i64_w,i32_w]);rfl)
           refine pure_ (i:=12) (N:=some 6) (v:=?_) (a':=?_) #[O,O,O,O,O,O,O,O,O,O,O,O,O,Z] rfl rfl (any_of HT_.out (by kernel_rfl)) (fun _ _ _ h=>h) (Or.inl ⟨by rfl,?_⟩) ?_ ?_;rotate_left;(intro w';go_simp;with_reducible rfl);rotate_left;((try simp only [W,Y,E,U,i64_w,i32_w]);rfl)
           refine pure_ (i:=13) (N:=some 7) (v:=?_) (a':=?_) #[O,O,O,O,O,O,O,O,O,O,O,O,O,O] rfl rfl (any_of HT_.out (by kernel_rfl)) (fun _ _ _ h=>h) (Or.inl ⟨by rfl,?_⟩) ?_ ?_;rotate_left;(intro w';go_simp;with_reducible rfl);rotate_left;((try simp only [W,Y,E,U,i64_w,i32_w]);rfl)
           refine done_ (done_of HT_.out (by kernel_rfl)) ?_
           have p200 : 0 ≤ ((rd x4_1 0) : Int):=of_decide_eq_true (by first | (with_reducible assumption) | assumption)
           have q200 : (rd x4_1 0) < (l0.length : Int):=of_decide_eq_true (by first | (with_reducible assumption) | assumption)
           obtain ⟨ad200,e200,hx200_0,hx200_1,hx200_2,hx200_3⟩:=at_T42 HR0.out (rd x4_1 0) p200 q200
           obtain rfl : ad196 = ad200:=(by injection e200)
           replace hx200_0:=(HB.out.cell (X w _ hx200_0)).trans hx200_0;replace hx200_1:=(HB.out.cell (X w _ hx200_1)).trans hx200_1;replace hx200_2:=(HB.out.cell (X w _ hx200_2)).trans hx200_2;replace hx200_3:=(HB.out.cell (X w _ hx200_3)).trans hx200_3;replace p200:=eq_true p200;replace q200:=eq_true q200
           try go_wp2_with (first | ((with_reducible refine gate_callee (f:=62) rfl ?_);refine goesM_ (some 44) Try.func62 #[.agg #[.int .i64 ((rd_T42 l0 (rd x4_1 0)).f0),.int .i64 ((rd_T42 l0 (rd x4_1 0)).f1),.int .i64 ((rd_T42 l0 (rd x4_1 0)).f2),.int .i64 ((rd_T42 l0 (rd x4_1 0)).f3)],.int .i64 (rd x4_1 0)] ?_;(with_reducible refine (impl_Ins_successors.calls ((rd_T42 l0 (rd x4_1 0)).f0) ((rd_T42 l0 (rd x4_1 0)).f1) ((rd_T42 l0 (rd x4_1 0)).f2) ((rd_T42 l0 (rd x4_1 0)).f3) (rd x4_1 0) t201 _ A21.out).mono ?_);rintro e w26 ⟨v202,rfl,ho0,hb⟩;refine ⟨_,rfl,?_⟩;have n0_:=J (Kd.R_elder' (q3_ HO_3) (Kd.R_base ho0) hb);have n1_:=J (Kd.Q_elder' (by (with_reducible repeat (first | apply Kd.Q_alloc | apply Kd.Q_drewN | apply Kd.Q_drew));exact HO195.out) (Kd.R_base ho0) hb);have n2_:=J (Kd.R_lower (Kd.R_new' (Kd.R_new' ho0 (Kd.R_lt (q3_ HO_3))) (Kd.Q_lt (by (with_reducible repeat (first | apply Kd.Q_alloc | apply Kd.Q_drewN | apply Kd.Q_drew));exact HO195.out))) (below_size (q0_ HB)));have n3_:=J (below_step (q0_ HB) hb);clear HO_3 HO195 HB;have HO_3:=n0_;have HO195:=n1_;have HO203:=n2_;have HB:=n3_;clear n0_ n1_ n2_ n3_;(try clear hb);(try clear ho0);obtain ⟨Ao27,co27,eo27⟩:=Kd.R_slice HO203.out;subst eo27))
           go_loopg [4,46] k1 (fun kq v4 v46 w'=>∃ (x3_2 : List Int) (x4_2 : List Int) (x46_2 : Int),v46 = .int .i64 x46_2 ∧ Aside0 (impl_roomsOk.l1 kq l0 x3_2 x4_2 t198 t201 (t201.length : Int) x46_2 = some r) ∧ Aside0 (kq ≤ k1) ∧ Aside0 (Kd.R (Kd.int .i64) 3 w' w.heap.size (fun k_=>some k_ ≠ (v4 : Value).ownBlock ∧ some k_ ≠ ((.slice Ao27 t201.length co27) : Value).ownBlock) (.slice (some ⟨go4,0,none⟩) x3_1.length co4) x3_2) ∧ Aside0 (Kd.Q (Kd.int .i64) 3 w' w.heap.size (fun k_=>some k_ ≠ ((.slice (some ⟨go4,0,none⟩) x3_1.length co4) : Value).ownBlock ∧ some k_ ≠ ((.slice Ao27 t201.length co27) : Value).ownBlock) v4 x4_2) ∧ Aside0 (Kd.R (Kd.int .i64) 3 w' w.heap.size (fun k_=>some k_ ≠ ((.slice (some ⟨go4,0,none⟩) x3_1.length co4) : Value).ownBlock ∧ some k_ ≠ (v4 : Value).ownBlock) (.slice Ao27 t201.length co27) t201) ∧ Aside0 (Below w.heap.size w w'))
           case atStart=>exact ⟨(x3_1),(y193),(0),(by first | rfl | (simp;done) | (simp [*];done)),H',⟨Nat.le_refl _⟩,⟨by (try simp only [hl3_1]);(with_reducible repeat (first | apply Kd.R_alloc | apply Kd.R_drewN | apply Kd.R_drew));exact HO_3.out⟩,⟨by (try simp only [hl3_1]);(with_reducible repeat (first | apply Kd.Q_alloc | apply Kd.Q_drewN | apply Kd.Q_drew));exact HO195.out⟩,⟨by (try simp only [hl3_1]);(with_reducible repeat (first | apply Kd.R_alloc | apply Kd.R_drewN | apply Kd.R_drew));exact Kd.R_mono HO203.out (fun _ hk=>⟨hk.1.2,hk.2⟩)⟩,⟨by repeat (first | (with_reducible first | exact HB.out | apply below_alloc | apply pw_below_drewN | apply below_drew1) | exact HB.out)⟩⟩
           case round =>
            clear H';(try clear c1);(try clear p1);(try clear q1);(try clear hx1);(try clear qi1);(try clear c2);(try clear p2);(try clear q2);(try clear hx2);(try clear c3);(try clear c3b0);(try clear c3b1);(try clear p4);(try clear q4);(try clear hx4);(try clear qi4);(try clear hf4);(try clear c6);(try clear c13);(try clear c13b0);(try clear c13b1);(try clear c14);(try clear c14b0);(try clear c14b1);(try clear c15);(try clear c15b0);(try clear c15b1);(try clear c16);(try clear c16b0);(try clear c17);(try clear c17b0);(try clear c18);(try clear c18b0);(try clear p19);(try clear q19);(try clear hx19);(try clear qi19);(try clear c20);(try clear p20);(try clear q20);(try clear hx20);(try clear c23);(try clear q23);(try clear hx192_0);(try clear hx196_0);(try clear hx196_1);(try clear hx196_2);(try clear hx196_3);(try clear hx197_0);(try clear hx200_0);(try clear hx200_1);(try clear hx200_2);(try clear hx200_3);(try clear hx4_0);(try clear p192);(try clear p196);(try clear p197);(try clear p2);(try clear p200);(try clear p4);(try clear q192);(try clear q196);(try clear q197);(try clear q200);(try clear q23);(try clear q4);obtain ⟨x3_2,x4_2,x46_2,rfl,HA,HK2,HO_3,HO_4,HO_44,HB⟩:=hrel;have hl3_2:=(Kd.R_reads' HO_3.out).1;rw [hl3_2] at HO_3
            (try simp only [hl3_2])
            (try simp only [hl3_2] at HO_4)
            (try simp only [hl3_2] at HO_44)
            cases gk with
            | zero=>exact absurd HA.out (by simp [impl_roomsOk.l1])
            | succ k2 =>
             have H:=HA.out;clear HA;simp only [impl_roomsOk.l1] at H
             by_cases c28 : x46_2 < (t201.length : Int)
             ·rw [if_pos c28] at H;have c28b0 : decide (x46_2 < (t201.length : Int)) = true:=decide_eq_true c28;clear c28
              by_cases c29 : 0 ≤ x46_2
              ·rw [if_pos c29] at H;have c29b0 : decide (0 ≤ x46_2) = true:=decide_eq_true c29;clear c29
               by_cases c30 : x46_2 < (t201.length : Int)
               ·rw [if_pos c30] at H;have c30b0 : decide (x46_2 < (t201.length : Int)) = true:=decide_eq_true c30;clear c30
                by_cases c31 : 0 ≤ (rd t201 x46_2)
                ·rw [if_pos c31] at H;have c31b0 : decide (0 ≤ (rd t201 x46_2)) = true:=decide_eq_true c31;clear c31
                 by_cases c32 : (rd t201 x46_2) < (x3_2.length : Int)
                 ·rw [if_pos c32] at H;have c32b0 : decide ((rd t201 x46_2) < (x3_2.length : Int)) = true:=decide_eq_true c32;clear c32
                  by_cases c33 : (rd x3_2 (rd t201 x46_2)) = (-2)
                  ·rw [if_pos c33] at H;have c33b0 : ((rd x3_2 (rd t201 x46_2)) == (-2)) = true:=beq_iff_eq.mpr c33;have c33b1 : ((rd x3_2 (rd t201 x46_2)) != (-2)) = false:=bne_eq_false_iff_eq.mpr c33;clear c33;obtain ⟨y206,hy206⟩ : ∃ y_ : List Int,y_ = (x3_2.set ((rd t201 x46_2) : Int).toNat t198):=⟨_,rfl⟩
                   replace H : (if x4_2.length < 17592186044416 then (impl_roomsOk.l1 k2 l0 y206 (x4_2 ++ [rd t201 x46_2]) t198 t201 (t201.length : Int) (wrap64 (x46_2 + 1))) else (none)) = some r:=by first | (rw [hy206];with_reducible exact H) | (have H2_:=(G _ _).symm.trans H;rw [hy206];with_reducible exact H2_) | (have H2_:=(G _ _).symm.trans H;with_reducible exact H2_) | with_reducible exact H | (rw [hy206];exact H) | exact H
                   have Ny206:=J hy206;clear hy206
                   by_cases c35 : x4_2.length < 17592186044416
                   ·rw [if_pos c35] at H;have LMc35:=J c35;clear c35;obtain ⟨y207,hy207⟩ : ∃ y_ : List Int,y_ = (x4_2 ++ [rd t201 x46_2]):=⟨_,rfl⟩
                    replace H : (impl_roomsOk.l1 k2 l0 y206 y207 t198 t201 (t201.length : Int) (wrap64 (x46_2 + 1))) = some r:=by first | (rw [hy207];with_reducible exact H) | (have H2_:=(G _ _).symm.trans H;rw [hy207];with_reducible exact H2_) | (have H2_:=(G _ _).symm.trans H;with_reducible exact H2_) | with_reducible exact H | (rw [hy207];exact H) | exact H
                    have Ny207:=J hy207;clear hy207;have H':=J H;clear H
                    have p204 : 0 ≤ (x46_2 : Int):=of_decide_eq_true (by first | (with_reducible assumption) | assumption)
                    have q204 : x46_2 < (t201.length : Int):=of_decide_eq_true (by first | (with_reducible assumption) | assumption)
                    obtain ⟨ad204,e204,hx204_0⟩:=Kd.at_int (Kd.R_reads' HO_44.out).2.2 x46_2 p204 q204
                    cases e204
                    replace p204:=eq_true p204;replace q204:=eq_true q204
                    have p205 : 0 ≤ ((rd t201 x46_2) : Int):=of_decide_eq_true (by first | (with_reducible assumption) | assumption)
                    have q205 : (rd t201 x46_2) < (x3_2.length : Int):=of_decide_eq_true (by first | (with_reducible assumption) | assumption)
                    obtain ⟨ad205,e205,hx205_0⟩:=Kd.at_int (Kd.R_reads' HO_3.out).2.2 (rd t201 x46_2) p205 q205
                    obtain rfl : (⟨go4,0,none⟩ : Addr) = ad205:=(by injection e205)
                    (first | simp only [add_plain] at hx205_0 | simp only [add_at] at hx205_0 | simp only [Addr.add,Nat.zero_add] at hx205_0 | skip)
                    replace p205:=eq_true p205;replace q205:=eq_true q205
                    have p34 : 0 ≤ ((rd t201 x46_2) : Int):=of_decide_eq_true (by first | (with_reducible assumption) | assumption)
                    have q34 : ((rd t201 x46_2) : Int) < ((x3_2.length : Int) : Int):=of_decide_eq_true (by first | (with_reducible assumption) | assumption)
                    obtain ⟨hx34_0,hf34_0⟩:=Kd.R_celln 0 HO_3.out ((rd t201 x46_2) : Int) p34 q34;replace p34:=eq_true p34;replace q34:=eq_true q34;have HP36:=Kd.R_putg HO_3.out ((rd t201 x46_2) : Int) t198
                    go_wp2_with (first | ((with_reducible refine gate_store (t:=3) (p:=59) rfl ?_);refine store_event (t:=3) (p:=59) (v:=?vo_w37) (w1:=(wr.setCell ⟨go4,((rd t201 x46_2) : Int).toNat,none⟩ (.int .i64 t198))) ?hg ?ho ?hn ?hr ?_;(case ho=>rfl);(case hg=>rfl);(case hn=>rfl);(case hr=>first | (go_simp;done) | (go_simp;rfl));intro w37 hw;have hg : wr.grownBy w37 (some go4):=(by rw [hw];exact HP36.2);have hp_ : Kd.R (Kd.int .i64) 3 w37 w.heap.size (fun k_=>some k_ ≠ (u4 : Value).ownBlock ∧ some k_ ≠ (.slice (some ad204) t201.length co27 : Value).ownBlock) (.slice (some ⟨go4,0,none⟩) x3_2.length co4) y206:=(by rw [hw,Ny206.out];exact HP36.1);clear HP36;have n0_:=J (hp_);have n1_:=J (Kd.Q_after (v:=(.slice (some ⟨go4,0,none⟩) x3_2.length co4)) (v1:=(.slice (some ⟨go4,0,none⟩) x3_2.length co4)) (ok:=(fun k_=>some k_ ≠ (.slice (some ad204) t201.length co27 : Value).ownBlock)) (by (with_reducible repeat (first | apply Kd.Q_alloc | apply Kd.Q_drewN | apply Kd.Q_drew));exact Kd.Q_mono HO_4.out (fun _ hk=>⟨hk.2,hk.1⟩)) hg (.inl rfl));have n2_:=J (Kd.R_after (v:=(.slice (some ⟨go4,0,none⟩) x3_2.length co4)) (v1:=(.slice (some ⟨go4,0,none⟩) x3_2.length co4)) (ok:=(fun k_=>some k_ ≠ (u4 : Value).ownBlock)) (by (with_reducible repeat (first | apply Kd.R_alloc | apply Kd.R_drewN | apply Kd.R_drew));exact Kd.R_mono HO_44.out (fun _ hk=>⟨hk.2,hk.1⟩)) hg (.inl rfl));have n3_:=J ((by rw [hw];exact below_set (HB.out) GB4.out : Below w.heap.size w w37));clear HO_3 HO_4 HO_44 HB;have HO_3:=n0_;have HO_4:=n1_;have HO_44:=n2_;have HB:=n3_;clear n0_ n1_ n2_ n3_ hg hw hp_) | ((with_reducible refine gate_builtin (b:=.append) (xs:=#[.tmp 60,.tmp 62]) rfl ?_);at_builtin;refine Kd.Q_append (Kd.int .i64) (w0:=w) w.heap.size rfl (.tmp 60) (.tmp 62) 51 3 (.int .i64 0) 8 rfl Try.underlying51 info3 rfl (by decide) (by omega) u4 x4_2 (rd t201 x46_2) [.int .i64 (rd t201 x46_2)] (fun k_=>some k_ ≠ (.slice (some ⟨go4,0,none⟩) x3_2.length co4 : Value).ownBlock ∧ some k_ ≠ (.slice (some ad204) t201.length co27 : Value).ownBlock) (fun _=>False) rfl rfl ?aP (fun _ hk=>hk.elim) ?aF ?aO ?aB ?aS ?aL ?_;(case aP=>exact rfl);(case aB=>exact q0_ HB);(case aF=>exact (fun k_ hk=>⟨Kd.fresh' (Kd.R_lt (q3_ HO_3)) k_ hk,Kd.fresh' (Kd.R_lt (q3_ HO_44)) k_ hk⟩));(case aO=>exact (by (with_reducible repeat (first | apply Kd.Q_alloc | apply Kd.Q_drewN | apply Kd.Q_drew));exact Kd.Q_mono HO_4.out (fun _ hk=>⟨hk.2,hk.1⟩)));(case aS=>exact (below_size (q0_ HB)));(case aL=>have:=LMc35.out;omega);intro v208 w38 ho hb hg hat;rw [← Ny207.out] at ho;have n0_:=J (Kd.R_after (ok:=(fun k_=>some k_ ≠ (.slice (some ad204) t201.length co27 : Value).ownBlock)) (by (with_reducible repeat (first | apply Kd.R_alloc | apply Kd.R_drewN | apply Kd.R_drew));exact Kd.R_mono HO_3.out (fun _ hk=>⟨hk.2,hk.1⟩)) hg hat);have n1_:=J (Kd.R_after (ok:=(fun k_=>some k_ ≠ (.slice (some ⟨go4,0,none⟩) x3_2.length co4 : Value).ownBlock)) (by (with_reducible repeat (first | apply Kd.R_alloc | apply Kd.R_drewN | apply Kd.R_drew));exact Kd.R_mono HO_44.out (fun _ hk=>⟨hk.2,hk.1⟩)) hg hat);have n2_:=J (hb);have n3_:=J (ho);clear HO_3 HO_44 HB HO_4;have HO_3:=n0_;have HO_44:=n1_;have HB:=n2_;have HO209:=n3_;clear n0_ n1_ n2_ n3_ ho hb hg hat))
                    (try simp only [← hl3_2])
                    go_roundg k2
                    case measure=>have:=HK1.out;have:=HK2.out;omega
                    case rel=>exact ⟨(y206),(y207),(wrap64 (x46_2 + 1)),(by first | rfl | (simp;done) | (simp [*];done)),H',⟨by have:=HK1.out;have:=HK2.out;omega⟩,⟨by (try simp only [hl3_1]);(try simp only [hl3_2]);(with_reducible repeat (first | apply Kd.R_alloc | apply Kd.R_drewN | apply Kd.R_drew));exact Kd.R_mono HO_3.out (fun _ hk=>⟨hk.2,hk.1⟩)⟩,⟨by (try simp only [hl3_1]);(try simp only [hl3_2]);(with_reducible repeat (first | apply Kd.Q_alloc | apply Kd.Q_drewN | apply Kd.Q_drew));exact HO209.out⟩,⟨by (try simp only [hl3_1]);(try simp only [hl3_2]);(with_reducible repeat (first | apply Kd.R_alloc | apply Kd.R_drewN | apply Kd.R_drew));exact HO_44.out⟩,⟨by repeat (first | (with_reducible first | exact HB.out | apply below_alloc | apply pw_below_drewN | apply below_drew1) | exact HB.out)⟩⟩
                   ·rw [if_neg c35] at H
                    exact absurd H (by simp)
                  ·rw [if_neg c33] at H;have c33b0 : ((rd x3_2 (rd t201 x46_2)) == (-2)) = false:=beq_eq_false_iff_ne.mpr c33;have c33b1 : ((rd x3_2 (rd t201 x46_2)) != (-2)) = true:=bne_iff_ne.mpr c33
                   by_cases c39 : (rd x3_2 (rd t201 x46_2)) = t198
                   ·rw [if_pos c39] at H;have c39b0 : ((rd x3_2 (rd t201 x46_2)) == t198) = true:=beq_iff_eq.mpr c39;have c39b1 : ((rd x3_2 (rd t201 x46_2)) != t198) = false:=bne_eq_false_iff_eq.mpr c39;clear c39;have H':=J H;clear H
                    have p204 : 0 ≤ (x46_2 : Int):=of_decide_eq_true (by first | (with_reducible assumption) | assumption)
                    have q204 : x46_2 < (t201.length : Int):=of_decide_eq_true (by first | (with_reducible assumption) | assumption)
                    obtain ⟨ad204,e204,hx204_0⟩:=Kd.at_int (Kd.R_reads' HO_44.out).2.2 x46_2 p204 q204
                    cases e204
                    replace p204:=eq_true p204;replace q204:=eq_true q204
                    have p205 : 0 ≤ ((rd t201 x46_2) : Int):=of_decide_eq_true (by first | (with_reducible assumption) | assumption)
                    have q205 : (rd t201 x46_2) < (x3_2.length : Int):=of_decide_eq_true (by first | (with_reducible assumption) | assumption)
                    obtain ⟨ad205,e205,hx205_0⟩:=Kd.at_int (Kd.R_reads' HO_3.out).2.2 (rd t201 x46_2) p205 q205
                    obtain rfl : (⟨go4,0,none⟩ : Addr) = ad205:=(by injection e205)
                    (first | simp only [add_plain] at hx205_0 | simp only [add_at] at hx205_0 | simp only [Addr.add,Nat.zero_add] at hx205_0 | skip)
                    replace p205:=eq_true p205;replace q205:=eq_true q205
                    go_wp2
                    (try simp only [← hl3_2])
                    go_roundg k2
                    case measure=>have:=HK1.out;have:=HK2.out;omega
                    case rel=>exact ⟨(x3_2),(x4_2),(wrap64 (x46_2 + 1)),(by first | rfl | (simp;done) | (simp [*];done)),H',⟨by have:=HK1.out;have:=HK2.out;omega⟩,⟨by (try simp only [hl3_1]);(try simp only [hl3_2]);(with_reducible repeat (first | apply Kd.R_alloc | apply Kd.R_drewN | apply Kd.R_drew));exact HO_3.out⟩,⟨by (try simp only [hl3_1]);(try simp only [hl3_2]);(with_reducible repeat (first | apply Kd.Q_alloc | apply Kd.Q_drewN | apply Kd.Q_drew));exact HO_4.out⟩,⟨by (try simp only [hl3_1]);(try simp only [hl3_2]);(with_reducible repeat (first | apply Kd.R_alloc | apply Kd.R_drewN | apply Kd.R_drew));exact HO_44.out⟩,⟨by repeat (first | (with_reducible first | exact HB.out | apply below_alloc | apply pw_below_drewN | apply below_drew1) | exact HB.out)⟩⟩
                   ·rw [if_neg c39] at H;have c39b0 : ((rd x3_2 (rd t201 x46_2)) == t198) = false:=beq_eq_false_iff_ne.mpr c39;have c39b1 : ((rd x3_2 (rd t201 x46_2)) != t198) = true:=bne_iff_ne.mpr c39;obtain rfl:=Option.some.inj H
                    have p204 : 0 ≤ (x46_2 : Int):=of_decide_eq_true (by first | (with_reducible assumption) | assumption)
                    have q204 : x46_2 < (t201.length : Int):=of_decide_eq_true (by first | (with_reducible assumption) | assumption)
                    obtain ⟨ad204,e204,hx204_0⟩:=Kd.at_int (Kd.R_reads' HO_44.out).2.2 x46_2 p204 q204
                    cases e204
                    replace p204:=eq_true p204;replace q204:=eq_true q204
                    have p205 : 0 ≤ ((rd t201 x46_2) : Int):=of_decide_eq_true (by first | (with_reducible assumption) | assumption)
                    have q205 : (rd t201 x46_2) < (x3_2.length : Int):=of_decide_eq_true (by first | (with_reducible assumption) | assumption)
                    obtain ⟨ad205,e205,hx205_0⟩:=Kd.at_int (Kd.R_reads' HO_3.out).2.2 (rd t201 x46_2) p205 q205
                    obtain rfl : (⟨go4,0,none⟩ : Addr) = ad205:=(by injection e205)
                    (first | simp only [add_plain] at hx205_0 | simp only [add_at] at hx205_0 | simp only [Addr.add,Nat.zero_add] at hx205_0 | skip)
                    replace p205:=eq_true p205;replace q205:=eq_true q205
                    go_wp2
                    go_ret
                    exact ⟨by first | rfl | (simp [errW_none,errW_some] <;> rfl) | (simp [*,errW_none,errW_some] <;> rfl),by repeat (first | (with_reducible first | exact HB.out | apply below_alloc | apply pw_below_drewN | apply below_drew1) | exact HB.out)⟩
                 ·rw [if_neg c32] at H
                  exact absurd H (by simp)
                ·rw [if_neg c31] at H
                 exact absurd H (by simp)
               ·rw [if_neg c30] at H
                exact absurd H (by simp)
              ·rw [if_neg c29] at H
               exact absurd H (by simp)
             ·rw [if_neg c28] at H;have c28b0 : decide (x46_2 < (t201.length : Int)) = false:=decide_eq_false c28;clear c28;have H':=J H;clear H
              go_wp2
              (try simp only [← hl3_1,← hl3_2])
              go_roundg k2
              case measure=>have:=HK1.out;have:=HK2.out;omega
              case rel=>exact ⟨(x3_2),(x4_2),H',⟨by have:=HK1.out;have:=HK2.out;omega⟩,⟨by (try simp only [hl3_1]);(try simp only [hl3_2]);(with_reducible repeat (first | apply Kd.R_alloc | apply Kd.R_drewN | apply Kd.R_drew));exact Kd.R_mono HO_3.out (fun _ hk=>hk.1)⟩,⟨by (try simp only [hl3_1]);(try simp only [hl3_2]);(with_reducible repeat (first | apply Kd.Q_alloc | apply Kd.Q_drewN | apply Kd.Q_drew));exact Kd.Q_mono HO_4.out (fun _ hk=>hk.1)⟩,⟨by repeat (first | (with_reducible first | exact HB.out | apply below_alloc | apply pw_below_drewN | apply below_drew1) | exact HB.out)⟩⟩
          ·replace c20:=Bool.eq_false_iff.mpr c20;subst c20
           have H1 : (some false) = some r:=by rw [if_neg (show ¬ (false = true) by decide)] at H;exact H
           clear H;have H:=H1;clear H1;obtain rfl:=Option.some.inj H;obtain ⟨Ao40,co40,eo40,_⟩:=Kd.Q_slice HO_4.out;subst eo40
           have p192 : 0 ≤ (0 : Int):=(by omega)
           have q192 : 0 < (x4_1.length : Int):=of_decide_eq_true (by first | (with_reducible assumption) | assumption)
           obtain ⟨ad192,e192,hx192_0⟩:=Kd.at_int (Kd.Q_reads' HO_4.out).2.2 0 p192 q192
           cases e192
           have qi192 : (0 < x4_1.length) = True:=eq_true (by omega)
           (try rw [show ((0 : Int)).toNat = 0 from rfl] at hx192_0)
           (try rw [Addr.add_zero'] at hx192_0)
           replace p192:=eq_true p192;replace q192:=eq_true q192
           have q41 : (1 : Int) ≤ ((x4_1.length : Int) : Int):=of_decide_eq_true (by first | (with_reducible assumption) | assumption)
           obtain ⟨i041,hi041,_,hsz41,_⟩:=info_parts info3
           have hcut41:=cut_from (P:=Try.prog) 51 3 .i64 Try.underlying51 hi041 1 hsz41 (some ad192) x4_1.length co40 1 (by omega) q41
           have hr41:=Kd.Q_drop (k:=(1 : Int).toNat) HO_4.out (by omega)
           obtain ⟨A41,hA41⟩ : ∃ A1,A1 = (if co40 = (1 : Int).toNat then (some ad192) else ((some ad192) : Option Addr).map (·.add ((1 : Int).toNat * 1))):=⟨_,rfl⟩;obtain ⟨c41,hc41⟩ : ∃ c1,c1 = co40 - (1 : Int).toNat:=⟨_,rfl⟩
           have hy41 : y193.length = x4_1.length - (1 : Int).toNat:=(by rw [Ny193.out,List.length_drop])
           rw [← Ny193.out] at hr41;rw [← hy41,← hA41,← hc41] at hcut41
           replace hr41 : Kd.Q (Kd.int .i64) 3 wr w.heap.size (fun k_=>some k_ ≠ (.slice (some ⟨go4,0,none⟩) x3_1.length co4 : Value).ownBlock) (.slice A41 y193.length c41) y193:=(by rw [hA41,hc41,hy41];exact hr41)
           have HE41 : Aside0 ((Value.slice A41 y193.length c41).ownBlock = (.slice (some ad192) x4_1.length co40 : Value).ownBlock):=⟨by rw [hA41];split <;> (cases ((some ad192) : Option Addr) <;> rfl)⟩
           clear hy41 hi041 hsz41 HO_4 hA41 hc41;have HO195:=J hr41;clear hr41;replace q41:=eq_true q41
           have n_:=J (Kd.R_mono (ok':=fun k_=>some k_ ≠ (.slice A41 y193.length c41 : Value).ownBlock) HO_3.out (fun k_ hk=>(by rw [HE41.out];exact hk)))
           clear HO_3;have HO_3:=n_;clear n_
           try go_wp2
           have n0_:=J (Kd.R_drew HO_3.out);have n1_:=J (Kd.Q_drew HO195.out);have n2_:=J (below_drew1 HB.out);clear HO_3 HO195 HB;have HO_3:=n0_;have HO195:=n1_;have HB:=n2_;clear n0_ n1_ n2_
           have p196 : 0 ≤ ((rd x4_1 0) : Int):=of_decide_eq_true (by first | (with_reducible assumption) | assumption)
           have q196 : (rd x4_1 0) < (l0.length : Int):=of_decide_eq_true (by first | (with_reducible assumption) | assumption)
           obtain ⟨ad196,e196,hx196_0,hx196_1,hx196_2,hx196_3⟩:=at_T42 HR0.out (rd x4_1 0) p196 q196;have hw196_3:=hx196_3;have hw196_2:=hx196_2;have hw196_1:=hx196_1;have hw196_0:=hx196_0
           cases e196
           replace hx196_0:=(HB.out.cell (X w _ hx196_0)).trans hx196_0;replace hx196_1:=(HB.out.cell (X w _ hx196_1)).trans hx196_1;replace hx196_2:=(HB.out.cell (X w _ hx196_2)).trans hx196_2;replace hx196_3:=(HB.out.cell (X w _ hx196_3)).trans hx196_3;replace p196:=eq_true p196;replace q196:=eq_true q196
           have p197 : 0 ≤ ((rd x4_1 0) : Int):=of_decide_eq_true (by first | (with_reducible assumption) | assumption)
           have q197 : (rd x4_1 0) < (x3_1.length : Int):=of_decide_eq_true (by first | (with_reducible assumption) | assumption)
           obtain ⟨ad197,e197,hx197_0⟩:=Kd.at_int (Kd.R_reads' HO_3.out).2.2 (rd x4_1 0) p197 q197
           obtain rfl : (⟨go4,0,none⟩ : Addr) = ad197:=(by injection e197)
           (first | simp only [add_plain] at hx197_0 | simp only [add_at] at hx197_0 | simp only [Addr.add,Nat.zero_add] at hx197_0 | skip)
           replace p197:=eq_true p197;replace q197:=eq_true q197
           refine start_ (n:=14) (S:=fun w'=>w'.cell? (ad196.add (((rd x4_1 0)).toNat * 4)) = some (.int .i64 ((rd_T42 l0 (rd x4_1 0)).f0)) ∧ w'.cell? ⟨(ad196.add (((rd x4_1 0)).toNat * 4)).block,(ad196.add (((rd x4_1 0)).toNat * 4)).off + 1,none⟩ = some (.int .i64 ((rd_T42 l0 (rd x4_1 0)).f1)) ∧ w'.cell? ⟨(ad196.add (((rd x4_1 0)).toNat * 4)).block,(ad196.add (((rd x4_1 0)).toNat * 4)).off + 2,none⟩ = some (.int .i64 ((rd_T42 l0 (rd x4_1 0)).f2)) ∧ w'.cell? ⟨(ad196.add (((rd x4_1 0)).toNat * 4)).block,(ad196.add (((rd x4_1 0)).toNat * 4)).off + 3,none⟩ = some (.int .i64 ((rd_T42 l0 (rd x4_1 0)).f3)) ∧ w'.cell? ⟨go4,((rd x4_1 0)).toNat,none⟩ = some (.int .i64 (rd x3_1 (rd x4_1 0)))) (ds:=[]) #[Z,Z,Z,Z,Z,Z,Z,Z,Z,Z,Z,Z,Z,Z] (by kernel_rfl) rfl rfl ⟨((HB.out.cell (X w _ hw196_0)).trans hw196_0),((HB.out.cell (X w _ hw196_1)).trans hw196_1),((HB.out.cell (X w _ hw196_2)).trans hw196_2),((HB.out.cell (X w _ hw196_3)).trans hw196_3),hx197_0⟩ (fun hHeld=>?_);refine with_tabW impl_roomsOk.tab7 impl_roomsOk.bits7 (fun HT_ HW_=>?_)
           generalize wr.drew = w42 at HO_3 HO195 HB hx196_0 hx196_1 hx196_2 hx196_3 hx197_0 hHeld ⊢
           refine pure_ (i:=0) (N:=some 26) (v:=?_) (a':=?_) #[O,Z,Z,Z,Z,Z,Z,Z,Z,Z,Z,Z,Z,Z] rfl rfl (any_of HT_.out (by kernel_rfl)) (fun _ _ _ h=>h) (Or.inl ⟨by rfl,?_⟩) ?_ ?_;rotate_left;(intro w';go_simp;with_reducible rfl);rotate_left;((try simp only [W,Y,E,U,i64_w,i32_w]);rfl)
           refine pure_ (i:=1) (N:=some 27) (v:=?_) (a':=?_) #[O,O,Z,Z,Z,Z,Z,Z,Z,Z,Z,Z,Z,Z] rfl rfl (any_of HT_.out (by kernel_rfl)) (fun _ _ _ h=>h) (Or.inl ⟨by rfl,?_⟩) ?_ ?_;rotate_left;(intro w';go_simp;with_reducible rfl);rotate_left;((try simp only [W,Y,E,U,i64_w,i32_w]);rfl)
           refine pure_ (i:=2) (N:=some 28) (v:=?_) (a':=?_) #[O,O,O,Z,Z,Z,Z,Z,Z,Z,Z,Z,Z,Z] rfl rfl (any_of HT_.out (by kernel_rfl)) (fun _ _ _ h=>h) (Or.inl ⟨by rfl,?_⟩) ?_ ?_;rotate_left;(intro w';go_simp;with_reducible rfl);rotate_left;((try simp only [W,Y,E,U,i64_w,i32_w]);rfl)
           refine pure_ (i:=4) (N:=some 30) (v:=?_) (a':=?_) #[O,O,O,Z,O,Z,Z,Z,Z,Z,Z,Z,Z,Z] rfl rfl (any_of HT_.out (by kernel_rfl)) (fun _ _ _ h=>h) (Or.inl ⟨by rfl,?_⟩) ?_ ?_;rotate_left;(intro w';go_simp;with_reducible rfl);rotate_left;((try simp only [W,Y,E,U,i64_w,i32_w]);rfl)
           refine pure_ (i:=5) (N:=some 31) (v:=?_) (a':=?_) #[O,O,O,Z,O,O,Z,Z,Z,Z,Z,Z,Z,Z] rfl rfl (any_of HT_.out (by kernel_rfl)) (fun _ _ _ h=>h) (Or.inl ⟨by rfl,?_⟩) ?_ ?_;rotate_left;(intro w';go_simp;with_reducible rfl);rotate_left;((try simp only [W,Y,E,U,i64_w,i32_w]);rfl)
           refine pure_ (i:=6) (N:=some 32) (v:=?_) (a':=?_) #[O,O,O,Z,O,O,O,Z,Z,Z,Z,Z,Z,Z] rfl rfl (any_of HT_.out (by kernel_rfl)) (fun _ _ _ h=>h) (Or.inl ⟨by rfl,?_⟩) ?_ ?_;rotate_left;(intro w';go_simp;with_reducible rfl);rotate_left;((try simp only [W,Y,E,U,i64_w,i32_w]);rfl)
           refine take_ (i:=3) (N:=some 29) (v:=?_) (a':=?_) #[O,O,O,O,O,O,O,Z,Z,Z,Z,Z,Z,Z] rfl rfl (take_ofW HT_.out HW_.out (by kernel_rfl)) (fun _ _ _ h=>h) (Or.inl ⟨by rfl,?_⟩) hHeld ?_ ?_;rotate_left;(rintro w' ⟨s0,s1,s2,s3,s4⟩;go_simp;with_reducible rfl);rotate_left;((try simp only [W,Y,E,U,i64_w,i32_w]);rfl)
           refine take_ (i:=7) (N:=some 33) (v:=?_) (a':=?_) #[O,O,O,O,O,O,O,O,Z,Z,Z,Z,Z,Z] rfl rfl (take_ofW HT_.out HW_.out (by kernel_rfl)) (fun _ _ _ h=>h) (Or.inl ⟨by rfl,?_⟩) hHeld ?_ ?_;rotate_left;(rintro w' ⟨s0,s1,s2,s3,s4⟩;go_simp;with_reducible rfl);rotate_left;((try simp only [W,Y,E,U,i64_w,i32_w]);rfl)
           refine one_ (i:=8) (N:=some 34) #[O,O,O,O,O,O,O,O,O,Z,Z,Z,Z,Z] rfl rfl (one_of HT_.out (by kernel_rfl)) (by decide) (fun K hK=>?_)
           refine goes_ Try.func61 (by kernel_rfl) rfl #[.agg #[.int .i64 ((rd_T42 l0 (rd x4_1 0)).f0),.int .i64 ((rd_T42 l0 (rd x4_1 0)).f1),.int .i64 ((rd_T42 l0 (rd x4_1 0)).f2),.int .i64 ((rd_T42 l0 (rd x4_1 0)).f3)],.int .i64 (rd x3_1 (rd x4_1 0))] (by rfl) rfl rfl (by (try simp only [List.map_toArray,List.map_cons,List.map_nil]);first | done | rfl | (simp only [List.length_drop,List.length_take];rfl)) ?_
           with_reducible refine (impl_Ins_moves.calls ((rd_T42 l0 (rd x4_1 0)).f0) ((rd_T42 l0 (rd x4_1 0)).f1) ((rd_T42 l0 (rd x4_1 0)).f2) ((rd_T42 l0 (rd x4_1 0)).f3) (rd x3_1 (rd x4_1 0)) t198 false _ A19.out).mono ?_
           rintro e w43 ⟨rfl,hb⟩
           have HS4_:=(hb.cell (X _ _ (hHeld.2.2.2.2))).trans (hHeld.2.2.2.2)
           refine ⟨_,rfl,?_⟩
           have n0_:=J (Kd.R_below (q3_ HO_3) hb)
           have n1_:=J (Kd.Q_below (by (with_reducible repeat (first | apply Kd.Q_alloc | apply Kd.Q_drewN | apply Kd.Q_drew));exact HO195.out) hb)
           have n2_:=J (below_step (q0_ HB) hb)
           clear HO_3 HO195 HB;have HO_3:=n0_;have HO195:=n1_;have HB:=n2_;clear n0_ n1_ n2_
           refine hK.out _ _ ⟨((HB.out.cell (X w _ hw196_0)).trans hw196_0),((HB.out.cell (X w _ hw196_1)).trans hw196_1),((HB.out.cell (X w _ hw196_2)).trans hw196_2),((HB.out.cell (X w _ hw196_3)).trans hw196_3),HS4_⟩ (fun hHeld=>?_)
           clear hK K
           refine norm_ (a':=?_) ?_ ?_
           rotate_left
           ·show W _ (some 34) _ = _
            simp only [W,Y,E,U,i64_w,i32_w]
            rfl
           refine pure_ (i:=9) (N:=some 25) (v:=?_) (a':=?_) #[O,O,O,O,O,O,O,O,O,O,Z,Z,Z,Z] rfl rfl (any_of HT_.out (by kernel_rfl)) (fun _ _ _ h=>h) (Or.inl ⟨by rfl,?_⟩) ?_ ?_;rotate_left;(intro w';go_simp;with_reducible rfl);rotate_left;((try simp only [W,Y,E,U,i64_w,i32_w]);rfl)
           refine pure_ (i:=10) (N:=some 35) (v:=?_) (a':=?_) #[O,O,O,O,O,O,O,O,O,O,O,Z,Z,Z] rfl rfl (any_of HT_.out (by kernel_rfl)) (fun _ _ _ h=>h) (Or.inl ⟨by rfl,?_⟩) ?_ ?_;rotate_left;(intro w';go_simp;with_reducible rfl);rotate_left;((try simp only [W,Y,E,U,i64_w,i32_w]);rfl)
           refine pure_ (i:=11) (N:=some 36) (v:=?_) (a':=?_) #[O,O,O,O,O,O,O,O,O,O,O,O,Z,Z] rfl rfl (any_of HT_.out (by kernel_rfl)) (fun _ _ _ h=>h) (Or.inl ⟨by rfl,?_⟩) ?_ ?_;rotate_left;(intro w';go_simp;with_reducible rfl);rotate_left;((try simp only [W,Y,E,U,i64_w,i32_w]);rfl)
           refine pure_ (i:=12) (N:=some 6) (v:=?_) (a':=?_) #[O,O,O,O,O,O,O,O,O,O,O,O,O,Z] rfl rfl (any_of HT_.out (by kernel_rfl)) (fun _ _ _ h=>h) (Or.inl ⟨by rfl,?_⟩) ?_ ?_;rotate_left;(intro w';go_simp;with_reducible rfl);rotate_left;((try simp only [W,Y,E,U,i64_w,i32_w]);rfl)
           refine pure_ (i:=13) (N:=some 7) (v:=?_) (a':=?_) #[O,O,O,O,O,O,O,O,O,O,O,O,O,O] rfl rfl (any_of HT_.out (by kernel_rfl)) (fun _ _ _ h=>h) (Or.inl ⟨by rfl,?_⟩) ?_ ?_;rotate_left;(intro w';go_simp;with_reducible rfl);rotate_left;((try simp only [W,Y,E,U,i64_w,i32_w]);rfl)
           refine done_ (done_of HT_.out (by kernel_rfl)) ?_
           try go_wp2
           go_ret
           exact ⟨by first | rfl | (simp [errW_none,errW_some] <;> rfl) | (simp [*,errW_none,errW_some] <;> rfl),by repeat (first | (with_reducible first | exact HB.out | apply below_alloc | apply pw_below_drewN | apply below_drew1) | exact HB.out)⟩
         ·rw [if_neg c18] at H
          exact absurd H (by simp)
        ·rw [if_neg c17] at H
         exact absurd H (by simp)
       ·rw [if_neg c16] at H
        exact absurd H (by simp)
      ·rw [if_neg c15] at H
       exact absurd H (by simp)
     ·rw [if_neg c14] at H
      exact absurd H (by simp)
    ·rw [if_neg c13] at H;have c13b0 : decide (0 < (x4_1.length : Int)) = false:=decide_eq_false c13
     have c13b1 : decide (0 < x4_1.length) = false:=decide_eq_false (by omega)
     clear c13;obtain rfl:=Option.some.inj H;obtain ⟨Ao44,co44,eo44,_⟩:=Kd.Q_slice HO_4.out;subst eo44
     go_wp2
     go_ret
     exact ⟨by first | rfl | (simp [errW_none,errW_some] <;> rfl) | (simp [*,errW_none,errW_some] <;> rfl),by repeat (first | (with_reducible first | exact HB.out | apply below_alloc | apply pw_below_drewN | apply below_drew1) | exact HB.out)⟩
 ·rw [if_neg c3] at H
  exact absurd H (by simp)
end Go.Proofs.Ytphbdoljkpdflaa.P

namespace Go.Proofs.Ytphbdoljkpdflaa.P
open Go.RowKit Go.Proofs.YtphbdoljkpdflaaW.PrintWords Go.Proofs.YtphbdoljkpdflaaW.PrintLast Go.Proofs.YtphbdoljkpdflaaW.PrintMore
open Go.Proofs.YtphbdoljkpdflaaW.PrintWords renaming Aside0.mk → O
open Go renaming World.block_lt_of_cell? → Z
attribute [local go_sem] max2_int min2_int max_two min_two max_three min_three max_four min_four
set_option linter.unusedVariables false
set_option linter.unusedSimpArgs false
mutual
def impl_CodeOk.j0 : Nat → List (S42) → Bool → Option (Bool)
 | 0,_,_=>none
 | k + 1,x0,x12=>if x12 = true then (some false) else (impl_CodeOk.l0 k x0 x0 (x0.length : Int) 0)
def impl_CodeOk.l0 : Nat → List (S42) → List (S42) → Int → Int → Option (Bool)
 | 0,_,_,_,_=>none
 | k + 1,x0,x13,x14,x15=>if x15 < x14 then (if 0 ≤ x15 then (if x15 < (x13.length : Int) then ((impl_insOk.f ((rd_T42 x13 x15).f0) ((rd_T42 x13 x15).f1) ((rd_T42 x13 x15).f2) ((rd_T42 x13 x15).f3) (x0.length : Int)).bind fun t212=>(if t212 = true then (if ((((rd_T42 x13 x15).f0) == 13) != (x15 == (wrap64 ((x0.length : Int) - 1)))) = true then (some false) else (impl_CodeOk.l0 k x0 x13 x14 (wrap64 (x15 + 1)))) else (some false))) else (none)) else (none)) else ((impl_roomsOk.f k x0).bind fun t213=>(some t213))
end
def impl_CodeOk.f (k : Nat) (l0 : List (S42)) : Option (Bool):=if (l0.length : Int) < 1 then (impl_CodeOk.j0 k l0 true) else (impl_CodeOk.j0 k l0 (decide ((l0.length : Int) > 60)))
set_option maxHeartbeats 8000000 in
set_option maxRecDepth 100000 in
theorem impl_CodeOk.calls (k : Nat) (A0 : Option Addr) (c0 : Nat) (l0 : List (S42)) (r : Bool) (w : World) (hr0 : Kd.C k42 w A0 l0.length l0) (hc0 : l0.length ≤ c0) (h : impl_CodeOk.f k l0 = some r) :
  Calls Try.prog 15 #[.slice A0 l0.length c0] w fun e w'=>e = .returned (.bool r) ∧ Below w.heap.size w w':=by
 have hu42:=Try.underlying42;have HR0:=O hr0;have HC0:=O hc0;clear hr0 hc0;have HB:=O (Below.refl w.heap.size w);have H : (if (l0.length : Int) < 1 then (impl_CodeOk.j0 k l0 true) else (impl_CodeOk.j0 k l0 (decide ((l0.length : Int) > 60)))) = some r:=h;clear h;have HC2:=O H;clear H;go_enter Try.func15,Try.ntmps15
 go_upto_region 1 with (fail)
 go_cut [12] (fun v12 wc=>∃ (kq : Nat) (x12_1 : Bool),v12 = .bool x12_1 ∧ Aside0 (impl_CodeOk.j0 kq l0 x12_1 = some r) ∧ Aside0 (kq ≤ k) ∧ Aside0 (Below w.heap.size w wc))
 case first =>
  have H:=HC2.out;clear HC2
  by_cases c3 : (l0.length : Int) < 1
  ·rw [if_pos c3] at H;have c3b0 : decide ((l0.length : Int) < 1) = true:=decide_eq_true c3
   have c3b1 : decide (l0.length < 1) = true:=decide_eq_true (by omega)
   clear c3
   (first | rw [c3b0] | (simp only [i64_w,i32_w];rw [c3b0]) | skip)
   have H':=O H;clear H
   go_wp2
   go_meet
   case rel=>exact ⟨_,(true),(by first | rfl | (simp;done) | (simp [*];done)),H',⟨by first | omega | exact Nat.le_refl _⟩,⟨by repeat (first | (with_reducible first | exact HB.out | apply below_alloc | apply pw_below_drewN | apply below_drew1) | exact HB.out)⟩⟩
  ·rw [if_neg c3] at H;have c3b0 : decide ((l0.length : Int) < 1) = false:=decide_eq_false c3
   have c3b1 : decide (l0.length < 1) = false:=decide_eq_false (by omega)
   clear c3
   (first | rw [c3b0] | (simp only [i64_w,i32_w];rw [c3b0]) | skip)
   have H':=O H;clear H
   go_wp2
   go_meet
   case rel=>exact ⟨_,(decide ((l0.length : Int) > 60)),(by first | rfl | (simp;done) | (simp [*];done)),H',⟨by first | omega | exact Nat.le_refl _⟩,⟨by repeat (first | (with_reducible first | exact HB.out | apply below_alloc | apply pw_below_drewN | apply below_drew1) | exact HB.out)⟩⟩
 case rest =>
  clear HC2;(try clear c1);(try clear p2);(try clear c3);(try clear c3b0);(try clear c3b1);obtain ⟨kq,x12_1,rfl,HA,HJ1,HB⟩:=hcut
  cases kq with
  | zero=>exact absurd HA.out (by simp [impl_CodeOk.j0])
  | succ kj1 =>
   have H:=HA.out;clear HA;simp only [impl_CodeOk.j0] at H
   by_cases c4 : x12_1 = true
   ·subst c4
    have H1 : (some false) = some r:=by rw [if_pos rfl] at H;exact H
    clear H;have H:=H1;clear H1;obtain rfl:=Option.some.inj H
    go_wp2
    go_ret
    exact ⟨by first | rfl | (simp [errW_none,errW_some] <;> rfl) | (simp [*,errW_none,errW_some] <;> rfl),by repeat (first | (with_reducible first | exact HB.out | apply below_alloc | apply pw_below_drewN | apply below_drew1) | exact HB.out)⟩
   ·replace c4:=Bool.eq_false_iff.mpr c4;subst c4
    have H1 : (impl_CodeOk.l0 kj1 l0 l0 (l0.length : Int) 0) = some r:=by rw [if_neg (show ¬ (false = true) by decide)] at H;exact H
    clear H;have H:=H1;clear H1;have H':=O H;clear H
    go_wp2
    go_loopg [15] kj1 (fun kq v15 w'=>∃ (x15_2 : Int),v15 = .int .i64 x15_2 ∧ Aside0 (impl_CodeOk.l0 kq l0 l0 (l0.length : Int) x15_2 = some r) ∧ Aside0 (kq ≤ kj1) ∧ Aside0 (Below w.heap.size w w'))
    case atStart=>exact ⟨(0),(by first | rfl | (simp;done) | (simp [*];done)),H',⟨Nat.le_refl _⟩,⟨by repeat (first | (with_reducible first | exact HB.out | apply below_alloc | apply pw_below_drewN | apply below_drew1) | exact HB.out)⟩⟩
    case round =>
     clear H';(try clear c1);(try clear p2);(try clear c3);(try clear c3b0);(try clear c3b1);(try clear c4);(try clear p2);obtain ⟨x15_2,rfl,HA,HK2,HB⟩:=hrel
     cases gk with
     | zero=>exact absurd HA.out (by simp [impl_CodeOk.l0])
     | succ k2 =>
      have H:=HA.out;clear HA;simp only [impl_CodeOk.l0] at H
      by_cases c5 : x15_2 < (l0.length : Int)
      ·rw [if_pos c5] at H;have c5b0 : decide (x15_2 < (l0.length : Int)) = true:=decide_eq_true c5;clear c5
       by_cases c6 : 0 ≤ x15_2
       ·rw [if_pos c6] at H;have c6b0 : decide (0 ≤ x15_2) = true:=decide_eq_true c6;clear c6
        by_cases c7 : x15_2 < (l0.length : Int)
        ·rw [if_pos c7] at H;have c7b0 : decide (x15_2 < (l0.length : Int)) = true:=decide_eq_true c7;clear c7;replace H:=Option.bind_eq_some_iff.mp H;obtain ⟨t212,A80,H⟩:=H;replace H : (if t212 = true then (if ((((rd_T42 l0 x15_2).f0) == 13) != (x15_2 == (wrap64 ((l0.length : Int) - 1)))) = true then (some false) else (impl_CodeOk.l0 k2 l0 l0 (l0.length : Int) (wrap64 (x15_2 + 1)))) else (some false)) = some r:=H;have A8:=O A80;clear A80
         by_cases c9 : t212 = true
         ·subst c9
          have H1 : (if ((((rd_T42 l0 x15_2).f0) == 13) != (x15_2 == (wrap64 ((l0.length : Int) - 1)))) = true then (some false) else (impl_CodeOk.l0 k2 l0 l0 (l0.length : Int) (wrap64 (x15_2 + 1)))) = some r:=by rw [if_pos rfl] at H;exact H
          clear H;have H:=H1;clear H1
          by_cases c10 : ((((rd_T42 l0 x15_2).f0) == 13) != (x15_2 == (wrap64 ((l0.length : Int) - 1)))) = true
          ·rw [if_pos c10] at H;have c10b0 : ((((rd_T42 l0 x15_2).f0) == 13) != (x15_2 == (wrap64 ((l0.length : Int) - 1)))) = true:=c10
           (try (have c10b1 : decide ((((rd_T42 l0 x15_2).f0) == 13) = (x15_2 == (wrap64 ((l0.length : Int) - 1)))) = false:=by simpa using c10))
           (try (have c10b2 : ((((rd_T42 l0 x15_2).f0) == 13) == (x15_2 == (wrap64 ((l0.length : Int) - 1)))) = false:=by simpa using c10))
           (try (have c10b3 : ¬ ((((rd_T42 l0 x15_2).f0) == 13) = (x15_2 == (wrap64 ((l0.length : Int) - 1)))):=by simpa using c10))
           clear c10;obtain rfl:=Option.some.inj H
           have p210 : 0 ≤ (x15_2 : Int):=of_decide_eq_true (by first | (with_reducible assumption) | assumption)
           have q210 : x15_2 < (l0.length : Int):=of_decide_eq_true (by first | (with_reducible assumption) | assumption)
           obtain ⟨ad210,e210,hx210_0,hx210_1,hx210_2,hx210_3⟩:=at_T42 HR0.out x15_2 p210 q210
           cases e210
           replace hx210_0:=(HB.out.cell (Z w _ hx210_0)).trans hx210_0;replace hx210_1:=(HB.out.cell (Z w _ hx210_1)).trans hx210_1;replace hx210_2:=(HB.out.cell (Z w _ hx210_2)).trans hx210_2;replace hx210_3:=(HB.out.cell (Z w _ hx210_3)).trans hx210_3;replace p210:=eq_true p210;replace q210:=eq_true q210
           go_wp2_with (first | ((with_reducible refine gate_dst (N:=4) rfl ?_);(try (refine gate_guard (by rfl) ?_;dsimp only));refine box_event ?hg (N:=4) ?hd (cs:=#[.int .i64 0,.int .i64 0,.int .i64 0,.int .i64 0]) (t:=42) ?hr ?_;(case hd=>rfl);(case hg=>rfl);(case hr=>first | (go_simp;done) | (go_simp;rfl));intro gb211 hg w11 hbox hb;have n0_:=O (below_step (q0_ HB) hb);have n1_:=O (hbox);have n2_:=O ((by rw [hg];exact (below_size (q0_ HB)) : w.heap.size ≤ gb211));have n3_:=O ((by rw [hg];exact (below_size (q0_ HB)) : w.heap.size ≤ gb211));clear HB;have HB:=n0_;have BK211:=n1_;have GW211:=n2_;have GE211:=n3_;clear n0_ n1_ n2_ n3_ hb hbox hg;obtain ⟨hcz12_0,hcz12_1,hcz12_2,hcz12_3,hfz12_0,hfz12_1,hfz12_2,hfz12_3⟩:=bz4_ BK211) | ((with_reducible refine gate_callee (f:=36) rfl ?_);refine goesM_ (some 23) Try.func36 #[.agg #[.int .i64 ((rd_T42 l0 x15_2).f0),.int .i64 ((rd_T42 l0 x15_2).f1),.int .i64 ((rd_T42 l0 x15_2).f2),.int .i64 ((rd_T42 l0 x15_2).f3)],.int .i64 (l0.length : Int)] ?_;(with_reducible refine (impl_insOk.calls ((rd_T42 l0 x15_2).f0) ((rd_T42 l0 x15_2).f1) ((rd_T42 l0 x15_2).f2) ((rd_T42 l0 x15_2).f3) (l0.length : Int) true _ A8.out).mono ?_);rintro e w13 ⟨rfl,hb⟩;refine ⟨_,rfl,?_⟩;have n0_:=O (blk_below (g:=gb211) (o:=.cells #[.int .i64 ((rd_T42 l0 x15_2).f0),.int .i64 ((rd_T42 l0 x15_2).f1),.int .i64 ((rd_T42 l0 x15_2).f2),.int .i64 ((rd_T42 l0 x15_2).f3)] 42 (0,0)) (by (with_reducible repeat (first | refine blk_drewN ?_ _ | refine blk_drew ?_ | refine blk_alloc ?_ _));apply bp4_3_;(with_reducible repeat (first | refine blk_drewN ?_ _ | refine blk_drew ?_ | refine blk_alloc ?_ _));apply bp4_2_;(with_reducible repeat (first | refine blk_drewN ?_ _ | refine blk_drew ?_ | refine blk_alloc ?_ _));apply bp4_1_;(with_reducible repeat (first | refine blk_drewN ?_ _ | refine blk_drew ?_ | refine blk_alloc ?_ _));apply bp4_0_;(with_reducible repeat (first | refine blk_drewN ?_ _ | refine blk_drew ?_ | refine blk_alloc ?_ _));exact BK211.out) hb);have n1_:=O (below_step (q2_ HB GE211) hb);clear BK211 HB;have BK211:=n0_;have HB:=n1_;clear n0_ n1_;(try clear hb);obtain ⟨hcz14_0,hcz14_1,hcz14_2,hcz14_3,hfz14_0,hfz14_1,hfz14_2,hfz14_3⟩:=bz4_ BK211))
           go_ret
           exact ⟨by first | rfl | (simp [errW_none,errW_some] <;> rfl) | (simp [*,errW_none,errW_some] <;> rfl),by repeat (first | (with_reducible first | exact HB.out | apply below_alloc | apply pw_below_drewN | apply below_drew1 | refine below_set ?_ GE211.out) | exact HB.out)⟩
          ·rw [if_neg c10] at H
           have c10b0 : ((((rd_T42 l0 x15_2).f0) == 13) != (x15_2 == (wrap64 ((l0.length : Int) - 1)))) = false:=by simpa using c10
           (try (have c10b1 : decide ((((rd_T42 l0 x15_2).f0) == 13) = (x15_2 == (wrap64 ((l0.length : Int) - 1)))) = true:=by simpa using c10))
           (try (have c10b2 : ((((rd_T42 l0 x15_2).f0) == 13) == (x15_2 == (wrap64 ((l0.length : Int) - 1)))) = true:=by simpa using c10))
           clear c10;have H':=O H;clear H
           have p210 : 0 ≤ (x15_2 : Int):=of_decide_eq_true (by first | (with_reducible assumption) | assumption)
           have q210 : x15_2 < (l0.length : Int):=of_decide_eq_true (by first | (with_reducible assumption) | assumption)
           obtain ⟨ad210,e210,hx210_0,hx210_1,hx210_2,hx210_3⟩:=at_T42 HR0.out x15_2 p210 q210
           cases e210
           replace hx210_0:=(HB.out.cell (Z w _ hx210_0)).trans hx210_0;replace hx210_1:=(HB.out.cell (Z w _ hx210_1)).trans hx210_1;replace hx210_2:=(HB.out.cell (Z w _ hx210_2)).trans hx210_2;replace hx210_3:=(HB.out.cell (Z w _ hx210_3)).trans hx210_3;replace p210:=eq_true p210;replace q210:=eq_true q210
           go_wp2_with (first | ((with_reducible refine gate_dst (N:=4) rfl ?_);(try (refine gate_guard (by rfl) ?_;dsimp only));refine box_event ?hg (N:=4) ?hd (cs:=#[.int .i64 0,.int .i64 0,.int .i64 0,.int .i64 0]) (t:=42) ?hr ?_;(case hd=>rfl);(case hg=>rfl);(case hr=>first | (go_simp;done) | (go_simp;rfl));intro gb211 hg w15 hbox hb;have n0_:=O (below_step (q0_ HB) hb);have n1_:=O (hbox);have n2_:=O ((by rw [hg];exact (below_size (q0_ HB)) : w.heap.size ≤ gb211));have n3_:=O ((by rw [hg];exact (below_size (q0_ HB)) : w.heap.size ≤ gb211));clear HB;have HB:=n0_;have BK211:=n1_;have GW211:=n2_;have GE211:=n3_;clear n0_ n1_ n2_ n3_ hb hbox hg;obtain ⟨hcz16_0,hcz16_1,hcz16_2,hcz16_3,hfz16_0,hfz16_1,hfz16_2,hfz16_3⟩:=bz4_ BK211) | ((with_reducible refine gate_callee (f:=36) rfl ?_);refine goesM_ (some 23) Try.func36 #[.agg #[.int .i64 ((rd_T42 l0 x15_2).f0),.int .i64 ((rd_T42 l0 x15_2).f1),.int .i64 ((rd_T42 l0 x15_2).f2),.int .i64 ((rd_T42 l0 x15_2).f3)],.int .i64 (l0.length : Int)] ?_;(with_reducible refine (impl_insOk.calls ((rd_T42 l0 x15_2).f0) ((rd_T42 l0 x15_2).f1) ((rd_T42 l0 x15_2).f2) ((rd_T42 l0 x15_2).f3) (l0.length : Int) true _ A8.out).mono ?_);rintro e w17 ⟨rfl,hb⟩;refine ⟨_,rfl,?_⟩;have n0_:=O (blk_below (g:=gb211) (o:=.cells #[.int .i64 ((rd_T42 l0 x15_2).f0),.int .i64 ((rd_T42 l0 x15_2).f1),.int .i64 ((rd_T42 l0 x15_2).f2),.int .i64 ((rd_T42 l0 x15_2).f3)] 42 (0,0)) (by (with_reducible repeat (first | refine blk_drewN ?_ _ | refine blk_drew ?_ | refine blk_alloc ?_ _));apply bp4_3_;(with_reducible repeat (first | refine blk_drewN ?_ _ | refine blk_drew ?_ | refine blk_alloc ?_ _));apply bp4_2_;(with_reducible repeat (first | refine blk_drewN ?_ _ | refine blk_drew ?_ | refine blk_alloc ?_ _));apply bp4_1_;(with_reducible repeat (first | refine blk_drewN ?_ _ | refine blk_drew ?_ | refine blk_alloc ?_ _));apply bp4_0_;(with_reducible repeat (first | refine blk_drewN ?_ _ | refine blk_drew ?_ | refine blk_alloc ?_ _));exact BK211.out) hb);have n1_:=O (below_step (q2_ HB GE211) hb);clear BK211 HB;have BK211:=n0_;have HB:=n1_;clear n0_ n1_;(try clear hb);obtain ⟨hcz18_0,hcz18_1,hcz18_2,hcz18_3,hfz18_0,hfz18_1,hfz18_2,hfz18_3⟩:=bz4_ BK211))
           go_roundg k2
           case measure=>have:=HJ1.out;have:=HK2.out;omega
           case rel=>exact ⟨(wrap64 (x15_2 + 1)),(by first | rfl | (simp;done) | (simp [*];done)),H',⟨by have:=HJ1.out;have:=HK2.out;omega⟩,⟨by repeat (first | (with_reducible first | exact HB.out | apply below_alloc | apply pw_below_drewN | apply below_drew1 | refine below_set ?_ GE211.out) | exact HB.out)⟩⟩
         ·replace c9:=Bool.eq_false_iff.mpr c9;subst c9
          have H1 : (some false) = some r:=by rw [if_neg (show ¬ (false = true) by decide)] at H;exact H
          clear H;have H:=H1;clear H1;obtain rfl:=Option.some.inj H
          have p210 : 0 ≤ (x15_2 : Int):=of_decide_eq_true (by first | (with_reducible assumption) | assumption)
          have q210 : x15_2 < (l0.length : Int):=of_decide_eq_true (by first | (with_reducible assumption) | assumption)
          obtain ⟨ad210,e210,hx210_0,hx210_1,hx210_2,hx210_3⟩:=at_T42 HR0.out x15_2 p210 q210
          cases e210
          replace hx210_0:=(HB.out.cell (Z w _ hx210_0)).trans hx210_0;replace hx210_1:=(HB.out.cell (Z w _ hx210_1)).trans hx210_1;replace hx210_2:=(HB.out.cell (Z w _ hx210_2)).trans hx210_2;replace hx210_3:=(HB.out.cell (Z w _ hx210_3)).trans hx210_3;replace p210:=eq_true p210;replace q210:=eq_true q210
          go_wp2_with (first | ((with_reducible refine gate_dst (N:=4) rfl ?_);(try (refine gate_guard (by rfl) ?_;dsimp only));refine box_event ?hg (N:=4) ?hd (cs:=#[.int .i64 0,.int .i64 0,.int .i64 0,.int .i64 0]) (t:=42) ?hr ?_;(case hd=>rfl);(case hg=>rfl);(case hr=>first | (go_simp;done) | (go_simp;rfl));intro gb211 hg w19 hbox hb;have n0_:=O (below_step (q0_ HB) hb);have n1_:=O (hbox);have n2_:=O ((by rw [hg];exact (below_size (q0_ HB)) : w.heap.size ≤ gb211));have n3_:=O ((by rw [hg];exact (below_size (q0_ HB)) : w.heap.size ≤ gb211));clear HB;have HB:=n0_;have BK211:=n1_;have GW211:=n2_;have GE211:=n3_;clear n0_ n1_ n2_ n3_ hb hbox hg;obtain ⟨hcz20_0,hcz20_1,hcz20_2,hcz20_3,hfz20_0,hfz20_1,hfz20_2,hfz20_3⟩:=bz4_ BK211) | ((with_reducible refine gate_callee (f:=36) rfl ?_);refine goesM_ (some 23) Try.func36 #[.agg #[.int .i64 ((rd_T42 l0 x15_2).f0),.int .i64 ((rd_T42 l0 x15_2).f1),.int .i64 ((rd_T42 l0 x15_2).f2),.int .i64 ((rd_T42 l0 x15_2).f3)],.int .i64 (l0.length : Int)] ?_;(with_reducible refine (impl_insOk.calls ((rd_T42 l0 x15_2).f0) ((rd_T42 l0 x15_2).f1) ((rd_T42 l0 x15_2).f2) ((rd_T42 l0 x15_2).f3) (l0.length : Int) false _ A8.out).mono ?_);rintro e w21 ⟨rfl,hb⟩;refine ⟨_,rfl,?_⟩;have n0_:=O (blk_below (g:=gb211) (o:=.cells #[.int .i64 ((rd_T42 l0 x15_2).f0),.int .i64 ((rd_T42 l0 x15_2).f1),.int .i64 ((rd_T42 l0 x15_2).f2),.int .i64 ((rd_T42 l0 x15_2).f3)] 42 (0,0)) (by (with_reducible repeat (first | refine blk_drewN ?_ _ | refine blk_drew ?_ | refine blk_alloc ?_ _));apply bp4_3_;(with_reducible repeat (first | refine blk_drewN ?_ _ | refine blk_drew ?_ | refine blk_alloc ?_ _));apply bp4_2_;(with_reducible repeat (first | refine blk_drewN ?_ _ | refine blk_drew ?_ | refine blk_alloc ?_ _));apply bp4_1_;(with_reducible repeat (first | refine blk_drewN ?_ _ | refine blk_drew ?_ | refine blk_alloc ?_ _));apply bp4_0_;(with_reducible repeat (first | refine blk_drewN ?_ _ | refine blk_drew ?_ | refine blk_alloc ?_ _));exact BK211.out) hb);have n1_:=O (below_step (q2_ HB GE211) hb);clear BK211 HB;have BK211:=n0_;have HB:=n1_;clear n0_ n1_;(try clear hb)))
          go_ret
          exact ⟨by first | rfl | (simp [errW_none,errW_some] <;> rfl) | (simp [*,errW_none,errW_some] <;> rfl),by repeat (first | (with_reducible first | exact HB.out | apply below_alloc | apply pw_below_drewN | apply below_drew1 | refine below_set ?_ GE211.out) | exact HB.out)⟩
        ·rw [if_neg c7] at H
         exact absurd H (by simp)
       ·rw [if_neg c6] at H
        exact absurd H (by simp)
      ·rw [if_neg c5] at H;have c5b0 : decide (x15_2 < (l0.length : Int)) = false:=decide_eq_false c5;clear c5;replace H:=Option.bind_eq_some_iff.mp H;obtain ⟨t213,A220,H⟩:=H;replace H : (some t213) = some r:=H;have A22:=O A220;clear A220;obtain rfl:=Option.some.inj H
       go_wp2_with (first | ((with_reducible refine gate_callee (f:=37) rfl ?_);refine goesM_ (some 38) Try.func37 #[.slice A0 l0.length c0] ?_;(with_reducible refine (impl_roomsOk.calls k2 _ _ l0 t213 _ ?side1 ?side2 A22.out).mono ?_);(case side1=>repeat (first | exact (Kd.C_below HR0.out HB.out) | (with_reducible refine Kd.C_alloc ?_ _) | (with_reducible refine Kd.C_drewN ?_ _) | (with_reducible refine Kd.C_drew ?_)));(case side2=>exact HC0.out);rintro e w23 ⟨rfl,hb⟩;refine ⟨_,rfl,?_⟩;have n0_:=O (below_step (q0_ HB) hb);clear HB;have HB:=n0_;clear n0_;(try clear hb)))
       go_ret
       exact ⟨by first | rfl | (simp [errW_none,errW_some] <;> rfl) | (simp [*,errW_none,errW_some] <;> rfl),by repeat (first | (with_reducible first | exact HB.out | apply below_alloc | apply pw_below_drewN | apply below_drew1) | exact HB.out)⟩
end Go.Proofs.Ytphbdoljkpdflaa.P
