/- Parts of the proof of FnMeanSaid: plain Lean functions of Go functions, and that the calls come to what they say; no condition beyond those that each theorem names. -/
import Derived.Test.YtfbocgagfodgnaaZFnMeanSaid10
import Derived.Test.YtfbocgagfodgnaaZFnMeanSaid9
namespace Go.Proofs.Ytfbocgagfodgnaa.P
open Go.RowKit Go.Proofs.YtfbocgagfodgnaaW.PrintWords Go.Proofs.YtfbocgagfodgnaaW.PrintLast Go.Proofs.YtfbocgagfodgnaaW.PrintMore
attribute [local go_sem] max2_int min2_int max_two min_two max_three min_three max_four min_four
set_option linter.unusedVariables false
set_option linter.unusedSimpArgs false
def l3out_T7 : Bool × List (List Nat × List Nat):=(true,[([],[]),([0],[0]),([],[]),([],[]),([3],[3]),([],[]),([4,5],[4,5]),([6],[6]),([7],[7]),([8],[8]),([1,2,0,1,2,3,4,5,6,7,8,9],[1,2]),([10,0,1,2,3,4,5,6,7,8,9],[10]),([11,9,9,0,1,2,3,4,5,6,7,8,9],[9,11])])
def l3out_B7 : List Nat:=[0,1,0,0,8,0,56,120,248,504,1023,2047,4095]
theorem l3out_tab7 : rtab .any (opsOf Try.f25 7) = l3out_T7:=by kernel_rfl
theorem l3out_bits7 : waitsOk l3out_T7.2 l3out_B7 = true:=by kernel_rfl
section
variable {wf w W W' : World} {g1 g2 g3 : Nat} {a0 a1 a2 a3 a4 u0 u1 u2 u3 u4 : Value} {ps : List S51} {x1 x2 : List Int} {ss : List (List Int)} {x4 : List S38}
theorem kP_openM {base : Nat} {ok : Nat → Prop} {x : S51} {cs : List Value} (h : (kP wf).M W base ok x cs) : ∃ v0 v1,cs = [v0,v1,.int .i64 x.f2,.int .i64 x.f3,.int .i64 x.f4] ∧ (Kd.int .i64).R 3 W base ok v0 x.f0:=by
  obtain ⟨_,_,rfl,⟨v0,rfl,g0⟩,⟨_,_,rfl,h1,⟨_,_,rfl,rfl,⟨_,_,rfl,rfl,rfl⟩⟩⟩⟩:=h
  rcases h1 with ⟨v1,rfl,_⟩ | ⟨v1,rfl,_⟩
  · exact ⟨v0,v1,rfl,g0⟩
  · exact ⟨v0,v1,rfl,g0⟩
theorem K3.at_ {g cap : Nat} (h : K3 wf w g1 g2 g3 a0 a1 a2 a3 a4 (.slice (some ⟨g,0,none⟩) ps.length cap) u1 u2 u3 u4 (fun _=>True) ps x1 x2 ss x4 W) (hb : Below wf.heap.size wf W) (i : Nat) (hi : i < ps.length) :
    ∃ At ct,W.cell? ⟨g,i * 5 + 1,none⟩ = some (.slice At ps[i].f1.length ct) ∧ W.frozen? ⟨g,i * 5 + 1,none⟩ = false ∧ ps[i].f1.length ≤ ct ∧ k69.C W At ps[i].f1.length ps[i].f1:=by
  obtain ⟨c,hcl,hM,hcc,hfz⟩:=Kd.R_elem h.r0 z51 (i : Int) (by omega) (by omega)
  have e : ps.getD (i : Int).toNat z51 = ps[i]:=by simp [List.getD_eq_getElem?_getD,List.getElem?_eq_getElem hi]
  rw [e] at hM
  obtain ⟨A0,c0,A1,c1,rfl,_,_,hl,hr⟩:=k51_open (kP_K hb ((kP wf).K_of_M hM))
  exact ⟨A1,c1,hcc 1 _ rfl,hfz 1,hl,hr⟩
theorem K3.todo {g cap : Nat} (h : K3 wf w g1 g2 g3 a0 a1 a2 a3 a4 (.slice (some ⟨g,0,none⟩) ps.length cap) u1 u2 u3 u4 (fun _=>True) ps x1 x2 ss x4 W) (i : Nat) (hi : i < ps.length) (v : Value) (hv : k69.R 69 W w.heap.size (fun k=>k ≠ g) v (ps[i].f1)) :
    K3 wf w g1 g2 g3 a0 a1 a2 a3 a4 (.slice (some ⟨g,0,none⟩) ps.length cap) u1 u2 u3 u4 (fun _=>True) ps x1 x2 ss x4 (W.setCell ⟨g,i * 5 + 1,none⟩ v):=by
  obtain ⟨c,hcl,hM,hcc,hfz⟩:=Kd.R_elem h.r0 z51 (i : Int) (by omega) (by omega)
  have e : ps.getD (i : Int).toNat z51 = ps[i]:=by simp [List.getD_eq_getElem?_getD,List.getElem?_eq_getElem hi]
  rw [e] at hM
  obtain ⟨v0,v1,rfl,hr0⟩:=kP_openM hM
  obtain ⟨hr,hg⟩:=Kd.R_seg h.r0 (i : Int) (by omega) (by omega) (seg:=[v]) (j:=1) hcl hcc (show 1 + 1 ≤ 5 by decide) (x':=ps[i]) (okp:=fun k=>k ≠ g) (kP_mkM wf W _ _ ps[i] (Kd.R_mono hr0 (fun _ hk=>hk.2)) (Or.inr ⟨v,rfl,hv⟩)) (fun k hk=>⟨trivial,hk⟩)
  have es : ps.set (i : Int).toNat ps[i] = ps:=by simp
  rw [es] at hr
  have hr' : (kP wf).R 51 (W.setCell ⟨g,i * 5 + 1,none⟩ v) w.heap.size (fun _=>True) (.slice (some ⟨g,0,none⟩) ps.length cap) ps:=hr
  have hg' : W.grownBy (W.setCell ⟨g,i * 5 + 1,none⟩ v) (Value.slice (some ⟨g,0,none⟩) ps.length cap).ownBlock:=hg
  have hge : w.heap.size ≤ g:=Kd.R_base h.r0 g rfl
  have ty:=Kd.R_typed h.r0
  exact ⟨blk_grown h.b1 hg' (Kd.R_ne h.r0 h.b1 (by decide)),blk_grown h.b2 hg' (Kd.R_ne h.r0 h.b2 (by decide)),blk_grown h.b3 hg' (Kd.R_ne h.r0 h.b3 (by decide)),hr',Kd.R_over' h.r1 ty (by decide) hg',Kd.R_over' h.r2 ty (by decide) hg',Kd.R_over' h.r3 ty (by decide) hg',Kd.R_over' h.r4 ty (by decide) hg',h.n1,h.n2,h.n3,h.e2,h.e3,below_set h.bel hge⟩
def Ups (W : World) (n g : Nat) (x0 : List S51) (kk : Nat) : Prop:=∀ i (hx : i < x0.length),i < kk → ∃ vt,W.cell? ⟨g,i * 5 + 1,none⟩ = some vt ∧ k69.R 69 W n (fun k=>k ≠ g) vt x0[i].f1
theorem Ups.below {n g kk : Nat} {x0 : List S51} (h : Ups W n g x0 kk) (hb : Below W.heap.size W W') : Ups W' n g x0 kk:=fun i hx hi=>by
  obtain ⟨vt,hc,hr⟩:=h i hx hi
  exact ⟨vt,(hb.cell (World.block_lt_of_cell? _ _ hc)).trans hc,Kd.R_below hr hb⟩
theorem Ups.step {n g kk : Nat} {x0 : List S51} {cells : Array Value} (h : Ups W n g x0 kk) (hg : W.heap[g]? = some (.cells cells 51 (0,0))) (hk : kk < x0.length) {z : Value} (hz : W.cell? ⟨g,kk * 5 + 1,none⟩ = some z) {v : Value} (hv : k69.R 69 W n (fun k=>k ≠ g) v (x0[kk]).f1) : Ups (W.setCell ⟨g,kk * 5 + 1,none⟩ v) n g x0 (kk + 1):=fun i hx hi=>by
  have hs : (W.setCell ⟨g,kk * 5 + 1,none⟩ v).heap[g]? = some (.cells (cells.setIfInBounds (kk * 5 + 1) v) 51 (0,0)):=blk_set hg _ _
  by_cases e : i = kk
  · subst e
    refine ⟨v,?_,Kd.R_far (p:=⟨g,i * 5 + 1,none⟩) hv (fun _ hk=>hk) v⟩
    have hc : cells[i * 5 + 1]? = some z:=(blk_cell hg _).symm.trans hz
    rw [blk_cell hs,Array.getElem?_setIfInBounds]
    simp [(Array.getElem?_eq_some_iff.1 hc).1]
  · obtain ⟨vt,hc,hr⟩:=h i hx (by omega)
    refine ⟨vt,?_,Kd.R_far (p:=⟨g,kk * 5 + 1,none⟩) hr (fun _ hk=>hk) v⟩
    rw [blk_cell hs,Array.getElem?_setIfInBounds_ne (by omega)]
    exact (blk_cell hg _).symm.trans hc
theorem Ups.row {n g cap : Nat} {x0 : List S51} (h : Ups W n g x0 x0.length) (hr : (kP wf).R 51 W n (fun _=>True) (.slice (some ⟨g,0,none⟩) x0.length cap) x0) : k51.R 51 W n (fun _=>True) (.slice (some ⟨g,0,none⟩) x0.length cap) x0:=by
  have key:=fun (i : Nat) (hi : i < x0.length)=>Kd.R_elem hr z51 (i : Int) (by omega) (by omega)
  obtain ⟨h0,inner,ho,hreps⟩:=hr
  refine ⟨h0,inner,ho,hreps.1,fun j p hj=>?_⟩
  obtain ⟨hjl,hjp⟩:=List.getElem?_eq_some_iff.1 hj
  have hm:=hreps.2 j p hj
  obtain ⟨v0,v1,e,g0⟩:=kP_openM hm
  obtain ⟨vt,hc,hv⟩:=h j hjl hjl
  have hlen : inner.length = x0.length * 5:=hreps.1
  have e1 : inner[j * 5 + 1]? = some v1:=by
    have e2 : ((inner.drop (j * 5)).take 5)[1]? = some v1:=by
      have e3 : (inner.drop (j * 5)).take 5 = _:=e
      rw [e3]
      rfl
    rw [List.getElem?_take,if_pos (by omega),List.getElem?_drop] at e2
    exact e2
  have e4 : W.cell? ⟨g,j * 5 + 1,none⟩ = some v1:=by
    rcases ho.2 with ⟨hn,_⟩ | ⟨g',cap',cur,ev,_,hb,_,_,hcs,hat⟩
    · cases hn
    · injection ev with ea _ _
      injection ea with ea
      injection ea with eg
      subst eg
      have hat' : cur.toList.take (x0.length * 5) = inner:=hat
      rw [blk_cell hb,← e1,← hat',List.getElem?_take,if_pos (show j * 5 + 1 < x0.length * 5 by omega)]
      exact (Array.getElem?_toList ..).symm
  rw [hc] at e4
  injection e4 with e5
  subst e5
  subst hjp
  have e6 : (inner.drop (j * k51.sz)).take k51.sz = [v0,vt,.int .i64 (x0[j]).f2,.int .i64 (x0[j]).f3,.int .i64 (x0[j]).f4]:=e
  rw [e6]
  exact k51_mkM W n _ (x0[j]) g0 (Kd.R_mono hv fun k hk=>⟨trivial,fun z=>hk (by have z' : some k = some g:=z;injection z')⟩)
end
set_option maxHeartbeats 8000000 in
set_option maxRecDepth 100000 in
theorem l3out_says (k : Nat) (A0 : Option Addr) (c0 : Nat) (x0 : List S51) (A1 : Option Addr) (c1 : Nat) (x1 : List Int) (A2 : Option Addr) (c2 : Nat) (x2 : List Int) (A3 : Option Addr) (c3 : Nat) (x3 : List (List Int)) (A4 : Option Addr) (c4 : Nat) (x4 : List S38) (wf w : World) (hwf : Below wf.heap.size wf w) (hz : 0 < x0.length) (h0 : Kd.C (kPf wf) w A0 x0.length x0) (h1 : Kd.C (Kd.int .i64) w A1 x1.length x1) (h2 : Kd.C (Kd.int .i64) w A2 x2.length x2) (h3 : Kd.C (Kd.slice 3 (Kd.int .i64)) w A3 x3.length x3) (h4 : Kd.C k38 w A4 x4.length x4) (hl : Len3 x0 x1 x2 x3 x4) (hf : ∀ x ∈ x0,spec_l2Copy.f k x.f1 4 = some x.f1) :
    Calls Try.prog 25 #[.agg #[.slice A0 x0.length c0,.slice A1 x1.length c1,.slice A2 x2.length c2,.slice A3 x3.length c3,.slice A4 x4.length c4]] w fun e w'=>∃ v0 v1 v2 v3 v4 : Value,e = .returned (.agg #[v0,v1,v2,v3,v4]) ∧ RO k51 w.heap.size w' x0 x1 x2 x3 x4 v0 v1 v2 v3 v4 ∧ Below w.heap.size w w':=by
  have hu29:=Try.underlying33
  have hu59:=Try.underlying51
  have HR0:=Aside0.mk h0
  have HR1:=Aside0.mk h1
  have HR2:=Aside0.mk h2
  have HR3:=Aside0.mk h3
  have HR4:=Aside0.mk h4
  have HL:=Aside0.mk hl
  have HF:=Aside0.mk hf
  have HWF:=Aside0.mk hwf
  clear h0 h1 h2 h3 h4 hl hf hwf
  have HB:=Aside0.mk (Below.refl w.heap.size w)
  have HZP:=Aside0.mk hz
  clear hz
  by_cases hz : x0.length = 0
  · exact absurd hz (Nat.ne_of_gt HZP.out)
  · have hzz : decide ((x0.length : Int) = 0) = false:=decide_eq_false (by omega)
    have HZ:=Aside0.mk hz
    go_enter Try.func25,Try.ntmps25
    try go_wp2_with (first | ((with_reducible refine gate_dst (N:=1) rfl ?_);refine box_event ?hg (N:=1) ?hd (cs:=#[.slice A0 x0.length c0,.slice A1 x1.length c1,.slice A2 x2.length c2,.slice A3 x3.length c3,.slice A4 x4.length c4]) (t:=33) ?hr ?_;(case hd=>rfl);(case hg=>rfl);(case hr=>first | (go_simp;done) | (go_simp;rfl));intro g1 hg w5 hbox hb;have n0_:=Aside0.mk (below_step (q0_ HB) hb);have n1_:=Aside0.mk (hbox);have GE1:=Aside0.mk ((by rw [hg];exact (below_size (q0_ HB)) : w.heap.size ≤ g1));clear HB;have HB:=n0_;have BK1:=n1_;clear n0_ n1_;clear hb hbox hg) | ((with_reducible refine gate_dst (N:=2) rfl ?_);refine box_event ?hg (N:=2) ?hd (cs:=#[.slice none 0 0,.slice none 0 0,.slice none 0 0,.slice none 0 0,.slice none 0 0]) (t:=33) ?hr ?_;(case hd=>rfl);(case hg=>rfl);(case hr=>first | (go_simp;done) | (go_simp;rfl));intro g2 hg w6 hbox hb;have n0_:=Aside0.mk (blk_below BK1.out hb);have n1_:=Aside0.mk (below_step HB.out hb);have n2_:=Aside0.mk (hbox);have GE2:=Aside0.mk ((by rw [hg];exact below_size HB.out) : w.heap.size ≤ g2);have N12:=Aside0.mk ((by rw [hg];exact Nat.ne_of_lt (blk_lt BK1.out)) : g1 ≠ g2);clear BK1 HB;have BK1:=n0_;have HB:=n1_;have BK2:=n2_;clear n0_ n1_ n2_;clear hb hbox hg;obtain ⟨hcz_0,hcz_1,hcz_2,hcz_3,hcz_4,hfz_0,hfz_1,hfz_2,hfz_3,hfz_4⟩:=bz5_ BK1;obtain ⟨hcy_0,hcy_1,hcy_2,hcy_3,hcy_4,hfy_0,hfy_1,hfy_2,hfy_3,hfy_4⟩:=bz5_ BK2;have hn12:=N12.out;have hn21:=hn12.symm) | (go_at_call 41;(with_reducible refine (l3copy_says A0 c0 x0 A1 c1 x1 A2 c2 x2 A3 c3 x3 A4 c4 x4 wf w6 (Kd.C_below HR0.out HB.out) (Kd.C_below HR1.out HB.out) (Kd.C_below HR2.out HB.out) (Kd.C_below HR3.out HB.out) (Kd.C_below HR4.out HB.out) HL.out).mono ?_);rintro e w7 ⟨v0,v1,v2,v3,v4,rfl,hrc,hb⟩;have n0_:=Aside0.mk (blk_below BK1.out hb);have n1_:=Aside0.mk (below_step HB.out hb);have n2_:=Aside0.mk (blk_below BK2.out hb);have HC:=Aside0.mk hrc;have HS:=Aside0.mk HB.out.size;clear BK1 BK2 HB hb hrc hcz_0 hcz_1 hcz_2 hcz_3 hcz_4 hfz_0 hfz_1 hfz_2 hfz_3 hfz_4 hcy_0 hcy_1 hcy_2 hcy_3 hcy_4 hfy_0 hfy_1 hfy_2 hfy_3 hfy_4;have BK1:=n0_;have HB:=n1_;have BK2:=n2_;clear n0_ n1_ n2_;obtain ⟨B0,d0,e0⟩:=Kd.R_slice HC.out.r0;obtain ⟨B1,d1,e1⟩:=Kd.R_slice HC.out.r1;obtain ⟨B2,d2,e2⟩:=Kd.R_slice HC.out.r2;obtain ⟨B3,d3,e3⟩:=Kd.R_slice HC.out.r3;obtain ⟨B4,d4,e4⟩:=Kd.R_slice HC.out.r4;subst e0;subst e1;subst e2;subst e3;subst e4) | ((with_reducible refine gate_dst (N:=3) rfl ?_);refine box_event ?hg (N:=3) ?hd (cs:=#[.slice none 0 0,.slice none 0 0,.slice none 0 0,.slice none 0 0,.slice none 0 0]) (t:=33) ?hr ?_;(case hd=>rfl);(case hg=>rfl);(case hr=>first | (go_simp;done) | (go_simp;rfl));intro g3 hg w8 hbox hb;have n0_:=Aside0.mk (blk_below BK1.out hb);have n1_:=Aside0.mk (below_step HB.out hb);have n2_:=Aside0.mk (blk_below BK2.out hb);have N13:=Aside0.mk ((by rw [hg];exact Nat.ne_of_lt (blk_lt BK1.out)) : g1 ≠ g3);have N23:=Aside0.mk ((by rw [hg];exact Nat.ne_of_lt (blk_lt BK2.out)) : g2 ≠ g3);have GE3:=Aside0.mk ((by rw [hg];exact below_size HB.out) : w.heap.size ≤ g3);have n3_:=Aside0.mk (Kd.R_below HC.out.r0 hb);have n4_:=Aside0.mk (Kd.R_below HC.out.r1 hb);have n5_:=Aside0.mk (Kd.R_below HC.out.r2 hb);have n6_:=Aside0.mk (Kd.R_below HC.out.r3 hb);have n7_:=Aside0.mk (Kd.R_below HC.out.r4 hb);have BK3:=Aside0.mk hbox;clear BK1 BK2 HB HC hb hbox hg;have BK1:=n0_;have HB:=n1_;have BK2:=n2_;clear n0_ n1_ n2_;obtain ⟨hcz_0,hcz_1,hcz_2,hcz_3,hcz_4,hfz_0,hfz_1,hfz_2,hfz_3,hfz_4⟩:=bz5_ BK3))
    obtain ⟨g,cap,eg,_,_,_⟩:=Kd.R_form n3_.out (by have:=HZ.out;omega)
    injection eg with eg1 _ eg2
    subst eg1
    subst eg2
    have kb : K3 wf w g1 g2 g3 (.slice A0 x0.length c0) (.slice A1 x1.length c1) (.slice A2 x2.length c2) (.slice A3 x3.length c3) (.slice A4 x4.length c4) (.slice (some ⟨g,0,none⟩) x0.length d0) (.slice B1 x1.length d1) (.slice B2 x2.length d2) (.slice B3 x3.length d3) (.slice B4 x4.length d4) (fun _=>True) x0 x1 x2 x3 x4 (((((w8.setCell ⟨g3,0,none⟩ (.slice (some ⟨g,0,none⟩) x0.length d0)).setCell ⟨g3,1,none⟩ (.slice B1 x1.length d1)).setCell ⟨g3,2,none⟩ (.slice B2 x2.length d2)).setCell ⟨g3,3,none⟩ (.slice B3 x3.length d3)).setCell ⟨g3,4,none⟩ (.slice B4 x4.length d4)) :=
      ⟨blk_far (p:=⟨g3,4,none⟩) (blk_far (p:=⟨g3,3,none⟩) (blk_far (p:=⟨g3,2,none⟩) (blk_far (p:=⟨g3,1,none⟩) (blk_far (p:=⟨g3,0,none⟩) BK1.out N13.out _) N13.out _) N13.out _) N13.out _) N13.out _,
       blk_far (p:=⟨g3,4,none⟩) (blk_far (p:=⟨g3,3,none⟩) (blk_far (p:=⟨g3,2,none⟩) (blk_far (p:=⟨g3,1,none⟩) (blk_far (p:=⟨g3,0,none⟩) BK2.out N23.out _) N23.out _) N23.out _) N23.out _) N23.out _,
       by apply bp5_4_;apply bp5_3_;apply bp5_2_;apply bp5_1_;apply bp5_0_;exact BK3.out,
       set5_ _ _ _ _ _ (Kd.R_lower n3_.out HS.out) BK3.out (kP_29 wf),set5_ _ _ _ _ _ (Kd.R_lower n4_.out HS.out) BK3.out (by decide),set5_ _ _ _ _ _ (Kd.R_lower n5_.out HS.out) BK3.out (by decide),set5_ _ _ _ _ _ (Kd.R_lower n6_.out HS.out) BK3.out (by decide),set5_ _ _ _ _ _ (Kd.R_lower n7_.out HS.out) BK3.out (by decide),N12.out,N13.out,N23.out,GE2.out,GE3.out,
       below_set (j:=4) (below_set (j:=3) (below_set (j:=2) (below_set (j:=1) (below_set (j:=0) HB.out GE3.out) GE3.out) GE3.out) GE3.out) GE3.out⟩
    have KB:=Aside0.mk kb
    clear kb BK1 BK2 BK3 HB HS n3_ n4_ n5_ n6_ n7_ hcz_0 hcz_1 hcz_2 hcz_3 hcz_4 hfz_0 hfz_1 hfz_2 hfz_3 hfz_4
    generalize (((((w8.setCell ⟨g3,0,none⟩ (.slice (some ⟨g,0,none⟩) x0.length d0)).setCell ⟨g3,1,none⟩ (.slice B1 x1.length d1)).setCell ⟨g3,2,none⟩ (.slice B2 x2.length d2)).setCell ⟨g3,3,none⟩ (.slice B3 x3.length d3)).setCell ⟨g3,4,none⟩ (.slice B4 x4.length d4)) = w9 at KB ⊢
    go_loopg [4] x0.length (fun gg v4 wr=>∃ (kk : Nat),kk ≤ x0.length ∧ x0.length - kk ≤ gg ∧ v4 = .int .i64 kk ∧ Aside0 (K3 wf w g1 g2 g3 (.slice A0 x0.length c0) (.slice A1 x1.length c1) (.slice A2 x2.length c2) (.slice A3 x3.length c3) (.slice A4 x4.length c4) (.slice (some ⟨g,0,none⟩) x0.length d0) (.slice B1 x1.length d1) (.slice B2 x2.length d2) (.slice B3 x3.length d3) (.slice B4 x4.length d4) (fun _=>True) x0 x1 x2 x3 x4 wr) ∧ Aside0 (Ups wr w.heap.size g x0 kk))
    case atStart=>exact ⟨0,Nat.zero_le _,by omega,rfl,KB,⟨fun i _ hi=>absurd hi (Nat.not_lt_zero i)⟩⟩
    case round =>
      clear KB
      obtain ⟨kk,hkk,hgk,rfl,KB,UP⟩:=hrel
      have BZ3:=Aside0.mk KB.out.b3
      obtain ⟨hcz_0,hcz_1,hcz_2,hcz_3,hcz_4,hfz_0,hfz_1,hfz_2,hfz_3,hfz_4⟩:=bz5_ BZ3
      by_cases hlt : kk < x0.length
      · have hltz : decide ((kk : Int) < (x0.length : Int)) = true:=decide_eq_true (by omega)
        have HLT:=Aside0.mk hlt
        have p1 : 0 ≤ (kk : Int):=by omega
        have q1 : (kk : Int) < (x0.length : Int):=by omega
        obtain ⟨At,ct,hx,hfz,hlt_,hit⟩:=KB.out.at_ (below_step HWF.out KB.out.bel) kk hlt
        have HFX:=Aside0.mk (HF.out x0[kk] (List.getElem_mem hlt))
        have HLM:=Aside0.mk hlt_
        have HIT:=Aside0.mk hit
        have HX:=Aside0.mk (Eq.refl x0[kk])
        have key:=fun (W : World) (h : K3 wf w g1 g2 g3 (.slice A0 x0.length c0) (.slice A1 x1.length c1) (.slice A2 x2.length c2) (.slice A3 x3.length c3) (.slice A4 x4.length c4) (.slice (some ⟨g,0,none⟩) x0.length d0) (.slice B1 x1.length d1) (.slice B2 x2.length d2) (.slice B3 x3.length d3) (.slice B4 x4.length d4) (fun _=>True) x0 x1 x2 x3 x4 W) (v : Value) (hv : k69.R 69 W w.heap.size (fun k=>k ≠ g) v (x0[kk].f1))=>h.todo kk hlt v hv
        have KEY:=Aside0.mk key
        clear key
        have key2:=fun (W : World) (h : Ups W w.heap.size g x0 kk) (cells : Array Value) (hg : W.heap[g]? = some (.cells cells 51 (0,0))) (z : Value) (hz : W.cell? ⟨g,kk * 5 + 1,none⟩ = some z) (v : Value) (hv : k69.R 69 W w.heap.size (fun k=>k ≠ g) v (x0[kk].f1))=>h.step hg hlt hz hv
        have KEY2:=Aside0.mk key2
        clear key2
        generalize x0[kk] = x at hx hlt_ hit HFX HLM HIT HX KEY KEY2
        clear hlt_ hit HX
        replace p1:=eq_true p1
        replace q1:=eq_true q1
        try go_wp2
        have KC:=Aside0.mk (KB.out.below (below_drew1 (Below.refl _ _)))
        have HIT1:=Aside0.mk (Kd.C_below HIT.out (below_drew1 (Below.refl wr.heap.size wr)))
        have UP1:=Aside0.mk (UP.out.below (below_drew1 (Below.refl _ _)))
        clear KB UP BZ3 hcz_0 hcz_1 hcz_2 hcz_3 hcz_4 hfz_0 hfz_1 hfz_2 hfz_3 hfz_4 HIT
        refine start_ (n:=13) (S:=fun w'=>w'.cell? ⟨g3,0,none⟩ = some (.slice (some ⟨g,0,none⟩) x0.length d0) ∧ w'.cell? ⟨g,kk * 5 + 1,none⟩ = some (.slice At x.f1.length ct)) (ds:=[12]) #[false,false,false,false,false,false,false,false,false,false,false,false,false] (by kernel_rfl) rfl rfl ⟨(blk_cell KC.out.b3 0).trans rfl,hx⟩ (fun hHeld=>?_)
        refine with_tabW l3out_tab7 l3out_bits7 (fun HT_ HW_=>?_)
        clear hx hfz
        generalize wr.drew = w10 at KC HIT1 UP1 hHeld ⊢
        refine pure_ (i:=0) (N:=some 19) (v:=?_) (a':=?_) #[true,false,false,false,false,false,false,false,false,false,false,false,false] rfl rfl (any_of HT_.out (by kernel_rfl)) (fun _ _ _ h=>h) (Or.inl ⟨by rfl,?_⟩) ?_ ?_
        rotate_left
        · intro w'
          go_simp
          with_reducible rfl
        rotate_left
        · (try simp only [Act.put,List.setIfInBounds_toArray,List.set_cons_zero,List.set_cons_succ,i64_w,i32_w])
          rfl
        refine pure_ (i:=2) (N:=some 21) (v:=?_) (a':=?_) #[true,false,true,false,false,false,false,false,false,false,false,false,false] rfl rfl (any_of HT_.out (by kernel_rfl)) (fun _ _ _ h=>h) (Or.inl ⟨by rfl,?_⟩) ?_ ?_
        rotate_left
        · intro w'
          go_simp
          with_reducible rfl
        rotate_left
        · (try simp only [Act.put,List.setIfInBounds_toArray,List.set_cons_zero,List.set_cons_succ,i64_w,i32_w])
          rfl
        refine pure_ (i:=3) (N:=some 22) (v:=?_) (a':=?_) #[true,false,true,true,false,false,false,false,false,false,false,false,false] rfl rfl (any_of HT_.out (by kernel_rfl)) (fun _ _ _ h=>h) (Or.inl ⟨by rfl,?_⟩) ?_ ?_
        rotate_left
        · intro w'
          go_simp
          with_reducible rfl
        rotate_left
        · (try simp only [Act.put,List.setIfInBounds_toArray,List.set_cons_zero,List.set_cons_succ,i64_w,i32_w])
          rfl
        refine pure_ (i:=5) (N:=some 24) (v:=?_) (a':=?_) #[true,false,true,true,false,true,false,false,false,false,false,false,false] rfl rfl (any_of HT_.out (by kernel_rfl)) (fun _ _ _ h=>h) (Or.inl ⟨by rfl,?_⟩) ?_ ?_
        rotate_left
        · intro w'
          go_simp
          with_reducible rfl
        rotate_left
        · (try simp only [Act.put,List.setIfInBounds_toArray,List.set_cons_zero,List.set_cons_succ,i64_w,i32_w])
          rfl
        refine take_ (i:=1) (N:=some 20) (v:=?_) (a':=?_) #[true,true,true,true,false,true,false,false,false,false,false,false,false] rfl rfl (take_ofW HT_.out HW_.out (by kernel_rfl)) (fun _ _ _ h=>h) (Or.inl ⟨by rfl,?_⟩) hHeld ?_ ?_
        rotate_left
        · rintro w' ⟨s0,s1⟩
          go_simp
          with_reducible rfl
        rotate_left
        · (try simp only [Act.put,List.setIfInBounds_toArray,List.set_cons_zero,List.set_cons_succ,i64_w,i32_w])
          rfl
        refine take_ (i:=4) (N:=some 23) (v:=?_) (a':=?_) #[true,true,true,true,true,true,false,false,false,false,false,false,false] rfl rfl (take_ofW HT_.out HW_.out (by kernel_rfl)) (fun _ _ _ h=>h) (Or.inl ⟨by rfl,?_⟩) hHeld ?_ ?_
        rotate_left
        · rintro w' ⟨s0,s1⟩
          go_simp
          with_reducible rfl
        rotate_left
        · (try simp only [Act.put,List.setIfInBounds_toArray,List.set_cons_zero,List.set_cons_succ,i64_w,i32_w])
          rfl
        refine pure_ (i:=6) (N:=some 25) (v:=?_) (a':=?_) #[true,true,true,true,true,true,true,false,false,false,false,false,false] rfl rfl (any_of HT_.out (by kernel_rfl)) (fun _ _ _ h=>h) (Or.inl ⟨by rfl,?_⟩) ?_ ?_
        rotate_left
        · intro w'
          go_simp
          with_reducible rfl
        rotate_left
        · (try simp only [Act.put,List.setIfInBounds_toArray,List.set_cons_zero,List.set_cons_succ,i64_w,i32_w])
          rfl
        refine pure_ (i:=7) (N:=some 26) (v:=?_) (a':=?_) #[true,true,true,true,true,true,true,true,false,false,false,false,false] rfl rfl (any_of HT_.out (by kernel_rfl)) (fun _ _ _ h=>h) (Or.inl ⟨by rfl,?_⟩) ?_ ?_
        rotate_left
        · intro w'
          go_simp
          with_reducible rfl
        rotate_left
        · (try simp only [Act.put,List.setIfInBounds_toArray,List.set_cons_zero,List.set_cons_succ,i64_w,i32_w])
          rfl
        refine take_ (i:=8) (N:=some 27) (v:=?_) (a':=?_) #[true,true,true,true,true,true,true,true,true,false,false,false,false] rfl rfl (take_ofW HT_.out HW_.out (by kernel_rfl)) (fun _ _ _ h=>h) (Or.inl ⟨by rfl,?_⟩) hHeld ?_ ?_
        rotate_left
        · rintro w' ⟨s0,s1⟩
          go_simp
          with_reducible rfl
        rotate_left
        · (try simp only [Act.put,List.setIfInBounds_toArray,List.set_cons_zero,List.set_cons_succ,i64_w,i32_w])
          rfl
        refine one_ (i:=9) (N:=some 28) #[true,true,true,true,true,true,true,true,true,true,false,false,false] rfl rfl (one_of HT_.out (by kernel_rfl)) (by decide) (fun K hK=>?_)
        refine goes_ Try.func42 (by kernel_rfl) rfl #[.slice At x.f1.length ct,.int .i64 4] (by rfl) rfl rfl (by (try simp only [List.map_toArray,List.map_cons,List.map_nil]);first | done | rfl | (simp only [List.length_drop,List.length_take];rfl)) ?_
        with_reducible refine (spec_l2Copy.calls k _ _ x.f1 4 x.f1 _ HIT1.out HLM.out HFX.out).mono ?_
        rintro e wt ⟨vt,rfl,ht,hb⟩
        refine ⟨_,rfl,?_⟩
        have KD:=Aside0.mk (KC.out.below hb)
        have UP2:=Aside0.mk (UP1.out.below hb)
        have HV:=Aside0.mk (show k69.R 69 wt w.heap.size (fun k=>k ≠ g) vt x.f1 from Kd.R_lower (Kd.R_mono (Kd.R_bound ht) (fun k hk=>by have h1:=hk.2.1;have h2:=Kd.R_lt KC.out.r0 g rfl;omega)) KC.out.bel.size)
        obtain ⟨Ab,cb,eb⟩:=Kd.R_slice ht
        subst eb
        have hx2:=(hb.cell (World.block_lt_of_cell? _ _ hHeld.2)).trans hHeld.2
        clear hHeld ht hb
        refine hK.out _ _ ⟨(blk_cell KD.out.b3 0).trans rfl,hx2⟩ (fun hHeld=>?_)
        clear hK K hx2
        refine norm_ (a':=?_) ?_ ?_
        rotate_left
        · show Act.put _ (some 28) _ = _
          simp only [Act.put,List.setIfInBounds_toArray,List.set_cons_zero,List.set_cons_succ,i64_w,i32_w]
          rfl
        refine pure_ (i:=10) (N:=some 29) (v:=?_) (a':=?_) #[true,true,true,true,true,true,true,true,true,true,true,false,false] rfl rfl (any_of HT_.out (by kernel_rfl)) (fun _ _ _ h=>h) (Or.inl ⟨by rfl,?_⟩) ?_ ?_
        rotate_left
        · intro w'
          go_simp
          with_reducible rfl
        rotate_left
        · (try simp only [Act.put,List.setIfInBounds_toArray,List.set_cons_zero,List.set_cons_succ,i64_w,i32_w])
          rfl
        refine pure_ (i:=11) (N:=some 30) (v:=?_) (a':=?_) #[true,true,true,true,true,true,true,true,true,true,true,true,false] rfl rfl (any_of HT_.out (by kernel_rfl)) (fun _ _ _ h=>h) (Or.inl ⟨by rfl,?_⟩) ?_ ?_
        rotate_left
        · intro w'
          go_simp
          with_reducible rfl
        rotate_left
        · (try simp only [Act.put,List.setIfInBounds_toArray,List.set_cons_zero,List.set_cons_succ,i64_w,i32_w])
          rfl
        refine last_ (i:=12) (N:=none) #[true,true,true,true,true,true,true,true,true,true,true,true,true] rfl rfl (one_of HT_.out (by kernel_rfl)) (by decide) (fun K hK=>?_)
        obtain ⟨_,_,hs44,hfs44,_,_⟩:=KD.out.at_ (below_step HWF.out KD.out.bel) kk HLT.out
        refine skip_ (w1:=?_) (by rfl) rfl ?_ ?_
        rotate_left
        · go_simp
          rfl
        refine hK.out _ _ ?_
        clear hK K
        refine done_ (done_of HT_.out (by kernel_rfl)) ?_
        clear HT_ HW_
        try go_wp2
        go_roundg (x0.length - (kk + 1))
        case measure=>have:=HLT.out;omega
        case rel=>exact ⟨kk + 1,Nat.succ_le_of_lt HLT.out,Nat.le_refl _,(by rw [wrap_succ (by have:=HL.out.l0;have:=HLT.out;omega)]),⟨KEY.out _ KD.out _ HV.out⟩,⟨by
          obtain ⟨cells,hc⟩:=Kd.R_typed KD.out.r0 g rfl
          exact KEY2.out _ UP2.out cells hc _ hs44 _ HV.out⟩⟩
      · have hltz : decide ((kk : Int) < (x0.length : Int)) = false:=decide_eq_false (by omega)
        have BZ2:=Aside0.mk KB.out.b2
        obtain ⟨hcy_0,hcy_1,hcy_2,hcy_3,hcy_4,hfy_0,hfy_1,hfy_2,hfy_3,hfy_4⟩:=bz5_ BZ2
        have hnb:=KB.out.n3;have hnc:=hnb.symm
        go_wp2
        refine bodyPost_ret (results_cell_row rfl _ _ g2 33 #[.slice (some ⟨g,0,none⟩) x0.length d0,.slice B1 x1.length d1,.slice B2 x2.length d2,.slice B3 x3.length d3,.slice B4 x4.length d4] (0,0) _ rfl (by apply bp5_4_;apply bp5_3_;apply bp5_2_;apply bp5_1_;apply bp5_0_;exact BZ2.out) Try.underlying33 rfl (by kernel_rfl)) rfl ?_
        have GE:=KB.out.e2
        have hb:=below_set (v:=.slice B4 x4.length d4) (j:=4) (below_set (v:=.slice B3 x3.length d3) (j:=3) (below_set (v:=.slice B2 x2.length d2) (j:=2) (below_set (v:=.slice B1 x1.length d1) (j:=1) (below_set (v:=.slice (some ⟨g,0,none⟩) x0.length d0) (j:=0) KB.out.bel GE) GE) GE) GE) GE
        have e:=show kk = x0.length by omega
        subst e
        exact ⟨_,_,_,_,_,rfl,⟨set5_ _ _ _ _ _ (UP.out.row KB.out.r0) BZ2.out (by decide),set5_ _ _ _ _ _ KB.out.r1 BZ2.out (by decide),set5_ _ _ _ _ _ KB.out.r2 BZ2.out (by decide),set5_ _ _ _ _ _ KB.out.r3 BZ2.out (by decide),set5_ _ _ _ _ _ KB.out.r4 BZ2.out (by decide)⟩,hb⟩
end Go.Proofs.Ytfbocgagfodgnaa.P

namespace Go.Proofs.Ytfbocgagfodgnaa.P
open Go.RowKit Go.Proofs.YtfbocgagfodgnaaW.PrintWords Go.Proofs.YtfbocgagfodgnaaW.PrintLast Go.Proofs.YtfbocgagfodgnaaW.PrintMore
attribute [local go_sem] max2_int min2_int max_two min_two max_three min_three max_four min_four
set_option linter.unusedVariables false
set_option linter.unusedSimpArgs false
theorem k59_29 : ∀ q,q ∈ 51 :: k51.E → q ≠ 33:=by decide
theorem kQ_C {w : World} {A : Option Addr} {n : Nat} {xs : List (List Int)} (h : kQ.C w A n xs) : (Kd.slice 3 (Kd.int .i64)).C w A n xs :=
  ⟨h.1,h.2.1,fun hn=>by
    obtain ⟨ad,e,hc⟩:=h.2.2 hn
    refine ⟨ad,e,fun j p hj=>?_⟩
    obtain ⟨c,hs,hr,hcell⟩:=hc j p hj
    exact ⟨c,hs,hr.1,hcell⟩⟩
theorem wo_len {r : Bool} {l : List (List S69)} (h : r = true → (∀ x ∈ l,x.length ≤ 1000000000) ∧ l.length ≤ 1000000000) : Len3 (wo0 r l) (wo1 r) (wo2 r) (wo3 r) []:=by
  cases r with
  | false=>exact ⟨by simp [wo0],by simp [wo1],by simp [wo2],by simp [wo3],by simp,by simp [wo0],by simp [wo0],by simp [wo3]⟩
  | true =>
    obtain ⟨h1,h2⟩:=h rfl
    refine ⟨by simpa [wo0] using h2,by simp [wo1],by simp [wo2],by simp [wo3],by simp,fun x hx=>?_,fun x hx=>?_,fun x hx=>?_⟩
    · obtain ⟨y,hy,rfl⟩:=List.mem_map.1 (show x ∈ l.map prO from hx)
      simp [prO]
    · obtain ⟨y,hy,rfl⟩:=List.mem_map.1 (show x ∈ l.map prO from hx)
      exact h1 y hy
    · obtain ⟨_,rfl⟩:=List.mem_replicate.1 (show x ∈ List.replicate 2 [] from hx)
      simp
set_option maxHeartbeats 8000000 in
set_option maxRecDepth 100000 in
theorem l3out_nil (w : World) : Calls Try.prog 25 #[.agg #[.slice none 0 0,.slice none 0 0,.slice none 0 0,.slice none 0 0,.slice none 0 0]] w fun e w'=>e = .returned (.agg #[.slice none 0 0,.slice none 0 0,.slice none 0 0,.slice none 0 0,.slice none 0 0]) ∧ Below w.heap.size w w':=by
  have hu29:=Try.underlying33
  have HB:=Aside0.mk (Below.refl w.heap.size w)
  go_enter Try.func25,Try.ntmps25
  go_wp2_with (first | ((with_reducible refine gate_dst (N:=1) rfl ?_);refine box_event ?hg (N:=1) ?hd (cs:=#[.slice none 0 0,.slice none 0 0,.slice none 0 0,.slice none 0 0,.slice none 0 0]) (t:=33) ?hr ?_;(case hd=>rfl);(case hg=>rfl);(case hr=>first | (go_simp;done) | (go_simp;rfl));intro g1 hg w5 hbox hb;have n0_:=Aside0.mk (below_step (q0_ HB) hb);have n1_:=Aside0.mk (hbox);have GE1:=Aside0.mk ((by rw [hg];exact (below_size (q0_ HB)) : w.heap.size ≤ g1));clear HB;have HB:=n0_;have BK1:=n1_;clear n0_ n1_;clear hb hbox hg) | ((with_reducible refine gate_dst (N:=2) rfl ?_);refine box_event ?hg (N:=2) ?hd (cs:=#[.slice none 0 0,.slice none 0 0,.slice none 0 0,.slice none 0 0,.slice none 0 0]) (t:=33) ?hr ?_;(case hd=>rfl);(case hg=>rfl);(case hr=>first | (go_simp;done) | (go_simp;rfl));intro gb hg w6 hbox hb;have n2_:=Aside0.mk (blk_below BK1.out hb);have N12:=Aside0.mk ((by rw [hg];exact Nat.ne_of_lt (blk_lt BK1.out)) : g1 ≠ gb);have n0_:=Aside0.mk (below_step (q0_ HB) hb);have n1_:=Aside0.mk (hbox);have GE:=Aside0.mk ((by rw [hg];exact (below_size (q0_ HB)) : w.heap.size ≤ gb));clear HB;have HB:=n0_;have BK:=n1_;clear n0_ n1_;clear BK1;have BK1:=n2_;clear n2_;obtain ⟨hcz_0,hcz_1,hcz_2,hcz_3,hcz_4,hfz_0,hfz_1,hfz_2,hfz_3,hfz_4⟩:=bz5_ BK1;obtain ⟨hcy_0,hcy_1,hcy_2,hcy_3,hcy_4,hfy_0,hfy_1,hfy_2,hfy_3,hfy_4⟩:=bz5_ BK;have hn12:=N12.out;have hn21:=hn12.symm;clear hb hbox hg))
  refine bodyPost_ret (results_cell_row rfl _ _ gb 33 #[.slice none 0 0,.slice none 0 0,.slice none 0 0,.slice none 0 0,.slice none 0 0] (0,0) _ rfl (by apply bp5_4_;apply bp5_3_;apply bp5_2_;apply bp5_1_;apply bp5_0_;exact BK.out) Try.underlying33 rfl (by kernel_rfl)) rfl ?_
  exact ⟨rfl,below_set (below_set (below_set (below_set (below_set HB.out GE.out) GE.out) GE.out) GE.out) GE.out⟩
set_option maxHeartbeats 8000000 in
set_option maxRecDepth 100000 in
theorem smeanR_says (k : Nat) (A0 : Option Addr) (c0 : Nat) (l0 : List (List S69)) (r : Bool) (w : World) (hr0 : Kd.C (Kd.slice 69 kM) w A0 l0.length l0) (hc0 : l0.length ≤ c0) (hlen : r = true → (∀ x ∈ l0,x.length ≤ 1000000000) ∧ l0.length ≤ 1000000000) (hpos : r = true → 0 < l0.length) (h : spec_ProgOk.f k l0 = some r) (hf : r = true → ∀ x ∈ l0,spec_l2Copy.f k x 4 = some x) :
    Calls Try.prog 26 #[.slice A0 l0.length c0] w fun e w'=>∃ v0 v1 v2 v3 v4 : Value,e = .returned (.agg #[v0,v1,v2,v3,v4]) ∧ (if r = true then RO k51 w.heap.size w' (wo0 r l0) (wo1 r) (wo2 r) (wo3 r) [] v0 v1 v2 v3 v4 else v0 = .slice none 0 0 ∧ v1 = .slice none 0 0 ∧ v2 = .slice none 0 0 ∧ v3 = .slice none 0 0 ∧ v4 = .slice none 0 0) ∧ Below w.heap.size w w':=by
  have hu29:=Try.underlying33
  have HR0:=Aside0.mk hr0
  have HC0:=Aside0.mk hc0
  have HL:=Aside0.mk hlen
  have HP:=Aside0.mk hpos
  have HF:=Aside0.mk (show ∀ x ∈ wo0 r l0,spec_l2Copy.f k x.f1 4 = some x.f1 from fun x hx=>by
    cases r with
    | false=>simp [wo0] at hx
    | true =>
      obtain ⟨y,hy,rfl⟩:=List.mem_map.1 (show x ∈ l0.map prO from hx)
      exact hf rfl y hy)
  have A2:=Aside0.mk h
  clear hr0 hc0 h hf hlen hpos
  have HB:=Aside0.mk (Below.refl w.heap.size w)
  cases r with
  | true =>
    have HLN:=Aside0.mk (wo_len HL.out)
    have HPN:=Aside0.mk (show 0 < (wo0 true l0).length by have:=HP.out rfl;simpa [wo0] using this)
    have HLT:=Aside0.mk (HL.out rfl)
    clear HL HP
    go_enter Try.func26,Try.ntmps26
    go_wp2_with (first | ((with_reducible refine gate_dst (N:=2) rfl ?_);refine box_event ?hg (N:=2) ?hd (cs:=#[.slice none 0 0,.slice none 0 0,.slice none 0 0,.slice none 0 0,.slice none 0 0]) (t:=33) ?hr ?_;(case hd=>rfl);(case hg=>rfl);(case hr=>first | (go_simp;done) | (go_simp;rfl));intro gb hg w5 hbox hb;have n0_:=Aside0.mk (below_step (q0_ HB) hb);have n1_:=Aside0.mk (hbox);have GE:=Aside0.mk ((by rw [hg];exact (below_size (q0_ HB)) : w.heap.size ≤ gb));clear HB;have HB:=n0_;have BK:=n1_;clear n0_ n1_;clear hb hbox hg) | (go_at_call 24;(with_reducible refine (l3open_says k A0 c0 l0 true w w5 HB.out HR0.out HC0.out (fun _=>HLT.out) A2.out).mono ?_);rintro e w6 ⟨v0,v1,v2,v3,v4,rfl,hw,hb⟩;have n0_:=Aside0.mk (blk_below BK.out hb);have n1_:=Aside0.mk (below_step HB.out hb);have HW:=Aside0.mk (show RO (kPf w) w5.heap.size w6 (wo0 true l0) (wo1 true) (wo2 true) (wo3 true) [] v0 v1 v2 v3 v4 from hw);clear BK HB hw hb;have BK:=n0_;have HB:=n1_;clear n0_ n1_;obtain ⟨B0,d0,e0,_,h0_⟩:=Kd.R_reads HW.out.r0;obtain ⟨B1,d1,e1,_,h1_⟩:=Kd.R_reads HW.out.r1;obtain ⟨B2,d2,e2,_,h2_⟩:=Kd.R_reads HW.out.r2;obtain ⟨B3,d3,e3,_,h3_⟩:=Kd.R_reads HW.out.r3;replace h3_:=kQ_C h3_;obtain ⟨B4,d4,e4,_,h4_⟩:=Kd.R_reads HW.out.r4;subst e0;subst e1;subst e2;subst e3;subst e4) | (go_at_call 25;refine (l3out_says k B0 d0 (wo0 true l0) B1 d1 (wo1 true) B2 d2 (wo2 true) B3 d3 (wo3 true) B4 d4 [] w w6 HB.out HPN.out h0_ h1_ h2_ h3_ h4_ HLN.out HF.out).mono ?_;rintro e w7 ⟨v0,v1,v2,v3,v4,rfl,hw,hb⟩;have n0_:=Aside0.mk (blk_below BK.out hb);have n1_:=Aside0.mk (below_step HB.out hb);have HV:=Aside0.mk hw;have HS:=Aside0.mk HB.out.size;clear BK HB hw hb h0_ h1_ h2_ h3_ h4_ HW;have BK:=n0_;have HB:=n1_;clear n0_ n1_;obtain ⟨E0,i0,e0⟩:=Kd.R_slice HV.out.r0;obtain ⟨E1,i1,e1⟩:=Kd.R_slice HV.out.r1;obtain ⟨E2,i2,e2⟩:=Kd.R_slice HV.out.r2;obtain ⟨E3,i3,e3⟩:=Kd.R_slice HV.out.r3;obtain ⟨E4,i4,e4⟩:=Kd.R_slice HV.out.r4;subst e0;subst e1;subst e2;subst e3;subst e4;obtain ⟨hcz_0,hcz_1,hcz_2,hcz_3,hcz_4,hfz_0,hfz_1,hfz_2,hfz_3,hfz_4⟩:=bz5_ BK))
    refine bodyPost_ret (results_cell_row rfl _ _ gb 33 #[.slice E0 (wo0 true l0).length i0,.slice E1 (wo1 true).length i1,.slice E2 (wo2 true).length i2,.slice E3 (wo3 true).length i3,.slice E4 ([] : List S38).length i4] (0,0) _ rfl (by apply bp5_4_;apply bp5_3_;apply bp5_2_;apply bp5_1_;apply bp5_0_;exact BK.out) Try.underlying33 rfl (by kernel_rfl)) rfl ?_
    have hb:=below_set (v:=.slice E4 ([] : List S38).length i4) (j:=4) (below_set (v:=.slice E3 (wo3 true).length i3) (j:=3) (below_set (v:=.slice E2 (wo2 true).length i2) (j:=2) (below_set (v:=.slice E1 (wo1 true).length i1) (j:=1) (below_set (v:=.slice E0 (wo0 true l0).length i0) (j:=0) HB.out GE.out) GE.out) GE.out) GE.out) GE.out
    have hs:=HS.out
    exact ⟨_,_,_,_,_,rfl,⟨set5_ _ _ _ _ _ (Kd.R_lower HV.out.r0 hs) BK.out k59_29,set5_ _ _ _ _ _ (Kd.R_lower HV.out.r1 hs) BK.out (by decide),set5_ _ _ _ _ _ (Kd.R_lower HV.out.r2 hs) BK.out (by decide),set5_ _ _ _ _ _ (Kd.R_lower HV.out.r3 hs) BK.out (by decide),set5_ _ _ _ _ _ (Kd.R_lower HV.out.r4 hs) BK.out (by decide)⟩,hb⟩
  | false =>
    go_enter Try.func26,Try.ntmps26
    go_wp2_with (first | ((with_reducible refine gate_dst (N:=2) rfl ?_);refine box_event ?hg (N:=2) ?hd (cs:=#[.slice none 0 0,.slice none 0 0,.slice none 0 0,.slice none 0 0,.slice none 0 0]) (t:=33) ?hr ?_;(case hd=>rfl);(case hg=>rfl);(case hr=>first | (go_simp;done) | (go_simp;rfl));intro gb hg w5 hbox hb;have n0_:=Aside0.mk (below_step (q0_ HB) hb);have n1_:=Aside0.mk (hbox);have GE:=Aside0.mk ((by rw [hg];exact (below_size (q0_ HB)) : w.heap.size ≤ gb));clear HB;have HB:=n0_;have BK:=n1_;clear n0_ n1_;clear hb hbox hg) | (go_at_call 24;(with_reducible refine (l3open_says k A0 c0 l0 false w w5 HB.out HR0.out HC0.out (fun e=>absurd e (by decide)) A2.out).mono ?_);rintro e w6 ⟨v0,v1,v2,v3,v4,rfl,⟨rfl,rfl,rfl,rfl,rfl⟩,hb⟩;have n0_:=Aside0.mk (blk_below BK.out hb);have n1_:=Aside0.mk (below_step HB.out hb);clear BK HB hb;have BK:=n0_;have HB:=n1_;clear n0_ n1_) | (go_at_call 25;(with_reducible refine (l3out_nil w6).mono ?_);rintro e w7 ⟨rfl,hb⟩;have n0_:=Aside0.mk (blk_below BK.out hb);have n1_:=Aside0.mk (below_step HB.out hb);clear BK HB hb;have BK:=n0_;have HB:=n1_;clear n0_ n1_;obtain ⟨hcz_0,hcz_1,hcz_2,hcz_3,hcz_4,hfz_0,hfz_1,hfz_2,hfz_3,hfz_4⟩:=bz5_ BK))
    refine bodyPost_ret (results_cell_row rfl _ _ gb 33 #[.slice none 0 0,.slice none 0 0,.slice none 0 0,.slice none 0 0,.slice none 0 0] (0,0) _ rfl (by apply bp5_4_;apply bp5_3_;apply bp5_2_;apply bp5_1_;apply bp5_0_;exact BK.out) Try.underlying33 rfl (by kernel_rfl)) rfl ?_
    exact ⟨_,_,_,_,_,rfl,⟨rfl,rfl,rfl,rfl,rfl⟩,below_set (below_set (below_set (below_set (below_set HB.out GE.out) GE.out) GE.out) GE.out) GE.out⟩
end Go.Proofs.Ytfbocgagfodgnaa.P

namespace Go.Proofs.Ytfbocgagfodgnaa.P
open Go.RowKit Go.Proofs.YtfbocgagfodgnaaW.PrintWords Go.Proofs.YtfbocgagfodgnaaW.PrintLast Go.Proofs.YtfbocgagfodgnaaW.PrintMore
set_option linter.unusedVariables false
set_option linter.unusedSimpArgs false
structure Gr where
  n : Nat
  w : World
  S : Nat → Prop
def kS (S : Nat → Prop) : Kd S69 where
  sz:=6
  E:=[]
  K:=fun w x cs=>Kd.FK k69 w S x cs
  M:=fun _ _ _ _ _=>False
  K_len:=fun h=>k69.K_len (Kd.FK_now h)
  K_one:=fun h=>k69.K_one (Kd.FK_now h)
  K_below:=fun hb h=>Kd.FK_below h hb
  K_of_M:=fun h=>h.elim
  M_mono:=fun _ h=>h
  M_bound:=fun h=>h
  M_move:=fun _ h=>h
  M_lower:=fun _ h=>h
def kE (lo : Gr) : Kd S69:=Kd.fixed (kS lo.S) lo.w
def Vs (lo : Gr) (v : Value) (xs : List S69) : Prop:=∃ A c,v = .slice A xs.length c ∧ xs.length ≤ c ∧ Kd.F k69 lo.w lo.S A xs.length xs
def Src (lo : Gr) (W : World) (v : Value) (xs : List S69) : Prop:=∃ A c,v = .slice A xs.length c ∧ xs.length ≤ c ∧ ReadsRow (fun x cs=>Kd.FK k69 lo.w lo.S x cs) 6 W A xs.length xs
def Ag (lo : Gr) (W : World) : Prop:=∀ k,lo.S k → k < lo.w.heap.size → W.heap[k]? = lo.w.heap[k]?
theorem kE_ne (lo : Gr) {t : Nat} (ht : 69 ≠ t) : ∀ q,q ∈ 69 :: (kE lo).E → q ≠ t:=fun q hq=>by
  have e : q ∈ [69]:=hq
  rw [List.mem_singleton.1 e]
  exact ht
theorem Vs.nil (lo : Gr) : Vs lo (.slice none 0 0) []:=⟨none,0,rfl,Nat.le_refl _,Kd.F_nil _ _ _⟩
theorem Vs.slice {lo : Gr} {v : Value} {xs : List S69} (h : Vs lo v xs) : ∃ A c,v = .slice A xs.length c:=by
  obtain ⟨A,c,e,_⟩:=h
  exact ⟨A,c,e⟩
theorem Src.slice {lo : Gr} {W : World} {v : Value} {xs : List S69} (h : Src lo W v xs) : ∃ A c,v = .slice A xs.length c:=by
  obtain ⟨A,c,e,_⟩:=h
  exact ⟨A,c,e⟩
theorem Src.below {lo : Gr} {W W' : World} {v : Value} {xs : List S69} (h : Src lo W v xs) (hb : Below W.heap.size W W') : Src lo W' v xs:=by
  obtain ⟨A,c,e,hl,hr⟩:=h
  exact ⟨A,c,e,hl,ReadsRow.imp_ hr hb fun _ _ hp=>hp⟩
theorem Vs.src {lo : Gr} {W : World} {v : Value} {xs : List S69} (h : Vs lo v xs) (ha : Ag lo W) : Src lo W v xs:=by
  obtain ⟨A,c,e,hl,hF⟩:=h
  have hr:=Kd.F_rows hF
  refine ⟨A,c,e,hl,hr.1,hr.2.1,fun hp=>?_⟩
  obtain ⟨ad,eA,hc⟩:=hr.2.2 hp
  have hin:=Kd.F_in hF eA hp (show 0 < k69.sz by decide)
  refine ⟨ad,eA,fun j p hj=>?_⟩
  obtain ⟨cs,h1,h2,h3⟩:=hc j p hj
  refine ⟨cs,h1,h2,fun i u hu=>?_⟩
  have h4:=h3 i u hu
  have hlt:=World.block_lt_of_cell? _ _ h4
  rw [add_block] at hlt
  have h5:=ha ad.block hin hlt
  have h6 : W.cell? (ad.add (j * 6 + i)) = lo.w.cell? (ad.add (j * k69.sz + i)):=by
    show W.cell? (ad.add (j * 6 + i)) = lo.w.cell? (ad.add (j * 6 + i))
    unfold World.cell?
    rw [add_block,h5]
  rw [h6]
  exact h4
theorem R_readsM {α : Type} {d : Kd α} {e base : Nat} {ok : Nat → Prop} {W : World} {v : Value} {xs : List α} (h : d.R e W base ok v xs) : ∃ A c,v = .slice A xs.length c ∧ xs.length ≤ c ∧ ReadsRow (fun x cs=>d.M W base ok x cs) d.sz W A xs.length xs:=by
  obtain ⟨A,c,ev,hl,hC⟩:=Kd.R_reads h
  refine ⟨A,c,ev,hl,rfl,hC.2.1,fun hp=>?_⟩
  obtain ⟨g,cap,e2,_,_,_⟩:=Kd.R_form h hp
  rw [ev] at e2
  injection e2 with ea _ ec
  subst ea;subst ec
  rw [ev] at h
  refine ⟨_,rfl,fun j p hj=>?_⟩
  obtain ⟨hjl,hjp⟩:=List.getElem?_eq_some_iff.1 hj
  obtain ⟨cs,h1,h2,h3,_⟩:=Kd.R_elem h (xs[0]'hp) (j : Int) (by omega) (by omega)
  have ex : xs.getD (j : Int).toNat (xs[0]'hp) = p:=by simp [List.getD_eq_getElem?_getD,List.getElem?_eq_getElem hjl,hjp]
  rw [ex] at h2
  refine ⟨cs,h1,d.M_mono (fun k hk=>hk.1) h2,fun i u hu=>?_⟩
  have e0 : Addr.add ⟨g,0,none⟩ (j * d.sz + i) = ⟨g,j * d.sz + i,none⟩:=by
    unfold Addr.add
    split
    · next h0=>rw [h0]
    · simp
  rw [e0]
  have:=h3 i u hu
  simpa using this
theorem Src.ofR {lo : Gr} {W : World} {ok : Nat → Prop} {v : Value} {xs : List S69} (h : (kE lo).R 69 W 0 ok v xs) : Src lo W v xs:=R_readsM h
theorem Src.reads {lo : Gr} {W : World} {v : Value} {xs : List S69} (h : Src lo W v xs) (ha : Ag lo W) : ∃ A c,v = .slice A xs.length c ∧ xs.length ≤ c ∧ k69.C W A xs.length xs:=by
  obtain ⟨A,c,e,hl,h1,h2,h3⟩:=h
  refine ⟨A,c,e,hl,h1,h2,fun hp=>?_⟩
  obtain ⟨ad,eA,hc⟩:=h3 hp
  refine ⟨ad,eA,fun j p hj=>?_⟩
  obtain ⟨cs,h4,h5,h6⟩:=hc j p hj
  exact ⟨cs,h4,h5 W ha,h6⟩
theorem kE_mkM (lo : Gr) (W : World) (base : Nat) (ok : Nat → Prop) (x : S69) {v4 v5 : Value} (g4 : Vs lo v4 x.f4) (g5 : Vs lo v5 x.f5) : (kE lo).M W base ok x [.int .i64 x.f0,.int .i64 x.f1,.int .i64 x.f2,.int .i64 x.f3,v4,v5]:=by
  obtain ⟨A4,c4,rfl,l4,f4⟩:=g4
  obtain ⟨A5,c5,rfl,l5,f5⟩:=g5
  exact k69_mkF lo.w lo.S x l4 f4 l5 f5
theorem kE_openM {lo : Gr} {W : World} {base : Nat} {ok : Nat → Prop} {x : S69} {cs : List Value} (h : (kE lo).M W base ok x cs) : ∃ v4 v5,cs = [.int .i64 x.f0,.int .i64 x.f1,.int .i64 x.f2,.int .i64 x.f3,v4,v5] ∧ Vs lo v4 x.f4 ∧ Vs lo v5 x.f5:=by
  obtain ⟨A4,c4,A5,c5,e,l4,f4,l5,f5⟩:=k69_openF (show Kd.FK k69 lo.w lo.S x cs from h)
  exact ⟨_,_,e,⟨A4,c4,rfl,l4,f4⟩,⟨A5,c5,rfl,l5,f5⟩⟩
def IRow (ow : Nat → Nat) (W : World) (v : Value) (len : Nat) : Prop:=∃ g cap cells,v = .slice (some ⟨g,0,none⟩) len cap ∧ ow g = 1 ∧ len ≤ cap ∧ W.heap[g]? = some (.cells cells 3 (0,0)) ∧ ∀ q,q < len → ∃ z,cells[q]? = some (.int .i64 z)
def QRow (ow : Nat → Nat) (j : Nat) (W : World) (v : Value) (l : List Int) : Prop:=(l = [] ∧ ∃ A,v = .slice A 0 0) ∨ ∃ g off cap cells,v = .slice (some ⟨g,off,none⟩) l.length cap ∧ ow g = 10 + j ∧ l.length ≤ cap ∧ l.length ≤ 1000000000000 ∧ W.heap[g]? = some (.cells cells 3 (0,0)) ∧ cells.size = off + cap ∧ ∀ q z,l[q]? = some z → cells[off + q]? = some (.int .i64 z)
def PCell (lo : Gr) (ow : Nat → Nat) (W : World) (cells : Array Value) (i : Nat) (p : S51) : Prop:=∃ r t,cells[i * 5]? = some r ∧ cells[i * 5 + 1]? = some t ∧ cells[i * 5 + 2]? = some (.int .i64 p.f2) ∧ cells[i * 5 + 3]? = some (.int .i64 p.f3) ∧ cells[i * 5 + 4]? = some (.int .i64 p.f4) ∧ IRow ow W r 3 ∧ (kE lo).R 69 W 0 (fun k=>ow k = 0) t p.f1
structure SV (lo : Gr) (ow : Nat → Nat) (W : World) (v0 v1 v2 v3 v4 : Value) (ps : List S51) (qs : List (List Int)) (ys : List S38) : Prop where
  bd : ∀ k,ow k ≠ 0 → lo.n ≤ k ∧ k < W.heap.size
  pr : ∃ g cap cells,v0 = .slice (some ⟨g,0,none⟩) ps.length cap ∧ ow g = 2 ∧ ps.length ≤ cap ∧ W.heap[g]? = some (.cells cells 51 (0,0)) ∧ ∀ i (hi : i < ps.length),PCell lo ow W cells i ps[i]
  ce : IRow ow W v1 3
  ro : IRow ow W v2 2
  si : ∃ g cap cells,v3 = .slice (some ⟨g,0,none⟩) qs.length cap ∧ ow g = 3 ∧ qs.length ≤ cap ∧ W.heap[g]? = some (.cells cells 26 (0,0)) ∧ ∀ j (hj : j < qs.length),∃ u,cells[j]? = some u ∧ QRow ow j W u qs[j]
  sa : k38.R 38 W 0 (fun k=>ow k = 4) v4 ys
  ag : Ag lo W
  zs : ∀ k,lo.S k → k < lo.w.heap.size → ow k = 0
  ws : lo.w.heap.size ≤ W.heap.size
def Fr (ow : Nat → Nat) (W W' : World) : Prop:=Below 0 W W' ∧ ∀ k,k < W.heap.size → ow k = 0 → W'.heap[k]? = W.heap[k]?
theorem Below.zero {n : Nat} {w w' : World} (h : Below n w w') : Below 0 w w':=⟨h.os,h.tape,h.output,h.size,fun k hk=>absurd hk (Nat.not_lt_zero k)⟩
theorem Fr.refl (ow : Nat → Nat) (W : World) : Fr ow W W:=⟨Below.refl _ _,fun _ _ _=>rfl⟩
theorem Fr.trans {ow ow' : Nat → Nat} {W W1 W2 : World} (h : Fr ow W W1) (k : Fr ow' W1 W2) (he : ∀ k,k < W.heap.size → ow k = 0 → ow' k = 0) : Fr ow W W2:=⟨h.1.trans k.1,fun b hb hp=>(k.2 b (Nat.lt_of_lt_of_le hb h.1.size) (he b hb hp)).trans (h.2 b hb hp)⟩
theorem Fr.below {ow : Nat → Nat} {W W1 W2 : World} (h : Fr ow W W1) (hb : Below W1.heap.size W1 W2) : Fr ow W W2:=⟨h.1.trans (Below.zero hb),fun k hk hp=>(hb.block k (Nat.lt_of_lt_of_le hk h.1.size)).trans (h.2 k hk hp)⟩
theorem Fr.set {ow : Nat → Nat} {W W1 : World} (h : Fr ow W W1) (p : Addr) (v : Value) (hp : ow p.block ≠ 0 ∨ W.heap.size ≤ p.block) : Fr ow W (W1.setCell p v):=⟨h.1.setCell (Nat.zero_le _) _,fun k hk h0=>(Below.heap_setCell W1 p v k (fun e=>by subst e;rcases hp with hp | hp;exact hp h0;omega)).trans (h.2 k hk h0)⟩
section
variable {lo : Gr} {ow : Nat → Nat} {W W' : World} {v0 v1 v2 v3 v4 : Value} {ps : List S51} {qs : List (List Int)} {ys : List S38}
theorem IRow.move {v : Value} {len : Nat} (h : IRow ow W v len) (hf : ∀ k,ow k = 1 → W'.heap[k]? = W.heap[k]?) : IRow ow W' v len:=by
  obtain ⟨g,cap,cells,e,hg,hl,hh,hc⟩:=h
  exact ⟨g,cap,cells,e,hg,hl,(hf g hg).trans hh,hc⟩
theorem QRow.move {v : Value} {j : Nat} {l : List Int} (h : QRow ow j W v l) (hf : ∀ k,ow k = 10 + j → W'.heap[k]? = W.heap[k]?) : QRow ow j W' v l:=by
  rcases h with h | ⟨g,off,cap,cells,e,hg,hl,hm,hh,hc⟩
  · exact .inl h
  · exact .inr ⟨g,off,cap,cells,e,hg,hl,hm,(hf g hg).trans hh,hc⟩
theorem PCell.move {cells : Array Value} {i : Nat} {p : S51} (h : PCell lo ow W cells i p) (hf : ∀ k,ow k = 1 → W'.heap[k]? = W.heap[k]?) (hz : ∀ t xs,(kE lo).R 69 W 0 (fun k=>ow k = 0) t xs → (kE lo).R 69 W' 0 (fun k=>ow k = 0) t xs) : PCell lo ow W' cells i p:=by
  obtain ⟨r,t,a,b,c,d,e,f,g⟩:=h
  exact ⟨r,t,a,b,c,d,e,f.move hf,hz _ _ g⟩
theorem SV.below (h : SV lo ow W v0 v1 v2 v3 v4 ps qs ys) (hb : Below W.heap.size W W') : SV lo ow W' v0 v1 v2 v3 v4 ps qs ys:=by
  have hf : ∀ k,ow k ≠ 0 → W'.heap[k]? = W.heap[k]?:=fun k hk=>hb.block k (h.bd k hk).2
  obtain ⟨g,cap,cells,e,hg,hl,hh,hc⟩:=h.pr
  obtain ⟨g3,cap3,cells3,e3,hg3,hl3,hh3,hc3⟩:=h.si
  refine ⟨fun k hk=>⟨(h.bd k hk).1,Nat.lt_of_lt_of_le (h.bd k hk).2 hb.size⟩,⟨g,cap,cells,e,hg,hl,(hf g (by omega)).trans hh,fun i hi=>(hc i hi).move (fun k hk=>hf k (by omega)) fun t xs hr=>Kd.R_below hr hb⟩,h.ce.move fun k hk=>hf k (by omega),h.ro.move fun k hk=>hf k (by omega),⟨g3,cap3,cells3,e3,hg3,hl3,(hf g3 (by omega)).trans hh3,fun j hj=>?_⟩,Kd.R_below h.sa hb,fun k hk hl=>(hb.block k (Nat.lt_of_lt_of_le hl h.ws)).trans (h.ag k hk hl),h.zs,Nat.le_trans h.ws hb.size⟩
  obtain ⟨u,hu,hq⟩:=hc3 j hj
  exact ⟨u,hu,hq.move fun k hk=>hf k (by omega)⟩
theorem IRow.set {v : Value} {len : Nat} (h : IRow ow W v len) (g q : Nat) (z : Int) : IRow ow (W.setCell ⟨g,q,none⟩ (.int .i64 z)) v len:=by
  obtain ⟨g1,cap,cells,e,hg,hl,hh,hc⟩:=h
  by_cases eg : g1 = g
  · subst eg
    refine ⟨g1,cap,cells.setIfInBounds q (.int .i64 z),e,hg,hl,blk_set hh q _,fun j hj=>?_⟩
    obtain ⟨y,hy⟩:=hc j hj
    by_cases ej : q = j
    · subst ej
      exact ⟨z,by rw [Array.getElem?_setIfInBounds];simp [(Array.getElem?_eq_some_iff.1 hy).1]⟩
    · exact ⟨y,by rw [Array.getElem?_setIfInBounds_ne ej];exact hy⟩
  · exact ⟨g1,cap,cells,e,hg,hl,(Below.heap_setCell W ⟨g,q,none⟩ _ g1 eg).trans hh,hc⟩
theorem SV.istore (h : SV lo ow W v0 v1 v2 v3 v4 ps qs ys) (g q : Nat) (z : Int) (hg : ow g = 1) : SV lo ow (W.setCell ⟨g,q,none⟩ (.int .i64 z)) v0 v1 v2 v3 v4 ps qs ys:=by
  have hf : ∀ k,ow k ≠ 1 → (W.setCell ⟨g,q,none⟩ (.int .i64 z)).heap[k]? = W.heap[k]?:=fun k hk=>Below.heap_setCell W ⟨g,q,none⟩ _ k (fun e=>hk (by rw [e];exact hg))
  obtain ⟨g0,cap,cells,e,hg0,hl,hh,hc⟩:=h.pr
  obtain ⟨g3,cap3,cells3,e3,hg3,hl3,hh3,hc3⟩:=h.si
  refine ⟨fun k hk=>by simpa [World.setCell] using h.bd k hk,⟨g0,cap,cells,e,hg0,hl,(hf g0 (by omega)).trans hh,fun i hi=>?_⟩,h.ce.set g q z,h.ro.set g q z,⟨g3,cap3,cells3,e3,hg3,hl3,(hf g3 (by omega)).trans hh3,fun j hj=>?_⟩,Kd.R_far (p:=⟨g,q,none⟩) h.sa (fun k hk e=>by have e' : k = g:=e;subst e';omega) _,fun k hk hl=>(hf k (by have:=h.zs k hk hl;omega)).trans (h.ag k hk hl),h.zs,by simpa [World.setCell] using h.ws⟩
  · obtain ⟨r,t,a,b,c,d,e1,f,g1⟩:=hc i hi
    exact ⟨r,t,a,b,c,d,e1,f.set g q z,Kd.R_far (p:=⟨g,q,none⟩) g1 (fun k hk e=>by have e' : k = g:=e;subst e';omega) _⟩
  · obtain ⟨u,hu,hq⟩:=hc3 j hj
    exact ⟨u,hu,hq.move fun k hk=>hf k (by omega)⟩
theorem PCell.other {cells : Array Value} {i k j : Nat} {u : Value} {p : S51} (h : PCell lo ow W cells i p) (hne : i ≠ k) (hj : j < 5) : PCell lo ow W (cells.setIfInBounds (k * 5 + j) u) i p:=by
  obtain ⟨r,t,a,b,c,d,e,f,g⟩:=h
  exact ⟨r,t,by rw [Array.getElem?_setIfInBounds_ne (by omega)];exact a,by rw [Array.getElem?_setIfInBounds_ne (by omega)];exact b,by rw [Array.getElem?_setIfInBounds_ne (by omega)];exact c,by rw [Array.getElem?_setIfInBounds_ne (by omega)];exact d,by rw [Array.getElem?_setIfInBounds_ne (by omega)];exact e,f,g⟩
theorem set_at {cells : Array Value} {q : Nat} {u y : Value} (h : cells[q]? = some y) : (cells.setIfInBounds q u)[q]? = some u:=by
  rw [Array.getElem?_setIfInBounds]
  simp [(Array.getElem?_eq_some_iff.1 h).1]
theorem PCell.f1 {cells : Array Value} {i : Nat} {p : S51} (h : PCell lo ow W cells i p) (t : Value) (xs : List S69) (ht : (kE lo).R 69 W 0 (fun k=>ow k = 0) t xs) : PCell lo ow W (cells.setIfInBounds (i * 5 + 1) t) i ⟨p.f0,xs,p.f2,p.f3,p.f4⟩:=by
  obtain ⟨r,t0,a,b,c,d,e,f,g⟩:=h
  exact ⟨r,t,by rw [Array.getElem?_setIfInBounds_ne (by omega)];exact a,set_at b,by rw [Array.getElem?_setIfInBounds_ne (by omega)];exact c,by rw [Array.getElem?_setIfInBounds_ne (by omega)];exact d,by rw [Array.getElem?_setIfInBounds_ne (by omega)];exact e,f,ht⟩
theorem PCell.f2 {cells : Array Value} {i : Nat} {p : S51} (h : PCell lo ow W cells i p) (z : Int) : PCell lo ow W (cells.setIfInBounds (i * 5 + 2) (.int .i64 z)) i ⟨p.f0,p.f1,z,p.f3,p.f4⟩:=by
  obtain ⟨r,t,a,b,c,d,e,f,g⟩:=h
  exact ⟨r,t,by rw [Array.getElem?_setIfInBounds_ne (by omega)];exact a,by rw [Array.getElem?_setIfInBounds_ne (by omega)];exact b,set_at c,by rw [Array.getElem?_setIfInBounds_ne (by omega)];exact d,by rw [Array.getElem?_setIfInBounds_ne (by omega)];exact e,f,g⟩
theorem PCell.f3 {cells : Array Value} {i : Nat} {p : S51} (h : PCell lo ow W cells i p) (z : Int) : PCell lo ow W (cells.setIfInBounds (i * 5 + 3) (.int .i64 z)) i ⟨p.f0,p.f1,p.f2,z,p.f4⟩:=by
  obtain ⟨r,t,a,b,c,d,e,f,g⟩:=h
  exact ⟨r,t,by rw [Array.getElem?_setIfInBounds_ne (by omega)];exact a,by rw [Array.getElem?_setIfInBounds_ne (by omega)];exact b,by rw [Array.getElem?_setIfInBounds_ne (by omega)];exact c,set_at d,by rw [Array.getElem?_setIfInBounds_ne (by omega)];exact e,f,g⟩
theorem PCell.f4 {cells : Array Value} {i : Nat} {p : S51} (h : PCell lo ow W cells i p) (z : Int) : PCell lo ow W (cells.setIfInBounds (i * 5 + 4) (.int .i64 z)) i ⟨p.f0,p.f1,p.f2,p.f3,z⟩:=by
  obtain ⟨r,t,a,b,c,d,e,f,g⟩:=h
  exact ⟨r,t,by rw [Array.getElem?_setIfInBounds_ne (by omega)];exact a,by rw [Array.getElem?_setIfInBounds_ne (by omega)];exact b,by rw [Array.getElem?_setIfInBounds_ne (by omega)];exact c,by rw [Array.getElem?_setIfInBounds_ne (by omega)];exact d,set_at e,f,g⟩
theorem SV.pcell {g cap n : Nat} (h : SV lo ow W (.slice (some ⟨g,0,none⟩) n cap) v1 v2 v3 v4 ps qs ys) (i : Nat) (hi : i < ps.length) (j : Nat) (hj : j < 5) (u : Value) (p' : S51) (hp : ∀ cells,PCell lo ow W cells i ps[i] → PCell lo ow W (cells.setIfInBounds (i * 5 + j) u) i p') : SV lo ow (W.setCell ⟨g,i * 5 + j,none⟩ u) (.slice (some ⟨g,0,none⟩) n cap) v1 v2 v3 v4 (ps.set i p') qs ys:=by
  obtain ⟨g0,cap0,cells,e,hg0,hl,hh,hc⟩:=h.pr
  obtain ⟨g3,cap3,cells3,e3,hg3,hl3,hh3,hc3⟩:=h.si
  injection e with ea eb ec
  injection ea with ea
  injection ea with ea
  subst ea;subst eb;subst ec
  have hf : ∀ k,ow k ≠ 2 → (W.setCell ⟨g,i * 5 + j,none⟩ u).heap[k]? = W.heap[k]?:=fun k hk=>Below.heap_setCell W ⟨g,i * 5 + j,none⟩ _ k (fun e=>hk (by rw [e];exact hg0))
  have hr : ∀ t xs,(kE lo).R 69 W 0 (fun k=>ow k = 0) t xs → (kE lo).R 69 (W.setCell ⟨g,i * 5 + j,none⟩ u) 0 (fun k=>ow k = 0) t xs:=fun t xs h=>Kd.R_far (p:=⟨g,i * 5 + j,none⟩) h (fun k hk e=>by have e' : k = g:=e;subst e';omega) _
  refine ⟨fun k hk=>by simpa [World.setCell] using h.bd k hk,⟨g,cap,cells.setIfInBounds (i * 5 + j) u,by rw [List.length_set],hg0,by rw [List.length_set];exact hl,blk_set hh _ _,fun k hk=>?_⟩,h.ce.move fun k hk=>hf k (by omega),h.ro.move fun k hk=>hf k (by omega),⟨g3,cap3,cells3,e3,hg3,hl3,(hf g3 (by omega)).trans hh3,fun q hq=>?_⟩,Kd.R_far (p:=⟨g,i * 5 + j,none⟩) h.sa (fun k hk e=>by have e' : k = g:=e;subst e';omega) _,fun k hk hl=>(hf k (by have:=h.zs k hk hl;omega)).trans (h.ag k hk hl),h.zs,by simpa [World.setCell] using h.ws⟩
  · have hk' : k < ps.length:=by simpa using hk
    refine PCell.move (W:=W) ?_ (fun k hk=>hf k (by omega)) hr
    by_cases ek : k = i
    · subst ek
      rw [List.getElem_set_self]
      exact hp cells (hc k hk')
    · rw [List.getElem_set_ne (fun e=>ek e.symm)]
      exact (hc k hk').other ek hj
  · obtain ⟨u1,hu,hq1⟩:=hc3 q hq
    exact ⟨u1,hu,hq1.move fun k hk=>hf k (by omega)⟩
theorem SV.qcell {g cap n : Nat} (h : SV lo ow W v0 v1 v2 (.slice (some ⟨g,0,none⟩) n cap) v4 ps qs ys) (j : Nat) (hj : j < qs.length) (u : Value) (l : List Int) (hq : QRow ow j W u l) : SV lo ow (W.setCell ⟨g,j,none⟩ u) v0 v1 v2 (.slice (some ⟨g,0,none⟩) n cap) v4 ps (qs.set j l) ys:=by
  obtain ⟨g0,cap0,cells,e,hg0,hl,hh,hc⟩:=h.pr
  obtain ⟨g3,cap3,cells3,e3,hg3,hl3,hh3,hc3⟩:=h.si
  injection e3 with ea eb ec
  injection ea with ea
  injection ea with ea
  subst ea;subst eb;subst ec
  have hf : ∀ k,ow k ≠ 3 → (W.setCell ⟨g,j,none⟩ u).heap[k]? = W.heap[k]?:=fun k hk=>Below.heap_setCell W ⟨g,j,none⟩ _ k (fun e=>hk (by rw [e];exact hg3))
  have hr : ∀ t xs,(kE lo).R 69 W 0 (fun k=>ow k = 0) t xs → (kE lo).R 69 (W.setCell ⟨g,j,none⟩ u) 0 (fun k=>ow k = 0) t xs:=fun t xs h=>Kd.R_far (p:=⟨g,j,none⟩) h (fun k hk e=>by have e' : k = g:=e;subst e';omega) _
  refine ⟨fun k hk=>by simpa [World.setCell] using h.bd k hk,⟨g0,cap0,cells,e,hg0,hl,(hf g0 (by omega)).trans hh,fun i hi=>(hc i hi).move (fun k hk=>hf k (by omega)) hr⟩,h.ce.move fun k hk=>hf k (by omega),h.ro.move fun k hk=>hf k (by omega),⟨g,cap,cells3.setIfInBounds j u,by rw [List.length_set],hg3,by rw [List.length_set];exact hl3,blk_set hh3 _ _,fun q hq1=>?_⟩,Kd.R_far (p:=⟨g,j,none⟩) h.sa (fun k hk e=>by have e' : k = g:=e;subst e';omega) _,fun k hk hl=>(hf k (by have:=h.zs k hk hl;omega)).trans (h.ag k hk hl),h.zs,by simpa [World.setCell] using h.ws⟩
  have hq1' : q < qs.length:=by simpa using hq1
  obtain ⟨u1,hu,hq2⟩:=hc3 q hq1'
  by_cases ek : q = j
  · subst ek
    rw [List.getElem_set_self]
    exact ⟨u,set_at hu,hq.move fun k hk=>hf k (by omega)⟩
  · rw [List.getElem_set_ne (fun e=>ek e.symm)]
    exact ⟨u1,by rw [Array.getElem?_setIfInBounds_ne (fun e=>ek e.symm)];exact hu,hq2.move fun k hk=>hf k (by omega)⟩
theorem IRow.reads {v : Value} {len : Nat} (h : IRow ow W v len) (hl : len ≤ 1000) : ∃ xs : List Int,xs.length = len ∧ Rd (Kd.int .i64) W v xs:=by
  obtain ⟨g,cap,cells,e,hg,hc,hh,hz⟩:=h
  refine ⟨(List.range len).pmap (fun q hq=>Classical.choose (hz q hq)) (fun q hq=>List.mem_range.1 hq),by simp,some ⟨g,0,none⟩,cap,by rw [e];simp,by simpa using hc,rfl,by simp;omega,fun _=>⟨⟨g,0,none⟩,rfl,fun j p hj=>?_⟩⟩
  have hjl : j < len:=by simpa using (List.getElem?_eq_some_iff.1 hj).1
  have ep : p = Classical.choose (hz j hjl):=by
    have e2 : ((List.range len).pmap (fun q hq=>Classical.choose (hz q hq)) (fun q hq=>List.mem_range.1 hq))[j]? = some (Classical.choose (hz j hjl)):=by simp [List.getElem?_pmap,hjl]
    rw [hj] at e2
    exact Option.some.inj e2
  refine ⟨[.int .i64 p],rfl,rfl,fun i u hu=>?_⟩
  obtain rfl : i = 0:=by have:=(List.getElem?_eq_some_iff.1 hu).1;simp at this;omega
  obtain rfl : Value.int .i64 p = u:=by simpa using hu
  have e4 : Addr.add ⟨g,0,none⟩ (j * (Kd.int .i64).sz + 0) = ⟨g,j,none⟩:=by
    rw [show (Kd.int .i64).sz = 1 from rfl,Nat.mul_one,Nat.add_zero]
    unfold Addr.add
    split
    · next h0=>rw [h0]
    · simp
  rw [e4,blk_cell hh,ep]
  exact Classical.choose_spec (hz j hjl)
theorem rd_row {g off cap : Nat} {cells : Array Value} {l : List Int} (hh : W.heap[g]? = some (.cells cells 3 (0,0))) (hm : l.length ≤ 1000000000000) (hl : l.length ≤ cap) (hc : ∀ q z,l[q]? = some z → cells[off + q]? = some (.int .i64 z)) : Rd (Kd.int .i64) W (.slice (some ⟨g,off,none⟩) l.length cap) l:=by
  refine ⟨some ⟨g,off,none⟩,cap,rfl,hl,rfl,by omega,fun _=>⟨⟨g,off,none⟩,rfl,fun j p hj=>⟨[.int .i64 p],rfl,rfl,fun i u hu=>?_⟩⟩⟩
  obtain rfl : i = 0:=by have:=(List.getElem?_eq_some_iff.1 hu).1;simp at this;omega
  obtain rfl : Value.int .i64 p = u:=by simpa using hu
  have e4 : Addr.add ⟨g,off,none⟩ (j * (Kd.int .i64).sz + 0) = ⟨g,off + j,none⟩:=by
    rw [show (Kd.int .i64).sz = 1 from rfl,Nat.mul_one,Nat.add_zero]
    unfold Addr.add
    split
    · next h0=>rw [h0];rfl
    · simp
  rw [e4,blk_cell hh]
  exact hc j p hj
theorem QRow.reads {v : Value} {j : Nat} {l : List Int} (h : QRow ow j W v l) : Rd (Kd.int .i64) W v l:=by
  rcases h with ⟨rfl,A,rfl⟩ | ⟨g,off,cap,cells,rfl,hg,hl,hm,hh,hs,hc⟩
  · exact ⟨A,0,rfl,Nat.le_refl _,rfl,by simp,fun h=>absurd h (Nat.lt_irrefl 0)⟩
  · exact rd_row hh (by omega) hl hc
def Likes (p x : S51) : Prop:=x.f0.length = 3 ∧ x.f1 = p.f1 ∧ x.f2 = p.f2 ∧ x.f3 = p.f3 ∧ x.f4 = p.f4
theorem PCell.reads {cells : Array Value} {i : Nat} {p : S51} (h : PCell lo ow W cells i p) (ha : Ag lo W) : ∃ x cs,Likes p x ∧ cs.length = 5 ∧ k51.K W x cs ∧ ∀ q u,cs[q]? = some u → cells[i * 5 + q]? = some u:=by
  obtain ⟨r,t,a,b,c,d,e,f,g⟩:=h
  obtain ⟨xs,hx,A,c0,er,hl,hC⟩:=f.reads (by omega)
  obtain ⟨A1,c1,et,hl1,hC1⟩:=(Src.ofR g).reads ha
  subst er;subst et
  refine ⟨⟨xs,p.f1,p.f2,p.f3,p.f4⟩,[.slice A xs.length c0,.slice A1 p.f1.length c1,.int .i64 p.f2,.int .i64 p.f3,.int .i64 p.f4],⟨hx,rfl,rfl,rfl,rfl⟩,rfl,k51_mk W ⟨xs,p.f1,p.f2,p.f3,p.f4⟩ hl hC hl1 hC1,fun q u hu=>?_⟩
  match q,hu with
  | 0,hu=>rw [← Option.some.inj hu];exact a
  | 1,hu=>rw [← Option.some.inj hu];exact b
  | 2,hu=>rw [← Option.some.inj hu];exact c
  | 3,hu=>rw [← Option.some.inj hu];exact d
  | 4,hu=>rw [← Option.some.inj hu];exact e
  | q + 5,hu=>simp at hu
theorem add_zero_off (g m : Nat) : Addr.add ⟨g,0,none⟩ m = ⟨g,m,none⟩:=by
  unfold Addr.add
  split
  · next h0=>rw [h0]
  · simp
theorem SV.reads (h : SV lo ow W v0 v1 v2 v3 v4 ps qs ys) (hp : ps.length ≤ 1000) (hq : qs.length ≤ 1000) : ∃ x0 x1 x2,x0.length = ps.length ∧ (∀ i (hi : i < ps.length) (hx : i < x0.length),Likes ps[i] x0[i]) ∧ x1.length = 3 ∧ x2.length = 2 ∧ WC W x0 x1 x2 qs ys v0 v1 v2 v3 v4:=by
  obtain ⟨x1,hx1,r1⟩:=h.ce.reads (by omega)
  obtain ⟨x2,hx2,r2⟩:=h.ro.reads (by omega)
  obtain ⟨g0,cap,cells,e,hg0,hl,hh,hc⟩:=h.pr
  obtain ⟨g3,cap3,cells3,e3,hg3,hl3,hh3,hc3⟩:=h.si
  have key:=fun i (hi : i < ps.length)=>(hc i hi).reads h.ag
  refine ⟨(List.range ps.length).pmap (fun i hi=>Classical.choose (key i hi)) (fun i hi=>List.mem_range.1 hi),x1,x2,by simp,fun i hi hx=>?_,hx1,hx2,⟨⟨some ⟨g0,0,none⟩,cap,by rw [e];simp,by simpa using hl,rfl,by simp;omega,fun _=>⟨⟨g0,0,none⟩,rfl,fun j p hj=>?_⟩⟩,r1,r2,⟨some ⟨g3,0,none⟩,cap3,e3,hl3,rfl,by omega,fun _=>⟨⟨g3,0,none⟩,rfl,fun j p hj=>?_⟩⟩,Kd.R_reads h.sa⟩⟩
  · simp only [List.getElem_pmap,List.getElem_range]
    obtain ⟨cs,h1,_⟩:=Classical.choose_spec (key i hi)
    exact h1
  · have hjl : j < ps.length:=by simpa using (List.getElem?_eq_some_iff.1 hj).1
    have ep : p = Classical.choose (key j hjl):=by
      have e2 : ((List.range ps.length).pmap (fun i hi=>Classical.choose (key i hi)) (fun i hi=>List.mem_range.1 hi))[j]? = some (Classical.choose (key j hjl)):=by simp [List.getElem?_pmap,hjl]
      rw [hj] at e2
      exact Option.some.inj e2
    obtain ⟨cs,_,h2,h3,h4⟩:=Classical.choose_spec (key j hjl)
    rw [← ep] at h3
    refine ⟨cs,h2,h3,fun q u hu=>?_⟩
    rw [add_zero_off,blk_cell hh]
    exact h4 q u hu
  · obtain ⟨hjl,rfl⟩:=List.getElem?_eq_some_iff.1 hj
    obtain ⟨u,hu,hq1⟩:=hc3 j hjl
    obtain ⟨A,c,eu,hl4,hC⟩:=hq1.reads
    refine ⟨[u],rfl,⟨A,c,by rw [eu],hl4,hC⟩,fun q y hy=>?_⟩
    obtain rfl : q = 0:=by have:=(List.getElem?_eq_some_iff.1 hy).1;simp at this;omega
    obtain rfl : u = y:=by simpa using hy
    rw [add_zero_off,blk_cell hh3]
    simpa [Kd.slice] using hu
theorem IRow.tag {ow' : Nat → Nat} {v : Value} {len : Nat} (h : IRow ow W v len) (ht : ∀ k,k < W.heap.size → ow' k = ow k) : IRow ow' W v len:=by
  obtain ⟨g,cap,cells,e,hg,hl,hh,hc⟩:=h
  exact ⟨g,cap,cells,e,(ht g (blk_lt hh)).trans hg,hl,hh,hc⟩
theorem QRow.tag {ow' : Nat → Nat} {v : Value} {j : Nat} {l : List Int} (h : QRow ow j W v l) (ht : ∀ k,k < W.heap.size → ow' k = ow k) : QRow ow' j W v l:=by
  rcases h with h | ⟨g,off,cap,cells,e,hg,hl,hm,hh,hc⟩
  · exact .inl h
  · exact .inr ⟨g,off,cap,cells,e,(ht g (blk_lt hh)).trans hg,hl,hm,hh,hc⟩
theorem SV.grown {ow' : Nat → Nat} {tag : Nat} {v4' : Value} {ys' : List S38} (h : SV lo ow W v0 v1 v2 v3 v4 ps qs ys) (ht : ∀ k,k < W.heap.size → ow' k = ow k) (hbd : ∀ k,ow' k ≠ 0 → lo.n ≤ k ∧ k < W'.heap.size) (hs : W.heap.size ≤ W'.heap.size) (hf : ∀ k,k < W.heap.size → ow k ≠ tag → W'.heap[k]? = W.heap[k]?) (hn : 4 ≤ tag) (hsa : k38.R 38 W' 0 (fun k=>ow' k = 4) v4' ys')
    (hq : ∀ g3 cap n,v3 = .slice (some ⟨g3,0,none⟩) n cap → ∀ j (hj : j < qs.length),tag = 10 + j → ∀ u,W.cell? ⟨g3,j,none⟩ = some u → QRow ow' j W' u qs[j]) : SV lo ow' W' v0 v1 v2 v3 v4' ps qs ys':=by
  have bl : ∀ k,ow k ≠ 0 → k < W.heap.size:=fun k hk=>(h.bd k hk).2
  obtain ⟨g0,cap,cells,e,hg0,hl,hh,hc⟩:=h.pr
  obtain ⟨g3,cap3,cells3,e3,hg3,hl3,hh3,hc3⟩:=h.si
  have mv : ∀ {v len},IRow ow W v len → IRow ow' W' v len:=fun {v len} hr=>by
    have h1:=IRow.move (W':=W') hr fun k hk=>hf k (bl k (by omega)) (by omega)
    obtain ⟨g,cap,cells,e,hg,hl,hh,hc⟩:=h1
    exact ⟨g,cap,cells,e,(ht g (bl g (by omega))).trans hg,hl,hh,hc⟩
  have mt : ∀ t xs,(kE lo).R 69 W 0 (fun k=>ow k = 0) t xs → (kE lo).R 69 W' 0 (fun k=>ow' k = 0) t xs:=fun t xs hr=>Kd.R_mono (Kd.R_move (Kd.R_bound hr) (fun k hk=>hf k hk.2.2.1 (by have:=hk.1;omega))) (fun k hk=>by rw [ht k hk.2.2.1];exact hk.1)
  refine ⟨hbd,⟨g0,cap,cells,e,(ht g0 (blk_lt hh)).trans hg0,hl,(hf g0 (blk_lt hh) (by omega)).trans hh,fun i hi=>?_⟩,mv h.ce,mv h.ro,⟨g3,cap3,cells3,e3,(ht g3 (blk_lt hh3)).trans hg3,hl3,(hf g3 (blk_lt hh3) (by omega)).trans hh3,fun j hj=>?_⟩,hsa,fun k hk hl=>(hf k (Nat.lt_of_lt_of_le hl h.ws) (by have:=h.zs k hk hl;omega)).trans (h.ag k hk hl),fun k hk hl=>(ht k (Nat.lt_of_lt_of_le hl h.ws)).trans (h.zs k hk hl),Nat.le_trans h.ws hs⟩
  · obtain ⟨r,t,a,b,c,d,e1,f,g1⟩:=hc i hi
    exact ⟨r,t,a,b,c,d,e1,mv f,mt _ _ g1⟩
  · obtain ⟨u,hu,hq1⟩:=hc3 j hj
    refine ⟨u,hu,?_⟩
    by_cases et : tag = 10 + j
    · exact hq g3 cap3 _ e3 j hj et u ((blk_cell hh3 j).trans hu)
    · rcases hq1 with hz | ⟨g,off,cap1,cells1,e1,hg,hl1,hm1,hh1,hs1,hc1⟩
      · exact .inl hz
      · exact .inr ⟨g,off,cap1,cells1,e1,(ht g (blk_lt hh1)).trans hg,hl1,hm1,(hf g (blk_lt hh1) (by omega)).trans hh1,hs1,hc1⟩
theorem SV.said {v4' : Value} {ys' : List S38} (h : SV lo ow W v0 v1 v2 v3 v4 ps qs ys) (hlo : lo.n ≤ W.heap.size) (ho : k38.R 38 W' 0 (fun k=>ow k = 4 ∨ W.heap.size ≤ k) v4' ys') (hg : W.grownBy W' v4.ownBlock) : ∃ ow',SV lo ow' W' v0 v1 v2 v3 v4' ps qs ys' ∧ ∀ k,k < W.heap.size → ow' k = ow k:=by
  refine ⟨fun k=>if W.heap.size ≤ k ∧ some k = v4'.ownBlock then 4 else ow k,h.grown (tag:=4) (fun k hk=>if_neg (by omega)) (fun k hk=>?_) hg.size (fun k hk hn=>hg.block k hk (fun e=>hn (h.sa.1 k e.symm))) (Nat.le_refl 4) ?_ (fun _ _ _ _ j _ e=>by omega),fun k hk=>if_neg (by omega)⟩
  · by_cases c : W.heap.size ≤ k ∧ some k = v4'.ownBlock
    · exact ⟨by omega,Kd.R_lt ho k c.2.symm⟩
    · have hk' : ow k ≠ 0:=by simpa [c] using hk
      exact ⟨(h.bd k hk').1,Nat.lt_of_lt_of_le (h.bd k hk').2 hg.size⟩
  · refine Kd.R_mono (ok:=fun k=>(ow k = 4 ∨ W.heap.size ≤ k) ∧ some k = v4'.ownBlock) (Kd.R_tight (by rfl) ho |> fun z=>Kd.R_mono z fun k hk=>⟨ho.1 k hk.symm,hk⟩) fun k hk=>?_
    by_cases c : W.heap.size ≤ k ∧ some k = v4'.ownBlock
    · exact if_pos c
    · have e1 : ow k = 4:=hk.1.resolve_right fun z=>c ⟨z,hk.2⟩
      show (if _ then _ else _) = 4
      rw [if_neg c]
      exact e1
theorem ty_far {g k : Nat} {a b : Array Value} {s t : Nat} (h1 : W.heap[g]? = some (.cells a s (0,0))) (h2 : W.heap[k]? = some (.cells b t (0,0))) (hne : s ≠ t) : k ≠ g:=fun e=>by
  subst e
  rw [h1] at h2
  injection h2 with h3
  injection h3 with _ h4 _
  exact hne h4
theorem SV.setW {g : Nat} {cs : Array Value} (h : SV lo ow W v0 v1 v2 v3 v4 ps qs ys) (hb : lo.w.heap.size ≤ g) (hg : W.heap[g]? = some (.cells cs 33 (0,0))) (j : Nat) (u : Value) : SV lo ow (W.setCell ⟨g,j,none⟩ u) v0 v1 v2 v3 v4 ps qs ys:=by
  have hf : ∀ k,k ≠ g → (W.setCell ⟨g,j,none⟩ u).heap[k]? = W.heap[k]?:=fun k hk=>Below.heap_setCell W ⟨g,j,none⟩ _ k hk
  obtain ⟨g0,cap,cells,e,hg0,hl,hh,hc⟩:=h.pr
  obtain ⟨g3,cap3,cells3,e3,hg3,hl3,hh3,hc3⟩:=h.si
  have mv : ∀ {v len},IRow ow W v len → IRow ow (W.setCell ⟨g,j,none⟩ u) v len:=fun {v len} hr=>by
    obtain ⟨g1,cap,cells,e,hg1,hl,hh,hc⟩:=hr
    exact ⟨g1,cap,cells,e,hg1,hl,(hf g1 (ty_far hg hh (by decide))).trans hh,hc⟩
  refine ⟨fun k hk=>by simpa [World.setCell] using h.bd k hk,⟨g0,cap,cells,e,hg0,hl,(hf g0 (ty_far hg hh (by decide))).trans hh,fun i hi=>?_⟩,mv h.ce,mv h.ro,⟨g3,cap3,cells3,e3,hg3,hl3,(hf g3 (ty_far hg hh3 (by decide))).trans hh3,fun q hq=>?_⟩,Kd.R_set h.sa hg (by decide) j u,fun k hk hl=>(hf k (by omega)).trans (h.ag k hk hl),h.zs,by simpa [World.setCell] using h.ws⟩
  · obtain ⟨r,t,a,b,c,d,e1,f,g1⟩:=hc i hi
    exact ⟨r,t,a,b,c,d,e1,mv f,Kd.R_set g1 hg (kE_ne lo (by decide)) j u⟩
  · obtain ⟨u1,hu,hq1⟩:=hc3 q hq
    refine ⟨u1,hu,?_⟩
    rcases hq1 with hz | ⟨g1,off,cap1,cells1,e1,hg1,hl1,hm1,hh1,hs1,hc1⟩
    · exact .inl hz
    · exact .inr ⟨g1,off,cap1,cells1,e1,hg1,hl1,hm1,(hf g1 (ty_far hg hh1 (by decide))).trans hh1,hs1,hc1⟩
theorem SV.setW5 {g : Nat} {cs : Array Value} (h : SV lo ow W v0 v1 v2 v3 v4 ps qs ys) (hb : lo.w.heap.size ≤ g) (hg : W.heap[g]? = some (.cells cs 33 (0,0))) (u0 u1 u2 u3 u4 : Value) : SV lo ow (((((W.setCell ⟨g,0,none⟩ u0).setCell ⟨g,1,none⟩ u1).setCell ⟨g,2,none⟩ u2).setCell ⟨g,3,none⟩ u3).setCell ⟨g,4,none⟩ u4) v0 v1 v2 v3 v4 ps qs ys :=
  ((((h.setW hb hg 0 u0).setW hb (blk_set hg 0 u0) 1 u1).setW hb (blk_set (blk_set hg 0 u0) 1 u1) 2 u2).setW hb (blk_set (blk_set (blk_set hg 0 u0) 1 u1) 2 u2) 3 u3).setW hb (blk_set (blk_set (blk_set (blk_set hg 0 u0) 1 u1) 2 u2) 3 u3) 4 u4
theorem SV.other {b : Nat} {cs : Array Value} {ty : Nat} (h : SV lo ow W v0 v1 v2 v3 v4 ps qs ys) (hg : W.heap[b]? = some (.cells cs ty (0,0))) (hty : 69 ≠ ty) (ho : ow b = 0) (hS : lo.S b → ¬ b < lo.w.heap.size) (hs : W.heap.size ≤ W'.heap.size) (hf : ∀ k,k < W.heap.size → k ≠ b → W'.heap[k]? = W.heap[k]?) : SV lo ow W' v0 v1 v2 v3 v4 ps qs ys:=by
  have hf1 : ∀ k,ow k ≠ 0 → W'.heap[k]? = W.heap[k]?:=fun k hk=>hf k (h.bd k hk).2 (fun e=>hk (by rw [e];exact ho))
  obtain ⟨g,cap,cells,e,hg1,hl,hh,hc⟩:=h.pr
  obtain ⟨g3,cap3,cells3,e3,hg3,hl3,hh3,hc3⟩:=h.si
  refine ⟨fun k hk=>⟨(h.bd k hk).1,Nat.lt_of_lt_of_le (h.bd k hk).2 hs⟩,⟨g,cap,cells,e,hg1,hl,(hf1 g (by omega)).trans hh,fun i hi=>(hc i hi).move (fun k hk=>hf1 k (by omega)) fun t xs hr=>?_⟩,h.ce.move fun k hk=>hf1 k (by omega),h.ro.move fun k hk=>hf1 k (by omega),⟨g3,cap3,cells3,e3,hg3,hl3,(hf1 g3 (by omega)).trans hh3,fun j hj=>?_⟩,Kd.R_move h.sa fun k hk=>hf1 k (by omega),fun k hk hl=>(hf k (Nat.lt_of_lt_of_le hl h.ws) (fun e=>hS (e ▸ hk) (e ▸ hl))).trans (h.ag k hk hl),h.zs,Nat.le_trans h.ws hs⟩
  · refine Kd.R_mono (Kd.R_move (Kd.R_bound hr) fun k hk=>?_) fun k hk=>hk.1
    obtain ⟨_,_,hlt,q,hq,cells4,hc4⟩:=hk
    refine hf k hlt (fun e=>kE_ne lo hty q hq ?_)
    rw [e,hg] at hc4
    injection hc4 with h5
    injection h5 with _ h6 _
    exact h6.symm
  · obtain ⟨u,hu,hq⟩:=hc3 j hj
    exact ⟨u,hu,hq.move fun k hk=>hf1 k (by omega)⟩
theorem Fr.set5 {W0 : World} {g : Nat} (h : Fr ow W0 W) (hg : W0.heap.size ≤ g) (u0 u1 u2 u3 u4 : Value) : Fr ow W0 (((((W.setCell ⟨g,0,none⟩ u0).setCell ⟨g,1,none⟩ u1).setCell ⟨g,2,none⟩ u2).setCell ⟨g,3,none⟩ u3).setCell ⟨g,4,none⟩ u4) :=
  ((((h.set ⟨g,0,none⟩ u0 (.inr hg)).set ⟨g,1,none⟩ u1 (.inr hg)).set ⟨g,2,none⟩ u2 (.inr hg)).set ⟨g,3,none⟩ u3 (.inr hg)).set ⟨g,4,none⟩ u4 (.inr hg)
end
end Go.Proofs.Ytfbocgagfodgnaa.P
