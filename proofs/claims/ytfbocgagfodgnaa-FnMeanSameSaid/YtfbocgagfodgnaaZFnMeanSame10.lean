/- Parts of the proof of FnMeanSame: plain Lean functions of Go functions, and that the calls come to what they say; no condition beyond those that each theorem names. -/
import Derived.Test.YtfbocgagfodgnaaZFnMeanSame9
import Derived.Test.YtfbocgagfodgnaaZFnMeanSame4
import Derived.Test.YtfbocgagfodgnaaZFnMeanSame5
namespace Go.Proofs.Ytfbocgagfodgnaa.P
open Go.Proofs.YtfbocgagfodgnaaW.PrintWords renaming Aside0.mk → ö
open List renaming setIfInBounds_toArray → ä, set_cons_zero → ü, set_cons_succ → é
open Go renaming World.block_lt_of_cell? → è, Act.put → á
open Go.RowKit Go.Proofs.YtfbocgagfodgnaaW.PrintWords Go.Proofs.YtfbocgagfodgnaaW.PrintLast Go.Proofs.YtfbocgagfodgnaaW.PrintMore
attribute [local go_sem] max2_int min2_int max_two min_two max_three min_three max_four min_four
set_option linter.unusedVariables false
set_option linter.unusedSimpArgs false
def room6_T : Bool × List (List Nat × List Nat):=(true,[([],[]),([0],[0]),([],[]),([],[]),([3],[3]),([],[]),([5],[5]),([6],[6]),([7],[7]),([],[]),([8,9],[8,9]),([4,10,10],[4,10]),([1,2,0,1,2,3,4,5,6,7,8,9,10,11],[1,2]),([12,0,1,2,3,4,5,6,7,8,9,10,11],[12]),([13,11,11,0,1,2,3,4,5,6,7,8,9,10,11],[11,13])])
def room6_B : List Nat:=[0,1,0,0,8,0,32,96,224,0,992,2040,4095,8191,16383]
theorem room6_tab : rtab .any (opsOf Try.f44 6) = room6_T:=by kernel_rfl
theorem room6_bits : waitsOk room6_T.2 room6_B = true:=by kernel_rfl
set_option maxHeartbeats 2000000 in
set_option maxRecDepth 100000 in
theorem l3room_leave (lo : Gr) (ow : Nat → Nat) (w : World) (v0 v1 v2 v3 v4 : Value) (ps : List S51) (qs : List (List Int)) (ys : List S38) (h : SV lo ow w v0 v1 v2 v3 v4 ps qs ys) (who : Nat) (hwho : who < ps.length) (a b n : Int) (vb ve vr : Value) (body els rest : List S69) (hb4 : Vs lo vb body) (hb5 : Vs lo ve els) (hbr : (kE lo).R 69 w 0 (fun k=>ow k = 0) vr rest) (ha0 : 0 ≤ a) (ha1 : a < 2) (l4 : body.length ≤ 2000000) (l5 : els.length ≤ 2000000) (lr : rest.length ≤ 500000000) (hlo : lo.n ≤ w.heap.size) :
  Calls Try.prog 44 #[.agg #[v0,v1,v2,v3,v4],.int .i64 who,.agg #[.int .i64 12,.int .i64 a,.int .i64 b,.int .i64 n,vb,ve],vr] w fun e w'=>e = .returned (.agg #[v0,v1,v2,v3,v4]) ∧ SV lo ow w' v0 v1 v2 v3 v4 (ps.set who ⟨ps[who].f0,rest,ps[who].f2,ps[who].f3,-1⟩) qs ys ∧ Fr ow w w':=by
 have hu29:=Try.underlying33
 have hu59:=Try.underlying51
 obtain ⟨g0,cap0,gr,cr,tt,rfl,hg0,⟨hp0,hp1,hp2,hp3,hp4⟩,hpf,_,hgr,_⟩:=h.pfull who hwho
 obtain ⟨g1,cap1,rfl,hg1,_⟩:=h.ce.form
 obtain ⟨g2,cap2,rfl,hg2,hrooms⟩:=h.ro.form
 obtain ⟨g3,cap3,cells3,rfl,hg3,_⟩:=h.si
 obtain ⟨A,c,rfl⟩:=Kd.R_slice h.sa
 obtain ⟨A4,c4,rfl⟩:=hb4.slice
 obtain ⟨A5,c5,rfl⟩:=hb5.slice
 obtain ⟨AR,cR,rfl⟩:=Kd.R_slice hbr
 obtain ⟨aa,rfl⟩:=Int.eq_ofNat_of_zero_le ha0
 obtain ⟨z0,hz0,hf0⟩:=hrooms aa (by omega)
 have HS:=ö h
 have WS:=ö h.ws
 have HPF:=ö hpf
 have HP1:=ö hp1
 have HP4:=ö hp4
 have HP2:=ö hp2
 have HP3:=ö hp3
 have HZ0:=ö hz0
 have HF0:=ö hf0
 have HB4:=ö hb4
 have HBR:=ö hbr
 have FREE:=ö h.free
 have HB:=ö (Below.refl w.heap.size w)
 have GL:=ö (show g0 < w.heap.size from è w _ hp1)
 have GL2:=ö (show g2 < w.heap.size from è w _ hz0)
 have hk0 : g0 ≠ g2:=fun e=>by rw [e] at hg0;omega
 have hk0':=hk0.symm
 have p1 : 0 ≤ (who : Int):=by omega
 have q1 : (who : Int) < (ps.length : Int):=by omega
 have p2:=eq_true ha0
 have q2:=eq_true ha1
 replace p1:=eq_true p1
 replace q1:=eq_true q1
 clear h hrooms hp0 hp1 hp2 hp3 hp4 hpf hz0 hf0 hb4 hb5 hbr ha0 ha1
 go_enter Try.func44,Try.ntmps44
 go_wp2_with (first | ((with_reducible refine gate_dst (N:=4) rfl ?_);refine box_event ?hg (N:=4) ?hd (cs:=#[.slice (some ⟨g0,0,none⟩) ps.length cap0,.slice (some ⟨g1,0,none⟩) 3 cap1,.slice (some ⟨g2,0,none⟩) 2 cap2,.slice (some ⟨g3,0,none⟩) qs.length cap3,.slice A ys.length c]) (t:=33) ?hr ?_;(case hd=>rfl);(case hg=>rfl);(case hr=>first | (go_simp;done) | (go_simp;rfl));intro bw hg w5 hbox hb;replace HB:=ö (below_step HB.out hb);have GW:=ö (Nat.le_of_eq hg.symm);have BW:=ö hbox;clear hb hbox hg) | ((with_reducible refine gate_dst (N:=6) rfl ?_);refine box_event ?hg (N:=6) ?hd (cs:=#[.int .i64 12,.int .i64 (aa : Int),.int .i64 b,.int .i64 n,.slice A4 body.length c4,.slice A5 els.length c5]) (t:=69) ?hr ?_;(case hd=>rfl);(case hg=>rfl);(case hr=>first | (go_simp;done) | (go_simp;rfl));intro bs hg w6 hbox hb;have n1_:=ö (blk_below BW.out hb);have NS:=ö (show bw ≠ bs by rw [hg];exact Nat.ne_of_lt (blk_lt BW.out));have GS:=ö (show w.heap.size ≤ bs by rw [hg];exact HB.out.size);replace HB:=ö (below_step HB.out hb);clear BW;have BW:=n1_;clear n1_;have BS:=ö hbox;clear hb hbox hg) | ((with_reducible refine gate_dst (N:=8) rfl ?_);refine box_event ?hg (N:=8) ?hd (cs:=#[.slice none 0 0,.slice none 0 0,.slice none 0 0,.slice none 0 0,.slice none 0 0]) (t:=33) ?hr ?_;(case hd=>rfl);(case hg=>rfl);(case hr=>first | (go_simp;done) | (go_simp;rfl));intro br hg w7 hbox hb;have n1_:=ö (blk_below BW.out hb);have n2_:=ö (blk_below BS.out hb);have NR:=ö (show bw ≠ br by rw [hg];exact Nat.ne_of_lt (blk_lt BW.out));have GR:=ö (show w.heap.size ≤ br by rw [hg];exact HB.out.size);replace HB:=ö (below_step HB.out hb);clear BW BS;have BW:=n1_;have BS:=n2_;clear n1_ n2_;have BR:=ö hbox;obtain ⟨hcz_0,hcz_1,hcz_2,hcz_3,hcz_4,hfz_0,hfz_1,hfz_2,hfz_3,hfz_4⟩:=bz5_ BW;obtain ⟨hcy_0,hcy_1,hcy_2,hcy_3,hcy_4,hcy_5,hfy_0,hfy_1,hfy_2,hfy_3,hfy_4,hfy_5⟩:=bz6_ BS;obtain ⟨hcx_0,hcx_1,hcx_2,hcx_3,hcx_4,hfx_0,hfx_1,hfx_2,hfx_3,hfx_4⟩:=bz5_ BR;have hn1:=NR.out;have hn2:=hn1.symm;clear hb hbox hg;have hy1:=(HB.out.cell (è w _ HP1.out)).trans HP1.out;have hfy1 : w7.frozen? ⟨g0,who * 5 + 1,none⟩ = false:=(HB.out.frozen (è w _ HP1.out)).trans (HPF.out _);have hy4:=(HB.out.cell (è w _ HP4.out)).trans HP4.out;have hfy4 : w7.frozen? ⟨g0,who * 5 + 4,none⟩ = false:=(HB.out.frozen (è w _ HP4.out)).trans (HPF.out _);have hy0:=(HB.out.cell (è w _ HZ0.out)).trans HZ0.out;have hfy0 : w7.frozen? ⟨g2,aa,none⟩ = false:=(HB.out.frozen (è w _ HZ0.out)).trans HF0.out;have hk1 : g0 ≠ bw:=(by have h1:=GW.out;have h2:=GL.out;omega);have hk2 : g0 ≠ br:=(by have h1:=GR.out;have h2:=GL.out;omega);have hk3:=hk1.symm;have hk4:=hk2.symm;have hj1 : g2 ≠ bw:=(by have h1:=GW.out;have h2:=GL2.out;omega);have hj2 : g2 ≠ br:=(by have h1:=GR.out;have h2:=GL2.out;omega);have hj3:=hj1.symm;have hj4:=hj2.symm;have hi1 : g0 ≠ bs:=(by have h1:=GS.out;have h2:=GL.out;omega);have hi2:=hi1.symm;have hi3 : g2 ≠ bs:=(by have h1:=GS.out;have h2:=GL2.out;omega);have hi4:=hi3.symm))
 have M3:=ö (blk_far (p:=⟨g0,who * 5 + 4,none⟩) (blk_far (p:=⟨g2,aa,none⟩) (blk_far (p:=⟨g0,who * 5 + 1,none⟩) BR.out hk4 (.slice AR rest.length cR)) hj4 (.int .i64 0)) hk4 (.int .i64 (-1)))
 refine bodyPost_ret (results_cell_row rfl _ _ br 33 #[.slice (some ⟨g0,0,none⟩) ps.length cap0,.slice (some ⟨g1,0,none⟩) 3 cap1,.slice (some ⟨g2,0,none⟩) 2 cap2,.slice (some ⟨g3,0,none⟩) qs.length cap3,.slice A ys.length c] (0,0) _ rfl (by apply bp5_4_;apply bp5_3_;apply bp5_2_;apply bp5_1_;apply bp5_0_;exact M3.out) Try.underlying33 rfl (by kernel_rfl)) rfl ?_
 have z1:=((HS.out.below HB.out).pcell who hwho 1 (by decide) (.slice AR rest.length cR) ⟨ps[who].f0,rest,ps[who].f2,ps[who].f3,ps[who].f4⟩ (fun cells hp=>hp.f1 _ _ (Kd.R_below HBR.out HB.out))).istore g2 aa 0 hg2
 have z2:=z1.pcell who (by rw [List.length_set];exact hwho) 4 (by decide) (.int .i64 (-1)) ⟨ps[who].f0,rest,ps[who].f2,ps[who].f3,-1⟩ (fun cells hp=>by rw [List.getElem_set_self] at hp;exact hp.f4 (-1))
 rw [List.set_set] at z2
 exact ⟨rfl,z2.setW5 (Nat.le_trans WS.out GR.out) M3.out (.slice (some ⟨g0,0,none⟩) ps.length cap0) (.slice (some ⟨g1,0,none⟩) 3 cap1) (.slice (some ⟨g2,0,none⟩) 2 cap2) (.slice (some ⟨g3,0,none⟩) qs.length cap3) (.slice A ys.length c),(((((Fr.refl ow w).below HB.out).set ⟨g0,who * 5 + 1,none⟩ (.slice AR rest.length cR) (.inl (by rw [hg0];decide))).set ⟨g2,aa,none⟩ (.int .i64 0) (.inl (by rw [hg2];decide))).set ⟨g0,who * 5 + 4,none⟩ (.int .i64 (-1)) (.inl (by rw [hg0];decide))).set5 GR.out (.slice (some ⟨g0,0,none⟩) ps.length cap0) (.slice (some ⟨g1,0,none⟩) 3 cap1) (.slice (some ⟨g2,0,none⟩) 2 cap2) (.slice (some ⟨g3,0,none⟩) qs.length cap3) (.slice A ys.length c)⟩
set_option maxHeartbeats 2000000 in
set_option maxRecDepth 100000 in
theorem l3room_signal (lo : Gr) (ow : Nat → Nat) (w : World) (v0 v1 v2 v3 v4 : Value) (ps : List S51) (qs : List (List Int)) (ys : List S38) (h : SV lo ow w v0 v1 v2 v3 v4 ps qs ys) (who : Nat) (hwho : who < ps.length) (a b n : Int) (vb ve vr : Value) (body els rest : List S69) (hb4 : Vs lo vb body) (hb5 : Vs lo ve els) (hbr : (kE lo).R 69 w 0 (fun k=>ow k = 0) vr rest) (ha0 : 0 ≤ a) (ha1 : a < 2) (l4 : body.length ≤ 2000000) (l5 : els.length ≤ 2000000) (lr : rest.length ≤ 500000000) (hlo : lo.n ≤ w.heap.size) (hq2 : qs.length ≤ 1000) (hp2 : ps.length ≤ 1000) (s : Nat) (hsa : a = (s : Int)) (haq : s < qs.length) (hin : ∀ x ∈ qs[s],0 ≤ x ∧ x < ps.length) :
  Calls Try.prog 44 #[.agg #[v0,v1,v2,v3,v4],.int .i64 who,.agg #[.int .i64 10,.int .i64 a,.int .i64 b,.int .i64 n,vb,ve],vr] w fun e w'=>e = .returned (.agg #[v0,v1,v2,v3,v4]) ∧ Fr ow w w' ∧ ((qs[s] = [] ∧ SV lo ow w' v0 v1 v2 v3 v4 (ps.set who ⟨ps[who].f0,rest,ps[who].f2,ps[who].f3,ps[who].f4⟩) qs ys) ∨ ∃ (i : Nat) (hi : i < (ps.set who ⟨ps[who].f0,rest,ps[who].f2,ps[who].f3,ps[who].f4⟩).length) (l : List Int),qs[s] = (i : Int) :: l ∧ SV lo ow w' v0 v1 v2 v3 v4 ((ps.set who ⟨ps[who].f0,rest,ps[who].f2,ps[who].f3,ps[who].f4⟩).set i ⟨(ps.set who ⟨ps[who].f0,rest,ps[who].f2,ps[who].f3,ps[who].f4⟩)[i].f0,(ps.set who ⟨ps[who].f0,rest,ps[who].f2,ps[who].f3,ps[who].f4⟩)[i].f1,2,0,(ps.set who ⟨ps[who].f0,rest,ps[who].f2,ps[who].f3,ps[who].f4⟩)[i].f4⟩) (qs.set s l) ys):=by
 have hu29:=Try.underlying33
 have hu59:=Try.underlying51
 obtain ⟨g0,cap0,gr,cr,tt,rfl,hg0,⟨hp0,hp1,hp2,hp3,hp4⟩,hpf,_,hgr,_⟩:=h.pfull who hwho
 obtain ⟨g1,cap1,rfl,hg1,_⟩:=h.ce.form
 obtain ⟨g2,cap2,rfl,hg2,hrooms⟩:=h.ro.form
 obtain ⟨g3,cap3,cells3,rfl,hg3,_⟩:=h.si
 obtain ⟨A,c,rfl⟩:=Kd.R_slice h.sa
 obtain ⟨A4,c4,rfl⟩:=hb4.slice
 obtain ⟨A5,c5,rfl⟩:=hb5.slice
 obtain ⟨AR,cR,rfl⟩:=Kd.R_slice hbr
 obtain ⟨aa,rfl⟩:=Int.eq_ofNat_of_zero_le ha0
 obtain ⟨z0,hz0,hf0⟩:=hrooms aa (by omega)
 have HS:=ö h
 have WS:=ö h.ws
 have HPF:=ö hpf
 have HP1:=ö hp1
 have HP4:=ö hp4
 have HP2:=ö hp2
 have HP3:=ö hp3
 have HZ0:=ö hz0
 have HF0:=ö hf0
 have HB4:=ö hb4
 have HBR:=ö hbr
 have FREE:=ö h.free
 have HB:=ö (Below.refl w.heap.size w)
 have GL:=ö (show g0 < w.heap.size from è w _ hp1)
 have GL2:=ö (show g2 < w.heap.size from è w _ hz0)
 have hk0 : g0 ≠ g2:=fun e=>by rw [e] at hg0;omega
 have hk0':=hk0.symm
 have p1 : 0 ≤ (who : Int):=by omega
 have q1 : (who : Int) < (ps.length : Int):=by omega
 have p2:=eq_true ha0
 have q2:=eq_true ha1
 replace p1:=eq_true p1
 replace q1:=eq_true q1
 clear h hrooms hp0 hp1 hp2 hp3 hp4 hpf hz0 hf0 hb4 hb5 hbr ha0 ha1
 obtain rfl : s = aa:=by omega
 have HAQ:=ö haq
 clear hsa
 have HQ2:=ö hq2
 have HP22:=ö hp2
 have HIN:=ö hin
 clear hq2 hp2 hin
 go_enter Try.func44,Try.ntmps44
 go_wp2_with (first | ((with_reducible refine gate_dst (N:=4) rfl ?_);refine box_event ?hg (N:=4) ?hd (cs:=#[.slice (some ⟨g0,0,none⟩) ps.length cap0,.slice (some ⟨g1,0,none⟩) 3 cap1,.slice (some ⟨g2,0,none⟩) 2 cap2,.slice (some ⟨g3,0,none⟩) qs.length cap3,.slice A ys.length c]) (t:=33) ?hr ?_;(case hd=>rfl);(case hg=>rfl);(case hr=>first | (go_simp;done) | (go_simp;rfl));intro bw hg w5 hbox hb;replace HB:=ö (below_step HB.out hb);have GW:=ö (Nat.le_of_eq hg.symm);have BW:=ö hbox;clear hb hbox hg) | ((with_reducible refine gate_dst (N:=6) rfl ?_);refine box_event ?hg (N:=6) ?hd (cs:=#[.int .i64 10,.int .i64 (s : Int),.int .i64 b,.int .i64 n,.slice A4 body.length c4,.slice A5 els.length c5]) (t:=69) ?hr ?_;(case hd=>rfl);(case hg=>rfl);(case hr=>first | (go_simp;done) | (go_simp;rfl));intro bs hg w6 hbox hb;have n1_:=ö (blk_below BW.out hb);have NS:=ö (show bw ≠ bs by rw [hg];exact Nat.ne_of_lt (blk_lt BW.out));have GS:=ö (show w.heap.size ≤ bs by rw [hg];exact HB.out.size);replace HB:=ö (below_step HB.out hb);clear BW;have BW:=n1_;clear n1_;have BS:=ö hbox;clear hb hbox hg) | ((with_reducible refine gate_dst (N:=8) rfl ?_);refine box_event ?hg (N:=8) ?hd (cs:=#[.slice none 0 0,.slice none 0 0,.slice none 0 0,.slice none 0 0,.slice none 0 0]) (t:=33) ?hr ?_;(case hd=>rfl);(case hg=>rfl);(case hr=>first | (go_simp;done) | (go_simp;rfl));intro br hg w7 hbox hb;have n1_:=ö (blk_below BW.out hb);have n2_:=ö (blk_below BS.out hb);have NR:=ö (show bw ≠ br by rw [hg];exact Nat.ne_of_lt (blk_lt BW.out));have GR:=ö (show w.heap.size ≤ br by rw [hg];exact HB.out.size);replace HB:=ö (below_step HB.out hb);clear BW BS;have BW:=n1_;have BS:=n2_;clear n1_ n2_;have BR:=ö hbox;obtain ⟨hcz_0,hcz_1,hcz_2,hcz_3,hcz_4,hfz_0,hfz_1,hfz_2,hfz_3,hfz_4⟩:=bz5_ BW;obtain ⟨hcy_0,hcy_1,hcy_2,hcy_3,hcy_4,hcy_5,hfy_0,hfy_1,hfy_2,hfy_3,hfy_4,hfy_5⟩:=bz6_ BS;obtain ⟨hcx_0,hcx_1,hcx_2,hcx_3,hcx_4,hfx_0,hfx_1,hfx_2,hfx_3,hfx_4⟩:=bz5_ BR;have hn1:=NR.out;have hn2:=hn1.symm;clear hb hbox hg;have hy1:=(HB.out.cell (è w _ HP1.out)).trans HP1.out;have hfy1 : w7.frozen? ⟨g0,who * 5 + 1,none⟩ = false:=(HB.out.frozen (è w _ HP1.out)).trans (HPF.out _);have hk1 : g0 ≠ bw:=(by have h1:=GW.out;have h2:=GL.out;omega);have hk2 : g0 ≠ br:=(by have h1:=GR.out;have h2:=GL.out;omega);have hk3:=hk1.symm;have hk4:=hk2.symm;have hj1 : g2 ≠ bw:=(by have h1:=GW.out;have h2:=GL2.out;omega);have hj2 : g2 ≠ br:=(by have h1:=GR.out;have h2:=GL2.out;omega);have hj3:=hj1.symm;have hj4:=hj2.symm;have hi1 : g0 ≠ bs:=(by have h1:=GS.out;have h2:=GL.out;omega);have hi2:=hi1.symm;have hi3 : g2 ≠ bs:=(by have h1:=GS.out;have h2:=GL2.out;omega);have hi4:=hi3.symm) | (go_at_call 53;have z1:=(HS.out.below HB.out).pcell who hwho 1 (by decide) (.slice AR rest.length cR) ⟨ps[who].f0,rest,ps[who].f2,ps[who].f3,ps[who].f4⟩ (fun cells hp=>hp.f1 _ _ (Kd.R_below HBR.out HB.out));have fr1:=(((Fr.refl ow w).below HB.out).set ⟨g0,who * 5 + 1,none⟩ (.slice AR rest.length cR) (.inl (by rw [hg0];decide)));have M3:=ö (blk_far (p:=⟨g0,who * 5 + 1,none⟩) BR.out hk4 (.slice AR rest.length cR));have le1 : w.heap.size ≤ (w7.setCell ⟨g0,who * 5 + 1,none⟩ (.slice AR rest.length cR)).heap.size:=(by have h1:=HB.out.size;simpa [World.setCell] using h1);refine (l3signal_says lo ow _ _ _ _ _ _ _ qs ys z1 s HAQ.out HQ2.out (by rw [List.length_set];exact HP22.out) (by rw [List.length_set];omega) (by rw [List.length_set];exact HIN.out) (Nat.le_trans hlo le1)).mono ?_;rintro e w8 ⟨rfl,hfr,hres⟩;have m3:=ö ((hfr.2 br (blk_lt M3.out) (FREE.out br GR.out)).trans M3.out);have FRF:=ö (fr1.trans hfr (fun _ _ hk=>hk));have HRES:=ö hres;clear hfr hres z1 fr1 M3;clear BW BS BR hcz_0 hcz_1 hcz_2 hcz_3 hcz_4 hfz_0 hfz_1 hfz_2 hfz_3 hfz_4 hcx_0 hcx_1 hcx_2 hcx_3 hcx_4 hfx_0 hfx_1 hfx_2 hfx_3 hfx_4 hcy_0 hcy_1 hcy_2 hcy_3 hcy_4 hcy_5 hfy_0 hfy_1 hfy_2 hfy_3 hfy_4 hfy_5;obtain ⟨hcx_0,hcx_1,hcx_2,hcx_3,hcx_4,hfx_0,hfx_1,hfx_2,hfx_3,hfx_4⟩:=bz5_ m3))
 refine bodyPost_ret (results_cell_row rfl _ _ br 33 #[.slice (some ⟨g0,0,none⟩) ps.length cap0,.slice (some ⟨g1,0,none⟩) 3 cap1,.slice (some ⟨g2,0,none⟩) 2 cap2,.slice (some ⟨g3,0,none⟩) qs.length cap3,.slice A ys.length c] (0,0) _ rfl (by apply bp5_4_;apply bp5_3_;apply bp5_2_;apply bp5_1_;apply bp5_0_;exact m3.out) Try.underlying33 rfl (by kernel_rfl)) rfl ?_
 refine ⟨rfl,FRF.out.set5 GR.out (.slice (some ⟨g0,0,none⟩) ps.length cap0) (.slice (some ⟨g1,0,none⟩) 3 cap1) (.slice (some ⟨g2,0,none⟩) 2 cap2) (.slice (some ⟨g3,0,none⟩) qs.length cap3) (.slice A ys.length c),?_⟩
 rcases HRES.out with ⟨e1,sv⟩ | ⟨i,hi,l,e1,sv⟩
 ·exact .inl ⟨e1,sv.setW5 (Nat.le_trans WS.out GR.out) m3.out (.slice (some ⟨g0,0,none⟩) ps.length cap0) (.slice (some ⟨g1,0,none⟩) 3 cap1) (.slice (some ⟨g2,0,none⟩) 2 cap2) (.slice (some ⟨g3,0,none⟩) qs.length cap3) (.slice A ys.length c)⟩
 ·exact .inr ⟨i,hi,l,e1,sv.setW5 (Nat.le_trans WS.out GR.out) m3.out (.slice (some ⟨g0,0,none⟩) ps.length cap0) (.slice (some ⟨g1,0,none⟩) 3 cap1) (.slice (some ⟨g2,0,none⟩) 2 cap2) (.slice (some ⟨g3,0,none⟩) qs.length cap3) (.slice A ys.length c)⟩
theorem R_fr {lo : Gr} {ow : Nat → Nat} {w w' : World} {v : Value} {xs : List S69} (h : (kE lo).R 69 w 0 (fun k=>ow k = 0) v xs) (f : Fr ow w w') : (kE lo).R 69 w' 0 (fun k=>ow k = 0) v xs:=Kd.R_mono (Kd.R_move (Kd.R_bound h) (fun k hk=>f.2 k hk.2.2.1 hk.1)) (fun k hk=>hk.1)
set_option maxHeartbeats 2000000 in
set_option maxRecDepth 100000 in
theorem l3room_in (lo : Gr) (ow : Nat → Nat) (w : World) (v0 v1 v2 v3 v4 : Value) (ps : List S51) (qs : List (List Int)) (ys : List S38) (h : SV lo ow w v0 v1 v2 v3 v4 ps qs ys) (who : Nat) (hwho : who < ps.length) (a b n : Int) (vb ve vr : Value) (body els rest : List S69) (hb4 : Vs lo vb body) (hb5 : Vs lo ve els) (hbr : (kE lo).R 69 w 0 (fun k=>ow k = 0) vr rest) (ha0 : 0 ≤ a) (ha1 : a < 2) (l4 : body.length ≤ 2000000) (l5 : els.length ≤ 2000000) (lr : rest.length ≤ 500000000) (hlo : lo.n ≤ w.heap.size) :
  Calls Try.prog 44 #[.agg #[v0,v1,v2,v3,v4],.int .i64 who,.agg #[.int .i64 8,.int .i64 a,.int .i64 b,.int .i64 n,vb,ve],vr] w fun e w'=>e = .returned (.agg #[v0,v1,v2,v3,v4]) ∧ SV lo ow w' v0 v1 v2 v3 v4 (ps.set who ⟨ps[who].f0,body ++ ([⟨12,a,0,0,[],[]⟩] ++ rest),ps[who].f2,ps[who].f3,a⟩) qs ys ∧ Fr ow w w':=by
 have hu29:=Try.underlying33
 have hu59:=Try.underlying51
 obtain ⟨g0,cap0,gr,cr,tt,rfl,hg0,⟨hp0,hp1,hp2,hp3,hp4⟩,hpf,_,hgr,_⟩:=h.pfull who hwho
 obtain ⟨g1,cap1,rfl,hg1,_⟩:=h.ce.form
 obtain ⟨g2,cap2,rfl,hg2,hrooms⟩:=h.ro.form
 obtain ⟨g3,cap3,cells3,rfl,hg3,_⟩:=h.si
 obtain ⟨A,c,rfl⟩:=Kd.R_slice h.sa
 obtain ⟨A4,c4,rfl⟩:=hb4.slice
 obtain ⟨A5,c5,rfl⟩:=hb5.slice
 obtain ⟨AR,cR,rfl⟩:=Kd.R_slice hbr
 obtain ⟨aa,rfl⟩:=Int.eq_ofNat_of_zero_le ha0
 obtain ⟨z0,hz0,hf0⟩:=hrooms aa (by omega)
 have HS:=ö h
 have WS:=ö h.ws
 have HPF:=ö hpf
 have HP1:=ö hp1
 have HP4:=ö hp4
 have HP2:=ö hp2
 have HP3:=ö hp3
 have HZ0:=ö hz0
 have HF0:=ö hf0
 have HB4:=ö hb4
 have HBR:=ö hbr
 have FREE:=ö h.free
 have HB:=ö (Below.refl w.heap.size w)
 have GL:=ö (show g0 < w.heap.size from è w _ hp1)
 have GL2:=ö (show g2 < w.heap.size from è w _ hz0)
 have hk0 : g0 ≠ g2:=fun e=>by rw [e] at hg0;omega
 have hk0':=hk0.symm
 have p1 : 0 ≤ (who : Int):=by omega
 have q1 : (who : Int) < (ps.length : Int):=by omega
 have p2:=eq_true ha0
 have q2:=eq_true ha1
 replace p1:=eq_true p1
 replace q1:=eq_true q1
 clear h hrooms hp0 hp1 hp2 hp3 hp4 hpf hz0 hf0 hb4 hb5 hbr ha0 ha1
 go_enter Try.func44,Try.ntmps44
 go_wp2_with (first | ((with_reducible refine gate_dst (N:=4) rfl ?_);refine box_event ?hg (N:=4) ?hd (cs:=#[.slice (some ⟨g0,0,none⟩) ps.length cap0,.slice (some ⟨g1,0,none⟩) 3 cap1,.slice (some ⟨g2,0,none⟩) 2 cap2,.slice (some ⟨g3,0,none⟩) qs.length cap3,.slice A ys.length c]) (t:=33) ?hr ?_;(case hd=>rfl);(case hg=>rfl);(case hr=>first | (go_simp;done) | (go_simp;rfl));intro bw hg w5 hbox hb;replace HB:=ö (below_step HB.out hb);have GW:=ö (Nat.le_of_eq hg.symm);have BW:=ö hbox;clear hb hbox hg) | ((with_reducible refine gate_dst (N:=6) rfl ?_);refine box_event ?hg (N:=6) ?hd (cs:=#[.int .i64 8,.int .i64 (aa : Int),.int .i64 b,.int .i64 n,.slice A4 body.length c4,.slice A5 els.length c5]) (t:=69) ?hr ?_;(case hd=>rfl);(case hg=>rfl);(case hr=>first | (go_simp;done) | (go_simp;rfl));intro bs hg w6 hbox hb;have n1_:=ö (blk_below BW.out hb);have NS:=ö (show bw ≠ bs by rw [hg];exact Nat.ne_of_lt (blk_lt BW.out));have GS:=ö (show w.heap.size ≤ bs by rw [hg];exact HB.out.size);replace HB:=ö (below_step HB.out hb);clear BW;have BW:=n1_;clear n1_;have BS:=ö hbox;clear hb hbox hg) | ((with_reducible refine gate_dst (N:=8) rfl ?_);refine box_event ?hg (N:=8) ?hd (cs:=#[.slice none 0 0,.slice none 0 0,.slice none 0 0,.slice none 0 0,.slice none 0 0]) (t:=33) ?hr ?_;(case hd=>rfl);(case hg=>rfl);(case hr=>first | (go_simp;done) | (go_simp;rfl));intro br hg w7 hbox hb;have n1_:=ö (blk_below BW.out hb);have n2_:=ö (blk_below BS.out hb);have NR:=ö (show bw ≠ br by rw [hg];exact Nat.ne_of_lt (blk_lt BW.out));have GR:=ö (show w.heap.size ≤ br by rw [hg];exact HB.out.size);replace HB:=ö (below_step HB.out hb);clear BW BS;have BW:=n1_;have BS:=n2_;clear n1_ n2_;have BR:=ö hbox;obtain ⟨hcz_0,hcz_1,hcz_2,hcz_3,hcz_4,hfz_0,hfz_1,hfz_2,hfz_3,hfz_4⟩:=bz5_ BW;obtain ⟨hcy_0,hcy_1,hcy_2,hcy_3,hcy_4,hcy_5,hfy_0,hfy_1,hfy_2,hfy_3,hfy_4,hfy_5⟩:=bz6_ BS;obtain ⟨hcx_0,hcx_1,hcx_2,hcx_3,hcx_4,hfx_0,hfx_1,hfx_2,hfx_3,hfx_4⟩:=bz5_ BR;have hn1:=NR.out;have hn2:=hn1.symm;clear hb hbox hg;have hy1:=(HB.out.cell (è w _ HP1.out)).trans HP1.out;have hfy1 : w7.frozen? ⟨g0,who * 5 + 1,none⟩ = false:=(HB.out.frozen (è w _ HP1.out)).trans (HPF.out _);have hy4:=(HB.out.cell (è w _ HP4.out)).trans HP4.out;have hfy4 : w7.frozen? ⟨g0,who * 5 + 4,none⟩ = false:=(HB.out.frozen (è w _ HP4.out)).trans (HPF.out _);have hy0:=(HB.out.cell (è w _ HZ0.out)).trans HZ0.out;have hfy0 : w7.frozen? ⟨g2,aa,none⟩ = false:=(HB.out.frozen (è w _ HZ0.out)).trans HF0.out;have hk1 : g0 ≠ bw:=(by have h1:=GW.out;have h2:=GL.out;omega);have hk2 : g0 ≠ br:=(by have h1:=GR.out;have h2:=GL.out;omega);have hk3:=hk1.symm;have hk4:=hk2.symm;have hj1 : g2 ≠ bw:=(by have h1:=GW.out;have h2:=GL2.out;omega);have hj2 : g2 ≠ br:=(by have h1:=GR.out;have h2:=GL2.out;omega);have hj3:=hj1.symm;have hj4:=hj2.symm;have hi1 : g0 ≠ bs:=(by have h1:=GS.out;have h2:=GL.out;omega);have hi2:=hi1.symm;have hi3 : g2 ≠ bs:=(by have h1:=GS.out;have h2:=GL2.out;omega);have hi4:=hi3.symm))
 have z1:=((HS.out.below HB.out).pcell who hwho 1 (by decide) (.slice AR rest.length cR) ⟨ps[who].f0,rest,ps[who].f2,ps[who].f3,ps[who].f4⟩ (fun cells hp=>hp.f1 _ _ (Kd.R_below HBR.out HB.out))).istore g2 aa (wrap64 ((who : Int) + 1)) hg2
 have z2:=z1.pcell who (by rw [List.length_set];exact hwho) 4 (by decide) (.int .i64 (aa : Int)) ⟨ps[who].f0,rest,ps[who].f2,ps[who].f3,aa⟩ (fun cells hp=>by rw [List.getElem_set_self] at hp;exact hp.f4 (aa : Int))
 rw [List.set_set] at z2
 have SV2:=ö z2
 have FR:=ö (((((Fr.refl ow w).below HB.out).set ⟨g0,who * 5 + 1,none⟩ (.slice AR rest.length cR) (.inl (by rw [hg0];decide))).set ⟨g2,aa,none⟩ (.int .i64 (wrap64 ((who : Int) + 1))) (.inl (by rw [hg2];decide))).set ⟨g0,who * 5 + 4,none⟩ (.int .i64 (aa : Int)) (.inl (by rw [hg0];decide)))
 have n1:=ö (blk_far (p:=⟨g0,who * 5 + 4,none⟩) (blk_far (p:=⟨g2,aa,none⟩) (blk_far (p:=⟨g0,who * 5 + 1,none⟩) BW.out hk3 (.slice AR rest.length cR)) hj3 (.int .i64 (wrap64 ((who : Int) + 1)))) hk3 (.int .i64 (aa : Int)))
 have n2:=ö (blk_far (p:=⟨g0,who * 5 + 4,none⟩) (blk_far (p:=⟨g2,aa,none⟩) (blk_far (p:=⟨g0,who * 5 + 1,none⟩) BS.out hi2 (.slice AR rest.length cR)) hi4 (.int .i64 (wrap64 ((who : Int) + 1)))) hi2 (.int .i64 (aa : Int)))
 have n3:=ö (blk_far (p:=⟨g0,who * 5 + 4,none⟩) (blk_far (p:=⟨g2,aa,none⟩) (blk_far (p:=⟨g0,who * 5 + 1,none⟩) BR.out hk4 (.slice AR rest.length cR)) hj4 (.int .i64 (wrap64 ((who : Int) + 1)))) hk4 (.int .i64 (aa : Int)))
 clear z1 z2 BW BS BR hcz_0 hcz_1 hcz_2 hcz_3 hcz_4 hfz_0 hfz_1 hfz_2 hfz_3 hfz_4 hcx_0 hcx_1 hcx_2 hcx_3 hcx_4 hfx_0 hfx_1 hfx_2 hfx_3 hfx_4 hcy_0 hcy_1 hcy_2 hcy_3 hcy_4 hcy_5 hfy_0 hfy_1 hfy_2 hfy_3 hfy_4 hfy_5 hy1 hfy1 hy4 hfy4 hy0 hfy0
 generalize (((w7.setCell ⟨g0,who * 5 + 1,none⟩ (.slice AR rest.length cR)).setCell ⟨g2,aa,none⟩ (.int .i64 (wrap64 ((who : Int) + 1)))).setCell ⟨g0,who * 5 + 4,none⟩ (.int .i64 (aa : Int))) = w8 at SV2 FR n1 n2 n3 ⊢
 have m1:=ö (blk_drew n1.out)
 have m2:=ö (blk_drew n2.out)
 have m3:=ö (blk_drew n3.out)
 have SV3:=ö (SV2.out.below (below_drew1 (Below.refl w8.heap.size w8)))
 have m4:=ö (FR.out.below (below_drew1 (Below.refl w8.heap.size w8)))
 clear n1 n2 n3 SV2 FR
 refine start_ (n:=15) (S:=fun w'=>w'.cell? ⟨bw,0,none⟩ = some (.slice (some ⟨g0,0,none⟩) ps.length cap0) ∧ w'.cell? ⟨bs,4,none⟩ = some (.slice A4 body.length c4) ∧ w'.cell? ⟨bs,1,none⟩ = some (.int .i64 (aa : Int))) (ds:=[14]) #[false,false,false,false,false,false,false,false,false,false,false,false,false,false,false] (by kernel_rfl) rfl rfl ⟨(blk_cell m1.out 0).trans rfl,(blk_cell m2.out 4).trans rfl,(blk_cell m2.out 1).trans rfl⟩ (fun hHeld=>?_)
 refine with_tabW room6_tab room6_bits (fun HT_ HW_=>?_)
 generalize w8.drew = w9 at m1 m2 m3 m4 SV3 hHeld ⊢
 refine pure_ (i:=0) (N:=some 33) (v:=?_) (a':=?_) #[true,false,false,false,false,false,false,false,false,false,false,false,false,false,false] rfl rfl (any_of HT_.out (by kernel_rfl)) (fun _ _ _ h=>h) (Or.inl ⟨by rfl,?_⟩) ?_ ?_
 rotate_left
 ·intro w'
  go_simp
  with_reducible rfl
 rotate_left
 ·(try simp only [á,ä,ü,é,i64_w,i32_w])
  rfl
 refine pure_ (i:=2) (N:=some 35) (v:=?_) (a':=?_) #[true,false,true,false,false,false,false,false,false,false,false,false,false,false,false] rfl rfl (any_of HT_.out (by kernel_rfl)) (fun _ _ _ h=>h) (Or.inl ⟨by rfl,?_⟩) ?_ ?_
 rotate_left
 ·intro w'
  go_simp
  with_reducible rfl
 rotate_left
 ·(try simp only [á,ä,ü,é,i64_w,i32_w])
  rfl
 refine pure_ (i:=3) (N:=some 36) (v:=?_) (a':=?_) #[true,false,true,true,false,false,false,false,false,false,false,false,false,false,false] rfl rfl (any_of HT_.out (by kernel_rfl)) (fun _ _ _ h=>h) (Or.inl ⟨by rfl,?_⟩) ?_ ?_
 rotate_left
 ·intro w'
  go_simp
  with_reducible rfl
 rotate_left
 ·(try simp only [á,ä,ü,é,i64_w,i32_w])
  rfl
 refine pure_ (i:=5) (N:=some 38) (v:=?_) (a':=?_) #[true,false,true,true,false,true,false,false,false,false,false,false,false,false,false] rfl rfl (any_of HT_.out (by kernel_rfl)) (fun _ _ _ h=>h) (Or.inl ⟨by rfl,?_⟩) ?_ ?_
 rotate_left
 ·intro w'
  go_simp
  with_reducible rfl
 rotate_left
 ·(try simp only [á,ä,ü,é,i64_w,i32_w])
  rfl
 refine pure_ (i:=9) (N:=some 42) (v:=?_) (a':=?_) #[true,false,true,true,false,true,false,false,false,true,false,false,false,false,false] rfl rfl (any_of HT_.out (by kernel_rfl)) (fun _ _ _ h=>h) (Or.inl ⟨by rfl,?_⟩) ?_ ?_
 rotate_left
 ·intro w'
  go_simp
  with_reducible rfl
 rotate_left
 ·(try simp only [á,ä,ü,é,i64_w,i32_w])
  rfl
 refine take_ (i:=1) (N:=some 34) (v:=?_) (a':=?_) #[true,true,true,true,false,true,false,false,false,true,false,false,false,false,false] rfl rfl (take_ofW HT_.out HW_.out (by kernel_rfl)) (fun _ _ _ h=>h) (Or.inl ⟨by rfl,?_⟩) hHeld ?_ ?_
 rotate_left
 ·rintro w' ⟨s0,s1,s2⟩
  go_simp
  with_reducible rfl
 rotate_left
 ·(try simp only [á,ä,ü,é,i64_w,i32_w])
  rfl
 refine take_ (i:=4) (N:=some 37) (v:=?_) (a':=?_) #[true,true,true,true,true,true,false,false,false,true,false,false,false,false,false] rfl rfl (take_ofW HT_.out HW_.out (by kernel_rfl)) (fun _ _ _ h=>h) (Or.inl ⟨by rfl,?_⟩) hHeld ?_ ?_
 rotate_left
 ·rintro w' ⟨s0,s1,s2⟩
  go_simp
  with_reducible rfl
 rotate_left
 ·(try simp only [á,ä,ü,é,i64_w,i32_w])
  rfl
 refine take_ (i:=6) (N:=some 39) (v:=?_) (a':=?_) #[true,true,true,true,true,true,true,false,false,true,false,false,false,false,false] rfl rfl (take_ofW HT_.out HW_.out (by kernel_rfl)) (fun _ _ _ h=>h) (Or.inl ⟨by rfl,?_⟩) hHeld ?_ ?_
 rotate_left
 ·rintro w' ⟨s0,s1,s2⟩
  go_simp
  with_reducible rfl
 rotate_left
 ·(try simp only [á,ä,ü,é,i64_w,i32_w])
  rfl
 refine pure_ (i:=7) (N:=some 40) (v:=?_) (a':=?_) #[true,true,true,true,true,true,true,true,false,true,false,false,false,false,false] rfl rfl (any_of HT_.out (by kernel_rfl)) (fun _ _ _ h=>h) (Or.inl ⟨by rfl,?_⟩) ?_ ?_
 rotate_left
 ·intro w'
  go_simp
  with_reducible rfl
 rotate_left
 ·(try simp only [á,ä,ü,é,i64_w,i32_w])
  rfl
 refine one_ (i:=8) (N:=some 41) #[true,true,true,true,true,true,true,true,true,true,false,false,false,false,false] rfl rfl (one_of HT_.out (by kernel_rfl)) (by decide) (fun K hK=>?_)
 refine Kd.R_lit_step (kE lo) (w0:=w) 0 69 (by rfl) (N:=41) rfl (xs:=[(⟨12,(aa : Int),0,0,[],[]⟩ : S69)]) (inner:=[.int .i64 12,.int .i64 (aa : Int),.int .i64 0,.int .i64 0,.slice none 0 0,.slice none 0 0]) (ok:=fun k=>ow k = 0) (okp:=fun k=>ow k = 0) ?hr (Reps.c6 (kE_mkM lo _ 0 _ (⟨12,(aa : Int),0,0,[],[]⟩ : S69) (Vs.nil lo) (Vs.nil lo)) (Reps.none _ _)) (fun _ h=>h) (FREE.out _ m4.out.1.size) m4.out.1 (Nat.zero_le _) (by simp) ?_
 case hr=>first | (go_simp;done) | (go_simp;rfl)
 intro v41 w10 ho _ hg_ _
 have hb : Below w9.heap.size w9 w10:=⟨hg_.os,hg_.tape,hg_.output,hg_.size,fun k hk=>hg_.block k hk (by simp)⟩
 have H41:=ö ho
 have n1:=ö (blk_below m1.out hb)
 have n2:=ö (blk_below m2.out hb)
 have n3:=ö (blk_below m3.out hb)
 have n4:=ö (m4.out.below hb)
 have SV4:=ö (SV3.out.below hb)
 clear m1 m2 m3 m4 SV3 ho hg_ hb hHeld
 obtain ⟨A41,c41,e41⟩:=Kd.R_slice H41.out
 subst e41
 refine hK.out _ _ ⟨(blk_cell n1.out 0).trans rfl,(blk_cell n2.out 4).trans rfl,(blk_cell n2.out 1).trans rfl⟩ (fun hHeld=>?_)
 clear hK K
 refine norm_ (a':=?_) ?_ ?_
 rotate_left
 ·show á _ (some 41) _ = _
  simp only [á,ä,ü,é,i64_w,i32_w]
  rfl
 refine one_ (i:=10) (N:=some 43) #[true,true,true,true,true,true,true,true,true,true,true,false,false,false,false] rfl rfl (one_of HT_.out (by kernel_rfl)) (by decide) (fun K hK=>?_)
 refine goes_ Try.func52 (by kernel_rfl) rfl #[.slice A41 1 c41,.slice AR rest.length cR] (by rfl) rfl rfl (by (try simp only [List.map_toArray,List.map_cons,List.map_nil]);first | done | rfl | (simp only [List.length_drop,List.length_take];rfl)) ?_
 refine (l3ahead_says lo w10 (fun k=>ow k = 0) (fun k hk=>FREE.out k (Nat.le_trans n4.out.1.size hk)) _ _ [(⟨12,(aa : Int),0,0,[],[]⟩ : S69)] rest (Src.ofR H41.out) (Src.ofR (R_fr HBR.out n4.out)) (by simp) (by omega)).mono ?_
 rintro e w11 ⟨vv,rfl,hv,hb⟩
 refine ⟨_,rfl,?_⟩
 have m1:=ö (blk_below n1.out hb)
 have m2:=ö (blk_below n2.out hb)
 have m3:=ö (blk_below n3.out hb)
 have m4:=ö (n4.out.below hb)
 have SVn:=ö (SV4.out.below hb)
 have H43:=ö hv
 obtain ⟨A43,c43,ev⟩:=Kd.R_slice hv
 obtain ⟨n43,hn43⟩ : ∃ q,q = ([(⟨12,(aa : Int),0,0,[],[]⟩ : S69)] ++ rest).length:=⟨_,rfl⟩
 rw [← hn43] at ev
 subst ev
 clear hn43 SV4 n1 n2 n3 n4 hv hb hHeld
 have SV4:=SVn
 clear SVn
 refine hK.out _ _ ⟨(blk_cell m1.out 0).trans rfl,(blk_cell m2.out 4).trans rfl,(blk_cell m2.out 1).trans rfl⟩ (fun hHeld=>?_)
 clear hK K
 refine norm_ (a':=?_) ?_ ?_
 rotate_left
 ·show á _ (some 43) _ = _
  simp only [á,ä,ü,é,i64_w,i32_w]
  rfl
 refine one_ (i:=11) (N:=some 44) #[true,true,true,true,true,true,true,true,true,true,true,true,false,false,false] rfl rfl (one_of HT_.out (by kernel_rfl)) (by decide) (fun K hK=>?_)
 refine goes_ Try.func52 (by kernel_rfl) rfl #[.slice A4 body.length c4,.slice A43 n43 c43] (by rfl) rfl rfl (by (try simp only [List.map_toArray,List.map_cons,List.map_nil]);first | done | rfl | (simp only [List.length_drop,List.length_take];rfl)) ?_
 refine (l3ahead_says lo w11 (fun k=>ow k = 0) (fun k hk=>FREE.out k (Nat.le_trans m4.out.1.size hk)) _ _ body ([(⟨12,(aa : Int),0,0,[],[]⟩ : S69)] ++ rest) (HB4.out.src SV4.out.ag) (Src.ofR H43.out) (by omega) (by simp;omega)).mono ?_
 rintro e w12 ⟨vv,rfl,hv,hb⟩
 refine ⟨_,rfl,?_⟩
 have n1:=ö (blk_below m1.out hb)
 have n2:=ö (blk_below m2.out hb)
 have n3:=ö (blk_below m3.out hb)
 have n4:=ö (m4.out.below hb)
 have SVn:=ö (SV4.out.below hb)
 have H44:=ö hv
 obtain ⟨A44,c44,ev⟩:=Kd.R_slice hv
 obtain ⟨n44,hn44⟩ : ∃ q,q = (body ++ ([(⟨12,(aa : Int),0,0,[],[]⟩ : S69)] ++ rest)).length:=⟨_,rfl⟩
 rw [← hn44] at ev
 subst ev
 clear hn44 SV4 m1 m2 m3 m4 hv hb hHeld
 have SV4:=SVn
 clear SVn
 refine hK.out _ _ ⟨(blk_cell n1.out 0).trans rfl,(blk_cell n2.out 4).trans rfl,(blk_cell n2.out 1).trans rfl⟩ (fun hHeld=>?_)
 clear hK K
 refine norm_ (a':=?_) ?_ ?_
 rotate_left
 ·show á _ (some 44) _ = _
  simp only [á,ä,ü,é,i64_w,i32_w]
  rfl
 refine pure_ (i:=12) (N:=some 45) (v:=?_) (a':=?_) #[true,true,true,true,true,true,true,true,true,true,true,true,true,false,false] rfl rfl (any_of HT_.out (by kernel_rfl)) (fun _ _ _ h=>h) (Or.inl ⟨by rfl,?_⟩) ?_ ?_
 rotate_left
 ·intro w'
  go_simp
  with_reducible rfl
 rotate_left
 ·(try simp only [á,ä,ü,é,i64_w,i32_w])
  rfl
 refine pure_ (i:=13) (N:=some 46) (v:=?_) (a':=?_) #[true,true,true,true,true,true,true,true,true,true,true,true,true,true,false] rfl rfl (any_of HT_.out (by kernel_rfl)) (fun _ _ _ h=>h) (Or.inl ⟨by rfl,?_⟩) ?_ ?_
 rotate_left
 ·intro w'
  go_simp
  with_reducible rfl
 rotate_left
 ·(try simp only [á,ä,ü,é,i64_w,i32_w])
  rfl
 obtain ⟨ga,capa,gra,cra,ta,ea,hga,⟨hu0,hpa1,hu2,hu3,hu4⟩,hpaf,hu5,hu6,hu7⟩:=SV4.out.pfull who (by rw [List.length_set];exact hwho)
 injection ea with ea1 eal ea2
 clear eal
 injection ea1 with ea1
 injection ea1 with ea1
 subst ea1;subst ea2
 have hpf1:=hpaf (who * 5 + 1)
 clear hpaf hu0 hu2 hu3 hu4 hu5 hu6 hu7 hga
 refine last_ (i:=14) (N:=none) #[true,true,true,true,true,true,true,true,true,true,true,true,true,true,true] rfl rfl (one_of HT_.out (by kernel_rfl)) (by decide) (fun K hK=>?_)
 refine skip_ (w1:=?_) (by rfl) rfl ?_ ?_
 rotate_left
 ·go_simp
  rfl
 refine hK.out _ _ ?_
 clear hK K
 refine done_ (done_of HT_.out (by kernel_rfl)) ?_
 clear HT_ HW_
 obtain ⟨hcz_0,hcz_1,hcz_2,hcz_3,hcz_4,hfz_0,hfz_1,hfz_2,hfz_3,hfz_4⟩:=bz5_ n1
 obtain ⟨hcx_0,hcx_1,hcx_2,hcx_3,hcx_4,hfx_0,hfx_1,hfx_2,hfx_3,hfx_4⟩:=bz5_ n3
 go_wp2
 have M3:=ö (blk_far (p:=⟨g0,who * 5 + 1,none⟩) n3.out hk4 (.slice A44 n44 c44))
 refine bodyPost_ret (results_cell_row rfl _ _ br 33 #[.slice (some ⟨g0,0,none⟩) ps.length cap0,.slice (some ⟨g1,0,none⟩) 3 cap1,.slice (some ⟨g2,0,none⟩) 2 cap2,.slice (some ⟨g3,0,none⟩) qs.length cap3,.slice A ys.length c] (0,0) _ rfl (by apply bp5_4_;apply bp5_3_;apply bp5_2_;apply bp5_1_;apply bp5_0_;exact M3.out) Try.underlying33 rfl (by kernel_rfl)) rfl ?_
 have z3:=SV4.out.pcell who (by rw [List.length_set];exact hwho) 1 (by decide) (.slice A44 n44 c44) ⟨ps[who].f0,body ++ ([(⟨12,(aa : Int),0,0,[],[]⟩ : S69)] ++ rest),ps[who].f2,ps[who].f3,aa⟩ (fun cells hp=>by rw [List.getElem_set_self] at hp;exact hp.f1 _ _ H44.out)
 rw [List.set_set] at z3
 exact ⟨rfl,z3.setW5 (Nat.le_trans WS.out GR.out) M3.out (.slice (some ⟨g0,0,none⟩) ps.length cap0) (.slice (some ⟨g1,0,none⟩) 3 cap1) (.slice (some ⟨g2,0,none⟩) 2 cap2) (.slice (some ⟨g3,0,none⟩) qs.length cap3) (.slice A ys.length c),(n4.out.set ⟨g0,who * 5 + 1,none⟩ (.slice A44 n44 c44) (.inl (by rw [hg0];decide))).set5 GR.out (.slice (some ⟨g0,0,none⟩) ps.length cap0) (.slice (some ⟨g1,0,none⟩) 3 cap1) (.slice (some ⟨g2,0,none⟩) 2 cap2) (.slice (some ⟨g3,0,none⟩) qs.length cap3) (.slice A ys.length c)⟩
def room11_T : Bool × List (List Nat × List Nat):=(true,[([],[]),([0],[0]),([],[]),([2],[2]),([],[]),([3,4],[3,4]),([5],[5]),([6],[6]),([1,7,0,1,2,3,4,5,6,7],[1,7]),([8,0,1,2,3,4,5,6,7],[8])])
def room11_B : List Nat:=[0,1,0,4,0,28,60,124,255,511]
theorem room11_tab : rtab .any (opsOf Try.f44 11) = room11_T:=by kernel_rfl
theorem room11_bits : waitsOk room11_T.2 room11_B = true:=by kernel_rfl
def room14_T : Bool × List (List Nat × List Nat):=(true,[([],[]),([0],[0]),([],[]),([2],[2]),([],[]),([4],[4]),([],[]),([6],[6]),([5,7],[5,7]),([8],[8]),([],[]),([10],[10]),([9,11],[9,11]),([1,3,0,1,2,3,4,5,6,7,8,9,10,11,12],[1,3]),([13,12,12,0,1,2,3,4,5,6,7,8,9,10,11,12],[12,13])])
def room14_B : List Nat:=[0,1,0,4,0,16,0,64,240,496,0,1024,4080,8191,16383]
theorem room14_tab : rtab .any (opsOf Try.f44 14) = room14_T:=by kernel_rfl
theorem room14_bits : waitsOk room14_T.2 room14_B = true:=by kernel_rfl
set_option maxHeartbeats 2000000 in
set_option maxRecDepth 100000 in
theorem l3room_wait (lo : Gr) (ow : Nat → Nat) (w : World) (v0 v1 v2 v3 v4 : Value) (ps : List S51) (qs : List (List Int)) (ys : List S38) (h : SV lo ow w v0 v1 v2 v3 v4 ps qs ys) (who : Nat) (hwho : who < ps.length) (a b n : Int) (vb ve vr : Value) (body els rest : List S69) (hb4 : Vs lo vb body) (hb5 : Vs lo ve els) (hbr : (kE lo).R 69 w 0 (fun k=>ow k = 0) vr rest) (ha0 : 0 ≤ a) (ha1 : a < 2) (l4 : body.length ≤ 2000000) (l5 : els.length ≤ 2000000) (lr : rest.length ≤ 500000000) (hlo : lo.n ≤ w.heap.size) (s : Nat) (hsa : a = (s : Int)) (haq : s < qs.length) (lq : qs[s].length ≤ 1000000) (ro : Nat) (hro : ps[who].f4 = (ro : Int)) (hro2 : ro < 2) :
  Calls Try.prog 44 #[.agg #[v0,v1,v2,v3,v4],.int .i64 who,.agg #[.int .i64 9,.int .i64 a,.int .i64 b,.int .i64 n,vb,ve],vr] w fun e w'=>e = .returned (.agg #[v0,v1,v2,v3,v4]) ∧ Fr ow w w' ∧ ∃ ow',SV lo ow' w' v0 v1 v2 v3 v4 (ps.set who ⟨ps[who].f0,rest,1,a,ps[who].f4⟩) (qs.set s (qs[s] ++ [(who : Int)])) ys ∧ ∀ k,k < w.heap.size → ow' k = ow k:=by
 have hu29:=Try.underlying33
 have hu59:=Try.underlying51
 obtain ⟨g0,cap0,gr,cr,tt,rfl,hg0,⟨hp0,hp1,hp2,hp3,hp4⟩,hpf,_,hgr,_⟩:=h.pfull who hwho
 obtain ⟨g1,cap1,rfl,hg1,_⟩:=h.ce.form
 obtain ⟨g2,cap2,rfl,hg2,hrooms⟩:=h.ro.form
 obtain ⟨g3,cap3,cells3,rfl,hg3,_⟩:=h.si
 obtain ⟨A,c,rfl⟩:=Kd.R_slice h.sa
 obtain ⟨A4,c4,rfl⟩:=hb4.slice
 obtain ⟨A5,c5,rfl⟩:=hb5.slice
 obtain ⟨AR,cR,rfl⟩:=Kd.R_slice hbr
 obtain ⟨aa,rfl⟩:=Int.eq_ofNat_of_zero_le ha0
 obtain ⟨z0,hz0,hf0⟩:=hrooms aa (by omega)
 have HS:=ö h
 have WS:=ö h.ws
 have HPF:=ö hpf
 have HP1:=ö hp1
 have HP4:=ö hp4
 have HP2:=ö hp2
 have HP3:=ö hp3
 have HZ0:=ö hz0
 have HF0:=ö hf0
 have HB4:=ö hb4
 have HBR:=ö hbr
 have FREE:=ö h.free
 have HB:=ö (Below.refl w.heap.size w)
 have GL:=ö (show g0 < w.heap.size from è w _ hp1)
 have GL2:=ö (show g2 < w.heap.size from è w _ hz0)
 have hk0 : g0 ≠ g2:=fun e=>by rw [e] at hg0;omega
 have hk0':=hk0.symm
 have p1 : 0 ≤ (who : Int):=by omega
 have q1 : (who : Int) < (ps.length : Int):=by omega
 have p2:=eq_true ha0
 have q2:=eq_true ha1
 replace p1:=eq_true p1
 replace q1:=eq_true q1
 clear h hrooms hp0 hp1 hp2 hp3 hp4 hpf hz0 hf0 hb4 hb5 hbr ha0 ha1
 obtain rfl : s = aa:=by omega
 have HAQ:=ö haq
 have LQ:=ö lq
 clear hsa lq
 have HRO:=ö hro
 have t0:=eq_true (show (ro : Int) < 2 by omega)
 have t1:=eq_true (show 0 ≤ (ro : Int) by omega)
 have t2:=eq_true (show (s : Int) < (qs.length : Int) by omega)
 clear hro
 go_enter Try.func44,Try.ntmps44
 go_wp2_with (first | ((with_reducible refine gate_dst (N:=4) rfl ?_);refine box_event ?hg (N:=4) ?hd (cs:=#[.slice (some ⟨g0,0,none⟩) ps.length cap0,.slice (some ⟨g1,0,none⟩) 3 cap1,.slice (some ⟨g2,0,none⟩) 2 cap2,.slice (some ⟨g3,0,none⟩) qs.length cap3,.slice A ys.length c]) (t:=33) ?hr ?_;(case hd=>rfl);(case hg=>rfl);(case hr=>first | (go_simp;done) | (go_simp;rfl));intro bw hg w5 hbox hb;replace HB:=ö (below_step HB.out hb);have GW:=ö (Nat.le_of_eq hg.symm);have BW:=ö hbox;clear hb hbox hg) | ((with_reducible refine gate_dst (N:=6) rfl ?_);refine box_event ?hg (N:=6) ?hd (cs:=#[.int .i64 9,.int .i64 (s : Int),.int .i64 b,.int .i64 n,.slice A4 body.length c4,.slice A5 els.length c5]) (t:=69) ?hr ?_;(case hd=>rfl);(case hg=>rfl);(case hr=>first | (go_simp;done) | (go_simp;rfl));intro bs hg w6 hbox hb;have n1_:=ö (blk_below BW.out hb);have NS:=ö (show bw ≠ bs by rw [hg];exact Nat.ne_of_lt (blk_lt BW.out));have GS:=ö (show w.heap.size ≤ bs by rw [hg];exact HB.out.size);replace HB:=ö (below_step HB.out hb);clear BW;have BW:=n1_;clear n1_;have BS:=ö hbox;clear hb hbox hg) | ((with_reducible refine gate_dst (N:=8) rfl ?_);refine box_event ?hg (N:=8) ?hd (cs:=#[.slice none 0 0,.slice none 0 0,.slice none 0 0,.slice none 0 0,.slice none 0 0]) (t:=33) ?hr ?_;(case hd=>rfl);(case hg=>rfl);(case hr=>first | (go_simp;done) | (go_simp;rfl));intro br hg w7 hbox hb;have n1_:=ö (blk_below BW.out hb);have n2_:=ö (blk_below BS.out hb);have NR:=ö (show bw ≠ br by rw [hg];exact Nat.ne_of_lt (blk_lt BW.out));have GR:=ö (show w.heap.size ≤ br by rw [hg];exact HB.out.size);replace HB:=ö (below_step HB.out hb);clear BW BS;have BW:=n1_;have BS:=n2_;clear n1_ n2_;have BR:=ö hbox;obtain ⟨hcz_0,hcz_1,hcz_2,hcz_3,hcz_4,hfz_0,hfz_1,hfz_2,hfz_3,hfz_4⟩:=bz5_ BW;obtain ⟨hcy_0,hcy_1,hcy_2,hcy_3,hcy_4,hcy_5,hfy_0,hfy_1,hfy_2,hfy_3,hfy_4,hfy_5⟩:=bz6_ BS;obtain ⟨hcx_0,hcx_1,hcx_2,hcx_3,hcx_4,hfx_0,hfx_1,hfx_2,hfx_3,hfx_4⟩:=bz5_ BR;have hn1:=NR.out;have hn2:=hn1.symm;clear hb hbox hg;have hy1:=(HB.out.cell (è w _ HP1.out)).trans HP1.out;have hfy1 : w7.frozen? ⟨g0,who * 5 + 1,none⟩ = false:=(HB.out.frozen (è w _ HP1.out)).trans (HPF.out _);have hk1 : g0 ≠ bw:=(by have h1:=GW.out;have h2:=GL.out;omega);have hk2 : g0 ≠ br:=(by have h1:=GR.out;have h2:=GL.out;omega);have hk3:=hk1.symm;have hk4:=hk2.symm;have hj1 : g2 ≠ bw:=(by have h1:=GW.out;have h2:=GL2.out;omega);have hj2 : g2 ≠ br:=(by have h1:=GR.out;have h2:=GL2.out;omega);have hj3:=hj1.symm;have hj4:=hj2.symm;have hi1 : g0 ≠ bs:=(by have h1:=GS.out;have h2:=GL.out;omega);have hi2:=hi1.symm;have hi3 : g2 ≠ bs:=(by have h1:=GS.out;have h2:=GL2.out;omega);have hi4:=hi3.symm))
 have z1:=(HS.out.below HB.out).pcell who hwho 1 (by decide) (.slice AR rest.length cR) ⟨ps[who].f0,rest,ps[who].f2,ps[who].f3,ps[who].f4⟩ (fun cells hp=>hp.f1 _ _ (Kd.R_below HBR.out HB.out))
 have SV2:=ö z1
 have FR:=ö (((Fr.refl ow w).below HB.out).set ⟨g0,who * 5 + 1,none⟩ (.slice AR rest.length cR) (.inl (by rw [hg0];decide)))
 have n1:=ö (blk_far (p:=⟨g0,who * 5 + 1,none⟩) BW.out hk3 (.slice AR rest.length cR))
 have n2:=ö (blk_far (p:=⟨g0,who * 5 + 1,none⟩) BS.out hi2 (.slice AR rest.length cR))
 have n3:=ö (blk_far (p:=⟨g0,who * 5 + 1,none⟩) BR.out hk4 (.slice AR rest.length cR))
 have LE:=ö (show w.heap.size ≤ (w7.setCell ⟨g0,who * 5 + 1,none⟩ (.slice AR rest.length cR)).heap.size by have h1:=HB.out.size;simpa [World.setCell] using h1)
 clear z1 BW BS BR HB hcz_0 hcz_1 hcz_2 hcz_3 hcz_4 hfz_0 hfz_1 hfz_2 hfz_3 hfz_4 hcx_0 hcx_1 hcx_2 hcx_3 hcx_4 hfx_0 hfx_1 hfx_2 hfx_3 hfx_4 hcy_0 hcy_1 hcy_2 hcy_3 hcy_4 hcy_5 hfy_0 hfy_1 hfy_2 hfy_3 hfy_4 hfy_5 hy1 hfy1
 generalize (w7.setCell ⟨g0,who * 5 + 1,none⟩ (.slice AR rest.length cR)) = w8 at SV2 FR n1 n2 n3 LE ⊢
 have m1:=ö (blk_drew n1.out)
 have m2:=ö (blk_drew n2.out)
 have m3:=ö (blk_drew n3.out)
 have SV3:=ö (SV2.out.below (below_drew1 (Below.refl w8.heap.size w8)))
 have m4:=ö (FR.out.below (below_drew1 (Below.refl w8.heap.size w8)))
 have LE1:=ö (Nat.le_trans LE.out (below_drew1 (Below.refl w8.heap.size w8)).size)
 clear n1 n2 n3 SV2 FR LE
 have c4:=ö ((SV3.out.pat who (by rw [List.length_set];exact hwho)).2.2.2.2.1)
 rw [List.getElem_set_self,HRO.out] at c4
 refine start_ (n:=10) (S:=fun w'=>w'.cell? ⟨bw,2,none⟩ = some (.slice (some ⟨g2,0,none⟩) 2 cap2) ∧ w'.cell? ⟨bw,0,none⟩ = some (.slice (some ⟨g0,0,none⟩) ps.length cap0) ∧ w'.cell? ⟨g0,who * 5 + 4,none⟩ = some (.int .i64 (ro : Int))) (ds:=[9]) #[false,false,false,false,false,false,false,false,false,false] (by kernel_rfl) rfl rfl ⟨(blk_cell m1.out 2).trans rfl,(blk_cell m1.out 0).trans rfl,c4.out⟩ (fun hHeld=>?_)
 refine with_tabW room11_tab room11_bits (fun HT_ HW_=>?_)
 clear c4
 generalize w8.drew = w9 at m1 m2 m3 m4 SV3 LE1 hHeld ⊢
 refine pure_ (i:=0) (N:=some 61) (v:=?_) (a':=?_) #[true,false,false,false,false,false,false,false,false,false] rfl rfl (any_of HT_.out (by kernel_rfl)) (fun _ _ _ h=>h) (Or.inl ⟨by rfl,?_⟩) ?_ ?_
 rotate_left
 ·intro w'
  go_simp
  with_reducible rfl
 rotate_left
 ·(try simp only [á,ä,ü,é,i64_w,i32_w])
  rfl
 refine pure_ (i:=2) (N:=some 63) (v:=?_) (a':=?_) #[true,false,true,false,false,false,false,false,false,false] rfl rfl (any_of HT_.out (by kernel_rfl)) (fun _ _ _ h=>h) (Or.inl ⟨by rfl,?_⟩) ?_ ?_
 rotate_left
 ·intro w'
  go_simp
  with_reducible rfl
 rotate_left
 ·(try simp only [á,ä,ü,é,i64_w,i32_w])
  rfl
 refine pure_ (i:=4) (N:=some 65) (v:=?_) (a':=?_) #[true,false,true,false,true,false,false,false,false,false] rfl rfl (any_of HT_.out (by kernel_rfl)) (fun _ _ _ h=>h) (Or.inl ⟨by rfl,?_⟩) ?_ ?_
 rotate_left
 ·intro w'
  go_simp
  with_reducible rfl
 rotate_left
 ·(try simp only [á,ä,ü,é,i64_w,i32_w])
  rfl
 refine take_ (i:=1) (N:=some 62) (v:=?_) (a':=?_) #[true,true,true,false,true,false,false,false,false,false] rfl rfl (take_ofW HT_.out HW_.out (by kernel_rfl)) (fun _ _ _ h=>h) (Or.inl ⟨by rfl,?_⟩) hHeld ?_ ?_
 rotate_left
 ·rintro w' ⟨s0,s1,s2⟩
  go_simp
  with_reducible rfl
 rotate_left
 ·(try simp only [á,ä,ü,é,i64_w,i32_w])
  rfl
 refine take_ (i:=3) (N:=some 64) (v:=?_) (a':=?_) #[true,true,true,true,true,false,false,false,false,false] rfl rfl (take_ofW HT_.out HW_.out (by kernel_rfl)) (fun _ _ _ h=>h) (Or.inl ⟨by rfl,?_⟩) hHeld ?_ ?_
 rotate_left
 ·rintro w' ⟨s0,s1,s2⟩
  go_simp
  with_reducible rfl
 rotate_left
 ·(try simp only [á,ä,ü,é,i64_w,i32_w])
  rfl
 refine pure_ (i:=5) (N:=some 66) (v:=?_) (a':=?_) #[true,true,true,true,true,true,false,false,false,false] rfl rfl (any_of HT_.out (by kernel_rfl)) (fun _ _ _ h=>h) (Or.inl ⟨by rfl,?_⟩) ?_ ?_
 rotate_left
 ·intro w'
  go_simp
  with_reducible rfl
 rotate_left
 ·(try simp only [á,ä,ü,é,i64_w,i32_w])
  rfl
 refine pure_ (i:=6) (N:=some 67) (v:=?_) (a':=?_) #[true,true,true,true,true,true,true,false,false,false] rfl rfl (any_of HT_.out (by kernel_rfl)) (fun _ _ _ h=>h) (Or.inl ⟨by rfl,?_⟩) ?_ ?_
 rotate_left
 ·intro w'
  go_simp
  with_reducible rfl
 rotate_left
 ·(try simp only [á,ä,ü,é,i64_w,i32_w])
  rfl
 refine take_ (i:=7) (N:=some 68) (v:=?_) (a':=?_) #[true,true,true,true,true,true,true,true,false,false] rfl rfl (take_ofW HT_.out HW_.out (by kernel_rfl)) (fun _ _ _ h=>h) (Or.inl ⟨by rfl,?_⟩) hHeld ?_ ?_
 rotate_left
 ·rintro w' ⟨s0,s1,s2⟩
  go_simp
  with_reducible rfl
 rotate_left
 ·(try simp only [á,ä,ü,é,i64_w,i32_w])
  rfl
 refine pure_ (i:=8) (N:=some 69) (v:=?_) (a':=?_) #[true,true,true,true,true,true,true,true,true,false] rfl rfl (any_of HT_.out (by kernel_rfl)) (fun _ _ _ h=>h) (Or.inl ⟨by rfl,?_⟩) ?_ ?_
 rotate_left
 ·intro w'
  go_simp
  with_reducible rfl
 rotate_left
 ·(try simp only [á,ä,ü,é,i64_w,i32_w])
  rfl
 obtain ⟨⟨zr,hzr⟩,hfr⟩:=SV3.out.ro.at ro hro2
 refine last_ (i:=9) (N:=none) #[true,true,true,true,true,true,true,true,true,true] rfl rfl (one_of HT_.out (by kernel_rfl)) (by decide) (fun K hK=>?_)
 refine skip_ (w1:=?_) (by rfl) rfl ?_ ?_
 rotate_left
 ·go_simp
  rfl
 refine hK.out _ _ ?_
 clear hK K
 refine done_ (done_of HT_.out (by kernel_rfl)) ?_
 clear HT_ HW_ hHeld hzr hfr
 have SV2:=ö (SV3.out.istore g2 ro 0 hg2)
 have FR:=ö (m4.out.set ⟨g2,ro,none⟩ (.int .i64 0) (.inl (by rw [hg2];decide)))
 have n1:=ö (blk_far (p:=⟨g2,ro,none⟩) m1.out hj3 (.int .i64 0))
 have n2:=ö (blk_far (p:=⟨g2,ro,none⟩) m2.out hi4 (.int .i64 0))
 have n3:=ö (blk_far (p:=⟨g2,ro,none⟩) m3.out hj4 (.int .i64 0))
 have LE:=ö (show w.heap.size ≤ (w9.setCell ⟨g2,ro,none⟩ (.int .i64 0)).heap.size by have h1:=LE1.out;simpa [World.setCell] using h1)
 clear m1 m2 m3 m4 SV3 LE1
 generalize w9.setCell ⟨g2,ro,none⟩ (.int .i64 0) = w10 at SV2 FR n1 n2 n3 LE ⊢
 obtain ⟨hcz_0,hcz_1,hcz_2,hcz_3,hcz_4,hfz_0,hfz_1,hfz_2,hfz_3,hfz_4⟩:=bz5_ n1
 obtain ⟨hcy_0,hcy_1,hcy_2,hcy_3,hcy_4,hcy_5,hfy_0,hfy_1,hfy_2,hfy_3,hfy_4,hfy_5⟩:=bz6_ n2
 obtain ⟨_,_,c2,c3,_,cf⟩:=SV2.out.pat who (by rw [List.length_set];exact hwho)
 rw [List.getElem_set_self] at c2 c3
 have cf2:=cf (who * 5 + 2)
 have cf3:=cf (who * 5 + 3)
 clear cf
 go_wp2
 have z1:=SV2.out.pcell who (by rw [List.length_set];exact hwho) 2 (by decide) (.int .i64 1) ⟨ps[who].f0,rest,1,ps[who].f3,ps[who].f4⟩ (fun cells hp=>by rw [List.getElem_set_self] at hp;exact hp.f2 1)
 rw [List.set_set] at z1
 have z2:=z1.pcell who (by rw [List.length_set];exact hwho) 3 (by decide) (.int .i64 (s : Int)) ⟨ps[who].f0,rest,1,(s : Int),ps[who].f4⟩ (fun cells hp=>by rw [List.getElem_set_self] at hp;exact hp.f3 (s : Int))
 rw [List.set_set] at z2
 have SV3:=ö z2
 have FR1:=ö ((FR.out.set ⟨g0,who * 5 + 2,none⟩ (.int .i64 1) (.inl (by rw [hg0];decide))).set ⟨g0,who * 5 + 3,none⟩ (.int .i64 (s : Int)) (.inl (by rw [hg0];decide)))
 have m1:=ö (blk_far (p:=⟨g0,who * 5 + 3,none⟩) (blk_far (p:=⟨g0,who * 5 + 2,none⟩) n1.out hk3 (.int .i64 1)) hk3 (.int .i64 (s : Int)))
 have m2:=ö (blk_far (p:=⟨g0,who * 5 + 3,none⟩) (blk_far (p:=⟨g0,who * 5 + 2,none⟩) n2.out hi2 (.int .i64 1)) hi2 (.int .i64 (s : Int)))
 have m3:=ö (blk_far (p:=⟨g0,who * 5 + 3,none⟩) (blk_far (p:=⟨g0,who * 5 + 2,none⟩) n3.out hk4 (.int .i64 1)) hk4 (.int .i64 (s : Int)))
 have LE1:=ö (show w.heap.size ≤ ((w10.setCell ⟨g0,who * 5 + 2,none⟩ (.int .i64 1)).setCell ⟨g0,who * 5 + 3,none⟩ (.int .i64 (s : Int))).heap.size by have h1:=LE.out;simpa [World.setCell] using h1)
 clear z1 z2 n1 n2 n3 SV2 FR LE hcz_0 hcz_1 hcz_2 hcz_3 hcz_4 hfz_0 hfz_1 hfz_2 hfz_3 hfz_4 hcy_0 hcy_1 hcy_2 hcy_3 hcy_4 hcy_5 hfy_0 hfy_1 hfy_2 hfy_3 hfy_4 hfy_5 c2 c3 cf2 cf3
 generalize ((w10.setCell ⟨g0,who * 5 + 2,none⟩ (.int .i64 1)).setCell ⟨g0,who * 5 + 3,none⟩ (.int .i64 (s : Int))) = w11 at SV3 FR1 m1 m2 m3 LE1 ⊢
 have n1:=ö (blk_drew m1.out)
 have n2:=ö (blk_drew m2.out)
 have n3:=ö (blk_drew m3.out)
 have SV4:=ö (SV3.out.below (below_drew1 (Below.refl w11.heap.size w11)))
 have n4:=ö (FR1.out.below (below_drew1 (Below.refl w11.heap.size w11)))
 have LE:=ö (Nat.le_trans LE1.out (below_drew1 (Below.refl w11.heap.size w11)).size)
 clear m1 m2 m3 SV3 FR1 LE1
 obtain ⟨u,hu,hfu,hqu,hg3t⟩:=SV4.out.qat s HAQ.out
 obtain ⟨Au,nu,cu,rfl⟩ : ∃ A n c,u = .slice A n c:=by
  rcases hqu with ⟨_,A,e⟩ | ⟨g,off,cap,cells,e,_⟩
  ·exact ⟨_,_,_,e⟩
  ·exact ⟨_,_,_,e⟩
 have HQU:=ö hqu
 have HU:=ö hu
 have HFU:=ö hfu
 clear hu hfu hqu
 have GL3:=ö (show g3 < w.heap.size from (HS.out.bd g3 (by rw [hg3];decide)).2)
 have hl1 : g3 ≠ bw:=by have h1:=GW.out;have h2:=GL3.out;omega
 have hl2 : g3 ≠ br:=by have h1:=GR.out;have h2:=GL3.out;omega
 have hl3:=hl1.symm
 have hl4:=hl2.symm
 refine start_ (n:=15) (S:=fun w'=>w'.cell? ⟨bw,3,none⟩ = some (.slice (some ⟨g3,0,none⟩) qs.length cap3) ∧ w'.cell? ⟨bs,1,none⟩ = some (.int .i64 (s : Int)) ∧ w'.cell? ⟨g3,s,none⟩ = some (.slice Au nu cu)) (ds:=[14]) #[false,false,false,false,false,false,false,false,false,false,false,false,false,false,false] (by kernel_rfl) rfl rfl ⟨(blk_cell n1.out 3).trans rfl,(blk_cell n2.out 1).trans rfl,HU.out⟩ (fun hHeld=>?_)
 refine with_tabW room14_tab room14_bits (fun HT_ HW_=>?_)
 generalize w11.drew = w12 at SV4 n1 n2 n3 n4 LE HQU HU HFU hHeld ⊢
 refine pure_ (i:=0) (N:=some 82) (v:=?_) (a':=?_) #[true,false,false,false,false,false,false,false,false,false,false,false,false,false,false] rfl rfl (any_of HT_.out (by kernel_rfl)) (fun _ _ _ h=>h) (Or.inl ⟨by rfl,?_⟩) ?_ ?_
 rotate_left
 ·intro w'
  go_simp
  with_reducible rfl
 rotate_left
 ·(try simp only [á,ä,ü,é,i64_w,i32_w])
  rfl
 refine pure_ (i:=2) (N:=some 84) (v:=?_) (a':=?_) #[true,false,true,false,false,false,false,false,false,false,false,false,false,false,false] rfl rfl (any_of HT_.out (by kernel_rfl)) (fun _ _ _ h=>h) (Or.inl ⟨by rfl,?_⟩) ?_ ?_
 rotate_left
 ·intro w'
  go_simp
  with_reducible rfl
 rotate_left
 ·(try simp only [á,ä,ü,é,i64_w,i32_w])
  rfl
 refine pure_ (i:=4) (N:=some 86) (v:=?_) (a':=?_) #[true,false,true,false,true,false,false,false,false,false,false,false,false,false,false] rfl rfl (any_of HT_.out (by kernel_rfl)) (fun _ _ _ h=>h) (Or.inl ⟨by rfl,?_⟩) ?_ ?_
 rotate_left
 ·intro w'
  go_simp
  with_reducible rfl
 rotate_left
 ·(try simp only [á,ä,ü,é,i64_w,i32_w])
  rfl
 refine pure_ (i:=6) (N:=some 88) (v:=?_) (a':=?_) #[true,false,true,false,true,false,true,false,false,false,false,false,false,false,false] rfl rfl (any_of HT_.out (by kernel_rfl)) (fun _ _ _ h=>h) (Or.inl ⟨by rfl,?_⟩) ?_ ?_
 rotate_left
 ·intro w'
  go_simp
  with_reducible rfl
 rotate_left
 ·(try simp only [á,ä,ü,é,i64_w,i32_w])
  rfl
 refine pure_ (i:=10) (N:=some 92) (v:=?_) (a':=?_) #[true,false,true,false,true,false,true,false,false,false,true,false,false,false,false] rfl rfl (any_of HT_.out (by kernel_rfl)) (fun _ _ _ h=>h) (Or.inl ⟨by rfl,?_⟩) ?_ ?_
 rotate_left
 ·intro w'
  go_simp
  with_reducible rfl
 rotate_left
 ·(try simp only [á,ä,ü,é,i64_w,i32_w])
  rfl
 refine take_ (i:=1) (N:=some 83) (v:=?_) (a':=?_) #[true,true,true,false,true,false,true,false,false,false,true,false,false,false,false] rfl rfl (take_ofW HT_.out HW_.out (by kernel_rfl)) (fun _ _ _ h=>h) (Or.inl ⟨by rfl,?_⟩) hHeld ?_ ?_
 rotate_left
 ·rintro w' ⟨s0,s1,s2⟩
  go_simp
  with_reducible rfl
 rotate_left
 ·(try simp only [á,ä,ü,é,i64_w,i32_w])
  rfl
 refine take_ (i:=3) (N:=some 85) (v:=?_) (a':=?_) #[true,true,true,true,true,false,true,false,false,false,true,false,false,false,false] rfl rfl (take_ofW HT_.out HW_.out (by kernel_rfl)) (fun _ _ _ h=>h) (Or.inl ⟨by rfl,?_⟩) hHeld ?_ ?_
 rotate_left
 ·rintro w' ⟨s0,s1,s2⟩
  go_simp
  with_reducible rfl
 rotate_left
 ·(try simp only [á,ä,ü,é,i64_w,i32_w])
  rfl
 refine take_ (i:=5) (N:=some 87) (v:=?_) (a':=?_) #[true,true,true,true,true,true,true,false,false,false,true,false,false,false,false] rfl rfl (take_ofW HT_.out HW_.out (by kernel_rfl)) (fun _ _ _ h=>h) (Or.inl ⟨by rfl,?_⟩) hHeld ?_ ?_
 rotate_left
 ·rintro w' ⟨s0,s1,s2⟩
  go_simp
  with_reducible rfl
 rotate_left
 ·(try simp only [á,ä,ü,é,i64_w,i32_w])
  rfl
 refine take_ (i:=7) (N:=some 89) (v:=?_) (a':=?_) #[true,true,true,true,true,true,true,true,false,false,true,false,false,false,false] rfl rfl (take_ofW HT_.out HW_.out (by kernel_rfl)) (fun _ _ _ h=>h) (Or.inl ⟨by rfl,?_⟩) hHeld ?_ ?_
 rotate_left
 ·rintro w' ⟨s0,s1,s2⟩
  go_simp
  with_reducible rfl
 rotate_left
 ·(try simp only [á,ä,ü,é,i64_w,i32_w])
  rfl
 refine pure_ (i:=8) (N:=some 90) (v:=?_) (a':=?_) #[true,true,true,true,true,true,true,true,true,false,true,false,false,false,false] rfl rfl (any_of HT_.out (by kernel_rfl)) (fun _ _ _ h=>h) (Or.inl ⟨by rfl,?_⟩) ?_ ?_
 rotate_left
 ·intro w'
  go_simp
  with_reducible rfl
 rotate_left
 ·(try simp only [á,ä,ü,é,i64_w,i32_w])
  rfl
 refine take_ (i:=9) (N:=some 91) (v:=?_) (a':=?_) #[true,true,true,true,true,true,true,true,true,true,true,false,false,false,false] rfl rfl (take_ofW HT_.out HW_.out (by kernel_rfl)) (fun _ _ _ h=>h) (Or.inl ⟨by rfl,?_⟩) hHeld ?_ ?_
 rotate_left
 ·rintro w' ⟨s0,s1,s2⟩
  go_simp
  with_reducible rfl
 rotate_left
 ·(try simp only [á,ä,ü,é,i64_w,i32_w])
  rfl
 refine one_ (i:=11) (N:=some 93) #[true,true,true,true,true,true,true,true,true,true,true,true,false,false,false] rfl rfl (one_of HT_.out (by kernel_rfl)) (by decide) (fun K hK=>?_)
 refine value_ (w1:=?_) (v:=?_) (by rfl) rfl ?_ ?_
 rotate_left 2
 ·go_simp
  constructor
  ·rfl
  ·rfl
 refine hK.out _ _ ⟨(blk_cell (blk_alloc n1.out _) 3).trans rfl,(blk_cell (blk_alloc n2.out _) 1).trans rfl,((below_alloc (Below.refl w12.heap.size w12) _).cell (è w12 _ HU.out)).trans HU.out⟩ (fun hHeld=>?_)
 clear hK K
 refine norm_ (a':=?_) ?_ ?_
 rotate_left
 ·show á _ (some 93) _ = _
  simp only [á,ä,ü,é,i64_w,i32_w]
  rfl
 obtain ⟨v9,w13,hrun,hqd⟩:=qrow_append (P:=Try.prog) (Nat.le_trans hlo LE.out) SV4.out.bd HQU.out 26 26 Try.underlying26 rfl (who : Int) LQ.out
 refine one_ (i:=12) (N:=some 94) #[true,true,true,true,true,true,true,true,true,true,true,true,true,false,false] rfl rfl (one_of HT_.out (by kernel_rfl)) (by decide) (fun K hK=>?_)
 refine append_step_ (by rfl) rfl (.tmp 91) (.tmp 93) 26 26 rfl rfl rfl rfl hrun ?_
 obtain ⟨ow',hsv,hq9,hext,hb9,hk9⟩:=SV4.out.queued HAQ.out HU.out hqd
 clear hrun hqd
 obtain ⟨A9,n9,c9,rfl⟩ : ∃ A n c,v9 = .slice A n c:=by
  rcases hq9 with ⟨_,A,e⟩ | ⟨g,off,cap,cells,e,_⟩
  ·exact ⟨_,_,_,e⟩
  ·exact ⟨_,_,_,e⟩
 have far : ∀ k,k < w12.heap.size → ow k ≠ 10 + s → w13.heap[k]? = w12.heap[k]?:=hk9
 have z0:=FREE.out
 have e1 : w13.heap[bw]? = w12.heap[bw]?:=far bw (blk_lt n1.out) (by have:=z0 bw GW.out;omega)
 have e2 : w13.heap[bs]? = w12.heap[bs]?:=far bs (blk_lt n2.out) (by have:=z0 bs GS.out;omega)
 have e3 : w13.heap[br]? = w12.heap[br]?:=far br (blk_lt n3.out) (by have:=z0 br GR.out;omega)
 have e4 : w13.heap[g3]? = w12.heap[g3]?:=far g3 (è w12 _ HU.out) (by omega)
 have m1:=ö (e1.trans n1.out)
 have m2:=ö (e2.trans n2.out)
 have m3:=ö (e3.trans n3.out)
 have hu : w13.cell? ⟨g3,s,none⟩ = some (.slice Au nu cu):=by
  rw [← HU.out]
  simp only [World.cell?,e4]
 have hfu : w13.frozen? ⟨g3,s,none⟩ = false:=by
  rw [← HFU.out]
  simp only [World.frozen?,e4]
 have SV5:=ö hsv
 have FR5:=ö (n4.out.trans (ow':=ow) ⟨hb9,fun k hk h0=>hk9 k hk (by omega)⟩ (fun k _ h=>h))
 have EX:=ö (show ∀ k,k < w.heap.size → ow' k = ow k from fun k hk=>hext k (Nat.lt_of_lt_of_le hk LE.out))
 have Q9:=ö hq9
 have FR3:=ö (show ow' g3 = 3 from (hext g3 (è w12 _ HU.out)).trans hg3)
 clear far z0 e1 e2 e3 e4 n1 n2 n3 n4 SV4 hHeld hsv hq9 hext hb9 hk9 HU HFU HQU
 refine hK.out _ _ ⟨(blk_cell m1.out 3).trans rfl,(blk_cell m2.out 1).trans rfl,hu⟩ (fun hHeld=>?_)
 clear hK K
 refine norm_ (a':=?_) ?_ ?_
 rotate_left
 ·show á _ (some 94) _ = _
  simp only [á,ä,ü,é,i64_w,i32_w]
  rfl
 refine pure_ (i:=13) (N:=some 95) (v:=?_) (a':=?_) #[true,true,true,true,true,true,true,true,true,true,true,true,true,true,false] rfl rfl (any_of HT_.out (by kernel_rfl)) (fun _ _ _ h=>h) (Or.inl ⟨by rfl,?_⟩) ?_ ?_
 rotate_left
 ·intro w'
  go_simp
  with_reducible rfl
 rotate_left
 ·(try simp only [á,ä,ü,é,i64_w,i32_w])
  rfl
 refine last_ (i:=14) (N:=none) #[true,true,true,true,true,true,true,true,true,true,true,true,true,true,true] rfl rfl (one_of HT_.out (by kernel_rfl)) (by decide) (fun K hK=>?_)
 refine skip_ (w1:=?_) (by rfl) rfl ?_ ?_
 rotate_left
 ·go_simp
  rfl
 refine hK.out _ _ ?_
 clear hK K
 refine done_ (done_of HT_.out (by kernel_rfl)) ?_
 clear HT_ HW_
 obtain ⟨hcz_0,hcz_1,hcz_2,hcz_3,hcz_4,hfz_0,hfz_1,hfz_2,hfz_3,hfz_4⟩:=bz5_ m1
 obtain ⟨hcx_0,hcx_1,hcx_2,hcx_3,hcx_4,hfx_0,hfx_1,hfx_2,hfx_3,hfx_4⟩:=bz5_ m3
 go_wp2
 have M3:=ö (blk_far (p:=⟨g3,s,none⟩) m3.out hl4 (.slice A9 n9 c9))
 refine bodyPost_ret (results_cell_row rfl _ _ br 33 #[.slice (some ⟨g0,0,none⟩) ps.length cap0,.slice (some ⟨g1,0,none⟩) 3 cap1,.slice (some ⟨g2,0,none⟩) 2 cap2,.slice (some ⟨g3,0,none⟩) qs.length cap3,.slice A ys.length c] (0,0) _ rfl (by apply bp5_4_;apply bp5_3_;apply bp5_2_;apply bp5_1_;apply bp5_0_;exact M3.out) Try.underlying33 rfl (by kernel_rfl)) rfl ?_
 have z3:=SV5.out.qcell s HAQ.out (.slice A9 n9 c9) _ Q9.out
 exact ⟨rfl,(FR5.out.set ⟨g3,s,none⟩ (.slice A9 n9 c9) (.inl (by rw [hg3];decide))).set5 GR.out (.slice (some ⟨g0,0,none⟩) ps.length cap0) (.slice (some ⟨g1,0,none⟩) 3 cap1) (.slice (some ⟨g2,0,none⟩) 2 cap2) (.slice (some ⟨g3,0,none⟩) qs.length cap3) (.slice A ys.length c),ow',z3.setW5 (Nat.le_trans WS.out GR.out) M3.out (.slice (some ⟨g0,0,none⟩) ps.length cap0) (.slice (some ⟨g1,0,none⟩) 3 cap1) (.slice (some ⟨g2,0,none⟩) 2 cap2) (.slice (some ⟨g3,0,none⟩) qs.length cap3) (.slice A ys.length c),EX.out⟩
end Go.Proofs.Ytfbocgagfodgnaa.P

namespace Go.Proofs.Ytfbocgagfodgnaa.P
open Go.Proofs.YtfbocgagfodgnaaW.PrintWords renaming Aside0.mk → ö
open Go renaming World.block_lt_of_cell? → ä
open Go.RowKit Go.Proofs.YtfbocgagfodgnaaW.PrintWords Go.Proofs.YtfbocgagfodgnaaW.PrintLast Go.Proofs.YtfbocgagfodgnaaW.PrintMore
attribute [local go_sem] max2_int min2_int max_two min_two max_three min_three max_four min_four
set_option linter.unusedVariables false
set_option linter.unusedSimpArgs false
theorem below_set5 {n : Nat} {w w1 : World} (h : Below n w w1) {g : Nat} (hg : n ≤ g) (u0 u1 u2 u3 u4 : Value) : Below n w (((((w1.setCell ⟨g,0,none⟩ u0).setCell ⟨g,1,none⟩ u1).setCell ⟨g,2,none⟩ u2).setCell ⟨g,3,none⟩ u3).setCell ⟨g,4,none⟩ u4) :=
 ((((h.setCell hg u0).setCell hg u1).setCell hg u2).setCell hg u3).setCell hg u4
theorem below_set6 {n : Nat} {w w1 : World} (h : Below n w w1) {g : Nat} (hg : n ≤ g) (u0 u1 u2 u3 u4 u5 : Value) : Below n w ((((((w1.setCell ⟨g,0,none⟩ u0).setCell ⟨g,1,none⟩ u1).setCell ⟨g,2,none⟩ u2).setCell ⟨g,3,none⟩ u3).setCell ⟨g,4,none⟩ u4).setCell ⟨g,5,none⟩ u5) :=
 (below_set5 h hg u0 u1 u2 u3 u4).setCell hg u5
theorem far_set5 {w1 : World} {k g : Nat} {o : Option Obj} (h : w1.heap[k]? = o) (hg : k ≠ g) (u0 u1 u2 u3 u4 : Value) : (((((w1.setCell ⟨g,0,none⟩ u0).setCell ⟨g,1,none⟩ u1).setCell ⟨g,2,none⟩ u2).setCell ⟨g,3,none⟩ u3).setCell ⟨g,4,none⟩ u4).heap[k]? = o:=by
 rw [Below.heap_setCell _ ⟨g,4,none⟩ _ k hg,Below.heap_setCell _ ⟨g,3,none⟩ _ k hg,Below.heap_setCell _ ⟨g,2,none⟩ _ k hg,Below.heap_setCell _ ⟨g,1,none⟩ _ k hg,Below.heap_setCell _ ⟨g,0,none⟩ _ k hg,h]
theorem far_set6 {w1 : World} {k g : Nat} {o : Option Obj} (h : w1.heap[k]? = o) (hg : k ≠ g) (u0 u1 u2 u3 u4 u5 : Value) : ((((((w1.setCell ⟨g,0,none⟩ u0).setCell ⟨g,1,none⟩ u1).setCell ⟨g,2,none⟩ u2).setCell ⟨g,3,none⟩ u3).setCell ⟨g,4,none⟩ u4).setCell ⟨g,5,none⟩ u5).heap[k]? = o:=by
 rw [Below.heap_setCell _ ⟨g,5,none⟩ _ k hg]
 exact far_set5 h hg _ _ _ _ _
set_option maxHeartbeats 2000000 in
set_option maxRecDepth 100000 in
theorem l3step_back (lo : Gr) (ow : Nat → Nat) (w : World) (v0 v1 v2 v3 v4 : Value) (ps : List S51) (qs : List (List Int)) (ys : List S38) (h : SV lo ow w v0 v1 v2 v3 v4 ps qs ys) (who : Nat) (hwho : who < ps.length) (hlo : lo.n ≤ w.heap.size) (hm : ps[who].f2 = 2) (ro : Nat) (hro : ps[who].f4 = (ro : Int)) (hro2 : ro < 2) :
  Calls Try.prog 31 #[.agg #[v0,v1,v2,v3,v4],.int .i64 who] w fun e w'=>e = .returned (.agg #[v0,v1,v2,v3,v4]) ∧ SV lo ow w' v0 v1 v2 v3 v4 (ps.set who ⟨ps[who].f0,ps[who].f1,0,ps[who].f3,ps[who].f4⟩) qs ys ∧ Fr ow w w':=by
 have hu29:=Try.underlying33
 have hu59:=Try.underlying51
 obtain ⟨g0,cap0,gr,cr,tt,rfl,hg0,⟨hp0,hp1,hp2,hp3,hp4⟩,hpf,htt,hgr,_⟩:=h.pfull who hwho
 obtain ⟨g1,cap1,rfl,hg1,_⟩:=h.ce.form
 obtain ⟨g2,cap2,rfl,hg2,hrooms⟩:=h.ro.form
 obtain ⟨g3,cap3,cells3,rfl,hg3,_⟩:=h.si
 obtain ⟨A,c,rfl⟩:=Kd.R_slice h.sa
 have HS:=ö h
 have WS:=ö h.ws
 have HPF:=ö hpf
 have FREE:=ö h.free
 have HB:=ö (Below.refl w.heap.size w)
 have TK1:=ö True.intro
 have GL:=ö (show g0 < w.heap.size from ä w _ hp1)
 have hk0 : g0 ≠ g2:=fun e=>by rw [e] at hg0;omega
 have hk0':=hk0.symm
 have p1 : 0 ≤ (who : Int):=by omega
 have q1 : (who : Int) < (ps.length : Int):=by omega
 replace p1:=eq_true p1
 replace q1:=eq_true q1
 obtain ⟨AT,cT,rfl⟩:=Kd.R_slice htt
 obtain ⟨zr,hzr,hfr⟩:=hrooms ro hro2
 rw [hm] at hp2
 rw [hro] at hp4
 have GL2:=ö (show g2 < w.heap.size from ä w _ hzr)
 have HP0:=ö hp0
 have HP1:=ö hp1
 have HP2:=ö hp2
 have HP3:=ö hp3
 have HP4:=ö hp4
 have HZR:=ö hzr
 have HFR:=ö hfr
 have HRO:=ö hro
 have p2 : (0 ≤ (ro : Int)) = True:=eq_true (by omega)
 have q2 : ((ro : Int) < 2) = True:=eq_true (by omega)
 clear h hrooms hp0 hp1 hp2 hp3 hp4 hpf htt hzr hfr hm hro
 go_enter Try.func31,Try.ntmps31
 go_wp2_with (first | ((with_reducible refine gate_dst (N:=2) rfl ?_);refine box_event ?hg (N:=2) ?hd (cs:=#[.slice (some ⟨g0,0,none⟩) ps.length cap0,.slice (some ⟨g1,0,none⟩) 3 cap1,.slice (some ⟨g2,0,none⟩) 2 cap2,.slice (some ⟨g3,0,none⟩) qs.length cap3,.slice A ys.length c]) (t:=33) ?hr ?_;(case hd=>rfl);(case hg=>rfl);(case hr=>first | (go_simp;done) | (go_simp;rfl));intro bw hg w5 hbox hb;replace HB:=ö (below_step HB.out hb);have GW:=ö (Nat.le_of_eq hg.symm);have BW:=ö hbox;clear hb hbox hg) | ((with_reducible refine gate_dst (N:=4) rfl ?_);refine box_event ?hg (N:=4) ?hd (cs:=#[.slice none 0 0,.slice none 0 0,.slice none 0 0,.slice none 0 0,.slice none 0 0]) (t:=33) ?hr ?_;(case hd=>rfl);(case hg=>rfl);(case hr=>first | (go_simp;done) | (go_simp;rfl));intro br hg w6 hbox hb;have n1_:=ö (blk_below BW.out hb);have NR:=ö (show bw ≠ br by rw [hg];exact Nat.ne_of_lt (blk_lt BW.out));have GR:=ö (show w.heap.size ≤ br by rw [hg];exact HB.out.size);replace HB:=ö (below_step HB.out hb);clear BW;have BW:=n1_;clear n1_;have BR:=ö hbox;obtain ⟨hcz_0,hcz_1,hcz_2,hcz_3,hcz_4,hfz_0,hfz_1,hfz_2,hfz_3,hfz_4⟩:=bz5_ BW;have hy0:=(HB.out.cell (ä w _ HP0.out)).trans HP0.out;have hy1:=(HB.out.cell (ä w _ HP1.out)).trans HP1.out;have hy2:=(HB.out.cell (ä w _ HP2.out)).trans HP2.out;have hy3:=(HB.out.cell (ä w _ HP3.out)).trans HP3.out;have hy4:=(HB.out.cell (ä w _ HP4.out)).trans HP4.out;have hk1 : g0 ≠ bw:=(by have h1:=GW.out;have h2:=GL.out;omega);have hk2 : g0 ≠ br:=(by have h1:=GR.out;have h2:=GL.out;omega);have hk3:=hk1.symm;have hk4:=hk2.symm;have hn1:=NR.out;have hn2:=hn1.symm;clear hb hbox hg) | ((with_reducible refine gate_dst (N:=5) rfl ?_);refine box_event ?hg (N:=5) ?hd (cs:=#[.slice none 0 0,.slice none 0 0,.int .i64 0,.int .i64 0,.int .i64 0]) (t:=51) ?hr ?_;(case hd=>rfl);(case hg=>rfl);(case hr=>first | (go_simp;done) | (go_simp;rfl));intro bx hg w7 hbox hb;have n1_:=ö (blk_below BW.out hb);have n2_:=ö (blk_below BR.out hb);have NX:=ö (show bw ≠ bx by rw [hg];exact Nat.ne_of_lt (blk_lt BW.out));have NY:=ö (show br ≠ bx by rw [hg];exact Nat.ne_of_lt (blk_lt BR.out));have GX:=ö (show w.heap.size ≤ bx by rw [hg];exact HB.out.size);clear hy0 hy1 hy2 hy3 hy4 hcz_0 hcz_1 hcz_2 hcz_3 hcz_4 hfz_0 hfz_1 hfz_2 hfz_3 hfz_4;replace HB:=ö (below_step HB.out hb);clear BW BR;have BW:=n1_;have BR:=n2_;clear n1_ n2_;have BX:=ö hbox;obtain ⟨hcq_0,hcq_1,hcq_2,hcq_3,hcq_4,hfq_0,hfq_1,hfq_2,hfq_3,hfq_4⟩:=bz5_ BX;clear hb hbox hg) | ((with_reducible refine gate_dst (N:=13) rfl ?_);clear TK1;have n0_:=ö (show Below w.heap.size w (((((w7.setCell ⟨bx,0,none⟩ (.slice (some ⟨gr,0,none⟩) 3 cr)).setCell ⟨bx,1,none⟩ (.slice AT ps[who].f1.length cT)).setCell ⟨bx,2,none⟩ (.int .i64 2)).setCell ⟨bx,3,none⟩ (.int .i64 ps[who].f3)).setCell ⟨bx,4,none⟩ (.int .i64 (ro : Int))) from below_set5 HB.out GX.out (.slice (some ⟨gr,0,none⟩) 3 cr) (.slice AT ps[who].f1.length cT) (.int .i64 2) (.int .i64 ps[who].f3) (.int .i64 (ro : Int)));have n1_:=ö (show (((((w7.setCell ⟨bx,0,none⟩ (.slice (some ⟨gr,0,none⟩) 3 cr)).setCell ⟨bx,1,none⟩ (.slice AT ps[who].f1.length cT)).setCell ⟨bx,2,none⟩ (.int .i64 2)).setCell ⟨bx,3,none⟩ (.int .i64 ps[who].f3)).setCell ⟨bx,4,none⟩ (.int .i64 (ro : Int))).heap[bw]? = some (.cells #[.slice (some ⟨g0,0,none⟩) ps.length cap0,.slice (some ⟨g1,0,none⟩) 3 cap1,.slice (some ⟨g2,0,none⟩) 2 cap2,.slice (some ⟨g3,0,none⟩) qs.length cap3,.slice A ys.length c] 33 (0,0)) from far_set5 BW.out NX.out (.slice (some ⟨gr,0,none⟩) 3 cr) (.slice AT ps[who].f1.length cT) (.int .i64 2) (.int .i64 ps[who].f3) (.int .i64 (ro : Int)));have n2_:=ö (show (((((w7.setCell ⟨bx,0,none⟩ (.slice (some ⟨gr,0,none⟩) 3 cr)).setCell ⟨bx,1,none⟩ (.slice AT ps[who].f1.length cT)).setCell ⟨bx,2,none⟩ (.int .i64 2)).setCell ⟨bx,3,none⟩ (.int .i64 ps[who].f3)).setCell ⟨bx,4,none⟩ (.int .i64 (ro : Int))).heap[br]? = some (.cells #[.slice none 0 0,.slice none 0 0,.slice none 0 0,.slice none 0 0,.slice none 0 0] 33 (0,0)) from far_set5 BR.out NY.out (.slice (some ⟨gr,0,none⟩) 3 cr) (.slice AT ps[who].f1.length cT) (.int .i64 2) (.int .i64 ps[who].f3) (.int .i64 (ro : Int)));have n3_:=ö (show (((((w7.setCell ⟨bx,0,none⟩ (.slice (some ⟨gr,0,none⟩) 3 cr)).setCell ⟨bx,1,none⟩ (.slice AT ps[who].f1.length cT)).setCell ⟨bx,2,none⟩ (.int .i64 2)).setCell ⟨bx,3,none⟩ (.int .i64 ps[who].f3)).setCell ⟨bx,4,none⟩ (.int .i64 (ro : Int))).heap[bx]? = some (.cells #[(.slice (some ⟨gr,0,none⟩) 3 cr),(.slice AT ps[who].f1.length cT),(.int .i64 2),(.int .i64 ps[who].f3),(.int .i64 (ro : Int))] 51 (0,0)) by (apply bp5_4_;apply bp5_3_;apply bp5_2_;apply bp5_1_;apply bp5_0_;exact BX.out));clear HB BW BR BX hcq_0 hcq_1 hcq_2 hcq_3 hcq_4 hfq_0 hfq_1 hfq_2 hfq_3 hfq_4;generalize (((((w7.setCell ⟨bx,0,none⟩ (.slice (some ⟨gr,0,none⟩) 3 cr)).setCell ⟨bx,1,none⟩ (.slice AT ps[who].f1.length cT)).setCell ⟨bx,2,none⟩ (.int .i64 2)).setCell ⟨bx,3,none⟩ (.int .i64 ps[who].f3)).setCell ⟨bx,4,none⟩ (.int .i64 (ro : Int))) = w8 at n0_ n1_ n2_ n3_ ⊢;have HB:=n0_;have BW:=n1_;have BR:=n2_;have BX:=n3_;clear n0_ n1_ n2_ n3_;obtain ⟨hcz_0,hcz_1,hcz_2,hcz_3,hcz_4,hfz_0,hfz_1,hfz_2,hfz_3,hfz_4⟩:=bz5_ BW;obtain ⟨hcx_0,hcx_1,hcx_2,hcx_3,hcx_4,hfx_0,hfx_1,hfx_2,hfx_3,hfx_4⟩:=bz5_ BR;obtain ⟨hcq_0,hcq_1,hcq_2,hcq_3,hcq_4,hfq_0,hfq_1,hfq_2,hfq_3,hfq_4⟩:=bz5_ BX;have hyr:=(HB.out.cell (ä w _ HZR.out)).trans HZR.out;have hfyr : w8.frozen? ⟨g2,ro,none⟩ = false:=(HB.out.frozen (ä w _ HZR.out)).trans HFR.out;have hy2:=(HB.out.cell (ä w _ HP2.out)).trans HP2.out;have hfy2 : w8.frozen? ⟨g0,who * 5 + 2,none⟩ = false:=(HB.out.frozen (ä w _ HP2.out)).trans (HPF.out _);have hj1 : g2 ≠ bw:=(by have h1:=GW.out;have h2:=GL2.out;omega);have hj2 : g2 ≠ br:=(by have h1:=GR.out;have h2:=GL2.out;omega);have hj3:=hj1.symm;have hj4:=hj2.symm))
 have M3:=ö (blk_far (p:=⟨g0,who * 5 + 2,none⟩) (blk_far (p:=⟨g2,ro,none⟩) BR.out hj4 (.int .i64 (wrap64 ((who : Int) + 1)))) hk4 (.int .i64 0))
 refine bodyPost_ret (results_cell_row rfl _ _ br 33 #[.slice (some ⟨g0,0,none⟩) ps.length cap0,.slice (some ⟨g1,0,none⟩) 3 cap1,.slice (some ⟨g2,0,none⟩) 2 cap2,.slice (some ⟨g3,0,none⟩) qs.length cap3,.slice A ys.length c] (0,0) _ rfl (by apply bp5_4_;apply bp5_3_;apply bp5_2_;apply bp5_1_;apply bp5_0_;exact M3.out) Try.underlying33 rfl (by kernel_rfl)) rfl ?_
 have z1:=((HS.out.below HB.out).istore g2 ro (wrap64 ((who : Int) + 1)) hg2).pcell who hwho 2 (by decide) (.int .i64 0) ⟨ps[who].f0,ps[who].f1,0,ps[who].f3,ps[who].f4⟩ (fun cells hp=>hp.f2 0)
 exact ⟨rfl,z1.setW5 (Nat.le_trans WS.out GR.out) M3.out (.slice (some ⟨g0,0,none⟩) ps.length cap0) (.slice (some ⟨g1,0,none⟩) 3 cap1) (.slice (some ⟨g2,0,none⟩) 2 cap2) (.slice (some ⟨g3,0,none⟩) qs.length cap3) (.slice A ys.length c),((((Fr.refl ow w).below HB.out).set ⟨g2,ro,none⟩ (.int .i64 (wrap64 ((who : Int) + 1))) (.inl (by rw [hg2];decide))).set ⟨g0,who * 5 + 2,none⟩ (.int .i64 0) (.inl (by rw [hg0];decide))).set5 GR.out (.slice (some ⟨g0,0,none⟩) ps.length cap0) (.slice (some ⟨g1,0,none⟩) 3 cap1) (.slice (some ⟨g2,0,none⟩) 2 cap2) (.slice (some ⟨g3,0,none⟩) qs.length cap3) (.slice A ys.length c)⟩
theorem todo_head {lo : Gr} {w : World} {ow : Nat → Nat} {tt : Value} {s : S69} {rest : List S69} (h : (kE lo).R 69 w 0 (fun k=>ow k = 0) tt (s :: rest)) : ∃ g cT A4 c4 A5 c5,tt = .slice (some ⟨g,0,none⟩) (rest.length + 1) cT ∧ rest.length + 1 ≤ cT ∧ g < w.heap.size ∧ w.cell? ⟨g,0,none⟩ = some (.int .i64 s.f0) ∧ w.cell? ⟨g,1,none⟩ = some (.int .i64 s.f1) ∧ w.cell? ⟨g,2,none⟩ = some (.int .i64 s.f2) ∧ w.cell? ⟨g,3,none⟩ = some (.int .i64 s.f3) ∧ w.cell? ⟨g,4,none⟩ = some (.slice A4 s.f4.length c4) ∧ w.cell? ⟨g,5,none⟩ = some (.slice A5 s.f5.length c5) ∧ Vs lo (.slice A4 s.f4.length c4) s.f4 ∧ Vs lo (.slice A5 s.f5.length c5) s.f5 ∧ ReadsRow (fun x cs=>(kE lo).M w 0 (fun k=>ow k = 0) x cs) 6 w (if cT = 1 then some ⟨g,0,none⟩ else some ⟨g,6,none⟩) rest.length rest:=by
 obtain ⟨g,cT,e,_,hg,_⟩:=Kd.R_form h (by simp)
 obtain ⟨A1,c1,e1,hc1,hrd⟩:=R_readsM h
 subst e
 injection e1 with e2 _ e3
 subst e2;subst e3
 obtain ⟨cs,_,hM,hcell,_⟩:=Kd.R_elem h s 0 (Int.le_refl _) (by simp)
 obtain ⟨v4,v5,rfl,h4,h5⟩:=kE_openM hM
 obtain ⟨A4,c4,rfl⟩:=h4.slice
 obtain ⟨A5,c5,rfl⟩:=h5.slice
 refine ⟨g,cT,A4,c4,A5,c5,rfl,by simpa using hc1,hg,by simpa using hcell 0 _ rfl,by simpa using hcell 1 _ rfl,by simpa using hcell 2 _ rfl,by simpa using hcell 3 _ rfl,by simpa using hcell 4 _ rfl,by simpa using hcell 5 _ rfl,h4,h5,rfl,by have:=hrd.2.1;simp at this;omega,fun hp=>?_⟩
 obtain ⟨ad,had,hx⟩:=hrd.2.2 (by simp)
 obtain rfl : (⟨g,0,none⟩ : Addr) = ad:=Option.some.inj had
 rw [if_neg (by simp at hc1;omega)]
 refine ⟨_,rfl,fun j p hj=>?_⟩
 obtain ⟨c,h1,h2,h3⟩:=hx (j + 1) p (by simpa using hj)
 refine ⟨c,h1,h2,fun i u hu=>?_⟩
 have h6:=h3 i u hu
 rw [add_zero_off] at h6
 have e4 : Addr.add ⟨g,6,none⟩ (j * 6 + i) = ⟨g,(j + 1) * 6 + i,none⟩:=by
  unfold Addr.add
  split
  ·exact congrArg (fun q=>(⟨g,q,none⟩ : Addr)) (show 6 = (j + 1) * 6 + i by omega)
  ·exact congrArg (fun q=>(⟨g,q,none⟩ : Addr)) (show 6 + (j * 6 + i) = (j + 1) * 6 + i by omega)
 rw [e4]
 exact h6
def LDone (ow : Nat → Nat) (w : World) (v0 v1 v2 v3 : Value) (Q : Value → World → Prop) (e : Ending) (w' : World) : Prop :=
 ∃ (A9 : Option Addr) (n9 c9 : Nat) (w2 : World) (br : Nat) (cs : Array Value),e = .returned (.agg #[v0,v1,v2,v3,.slice A9 n9 c9]) ∧ Fr ow w w' ∧ Q (.slice A9 n9 c9) w2 ∧ w.heap.size ≤ br ∧ w2.heap[br]? = some (.cells cs 33 (0,0)) ∧ w' = (((((w2.setCell ⟨br,0,none⟩ v0).setCell ⟨br,1,none⟩ v1).setCell ⟨br,2,none⟩ v2).setCell ⟨br,3,none⟩ v3).setCell ⟨br,4,none⟩ (.slice A9 n9 c9))
set_option maxHeartbeats 2000000 in
set_option maxRecDepth 100000 in
theorem l3step_do (lo : Gr) (ow : Nat → Nat) (w : World) (v0 v1 v2 v3 v4 : Value) (ps : List S51) (qs : List (List Int)) (ys : List S38) (h : SV lo ow w v0 v1 v2 v3 v4 ps qs ys) (who : Nat) (hwho : who < ps.length) (hlo : lo.n ≤ w.heap.size) (k a b n : Int) (body els rest : List S69) (he : ps[who].f1 = (⟨k,a,b,n,body,els⟩ : S69) :: rest) (hm : ps[who].f2 = 0) (lr : rest.length ≤ 400000000) (Q : Value → World → Prop)
  (hG : (k = 6 ∨ k = 7) → ∀ (W : World) (vb ve vr : Value),Below w.heap.size w W → Vs lo vb body → Vs lo ve els → (kE lo).R 69 W 0 (fun k=>ow k = 0) vr rest → Calls Try.prog 43 #[.agg #[v0,v1,v2,v3,v4],.int .i64 who,.agg #[.int .i64 k,.int .i64 a,.int .i64 b,.int .i64 n,vb,ve],vr] W fun e w2=>∃ A9 n9 c9,e = .returned (.agg #[v0,v1,v2,v3,.slice A9 n9 c9]) ∧ Fr ow W w2 ∧ Q (.slice A9 n9 c9) w2)
  (hR : (k = 8 ∨ k = 12 ∨ k = 9 ∨ k = 10) → ∀ (W : World) (vb ve vr : Value),Below w.heap.size w W → Vs lo vb body → Vs lo ve els → (kE lo).R 69 W 0 (fun k=>ow k = 0) vr rest → Calls Try.prog 44 #[.agg #[v0,v1,v2,v3,v4],.int .i64 who,.agg #[.int .i64 k,.int .i64 a,.int .i64 b,.int .i64 n,vb,ve],vr] W fun e w2=>∃ A9 n9 c9,e = .returned (.agg #[v0,v1,v2,v3,.slice A9 n9 c9]) ∧ Fr ow W w2 ∧ Q (.slice A9 n9 c9) w2)
  (hL : (k ≠ 6 ∧ k ≠ 7 ∧ k ≠ 8 ∧ k ≠ 9 ∧ k ≠ 10 ∧ k ≠ 12) → ∀ (W : World) (A4 A5 : Option Addr) (n4 c4 n5 c5 : Nat),SV lo ow W v0 v1 v2 v3 v4 (ps.set who ⟨ps[who].f0,rest,ps[who].f2,ps[who].f3,ps[who].f4⟩) qs ys → w.heap.size ≤ W.heap.size → Calls Try.prog 45 #[.agg #[v0,v1,v2,v3,v4],.int .i64 who,.agg #[.int .i64 k,.int .i64 a,.int .i64 b,.int .i64 n,.slice A4 n4 c4,.slice A5 n5 c5]] W fun e w2=>∃ A9 n9 c9,e = .returned (.agg #[v0,v1,v2,v3,.slice A9 n9 c9]) ∧ Fr ow W w2 ∧ Q (.slice A9 n9 c9) w2) :
  Calls Try.prog 31 #[.agg #[v0,v1,v2,v3,v4],.int .i64 who] w fun e w'=>LDone ow w v0 v1 v2 v3 Q e w':=by
 have hu29:=Try.underlying33
 have hu59:=Try.underlying51
 obtain ⟨g0,cap0,gr,cr,tt,rfl,hg0,⟨hp0,hp1,hp2,hp3,hp4⟩,hpf,htt,hgr,_⟩:=h.pfull who hwho
 obtain ⟨g1,cap1,rfl,hg1,_⟩:=h.ce.form
 obtain ⟨g2,cap2,rfl,hg2,hrooms⟩:=h.ro.form
 obtain ⟨g3,cap3,cells3,rfl,hg3,_⟩:=h.si
 obtain ⟨A,c,rfl⟩:=Kd.R_slice h.sa
 have HS:=ö h
 have WS:=ö h.ws
 have HPF:=ö hpf
 have FREE:=ö h.free
 have HB:=ö (Below.refl w.heap.size w)
 have TK1:=ö True.intro
 have GL:=ö (show g0 < w.heap.size from ä w _ hp1)
 have hk0 : g0 ≠ g2:=fun e=>by rw [e] at hg0;omega
 have hk0':=hk0.symm
 have p1 : 0 ≤ (who : Int):=by omega
 have q1 : (who : Int) < (ps.length : Int):=by omega
 replace p1:=eq_true p1
 replace q1:=eq_true q1
 have HG_:=ö hG
 have HR_:=ö hR
 have HL_:=ö hL
 rw [he] at htt
 rw [hm] at hp2
 obtain ⟨gt,cT,A4,c4,A5,c5,rfl,hcT,hgt,ht0,ht1,ht2,ht3,ht4,ht5,hb4,hb5,hrd⟩:=todo_head htt
 have HTT:=ö htt
 have HP0:=ö hp0
 have HP1:=ö hp1
 have HP2:=ö hp2
 have HP3:=ö hp3
 have HP4:=ö hp4
 have HT0:=ö ht0
 have HT1:=ö ht1
 have HT2:=ö ht2
 have HT3:=ö ht3
 have HT4:=ö ht4
 have HT5:=ö ht5
 have HB4:=ö hb4
 have HB5:=ö hb5
 have HCT:=ö hcT
 have TK2:=ö True.intro
 have r1 : ((1 : Int) ≤ (rest.length : Int) + 1) = True:=eq_true (by omega)
 have r2 : ((0 : Int) < (rest.length : Int) + 1) = True:=eq_true (by omega)
 clear h hG hR hL hrooms hp0 hp1 hp2 hp3 hp4 hpf htt ht0 ht1 ht2 ht3 ht4 ht5 hb4 hb5 hrd hgt hm he
 have F : ∀ z : Int,(k == z) = true ∨ (k == z) = false:=fun z=>by cases (k == z) <;> simp
 rcases F 6 with f6 | f6
 all_goals rcases F 7 with f7 | f7
 all_goals rcases F 8 with f8 | f8
 all_goals rcases F 12 with f12 | f12
 all_goals rcases F 9 with f9 | f9
 all_goals rcases F 10 with f10 | f10
 all_goals try (exfalso;simp only [beq_iff_eq,beq_eq_false_iff_ne] at f6 f7 f8 f9 f10 f12;omega)
 all_goals clear F
 all_goals
  go_enter Try.func31,Try.ntmps31
  go_wp2_with (first | ((with_reducible refine gate_dst (N:=2) rfl ?_);refine box_event ?hg (N:=2) ?hd (cs:=#[.slice (some ⟨g0,0,none⟩) ps.length cap0,.slice (some ⟨g1,0,none⟩) 3 cap1,.slice (some ⟨g2,0,none⟩) 2 cap2,.slice (some ⟨g3,0,none⟩) qs.length cap3,.slice A ys.length c]) (t:=33) ?hr ?_;(case hd=>rfl);(case hg=>rfl);(case hr=>first | (go_simp;done) | (go_simp;rfl));intro bw hg w5 hbox hb;replace HB:=ö (below_step HB.out hb);have GW:=ö (Nat.le_of_eq hg.symm);have BW:=ö hbox;clear hb hbox hg) | ((with_reducible refine gate_dst (N:=4) rfl ?_);refine box_event ?hg (N:=4) ?hd (cs:=#[.slice none 0 0,.slice none 0 0,.slice none 0 0,.slice none 0 0,.slice none 0 0]) (t:=33) ?hr ?_;(case hd=>rfl);(case hg=>rfl);(case hr=>first | (go_simp;done) | (go_simp;rfl));intro br hg w6 hbox hb;have n1_:=ö (blk_below BW.out hb);have NR:=ö (show bw ≠ br by rw [hg];exact Nat.ne_of_lt (blk_lt BW.out));have GR:=ö (show w.heap.size ≤ br by rw [hg];exact HB.out.size);replace HB:=ö (below_step HB.out hb);clear BW;have BW:=n1_;clear n1_;have BR:=ö hbox;obtain ⟨hcz_0,hcz_1,hcz_2,hcz_3,hcz_4,hfz_0,hfz_1,hfz_2,hfz_3,hfz_4⟩:=bz5_ BW;have hy0:=(HB.out.cell (ä w _ HP0.out)).trans HP0.out;have hy1:=(HB.out.cell (ä w _ HP1.out)).trans HP1.out;have hy2:=(HB.out.cell (ä w _ HP2.out)).trans HP2.out;have hy3:=(HB.out.cell (ä w _ HP3.out)).trans HP3.out;have hy4:=(HB.out.cell (ä w _ HP4.out)).trans HP4.out;have hk1 : g0 ≠ bw:=(by have h1:=GW.out;have h2:=GL.out;omega);have hk2 : g0 ≠ br:=(by have h1:=GR.out;have h2:=GL.out;omega);have hk3:=hk1.symm;have hk4:=hk2.symm;have hn1:=NR.out;have hn2:=hn1.symm;clear hb hbox hg) | ((with_reducible refine gate_dst (N:=5) rfl ?_);refine box_event ?hg (N:=5) ?hd (cs:=#[.slice none 0 0,.slice none 0 0,.int .i64 0,.int .i64 0,.int .i64 0]) (t:=51) ?hr ?_;(case hd=>rfl);(case hg=>rfl);(case hr=>first | (go_simp;done) | (go_simp;rfl));intro bx hg w7 hbox hb;have n1_:=ö (blk_below BW.out hb);have n2_:=ö (blk_below BR.out hb);have NX:=ö (show bw ≠ bx by rw [hg];exact Nat.ne_of_lt (blk_lt BW.out));have NY:=ö (show br ≠ bx by rw [hg];exact Nat.ne_of_lt (blk_lt BR.out));have GX:=ö (show w.heap.size ≤ bx by rw [hg];exact HB.out.size);clear hy0 hy1 hy2 hy3 hy4 hcz_0 hcz_1 hcz_2 hcz_3 hcz_4 hfz_0 hfz_1 hfz_2 hfz_3 hfz_4;replace HB:=ö (below_step HB.out hb);clear BW BR;have BW:=n1_;have BR:=n2_;clear n1_ n2_;have BX:=ö hbox;obtain ⟨hcq_0,hcq_1,hcq_2,hcq_3,hcq_4,hfq_0,hfq_1,hfq_2,hfq_3,hfq_4⟩:=bz5_ BX;clear hb hbox hg) | ((with_reducible refine gate_dst (N:=13) rfl ?_);clear TK1;have n0_:=ö (show Below w.heap.size w (((((w7.setCell ⟨bx,0,none⟩ (.slice (some ⟨gr,0,none⟩) 3 cr)).setCell ⟨bx,1,none⟩ (.slice (some ⟨gt,0,none⟩) (rest.length + 1) cT)).setCell ⟨bx,2,none⟩ (.int .i64 0)).setCell ⟨bx,3,none⟩ (.int .i64 ps[who].f3)).setCell ⟨bx,4,none⟩ (.int .i64 ps[who].f4)) from below_set5 HB.out GX.out (.slice (some ⟨gr,0,none⟩) 3 cr) (.slice (some ⟨gt,0,none⟩) (rest.length + 1) cT) (.int .i64 0) (.int .i64 ps[who].f3) (.int .i64 ps[who].f4));have n1_:=ö (show (((((w7.setCell ⟨bx,0,none⟩ (.slice (some ⟨gr,0,none⟩) 3 cr)).setCell ⟨bx,1,none⟩ (.slice (some ⟨gt,0,none⟩) (rest.length + 1) cT)).setCell ⟨bx,2,none⟩ (.int .i64 0)).setCell ⟨bx,3,none⟩ (.int .i64 ps[who].f3)).setCell ⟨bx,4,none⟩ (.int .i64 ps[who].f4)).heap[bw]? = some (.cells #[.slice (some ⟨g0,0,none⟩) ps.length cap0,.slice (some ⟨g1,0,none⟩) 3 cap1,.slice (some ⟨g2,0,none⟩) 2 cap2,.slice (some ⟨g3,0,none⟩) qs.length cap3,.slice A ys.length c] 33 (0,0)) from far_set5 BW.out NX.out (.slice (some ⟨gr,0,none⟩) 3 cr) (.slice (some ⟨gt,0,none⟩) (rest.length + 1) cT) (.int .i64 0) (.int .i64 ps[who].f3) (.int .i64 ps[who].f4));have n2_:=ö (show (((((w7.setCell ⟨bx,0,none⟩ (.slice (some ⟨gr,0,none⟩) 3 cr)).setCell ⟨bx,1,none⟩ (.slice (some ⟨gt,0,none⟩) (rest.length + 1) cT)).setCell ⟨bx,2,none⟩ (.int .i64 0)).setCell ⟨bx,3,none⟩ (.int .i64 ps[who].f3)).setCell ⟨bx,4,none⟩ (.int .i64 ps[who].f4)).heap[br]? = some (.cells #[.slice none 0 0,.slice none 0 0,.slice none 0 0,.slice none 0 0,.slice none 0 0] 33 (0,0)) from far_set5 BR.out NY.out (.slice (some ⟨gr,0,none⟩) 3 cr) (.slice (some ⟨gt,0,none⟩) (rest.length + 1) cT) (.int .i64 0) (.int .i64 ps[who].f3) (.int .i64 ps[who].f4));have n3_:=ö (show (((((w7.setCell ⟨bx,0,none⟩ (.slice (some ⟨gr,0,none⟩) 3 cr)).setCell ⟨bx,1,none⟩ (.slice (some ⟨gt,0,none⟩) (rest.length + 1) cT)).setCell ⟨bx,2,none⟩ (.int .i64 0)).setCell ⟨bx,3,none⟩ (.int .i64 ps[who].f3)).setCell ⟨bx,4,none⟩ (.int .i64 ps[who].f4)).heap[bx]? = some (.cells #[(.slice (some ⟨gr,0,none⟩) 3 cr),(.slice (some ⟨gt,0,none⟩) (rest.length + 1) cT),(.int .i64 0),(.int .i64 ps[who].f3),(.int .i64 ps[who].f4)] 51 (0,0)) by (apply bp5_4_;apply bp5_3_;apply bp5_2_;apply bp5_1_;apply bp5_0_;exact BX.out));clear HB BW BR BX hcq_0 hcq_1 hcq_2 hcq_3 hcq_4 hfq_0 hfq_1 hfq_2 hfq_3 hfq_4;generalize (((((w7.setCell ⟨bx,0,none⟩ (.slice (some ⟨gr,0,none⟩) 3 cr)).setCell ⟨bx,1,none⟩ (.slice (some ⟨gt,0,none⟩) (rest.length + 1) cT)).setCell ⟨bx,2,none⟩ (.int .i64 0)).setCell ⟨bx,3,none⟩ (.int .i64 ps[who].f3)).setCell ⟨bx,4,none⟩ (.int .i64 ps[who].f4)) = w8 at n0_ n1_ n2_ n3_ ⊢;have HB:=n0_;have BW:=n1_;have BR:=n2_;have BX:=n3_;clear n0_ n1_ n2_ n3_;obtain ⟨hcq_0,hcq_1,hcq_2,hcq_3,hcq_4,hfq_0,hfq_1,hfq_2,hfq_3,hfq_4⟩:=bz5_ BX;have ht0:=(HB.out.cell (ä w _ HT0.out)).trans HT0.out;have ht1:=(HB.out.cell (ä w _ HT1.out)).trans HT1.out;have ht2:=(HB.out.cell (ä w _ HT2.out)).trans HT2.out;have ht3:=(HB.out.cell (ä w _ HT3.out)).trans HT3.out;have ht4:=(HB.out.cell (ä w _ HT4.out)).trans HT4.out;have ht5:=(HB.out.cell (ä w _ HT5.out)).trans HT5.out) | ((with_reducible refine gate_dst (N:=6) rfl ?_);refine box_event ?hg (N:=6) ?hd (cs:=#[.int .i64 0,.int .i64 0,.int .i64 0,.int .i64 0,.slice none 0 0,.slice none 0 0]) (t:=69) ?hr ?_;(case hd=>rfl);(case hg=>rfl);(case hr=>first | (go_simp;done) | (go_simp;rfl));intro bs hg w9 hbox hb;have k0_:=ö (blk_below BW.out hb);have k1_:=ö (blk_below BR.out hb);have k2_:=ö (blk_below BX.out hb);have NS:=ö (show bw ≠ bs by rw [hg];exact Nat.ne_of_lt (blk_lt BW.out));have NT:=ö (show br ≠ bs by rw [hg];exact Nat.ne_of_lt (blk_lt BR.out));have NU:=ö (show bx ≠ bs by rw [hg];exact Nat.ne_of_lt (blk_lt BX.out));have GS:=ö (show w.heap.size ≤ bs by rw [hg];exact HB.out.size);clear ht0 ht1 ht2 ht3 ht4 ht5 hcq_0 hcq_1 hcq_2 hcq_3 hcq_4 hfq_0 hfq_1 hfq_2 hfq_3 hfq_4;replace HB:=ö (below_step HB.out hb);clear BW BR BX;have BW:=k0_;have BR:=k1_;have BX:=k2_;clear k0_ k1_ k2_;have BS:=ö hbox;obtain ⟨hcy_0,hcy_1,hcy_2,hcy_3,hcy_4,hcy_5,hfy_0,hfy_1,hfy_2,hfy_3,hfy_4,hfy_5⟩:=bz6_ BS;clear hb hbox hg) | ((with_reducible refine gate_dst (N:=33) rfl ?_);clear TK2;have n0_:=ö (show Below w.heap.size w ((((((w9.setCell ⟨bs,0,none⟩ (.int .i64 k)).setCell ⟨bs,1,none⟩ (.int .i64 a)).setCell ⟨bs,2,none⟩ (.int .i64 b)).setCell ⟨bs,3,none⟩ (.int .i64 n)).setCell ⟨bs,4,none⟩ (.slice A4 body.length c4)).setCell ⟨bs,5,none⟩ (.slice A5 els.length c5)) from below_set6 HB.out GS.out (.int .i64 k) (.int .i64 a) (.int .i64 b) (.int .i64 n) (.slice A4 body.length c4) (.slice A5 els.length c5));have n1_:=ö (show ((((((w9.setCell ⟨bs,0,none⟩ (.int .i64 k)).setCell ⟨bs,1,none⟩ (.int .i64 a)).setCell ⟨bs,2,none⟩ (.int .i64 b)).setCell ⟨bs,3,none⟩ (.int .i64 n)).setCell ⟨bs,4,none⟩ (.slice A4 body.length c4)).setCell ⟨bs,5,none⟩ (.slice A5 els.length c5)).heap[bw]? = some (.cells #[.slice (some ⟨g0,0,none⟩) ps.length cap0,.slice (some ⟨g1,0,none⟩) 3 cap1,.slice (some ⟨g2,0,none⟩) 2 cap2,.slice (some ⟨g3,0,none⟩) qs.length cap3,.slice A ys.length c] 33 (0,0)) from far_set6 BW.out NS.out (.int .i64 k) (.int .i64 a) (.int .i64 b) (.int .i64 n) (.slice A4 body.length c4) (.slice A5 els.length c5));have n2_:=ö (show ((((((w9.setCell ⟨bs,0,none⟩ (.int .i64 k)).setCell ⟨bs,1,none⟩ (.int .i64 a)).setCell ⟨bs,2,none⟩ (.int .i64 b)).setCell ⟨bs,3,none⟩ (.int .i64 n)).setCell ⟨bs,4,none⟩ (.slice A4 body.length c4)).setCell ⟨bs,5,none⟩ (.slice A5 els.length c5)).heap[br]? = some (.cells #[.slice none 0 0,.slice none 0 0,.slice none 0 0,.slice none 0 0,.slice none 0 0] 33 (0,0)) from far_set6 BR.out NT.out (.int .i64 k) (.int .i64 a) (.int .i64 b) (.int .i64 n) (.slice A4 body.length c4) (.slice A5 els.length c5));have n3_:=ö (show ((((((w9.setCell ⟨bs,0,none⟩ (.int .i64 k)).setCell ⟨bs,1,none⟩ (.int .i64 a)).setCell ⟨bs,2,none⟩ (.int .i64 b)).setCell ⟨bs,3,none⟩ (.int .i64 n)).setCell ⟨bs,4,none⟩ (.slice A4 body.length c4)).setCell ⟨bs,5,none⟩ (.slice A5 els.length c5)).heap[bx]? = some (.cells #[(.slice (some ⟨gr,0,none⟩) 3 cr),(.slice (some ⟨gt,0,none⟩) (rest.length + 1) cT),(.int .i64 0),(.int .i64 ps[who].f3),(.int .i64 ps[who].f4)] 51 (0,0)) from far_set6 BX.out NU.out (.int .i64 k) (.int .i64 a) (.int .i64 b) (.int .i64 n) (.slice A4 body.length c4) (.slice A5 els.length c5));have n4_:=ö (show ((((((w9.setCell ⟨bs,0,none⟩ (.int .i64 k)).setCell ⟨bs,1,none⟩ (.int .i64 a)).setCell ⟨bs,2,none⟩ (.int .i64 b)).setCell ⟨bs,3,none⟩ (.int .i64 n)).setCell ⟨bs,4,none⟩ (.slice A4 body.length c4)).setCell ⟨bs,5,none⟩ (.slice A5 els.length c5)).heap[bs]? = some (.cells #[(.int .i64 k),(.int .i64 a),(.int .i64 b),(.int .i64 n),(.slice A4 body.length c4),(.slice A5 els.length c5)] 69 (0,0)) by (apply bp6_5_;apply bp6_4_;apply bp6_3_;apply bp6_2_;apply bp6_1_;apply bp6_0_;exact BS.out));clear HB BW BR BX BS hcy_0 hcy_1 hcy_2 hcy_3 hcy_4 hcy_5 hfy_0 hfy_1 hfy_2 hfy_3 hfy_4 hfy_5;generalize ((((((w9.setCell ⟨bs,0,none⟩ (.int .i64 k)).setCell ⟨bs,1,none⟩ (.int .i64 a)).setCell ⟨bs,2,none⟩ (.int .i64 b)).setCell ⟨bs,3,none⟩ (.int .i64 n)).setCell ⟨bs,4,none⟩ (.slice A4 body.length c4)).setCell ⟨bs,5,none⟩ (.slice A5 els.length c5)) = w10 at n0_ n1_ n2_ n3_ n4_ ⊢;have HB:=n0_;have BW:=n1_;have BR:=n2_;have BX:=n3_;have BS:=n4_;clear n0_ n1_ n2_ n3_ n4_;refine plain_ ?hg (fun K hK=>?_);(case hg=>rfl);refine lit0_step (kE lo) 0 69 (by rfl) ?hr (Nat.zero_le _) ?_;(case hr=>first | (go_simp;done) | (go_simp;rfl));intro g w11 hg ho hb;refine hK _ _ ?_;clear hK K;have HG:=ö (Nat.le_trans HB.out.size hg);have HO:=ö ho;have k0_:=ö (blk_below BW.out hb);have k1_:=ö (blk_below BR.out hb);have k2_:=ö (blk_below BX.out hb);have k3_:=ö (blk_below BS.out hb);clear BW BR BX BS;have BW:=k0_;have BR:=k1_;have BX:=k2_;have BS:=k3_;clear k0_ k1_ k2_ k3_;replace HB:=ö (below_step HB.out hb);clear hg ho hb;obtain ⟨hcq_0,hcq_1,hcq_2,hcq_3,hcq_4,hfq_0,hfq_1,hfq_2,hfq_3,hfq_4⟩:=bz5_ BX) | ((with_reducible refine gate_dst (N:=37) rfl ?_);refine plain_ ?hg (fun K hK=>?_);(case hg=>rfl);have hrd:=(todo_head (Kd.R_below HTT.out HB.out));obtain ⟨gt_,cT_,_,_,_,_,e_,_,_,_,_,_,_,_,_,_,_,hrd⟩:=hrd;injection e_ with e_1 _ e_2;injection e_1 with e_1;injection e_1 with e_1;subst e_1;subst e_2;refine lit_append_stepY (kE lo) 0 (by rfl) (.tmp 33) (.tmp 36) 49 69 (.agg #[(.int .i64 0),(.int .i64 0),(.int .i64 0),(.int .i64 0),(.slice none 0 0),(.slice none 0 0)]) 80 rfl Try.underlying49 info69 rfl (show 0 < 6 by decide) g rest _ rest.length _ (fun k=>ow k = 0) rfl rfl HO.out hrd (fun _ _ h=>h) (Nat.zero_le _) (by omega) (by decide) ?_;intro v12 w12 ho hb _ hown;refine hK _ _ ?_;clear hK K hrd;have HO12:=ö (show (kE lo).R 69 w12 0 (fun k=>ow k = 0) v12 rest from Kd.R_mono ho fun k hk=>by rcases hk with hk | hk | hk;exact hk;exact FREE.out k (Nat.le_trans HB.out.size hk);exact FREE.out k (by rw [hk];exact HG.out));have k0_:=ö (blk_below BW.out hb);have k1_:=ö (blk_below BR.out hb);have k2_:=ö (blk_below BX.out hb);have k3_:=ö (blk_below BS.out hb);clear BW BR BX BS;have BW:=k0_;have BR:=k1_;have BX:=k2_;have BS:=k3_;clear k0_ k1_ k2_ k3_;replace HB:=ö (below_step HB.out hb);clear ho hb hown HO hcq_0 hcq_1 hcq_2 hcq_3 hcq_4 hfq_0 hfq_1 hfq_2 hfq_3 hfq_4;obtain ⟨AR,cR,e_⟩:=Kd.R_slice HO12.out;subst e_;obtain ⟨hcy_0,hcy_1,hcy_2,hcy_3,hcy_4,hcy_5,hfy_0,hfy_1,hfy_2,hfy_3,hfy_4,hfy_5⟩:=bz6_ BS;obtain ⟨hcz_0,hcz_1,hcz_2,hcz_3,hcz_4,hfz_0,hfz_1,hfz_2,hfz_3,hfz_4⟩:=bz5_ BW;have hyt:=(HB.out.cell (ä w _ HP1.out)).trans HP1.out;have hfyt : w12.frozen? ⟨g0,who * 5 + 1,none⟩ = false:=(HB.out.frozen (ä w _ HP1.out)).trans (HPF.out _);have hm1 : g0 ≠ bs:=(by have h1:=GS.out;have h2:=GL.out;omega);have hm2:=hm1.symm) | (go_at_call 43;refine (HG_.out (by first | exact .inl (beq_iff_eq.1 f6) | exact .inr (beq_iff_eq.1 f7)) _ _ _ _ HB.out HB4.out HB5.out HO12.out).mono ?_;rintro e w13 ⟨A9,n9,c9,rfl,hfr,hq⟩;have m3:=ö ((hfr.2 br (blk_lt BR.out) (FREE.out br GR.out)).trans BR.out);have FRF:=ö (((Fr.refl ow w).below HB.out).trans hfr (fun _ _ hk=>hk));have HQ:=ö hq;clear hfr hq;clear BW BS BX BR hcy_0 hcy_1 hcy_2 hcy_3 hcy_4 hcy_5 hfy_0 hfy_1 hfy_2 hfy_3 hfy_4 hfy_5 hcz_0 hcz_1 hcz_2 hcz_3 hcz_4 hfz_0 hfz_1 hfz_2 hfz_3 hfz_4;obtain ⟨hcx_0,hcx_1,hcx_2,hcx_3,hcx_4,hfx_0,hfx_1,hfx_2,hfx_3,hfx_4⟩:=bz5_ m3) | (go_at_call 44;refine (HR_.out (by first | exact .inl (beq_iff_eq.1 f8) | exact .inr (.inl (beq_iff_eq.1 f12)) | exact .inr (.inr (.inl (beq_iff_eq.1 f9))) | exact .inr (.inr (.inr (beq_iff_eq.1 f10)))) _ _ _ _ HB.out HB4.out HB5.out HO12.out).mono ?_;rintro e w13 ⟨A9,n9,c9,rfl,hfr,hq⟩;have m3:=ö ((hfr.2 br (blk_lt BR.out) (FREE.out br GR.out)).trans BR.out);have FRF:=ö (((Fr.refl ow w).below HB.out).trans hfr (fun _ _ hk=>hk));have HQ:=ö hq;clear hfr hq;clear BW BS BX BR hcy_0 hcy_1 hcy_2 hcy_3 hcy_4 hcy_5 hfy_0 hfy_1 hfy_2 hfy_3 hfy_4 hfy_5 hcz_0 hcz_1 hcz_2 hcz_3 hcz_4 hfz_0 hfz_1 hfz_2 hfz_3 hfz_4;obtain ⟨hcx_0,hcx_1,hcx_2,hcx_3,hcx_4,hfx_0,hfx_1,hfx_2,hfx_3,hfx_4⟩:=bz5_ m3) | (go_at_call 45;have z1:=(HS.out.below HB.out).pcell who hwho 1 (by decide) (.slice AR rest.length cR) ⟨ps[who].f0,rest,ps[who].f2,ps[who].f3,ps[who].f4⟩ (fun cells hp=>hp.f1 _ _ HO12.out);have fr1:=(((Fr.refl ow w).below HB.out).set ⟨g0,who * 5 + 1,none⟩ (.slice AR rest.length cR) (.inl (by rw [hg0];decide)));have B3:=ö (blk_far (p:=⟨g0,who * 5 + 1,none⟩) BR.out hk4 (.slice AR rest.length cR));have le1 : w.heap.size ≤ (w12.setCell ⟨g0,who * 5 + 1,none⟩ (.slice AR rest.length cR)).heap.size:=(by have h1:=HB.out.size;simpa [World.setCell] using h1);refine (HL_.out ⟨beq_eq_false_iff_ne.1 f6,beq_eq_false_iff_ne.1 f7,beq_eq_false_iff_ne.1 f8,beq_eq_false_iff_ne.1 f9,beq_eq_false_iff_ne.1 f10,beq_eq_false_iff_ne.1 f12⟩ _ _ _ _ _ _ _ z1 le1).mono ?_;rintro e w13 ⟨A9,n9,c9,rfl,hfr,hq⟩;have m3:=ö ((hfr.2 br (blk_lt B3.out) (FREE.out br GR.out)).trans B3.out);have FRF:=ö (fr1.trans hfr (fun _ _ hk=>hk));have HQ:=ö hq;clear hfr hq z1 fr1 B3 le1;clear BW BS BX BR hcy_0 hcy_1 hcy_2 hcy_3 hcy_4 hcy_5 hfy_0 hfy_1 hfy_2 hfy_3 hfy_4 hfy_5 hcz_0 hcz_1 hcz_2 hcz_3 hcz_4 hfz_0 hfz_1 hfz_2 hfz_3 hfz_4;obtain ⟨hcx_0,hcx_1,hcx_2,hcx_3,hcx_4,hfx_0,hfx_1,hfx_2,hfx_3,hfx_4⟩:=bz5_ m3))
  all_goals
   refine bodyPost_ret (results_cell_row rfl _ _ br 33 #[.slice (some ⟨g0,0,none⟩) ps.length cap0,.slice (some ⟨g1,0,none⟩) 3 cap1,.slice (some ⟨g2,0,none⟩) 2 cap2,.slice (some ⟨g3,0,none⟩) qs.length cap3,.slice A9 n9 c9] (0,0) _ rfl (by apply bp5_4_;apply bp5_3_;apply bp5_2_;apply bp5_1_;apply bp5_0_;exact m3.out) Try.underlying33 rfl (by kernel_rfl)) rfl ?_
   exact ⟨A9,n9,c9,_,br,_,rfl,FRF.out.set5 GR.out (.slice (some ⟨g0,0,none⟩) ps.length cap0) (.slice (some ⟨g1,0,none⟩) 3 cap1) (.slice (some ⟨g2,0,none⟩) 2 cap2) (.slice (some ⟨g3,0,none⟩) qs.length cap3) (.slice A9 n9 c9),HQ.out,GR.out,m3.out,rfl⟩
set_option maxHeartbeats 2000000 in
theorem l3step_if (lo : Gr) (ow : Nat → Nat) (w : World) (v0 v1 v2 v3 v4 : Value) (ps : List S51) (qs : List (List Int)) (ys : List S38) (h : SV lo ow w v0 v1 v2 v3 v4 ps qs ys) (who : Nat) (hwho : who < ps.length) (hlo : lo.n ≤ w.heap.size) (a b n : Int) (body els rest : List S69) (he : ps[who].f1 = (⟨6,a,b,n,body,els⟩ : S69) :: rest) (hm : ps[who].f2 = 0) (lr : rest.length ≤ 400000000) (ha0 : 0 ≤ a) (ha1 : a < 3) (l4 : body.length ≤ 2000000) (l5 : els.length ≤ 2000000) :
  Calls Try.prog 31 #[.agg #[v0,v1,v2,v3,v4],.int .i64 who] w fun e w'=>∃ lst,e = .returned (.agg #[v0,v1,v2,v3,v4]) ∧ SV lo ow w' v0 v1 v2 v3 v4 (ps.set who ⟨ps[who].f0,lst,ps[who].f2,ps[who].f3,ps[who].f4⟩) qs ys ∧ Fr ow w w' ∧ (lst = body ++ ((⟨6,a,b,n,body,els⟩ : S69) :: rest) ∨ lst = body ++ rest ∨ lst = els ++ rest ∨ lst = rest):=by
 obtain ⟨A,c,rfl⟩:=Kd.R_slice h.sa
 refine (l3step_do lo ow w _ _ _ _ _ ps qs ys h who hwho hlo 6 a b n body els rest he hm lr (fun v9 w2=>v9 = .slice A ys.length c ∧ ∃ lst,SV lo ow w2 v0 v1 v2 v3 v9 (ps.set who ⟨ps[who].f0,lst,ps[who].f2,ps[who].f3,ps[who].f4⟩) qs ys ∧ (lst = body ++ ((⟨6,a,b,n,body,els⟩ : S69) :: rest) ∨ lst = body ++ rest ∨ lst = els ++ rest ∨ lst = rest)) (fun _ W vb ve vr hb h4 h5 hr=>(l3goes_says lo ow W _ _ _ _ _ ps qs ys (h.below hb) who hwho 6 a b n vb ve vr body els rest h4 h5 hr (by decide) ha0 ha1 l4 l5 (by omega) (Nat.le_trans hlo hb.size)).mono (by rintro e w2 ⟨lst,rfl,hsv,hfr,hcs⟩;exact ⟨A,_,c,rfl,hfr,rfl,lst,hsv,hcs.imp (fun h=>by simpa using h.2) (fun h=>h)⟩)) (fun hx=>absurd hx (by decide)) (fun hx=>absurd hx (by decide))).mono ?_
 rintro e w' ⟨A9,n9,c9,w2,br,cs,rfl,hfr,⟨hv,lst,hsv,hc⟩,hbr,hcs,rfl⟩
 obtain ⟨e1,e2,e3⟩:=Value.slice.inj hv
 subst e1;subst e2;subst e3
 exact ⟨lst,rfl,hsv.setW5 (Nat.le_trans h.ws hbr) hcs _ _ _ _ _,hfr,hc⟩
set_option maxHeartbeats 2000000 in
theorem l3step_while (lo : Gr) (ow : Nat → Nat) (w : World) (v0 v1 v2 v3 v4 : Value) (ps : List S51) (qs : List (List Int)) (ys : List S38) (h : SV lo ow w v0 v1 v2 v3 v4 ps qs ys) (who : Nat) (hwho : who < ps.length) (hlo : lo.n ≤ w.heap.size) (a b n : Int) (body els rest : List S69) (he : ps[who].f1 = (⟨7,a,b,n,body,els⟩ : S69) :: rest) (hm : ps[who].f2 = 0) (lr : rest.length ≤ 400000000) (ha0 : 0 ≤ a) (ha1 : a < 3) (l4 : body.length ≤ 2000000) (l5 : els.length ≤ 2000000) :
  Calls Try.prog 31 #[.agg #[v0,v1,v2,v3,v4],.int .i64 who] w fun e w'=>∃ lst,e = .returned (.agg #[v0,v1,v2,v3,v4]) ∧ SV lo ow w' v0 v1 v2 v3 v4 (ps.set who ⟨ps[who].f0,lst,ps[who].f2,ps[who].f3,ps[who].f4⟩) qs ys ∧ Fr ow w w' ∧ (lst = body ++ ((⟨7,a,b,n,body,els⟩ : S69) :: rest) ∨ lst = body ++ rest ∨ lst = els ++ rest ∨ lst = rest):=by
 obtain ⟨A,c,rfl⟩:=Kd.R_slice h.sa
 refine (l3step_do lo ow w _ _ _ _ _ ps qs ys h who hwho hlo 7 a b n body els rest he hm lr (fun v9 w2=>v9 = .slice A ys.length c ∧ ∃ lst,SV lo ow w2 v0 v1 v2 v3 v9 (ps.set who ⟨ps[who].f0,lst,ps[who].f2,ps[who].f3,ps[who].f4⟩) qs ys ∧ (lst = body ++ ((⟨7,a,b,n,body,els⟩ : S69) :: rest) ∨ lst = body ++ rest ∨ lst = els ++ rest ∨ lst = rest)) (fun _ W vb ve vr hb h4 h5 hr=>(l3goes_says lo ow W _ _ _ _ _ ps qs ys (h.below hb) who hwho 7 a b n vb ve vr body els rest h4 h5 hr (by decide) ha0 ha1 l4 l5 (by omega) (Nat.le_trans hlo hb.size)).mono (by rintro e w2 ⟨lst,rfl,hsv,hfr,hcs⟩;exact ⟨A,_,c,rfl,hfr,rfl,lst,hsv,hcs.imp (fun h=>by simpa using h.2) (fun h=>h)⟩)) (fun hx=>absurd hx (by decide)) (fun hx=>absurd hx (by decide))).mono ?_
 rintro e w' ⟨A9,n9,c9,w2,br,cs,rfl,hfr,⟨hv,lst,hsv,hc⟩,hbr,hcs,rfl⟩
 obtain ⟨e1,e2,e3⟩:=Value.slice.inj hv
 subst e1;subst e2;subst e3
 exact ⟨lst,rfl,hsv.setW5 (Nat.le_trans h.ws hbr) hcs _ _ _ _ _,hfr,hc⟩
set_option maxHeartbeats 2000000 in
theorem l3step_leave (lo : Gr) (ow : Nat → Nat) (w : World) (v0 v1 v2 v3 v4 : Value) (ps : List S51) (qs : List (List Int)) (ys : List S38) (h : SV lo ow w v0 v1 v2 v3 v4 ps qs ys) (who : Nat) (hwho : who < ps.length) (hlo : lo.n ≤ w.heap.size) (a b n : Int) (body els rest : List S69) (he : ps[who].f1 = (⟨12,a,b,n,body,els⟩ : S69) :: rest) (hm : ps[who].f2 = 0) (lr : rest.length ≤ 400000000) (ha0 : 0 ≤ a) (ha1 : a < 2) (l4 : body.length ≤ 2000000) (l5 : els.length ≤ 2000000) :
  Calls Try.prog 31 #[.agg #[v0,v1,v2,v3,v4],.int .i64 who] w fun e w'=>e = .returned (.agg #[v0,v1,v2,v3,v4]) ∧ SV lo ow w' v0 v1 v2 v3 v4 (ps.set who ⟨ps[who].f0,rest,ps[who].f2,ps[who].f3,-1⟩) qs ys ∧ Fr ow w w':=by
 obtain ⟨A,c,rfl⟩:=Kd.R_slice h.sa
 refine (l3step_do lo ow w _ _ _ _ _ ps qs ys h who hwho hlo 12 a b n body els rest he hm lr (fun v9 w2=>v9 = .slice A ys.length c ∧ SV lo ow w2 v0 v1 v2 v3 v9 (ps.set who ⟨ps[who].f0,rest,ps[who].f2,ps[who].f3,-1⟩) qs ys) (fun hx=>absurd hx (by decide)) (fun _ W vb ve vr hb h4 h5 hr=>(l3room_leave lo ow W _ _ _ _ _ ps qs ys (h.below hb) who hwho a b n vb ve vr body els rest h4 h5 hr ha0 ha1 l4 l5 (by omega) (Nat.le_trans hlo hb.size)).mono (by rintro e w2 ⟨rfl,hsv,hfr⟩;exact ⟨A,_,c,rfl,hfr,rfl,hsv⟩)) (fun hx=>absurd hx (by decide))).mono ?_
 rintro e w' ⟨A9,n9,c9,w2,br,cs,rfl,hfr,⟨hv,hsv⟩,hbr,hcs,rfl⟩
 obtain ⟨e1,e2,e3⟩:=Value.slice.inj hv
 subst e1;subst e2;subst e3
 exact ⟨rfl,hsv.setW5 (Nat.le_trans h.ws hbr) hcs _ _ _ _ _,hfr⟩
set_option maxHeartbeats 2000000 in
theorem l3step_in (lo : Gr) (ow : Nat → Nat) (w : World) (v0 v1 v2 v3 v4 : Value) (ps : List S51) (qs : List (List Int)) (ys : List S38) (h : SV lo ow w v0 v1 v2 v3 v4 ps qs ys) (who : Nat) (hwho : who < ps.length) (hlo : lo.n ≤ w.heap.size) (a b n : Int) (body els rest : List S69) (he : ps[who].f1 = (⟨8,a,b,n,body,els⟩ : S69) :: rest) (hm : ps[who].f2 = 0) (lr : rest.length ≤ 400000000) (ha0 : 0 ≤ a) (ha1 : a < 2) (l4 : body.length ≤ 2000000) (l5 : els.length ≤ 2000000) :
  Calls Try.prog 31 #[.agg #[v0,v1,v2,v3,v4],.int .i64 who] w fun e w'=>e = .returned (.agg #[v0,v1,v2,v3,v4]) ∧ SV lo ow w' v0 v1 v2 v3 v4 (ps.set who ⟨ps[who].f0,body ++ ([⟨12,a,0,0,[],[]⟩] ++ rest),ps[who].f2,ps[who].f3,a⟩) qs ys ∧ Fr ow w w':=by
 obtain ⟨A,c,rfl⟩:=Kd.R_slice h.sa
 refine (l3step_do lo ow w _ _ _ _ _ ps qs ys h who hwho hlo 8 a b n body els rest he hm lr (fun v9 w2=>v9 = .slice A ys.length c ∧ SV lo ow w2 v0 v1 v2 v3 v9 (ps.set who ⟨ps[who].f0,body ++ ([⟨12,a,0,0,[],[]⟩] ++ rest),ps[who].f2,ps[who].f3,a⟩) qs ys) (fun hx=>absurd hx (by decide)) (fun _ W vb ve vr hb h4 h5 hr=>(l3room_in lo ow W _ _ _ _ _ ps qs ys (h.below hb) who hwho a b n vb ve vr body els rest h4 h5 hr ha0 ha1 l4 l5 (by omega) (Nat.le_trans hlo hb.size)).mono (by rintro e w2 ⟨rfl,hsv,hfr⟩;exact ⟨A,_,c,rfl,hfr,rfl,hsv⟩)) (fun hx=>absurd hx (by decide))).mono ?_
 rintro e w' ⟨A9,n9,c9,w2,br,cs,rfl,hfr,⟨hv,hsv⟩,hbr,hcs,rfl⟩
 obtain ⟨e1,e2,e3⟩:=Value.slice.inj hv
 subst e1;subst e2;subst e3
 exact ⟨rfl,hsv.setW5 (Nat.le_trans h.ws hbr) hcs _ _ _ _ _,hfr⟩
set_option maxHeartbeats 2000000 in
theorem l3step_signal (lo : Gr) (ow : Nat → Nat) (w : World) (v0 v1 v2 v3 v4 : Value) (ps : List S51) (qs : List (List Int)) (ys : List S38) (h : SV lo ow w v0 v1 v2 v3 v4 ps qs ys) (who : Nat) (hwho : who < ps.length) (hlo : lo.n ≤ w.heap.size) (a b n : Int) (body els rest : List S69) (he : ps[who].f1 = (⟨10,a,b,n,body,els⟩ : S69) :: rest) (hm : ps[who].f2 = 0) (lr : rest.length ≤ 400000000) (ha0 : 0 ≤ a) (ha1 : a < 2) (l4 : body.length ≤ 2000000) (l5 : els.length ≤ 2000000) (hq2 : qs.length ≤ 1000) (hp2x : ps.length ≤ 1000) (s : Nat) (hsa : a = (s : Int)) (haq : s < qs.length) (hin : ∀ x ∈ qs[s],0 ≤ x ∧ x < ps.length) :
  Calls Try.prog 31 #[.agg #[v0,v1,v2,v3,v4],.int .i64 who] w fun e w'=>e = .returned (.agg #[v0,v1,v2,v3,v4]) ∧ Fr ow w w' ∧ ((qs[s] = [] ∧ SV lo ow w' v0 v1 v2 v3 v4 (ps.set who ⟨ps[who].f0,rest,ps[who].f2,ps[who].f3,ps[who].f4⟩) qs ys) ∨ ∃ (i : Nat) (hi : i < (ps.set who ⟨ps[who].f0,rest,ps[who].f2,ps[who].f3,ps[who].f4⟩).length) (l : List Int),qs[s] = (i : Int) :: l ∧ SV lo ow w' v0 v1 v2 v3 v4 ((ps.set who ⟨ps[who].f0,rest,ps[who].f2,ps[who].f3,ps[who].f4⟩).set i ⟨(ps.set who ⟨ps[who].f0,rest,ps[who].f2,ps[who].f3,ps[who].f4⟩)[i].f0,(ps.set who ⟨ps[who].f0,rest,ps[who].f2,ps[who].f3,ps[who].f4⟩)[i].f1,2,0,(ps.set who ⟨ps[who].f0,rest,ps[who].f2,ps[who].f3,ps[who].f4⟩)[i].f4⟩) (qs.set s l) ys):=by
 obtain ⟨A,c,rfl⟩:=Kd.R_slice h.sa
 refine (l3step_do lo ow w _ _ _ _ _ ps qs ys h who hwho hlo 10 a b n body els rest he hm lr (fun v9 w2=>v9 = .slice A ys.length c ∧ ((qs[s] = [] ∧ SV lo ow w2 v0 v1 v2 v3 v9 (ps.set who ⟨ps[who].f0,rest,ps[who].f2,ps[who].f3,ps[who].f4⟩) qs ys) ∨ ∃ (i : Nat) (hi : i < (ps.set who ⟨ps[who].f0,rest,ps[who].f2,ps[who].f3,ps[who].f4⟩).length) (l : List Int),qs[s] = (i : Int) :: l ∧ SV lo ow w2 v0 v1 v2 v3 v9 ((ps.set who ⟨ps[who].f0,rest,ps[who].f2,ps[who].f3,ps[who].f4⟩).set i ⟨(ps.set who ⟨ps[who].f0,rest,ps[who].f2,ps[who].f3,ps[who].f4⟩)[i].f0,(ps.set who ⟨ps[who].f0,rest,ps[who].f2,ps[who].f3,ps[who].f4⟩)[i].f1,2,0,(ps.set who ⟨ps[who].f0,rest,ps[who].f2,ps[who].f3,ps[who].f4⟩)[i].f4⟩) (qs.set s l) ys)) (fun hx=>absurd hx (by decide)) (fun _ W vb ve vr hb h4 h5 hr=>(l3room_signal lo ow W _ _ _ _ _ ps qs ys (h.below hb) who hwho a b n vb ve vr body els rest h4 h5 hr ha0 ha1 l4 l5 (by omega) (Nat.le_trans hlo hb.size) hq2 hp2x s hsa haq hin).mono (by rintro e w2 ⟨rfl,hfr,hres⟩;exact ⟨A,_,c,rfl,hfr,rfl,hres⟩)) (fun hx=>absurd hx (by decide))).mono ?_
 rintro e w' ⟨A9,n9,c9,w2,br,cs,rfl,hfr,⟨hv,hres⟩,hbr,hcs,rfl⟩
 obtain ⟨e1,e2,e3⟩:=Value.slice.inj hv
 subst e1;subst e2;subst e3
 refine ⟨rfl,hfr,?_⟩
 rcases hres with ⟨e1,sv⟩ | ⟨i,hi,l,e1,sv⟩
 ·exact .inl ⟨e1,sv.setW5 (Nat.le_trans h.ws hbr) hcs _ _ _ _ _⟩
 ·exact .inr ⟨i,hi,l,e1,sv.setW5 (Nat.le_trans h.ws hbr) hcs _ _ _ _ _⟩
set_option maxHeartbeats 2000000 in
theorem l3step_wait (lo : Gr) (ow : Nat → Nat) (w : World) (v0 v1 v2 v3 v4 : Value) (ps : List S51) (qs : List (List Int)) (ys : List S38) (h : SV lo ow w v0 v1 v2 v3 v4 ps qs ys) (who : Nat) (hwho : who < ps.length) (hlo : lo.n ≤ w.heap.size) (a b n : Int) (body els rest : List S69) (he : ps[who].f1 = (⟨9,a,b,n,body,els⟩ : S69) :: rest) (hm : ps[who].f2 = 0) (lr : rest.length ≤ 400000000) (ha0 : 0 ≤ a) (ha1 : a < 2) (l4 : body.length ≤ 2000000) (l5 : els.length ≤ 2000000) (s : Nat) (hsa : a = (s : Int)) (haq : s < qs.length) (lq : qs[s].length ≤ 1000000) (ro : Nat) (hro : ps[who].f4 = (ro : Int)) (hro2 : ro < 2) :
  Calls Try.prog 31 #[.agg #[v0,v1,v2,v3,v4],.int .i64 who] w fun e w'=>e = .returned (.agg #[v0,v1,v2,v3,v4]) ∧ Fr ow w w' ∧ ∃ ow',SV lo ow' w' v0 v1 v2 v3 v4 (ps.set who ⟨ps[who].f0,rest,1,a,ps[who].f4⟩) (qs.set s (qs[s] ++ [(who : Int)])) ys ∧ ∀ k,k < w.heap.size → ow' k = ow k:=by
 obtain ⟨A,c,rfl⟩:=Kd.R_slice h.sa
 refine (l3step_do lo ow w _ _ _ _ _ ps qs ys h who hwho hlo 9 a b n body els rest he hm lr (fun v9 w2=>v9 = .slice A ys.length c ∧ ∃ ow',SV lo ow' w2 v0 v1 v2 v3 v9 (ps.set who ⟨ps[who].f0,rest,1,a,ps[who].f4⟩) (qs.set s (qs[s] ++ [(who : Int)])) ys ∧ ∀ k,k < w.heap.size → ow' k = ow k) (fun hx=>absurd hx (by decide)) (fun _ W vb ve vr hb h4 h5 hr=>(l3room_wait lo ow W _ _ _ _ _ ps qs ys (h.below hb) who hwho a b n vb ve vr body els rest h4 h5 hr ha0 ha1 l4 l5 (by omega) (Nat.le_trans hlo hb.size) s hsa haq lq ro hro hro2).mono (by rintro e w2 ⟨rfl,hfr,ow',hsv,hext⟩;exact ⟨A,_,c,rfl,hfr,rfl,ow',hsv,fun k hk=>hext k (Nat.lt_of_lt_of_le hk hb.size)⟩)) (fun hx=>absurd hx (by decide))).mono ?_
 rintro e w' ⟨A9,n9,c9,w2,br,cs,rfl,hfr,⟨hv,ow',hsv,hext⟩,hbr,hcs,rfl⟩
 obtain ⟨e1,e2,e3⟩:=Value.slice.inj hv
 subst e1;subst e2;subst e3
 exact ⟨rfl,hfr,ow',hsv.setW5 (Nat.le_trans h.ws hbr) hcs _ _ _ _ _,hext⟩
set_option maxHeartbeats 2000000 in
theorem l3step_leaf (lo : Gr) (ow : Nat → Nat) (w : World) (v0 v1 v2 v3 v4 : Value) (ps : List S51) (qs : List (List Int)) (ys : List S38) (h : SV lo ow w v0 v1 v2 v3 v4 ps qs ys) (who : Nat) (hwho : who < ps.length) (hlo : lo.n ≤ w.heap.size) (k a b n : Int) (body els rest : List S69) (he : ps[who].f1 = (⟨k,a,b,n,body,els⟩ : S69) :: rest) (hm : ps[who].f2 = 0) (lr : rest.length ≤ 400000000) (hk : LeafIn k a b) (hkk : k ≠ 6 ∧ k ≠ 7 ∧ k ≠ 8 ∧ k ≠ 9 ∧ k ≠ 10 ∧ k ≠ 12) (hp2x : ps.length ≤ 1000) (hy : ys.length ≤ 1000000) :
  Calls Try.prog 31 #[.agg #[v0,v1,v2,v3,v4],.int .i64 who] w fun e w'=>∃ ow' v4' ys',e = .returned (.agg #[v0,v1,v2,v3,v4']) ∧ SV lo ow' w' v0 v1 v2 v3 v4' (ps.set who ⟨ps[who].f0,rest,ps[who].f2,ps[who].f3,ps[who].f4⟩) qs ys' ∧ (∀ k,k < w.heap.size → ow' k = ow k) ∧ Fr ow w w' ∧ (ys' = ys ∨ ∃ z,ys' = ys ++ [⟨who,z⟩]):=by
 obtain ⟨A,c,rfl⟩:=Kd.R_slice h.sa
 refine (l3step_do lo ow w _ _ _ _ _ ps qs ys h who hwho hlo k a b n body els rest he hm lr (fun v9 w2=>∃ ow' ys',SV lo ow' w2 v0 v1 v2 v3 v9 (ps.set who ⟨ps[who].f0,rest,ps[who].f2,ps[who].f3,ps[who].f4⟩) qs ys' ∧ (∀ k,k < w.heap.size → ow' k = ow k) ∧ (ys' = ys ∨ ∃ z,ys' = ys ++ [⟨who,z⟩])) (fun hx=>by omega) (fun hx=>by omega) (fun _ W A4 A5 n4 c4 n5 c5 hsv hsz=>(l3leaf_says lo ow W _ _ _ _ _ _ qs ys hsv who (by rw [List.length_set];exact hwho) k a b n A4 A5 n4 c4 n5 c5 hk (by rw [List.length_set];exact hp2x) hy (Nat.le_trans hlo hsz)).mono (by rintro e w2 ⟨ow',v4',ys',rfl,hs2,hext,hfr,hys⟩;exact (by (obtain ⟨A9,c9,rfl⟩:=Kd.R_slice hs2.sa);exact ⟨A9,_,c9,rfl,hfr,ow',ys',hs2,fun k hk=>hext k (Nat.lt_of_lt_of_le hk hsz),hys⟩)))).mono ?_
 rintro e w' ⟨A9,n9,c9,w2,br,cs,rfl,hfr,⟨ow',ys',hsv,hext,hys⟩,hbr,hcs,rfl⟩
 exact ⟨ow',_,ys',rfl,hsv.setW5 (Nat.le_trans h.ws hbr) hcs _ _ _ _ _,hext,hfr,hys⟩
end Go.Proofs.Ytfbocgagfodgnaa.P

namespace Go.Proofs.Ytfbocgagfodgnaa.P
open Go.RowKit Go.Proofs.YtfbocgagfodgnaaW.PrintWords Go.Proofs.YtfbocgagfodgnaaW.PrintMore
def smallS : Nat → S69 → Prop
 | 0,_=>True
 | d + 1,s=>(s.f4.length ≤ 1048576 ∧ ∀ x ∈ s.f4,smallS d x) ∧ (s.f5.length ≤ 1048576 ∧ ∀ x ∈ s.f5,smallS d x)
def inR (a n : Int) : Bool:=decide (0 ≤ a) && decide (a < n)
def numR (a : Int) : Bool:=decide (-999 ≤ a) && decide (a ≤ 999)
def leafOk (a0 a1 a2 a3 room : Int) : Bool :=
 if a0 = 1 then inR a1 3 && (decide (a2 = 0) && numR a3) else if a0 = 2 then inR a1 3 && (inR a2 3 && (decide (1 ≤ a3) && decide (a3 ≤ 5))) else
 if a0 = 3 then inR a1 3 && (inR a2 3 && decide (a3 = 0)) else if a0 = 4 then inR a1 3 && (inR a2 3 && decide (a3 = 0)) else
 if a0 = 5 then inR a1 3 && (decide (a2 = 0) && decide (a3 = 0)) else if a0 = 9 then decide (0 ≤ room) && (inR a1 2 && (decide (a2 = 0) && decide (a3 = 0))) else
 if a0 = 10 then inR a1 2 && (decide (a2 = 0) && decide (a3 = 0)) else if a0 = 11 then decide (a1 = 0) && (decide (a2 = 0) && decide (a3 = 0)) else false
def okS : Nat → S69 → Int → Bool
 | 0,_,_=>false
 | d + 1,s,room =>
  if s.f0 = 6 then inR s.f1 3 && (decide (s.f2 = 0) && (decide (s.f3 = 0) && (s.f4.all (fun x=>okS d x room) && s.f5.all (fun x=>okS d x room)))) else
  if s.f5.length = 0 then
   if s.f0 = 7 then inR s.f1 3 && (decide (s.f2 = 0) && (decide (s.f3 = 0) && s.f4.all (fun x=>okS d x room))) else
   if s.f0 = 8 then decide (room < 0) && (inR s.f1 2 && (decide (s.f2 = 0) && (decide (s.f3 = 0) && s.f4.all (fun x=>okS d x s.f1)))) else
   decide (s.f4.length = 0) && leafOk s.f0 s.f1 s.f2 s.f3 room
  else false
theorem all_range_rd (l : List S69) (p : S69 → Bool) : (List.range l.length).all (fun i=>p (rd_T69 l (i : Int))) = l.all p:=by
 rw [Bool.eq_iff_iff,List.all_eq_true,List.all_eq_true]
 constructor
 ·intro h x hx
  obtain ⟨i,hi,rfl⟩:=List.mem_iff_getElem.1 hx
  have:=h i (List.mem_range.2 hi)
  unfold rd_T69 at this
  rwa [Int.toNat_natCast,List.getD_eq_getElem?_getD,List.getElem?_eq_getElem hi] at this
 ·intro h i hi
  have hi:=List.mem_range.1 hi
  unfold rd_T69
  rw [Int.toNat_natCast,List.getD_eq_getElem?_getD,List.getElem?_eq_getElem hi]
  exact h _ (List.getElem_mem hi)
theorem rd_mem {l : List S69} {i : Nat} (h : i < l.length) : rd_T69 l (i : Int) ∈ l:=by
 unfold rd_T69
 rw [Int.toNat_natCast,List.getD_eq_getElem?_getD,List.getElem?_eq_getElem h]
 exact List.getElem_mem h
theorem ev_and {f : Nat → Option Bool} {c : Prop} [Decidable c] {r : Bool} (h : c → Ev f r) : Ev (fun k=>if c then f k else some false) (decide c && r):=by
 by_cases hc : c
 ·rw [decide_eq_true hc,Bool.true_and]
  exact Evs.ite_pos hc (h hc)
 ·rw [decide_eq_false hc,Bool.false_and]
  exact Evs.ite_neg hc (Evs.some_ _)
theorem ev_band {f : Nat → Option Bool} {b r : Bool} (h : b = true → Ev f r) : Ev (fun k=>if b = true then f k else some false) (b && r):=by
 cases b with
 | false=>exact Evs.ite_neg (by simp) (Evs.some_ _)
 | true=>exact Evs.ite_pos rfl (h rfl)
theorem ev_inR {f : Nat → Option Bool} {a n : Int} {r : Bool} (h : 0 ≤ a → a < n → Ev f r) : Ev (fun k=>if a ≥ 0 then (if a < n then f k else some false) else some false) (inR a n && r):=by
 unfold inR
 rw [Bool.and_assoc]
 exact ev_and (c:=0 ≤ a) fun h1=>ev_and fun h2=>h h1 h2
theorem ev_last {f : Nat → Option Bool} {r : Bool} (h : Ev f r) : Ev (fun k=>(f k).bind fun t=>some t) r:=Evs.bind h (Evs.some_ _)
theorem ev_last2 {f g : Nat → Option Bool} {r q : Bool} (h : Ev f r) (h2 : Ev g q) : Ev (fun k=>(f k).bind fun t=>if t = true then (g k).bind fun u=>some u else some false) (r && q) :=
 Evs.bind h (ev_band fun _=>ev_last h2)
theorem numR_ev (a : Int) : spec_NumOk.f a = some (numR a):=by
 unfold spec_NumOk.f numR
 by_cases h : a ≥ -999
 ·rw [if_pos h,decide_eq_true (show -999 ≤ a from h),Bool.true_and]
 ·rw [if_neg h,decide_eq_false (show ¬ -999 ≤ a from h),Bool.false_and]
theorem leaf_j1 (a0 a1 a2 a3 room : Int) (l4 l5 : List S69) : Ev (fun k=>spec_l2Leaf.j1 k room (inR a1 3) (inR a2 3) a0 a1 a2 a3 l4 l5) (leafOk a0 a1 a2 a3 room):=by
 have z : Ev (fun _ : Nat=>some (a3 == 0)) (decide (a3 = 0)):=Evs.some_ _
 refine Evs.succ (fun k=>by simp only [spec_l2Leaf.j1];rfl) ?_
 unfold leafOk
 by_cases h1 : a0 = 1
 ·simp only [if_pos h1]
  exact (ev_band fun _=>ev_and fun _=>Evs.bind0 (numR_ev a3) (Evs.some_ _))
 simp only [if_neg h1]
 by_cases h2 : a0 = 2
 ·simp only [if_pos h2]
  exact (ev_band fun _=>ev_band fun _=>ev_and (c:=1 ≤ a3) fun _=>Evs.some_ _)
 simp only [if_neg h2]
 by_cases h3 : a0 = 3
 ·simp only [if_pos h3]
  exact (ev_band fun _=>ev_inR fun _ _=>z)
 simp only [if_neg h3]
 by_cases h4 : a0 = 4
 ·simp only [if_pos h4]
  exact (ev_inR fun _ _=>ev_band fun _=>z)
 simp only [if_neg h4]
 by_cases h5 : a0 = 5
 ·simp only [if_pos h5]
  exact (ev_band fun _=>ev_and fun _=>z)
 simp only [if_neg h5]
 by_cases h9 : a0 = 9
 ·simp only [if_pos h9]
  exact (ev_and (c:=0 ≤ room) fun _=>ev_inR fun _ _=>ev_and fun _=>z)
 simp only [if_neg h9]
 by_cases h10 : a0 = 10
 ·simp only [if_pos h10]
  exact (ev_inR fun _ _=>ev_and fun _=>z)
 simp only [if_neg h10]
 by_cases h11 : a0 = 11
 ·simp only [if_pos h11]
  exact (ev_and fun _=>ev_and fun _=>z)
 simp only [if_neg h11]
 exact Evs.some_ _
theorem leaf_ev (a0 a1 a2 a3 room : Int) (l4 l5 : List S69) : Ev (fun k=>spec_l2Leaf.f k a0 a1 a2 a3 l4 l5 room) (leafOk a0 a1 a2 a3 room):=by
 have j1:=leaf_j1 a0 a1 a2 a3 room l4 l5
 have j0 : Ev (fun k=>spec_l2Leaf.j0 k room (inR a1 3) a0 a1 a2 a3 l4 l5) (leafOk a0 a1 a2 a3 room):=by
  refine Evs.succ (fun k=>by simp only [spec_l2Leaf.j0];rfl) ?_
  by_cases h : a2 ≥ 0
  ·have e : inR a2 3 = decide (a2 < 3):=by unfold inR;rw [decide_eq_true (show 0 ≤ a2 from h),Bool.true_and]
   rw [e] at j1
   exact Evs.ite_pos h j1
  ·have e : inR a2 3 = false:=by unfold inR;rw [decide_eq_false (show ¬ 0 ≤ a2 from h),Bool.false_and]
   rw [e] at j1
   exact Evs.ite_neg h j1
 unfold spec_l2Leaf.f
 by_cases h : a1 ≥ 0
 ·have e : inR a1 3 = decide (a1 < 3):=by unfold inR;rw [decide_eq_true (show 0 ≤ a1 from h),Bool.true_and]
  rw [e] at j0
  exact Evs.ite_pos h j0
 ·have e : inR a1 3 = false:=by unfold inR;rw [decide_eq_false (show ¬ 0 ≤ a1 from h),Bool.false_and]
  rw [e] at j0
  exact Evs.ite_neg h j0
end Go.Proofs.Ytfbocgagfodgnaa.P
namespace Go.Proofs.Ytfbocgagfodgnaa.P
open Go.RowKit Go.Proofs.YtfbocgagfodgnaaW.PrintWords Go.Proofs.YtfbocgagfodgnaaW.PrintMore
set_option linter.unusedVariables false
set_option linter.unusedSimpArgs false
theorem specList_of (d : Nat) (hd : d ≤ 1000) (h : ∀ s room,-1 ≤ room → smallS d s → Ev (fun k=>spec_l2Stmt.f k s.f0 s.f1 s.f2 s.f3 s.f4 s.f5 (d : Int) room) (okS d s room)) (l : List S69) (room : Int) (hr : -1 ≤ room) (hl : l.length ≤ 1048576) (hs : ∀ x ∈ l,smallS d x) :
  Ev (fun k=>spec_l2List.f k l (d : Int) room) (l.all fun x=>okS d x room):=by
 refine Evs.succ (fun k=>by simp only [spec_l2List.f];rfl) ?_
 rw [← all_range_rd l (fun x=>okS d x room)]
 refine all_loop (fun k i=>spec_l2List.l0 k l (d : Int) room i) l.length _ (fun i r hi hq hr'=>?_) (fun i hi hq=>?_) ?_
 ·refine Evs.succ (fun k=>by simp only [spec_l2List.l0];rfl) ?_
  refine Evs.ite_pos (by omega) (Evs.ite_pos (by omega) (Evs.bind (h _ room hr (hs _ (rd_mem hi))) (Evs.ite_pos hq ?_)))
  rw [wrap_succ (by omega)]
  exact hr'
 ·refine Evs.succ (fun k=>by simp only [spec_l2List.l0];rfl) ?_
  exact Evs.ite_pos (by omega) (Evs.ite_pos (by omega) (Evs.bind (h _ room hr (hs _ (rd_mem hi))) (Evs.ite_neg (by simpa using hq) (Evs.some_ _))))
 ·refine Evs.succ (fun k=>by simp only [spec_l2List.l0];rfl) ?_
  exact Evs.ite_neg (by omega) (Evs.some_ _)
theorem specStmt_ev : ∀ (d : Nat),d ≤ 1000 → ∀ s room,-1 ≤ room → smallS d s → Ev (fun k=>spec_l2Stmt.f k s.f0 s.f1 s.f2 s.f3 s.f4 s.f5 (d : Int) room) (okS d s room)
 | 0,hd,s,room,hr,hs=>by
  have bad : Ev (fun k=>spec_l2Stmt.j0 k ((0 : Nat) : Int) room true s.f0 s.f1 s.f2 s.f3 s.f4 s.f5) false:=by
   refine Evs.succ (fun k=>by simp only [spec_l2Stmt.j0];rfl) ?_
   exact Evs.ite_pos (by trivial) (Evs.some_ _)
  have e : decide (((0 : Nat) : Int) < 1) = true:=rfl
  refine Evs.succ (fun k=>by simp only [spec_l2Stmt.f,e];rfl) ?_
  by_cases h6 : s.f0 = 6
  ·exact Evs.ite_pos h6 bad
  ·refine Evs.ite_neg h6 ?_
   by_cases h5 : (s.f5.length : Int) > 0
   ·exact Evs.ite_pos h5 bad
   ·exact Evs.ite_neg h5 bad
 | d + 1,hd,s,room,hr,hs=>by
  have ih:=fun l m h1 h2 h3=>specList_of d (by omega) (specStmt_ev d (by omega)) l m h1 h2 h3
  obtain ⟨⟨q4,q4'⟩,q5,q5'⟩:=hs
  have ew : wrap64 (((d + 1 : Nat) : Int) - 1) = (d : Int):=by rw [wrap_id (by omega) (by omega)];omega
  have e : decide (((d + 1 : Nat) : Int) < 1) = false:=decide_eq_false (by omega)
  have bad : Ev (fun k=>spec_l2Stmt.j0 k ((d + 1 : Nat) : Int) room true s.f0 s.f1 s.f2 s.f3 s.f4 s.f5) false:=by
   refine Evs.succ (fun k=>by simp only [spec_l2Stmt.j0];rfl) ?_
   exact Evs.ite_pos (by trivial) (Evs.some_ _)
  have both6 : Ev (fun k=>spec_l2Stmt.j1 k ((d + 1 : Nat) : Int) room s.f0 true s.f0 s.f1 s.f2 s.f3 s.f4 s.f5) (inR s.f1 3 && (decide (s.f2 = 0) && (decide (s.f3 = 0) && (s.f4.all (fun x=>okS d x room) && s.f5.all (fun x=>okS d x room))))):=by
   refine Evs.succ (fun k=>by simp only [spec_l2Stmt.j1,ew];rfl) ?_
   exact Evs.ite_pos (by trivial) (ev_inR fun _ _=>ev_and fun _=>ev_and fun _=>ev_last2 (ih _ _ hr q4 q4') (ih _ _ hr q5 q5'))
  unfold okS
  refine Evs.succ (fun k=>by simp only [spec_l2Stmt.f,e];rfl) ?_
  by_cases h6 : s.f0 = 6
  ·simp only [if_pos h6]
   refine Evs.succ (fun k=>by simp only [spec_l2Stmt.j0];rfl) ?_
   have e6 : (s.f0 == 6) = true:=by simpa using h6
   rw [e6]
   exact Evs.ite_neg (by simp) (Evs.ite_pos h6 both6)
  simp only [if_neg h6]
  by_cases h5 : s.f5.length = 0
  ·have h5' : ¬ (s.f5.length : Int) > 0:=by omega
   simp only [if_pos h5,if_neg h5']
   refine Evs.succ (fun k=>by simp only [spec_l2Stmt.j0];rfl) ?_
   refine Evs.ite_neg (by simp) (Evs.ite_neg h6 ?_)
   by_cases h7 : s.f0 = 7
   ·have e7 : (s.f0 == 7) = true:=by simpa using h7
    simp only [if_pos h7]
    rw [e7]
    have n5 : s.f5.all (fun x=>okS d x room) = true:=by rw [List.eq_nil_of_length_eq_zero h5];rfl
    rw [n5,Bool.and_true] at both6
    exact both6
   have e7 : (s.f0 == 7) = false:=by simpa using h7
   simp only [if_neg h7]
   rw [e7]
   refine Evs.succ (fun k=>by simp only [spec_l2Stmt.j1,ew];rfl) ?_
   refine Evs.ite_neg (by simp) ?_
   by_cases h8 : s.f0 = 8
   ·simp only [if_pos h8]
    exact ev_and fun _=>ev_inR fun h1 _=>ev_and fun _=>ev_and fun _=>ev_last (ih _ _ (by omega) q4 q4')
   simp only [if_neg h8]
   by_cases h4 : s.f4.length = 0
   ·rw [decide_eq_true h4,Bool.true_and]
    exact Evs.ite_pos (by omega) (ev_last (leaf_ev _ _ _ _ _ _ _))
   ·rw [decide_eq_false h4,Bool.false_and]
    exact Evs.ite_neg (by omega) (Evs.some_ _)
  ·have h5' : (s.f5.length : Int) > 0:=by omega
   simp only [if_neg h5,if_pos h5']
   exact bad
end Go.Proofs.Ytfbocgagfodgnaa.P
namespace Go.Proofs.Ytfbocgagfodgnaa.P
open Go.RowKit Go.Proofs.YtfbocgagfodgnaaW.PrintWords Go.Proofs.YtfbocgagfodgnaaW.PrintMore
set_option linter.unusedVariables false
set_option linter.unusedSimpArgs false
theorem okS_succ (d : Nat) (s : S69) (room : Int) : okS (d + 1) s room =
  if s.f0 = 6 then inR s.f1 3 && (decide (s.f2 = 0) && (decide (s.f3 = 0) && (s.f4.all (fun x=>okS d x room) && s.f5.all (fun x=>okS d x room)))) else
  if s.f5.length = 0 then
   if s.f0 = 7 then inR s.f1 3 && (decide (s.f2 = 0) && (decide (s.f3 = 0) && s.f4.all (fun x=>okS d x room))) else
   if s.f0 = 8 then decide (room < 0) && (inR s.f1 2 && (decide (s.f2 = 0) && (decide (s.f3 = 0) && s.f4.all (fun x=>okS d x s.f1)))) else
   decide (s.f4.length = 0) && leafOk s.f0 s.f1 s.f2 s.f3 room
  else false:=rfl
end Go.Proofs.Ytfbocgagfodgnaa.P
