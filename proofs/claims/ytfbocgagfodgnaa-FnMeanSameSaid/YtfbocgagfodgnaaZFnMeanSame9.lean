/- Parts of the proof of FnMeanSame: plain Lean functions of Go functions, and that the calls come to what they say; no condition beyond those that each theorem names. -/
import Derived.Test.YtfbocgagfodgnaaZFnMeanSame8
import Derived.Test.YtfbocgagfodgnaaZFnMeanSame4
namespace Go.Proofs.Ytfbocgagfodgnaa.P
open Go.Proofs.YtfbocgagfodgnaaW.PrintWords renaming Aside0.mk → ö
open List renaming setIfInBounds_toArray → ä, set_cons_zero → ü, set_cons_succ → é
open Go renaming World.block_lt_of_cell? → è, Act.put → á
open Go.RowKit Go.Proofs.YtfbocgagfodgnaaW.PrintWords Go.Proofs.YtfbocgagfodgnaaW.PrintLast Go.Proofs.YtfbocgagfodgnaaW.PrintMore
attribute [local go_sem] max2_int min2_int max_two min_two max_three min_three max_four min_four
set_option linter.unusedVariables false
set_option linter.unusedSimpArgs false
def goes1_T : Bool × List (List Nat × List Nat):=(true,[([],[]),([0],[0]),([],[]),([1,2],[1,2]),([3],[3]),([4],[4]),([],[]),([6],[6]),([5,7],[5,7]),([8],[8]),([9],[9]),([10,0,1,2,3,4,5,6,7,8,9,10],[10])])
def goes1_B : List Nat:=[0,1,0,7,15,31,0,64,255,511,1023,2047]
theorem goes1_tab : rtab .any (opsOf Try.f43 1) = goes1_T:=by kernel_rfl
theorem goes1_bits : waitsOk goes1_T.2 goes1_B = true:=by kernel_rfl
def goes9_T : Bool × List (List Nat × List Nat):=(true,[([],[]),([0],[0]),([],[]),([],[]),([],[]),([3,4],[3,4]),([1,2,0,1,2,3,4,5],[1,2]),([6,0,1,2,3,4,5],[6]),([7,5,5,0,1,2,3,4,5],[5,7])])
def goes9_B : List Nat:=[0,1,0,0,0,24,63,127,255]
theorem goes9_tab : rtab .any (opsOf Try.f43 9) = goes9_T:=by kernel_rfl
theorem goes9_bits : waitsOk goes9_T.2 goes9_B = true:=by kernel_rfl
theorem SV.pfull {lo : Gr} {ow : Nat → Nat} {W : World} {v0 v1 v2 v3 v4 : Value} {ps : List S51} {qs : List (List Int)} {ys : List S38} (h : SV lo ow W v0 v1 v2 v3 v4 ps qs ys) (i : Nat) (hi : i < ps.length) : ∃ g cap gr cr t,v0 = .slice (some ⟨g,0,none⟩) ps.length cap ∧ ow g = 2 ∧ (W.cell? ⟨g,i * 5,none⟩ = some (.slice (some ⟨gr,0,none⟩) 3 cr) ∧ W.cell? ⟨g,i * 5 + 1,none⟩ = some t ∧ W.cell? ⟨g,i * 5 + 2,none⟩ = some (.int .i64 ps[i].f2) ∧ W.cell? ⟨g,i * 5 + 3,none⟩ = some (.int .i64 ps[i].f3) ∧ W.cell? ⟨g,i * 5 + 4,none⟩ = some (.int .i64 ps[i].f4)) ∧ (∀ q,W.frozen? ⟨g,q,none⟩ = false) ∧ (kE lo).R 69 W 0 (fun k=>ow k = 0) t ps[i].f1 ∧ ow gr = 1 ∧ ∀ q,q < 3 → ∃ z,W.cell? ⟨gr,q,none⟩ = some (.int .i64 z) ∧ W.frozen? ⟨gr,q,none⟩ = false:=by
 obtain ⟨g,cap,cells,e,hg,hl,hh,hc⟩:=h.pr
 obtain ⟨r,t,a,b,c,d,e1,hr,ht⟩:=hc i hi
 obtain ⟨gr,cr,er,hgr,hq⟩:=hr.form
 exact ⟨g,cap,gr,cr,t,e,hg,⟨by rw [blk_cell hh,a,er],by rw [blk_cell hh,b],by rw [blk_cell hh,c],by rw [blk_cell hh,d],by rw [blk_cell hh,e1]⟩,fun q=>blk_frozen hh q,ht,hgr,hq⟩
theorem SV.free {lo : Gr} {ow : Nat → Nat} {W : World} {v0 v1 v2 v3 v4 : Value} {ps : List S51} {qs : List (List Int)} {ys : List S38} (h : SV lo ow W v0 v1 v2 v3 v4 ps qs ys) : ∀ k,W.heap.size ≤ k → ow k = 0:=fun k hk=>Classical.byContradiction fun z=>absurd (h.bd k z).2 (by omega)
set_option maxHeartbeats 8000000 in
set_option maxRecDepth 100000 in
theorem l3goes_says (lo : Gr) (ow : Nat → Nat) (w : World) (v0 v1 v2 v3 v4 : Value) (ps : List S51) (qs : List (List Int)) (ys : List S38) (h : SV lo ow w v0 v1 v2 v3 v4 ps qs ys) (who : Nat) (hwho : who < ps.length) (k a b n : Int) (vb ve vr : Value) (body els rest : List S69) (hb4 : Vs lo vb body) (hb5 : Vs lo ve els) (hbr : (kE lo).R 69 w 0 (fun k=>ow k = 0) vr rest) (hk : k = 6 ∨ k = 7) (ha0 : 0 ≤ a) (ha1 : a < 3) (l4 : body.length ≤ 2000000) (l5 : els.length ≤ 2000000) (lr : rest.length ≤ 500000000) (hlo : lo.n ≤ w.heap.size) :
  Calls Try.prog 43 #[.agg #[v0,v1,v2,v3,v4],.int .i64 who,.agg #[.int .i64 k,.int .i64 a,.int .i64 b,.int .i64 n,vb,ve],vr] w fun e w'=>∃ lst,e = .returned (.agg #[v0,v1,v2,v3,v4]) ∧ SV lo ow w' v0 v1 v2 v3 v4 (ps.set who ⟨ps[who].f0,lst,ps[who].f2,ps[who].f3,ps[who].f4⟩) qs ys ∧ Fr ow w w' ∧ ((k = 7 ∧ lst = body ++ [⟨k,a,b,n,body,els⟩] ++ rest) ∨ lst = body ++ rest ∨ lst = els ++ rest ∨ lst = rest):=by
 have hu29:=Try.underlying33
 have hu59:=Try.underlying51
 obtain ⟨g0,cap0,gr,cr,tt,rfl,hg0,⟨hp0,hp1,hp2,hp3,hp4⟩,hpf,_,hgr,hregs⟩:=h.pfull who hwho
 obtain ⟨g1,cap1,rfl,hg1,_⟩:=h.ce.form
 obtain ⟨g2,cap2,rfl,hg2,_⟩:=h.ro.form
 obtain ⟨g3,cap3,cells3,rfl,hg3,_⟩:=h.si
 obtain ⟨A,c,rfl⟩:=Kd.R_slice h.sa
 obtain ⟨A4,c4,rfl⟩:=hb4.slice
 obtain ⟨A5,c5,rfl⟩:=hb5.slice
 obtain ⟨AR,cR,rfl⟩:=Kd.R_slice hbr
 obtain ⟨aa,rfl⟩:=Int.eq_ofNat_of_zero_le ha0
 obtain ⟨z0,hz0,hf0⟩:=hregs aa (by omega)
 have HS:=ö h
 have WS:=ö h.ws
 have HP0:=ö hp0
 have HP1:=ö hp1
 have HPF:=ö hpf
 have HZ0:=ö hz0
 have HB4:=ö hb4
 have HB5:=ö hb5
 have HBR:=ö hbr
 have FREE:=ö h.free
 have HB:=ö (Below.refl w.heap.size w)
 have hgl : g0 < w.heap.size:=è w _ hp0
 have hgrl : gr < w.heap.size:=è w _ hz0
 have GL:=ö hgl
 have GRL:=ö hgrl
 have p1 : 0 ≤ (who : Int):=by omega
 have q1 : (who : Int) < (ps.length : Int):=by omega
 have p2:=eq_true ha0
 have q2:=eq_true ha1
 replace p1:=eq_true p1
 replace q1:=eq_true q1
 clear h hregs hp0 hp1 hp2 hp3 hp4 hpf hz0 hb4 hb5 hbr hgl hgrl ha0 ha1
 by_cases e0 : z0 = 0
 ·have o1 : (z0 != 0) = false:=by simp [e0]
  rcases hk with rfl | rfl
  ·go_enter Try.func43,Try.ntmps43
   go_wp2_with (first | ((with_reducible refine gate_dst (N:=4) rfl ?_);refine box_event ?hg (N:=4) ?hd (cs:=#[.slice (some ⟨g0,0,none⟩) ps.length cap0,.slice (some ⟨g1,0,none⟩) 3 cap1,.slice (some ⟨g2,0,none⟩) 2 cap2,.slice (some ⟨g3,0,none⟩) qs.length cap3,.slice A ys.length c]) (t:=33) ?hr ?_;(case hd=>rfl);(case hg=>rfl);(case hr=>first | (go_simp;done) | (go_simp;rfl));intro bw hg w5 hbox hb;replace HB:=ö (below_step HB.out hb);have GW:=ö (Nat.le_of_eq hg.symm);have BW:=ö hbox;clear hb hbox hg) | ((with_reducible refine gate_dst (N:=6) rfl ?_);refine box_event ?hg (N:=6) ?hd (cs:=#[.int .i64 6,.int .i64 (aa : Int),.int .i64 b,.int .i64 n,.slice A4 body.length c4,.slice A5 els.length c5]) (t:=69) ?hr ?_;(case hd=>rfl);(case hg=>rfl);(case hr=>first | (go_simp;done) | (go_simp;rfl));intro bs hg w6 hbox hb;have n1_:=ö (blk_below BW.out hb);have NS:=ö (show bw ≠ bs by rw [hg];exact Nat.ne_of_lt (blk_lt BW.out));have GS:=ö (show w.heap.size ≤ bs by rw [hg];exact HB.out.size);replace HB:=ö (below_step HB.out hb);clear BW;have BW:=n1_;clear n1_;have BS:=ö hbox;clear hb hbox hg) | ((with_reducible refine gate_dst (N:=8) rfl ?_);refine box_event ?hg (N:=8) ?hd (cs:=#[.slice none 0 0,.slice none 0 0,.slice none 0 0,.slice none 0 0,.slice none 0 0]) (t:=33) ?hr ?_;(case hd=>rfl);(case hg=>rfl);(case hr=>first | (go_simp;done) | (go_simp;rfl));intro br hg w7 hbox hb;have n1_:=ö (blk_below BW.out hb);have n2_:=ö (blk_below BS.out hb);have NR:=ö (show bw ≠ br by rw [hg];exact Nat.ne_of_lt (blk_lt BW.out));have GR:=ö (show w.heap.size ≤ br by rw [hg];exact HB.out.size);replace HB:=ö (below_step HB.out hb);clear BW BS;have BW:=n1_;have BS:=n2_;clear n1_ n2_;have BR:=ö hbox;obtain ⟨hcz_0,hcz_1,hcz_2,hcz_3,hcz_4,hfz_0,hfz_1,hfz_2,hfz_3,hfz_4⟩:=bz5_ BW;obtain ⟨hcy_0,hcy_1,hcy_2,hcy_3,hcy_4,hcy_5,hfy_0,hfy_1,hfy_2,hfy_3,hfy_4,hfy_5⟩:=bz6_ BS;obtain ⟨hcx_0,hcx_1,hcx_2,hcx_3,hcx_4,hfx_0,hfx_1,hfx_2,hfx_3,hfx_4⟩:=bz5_ BR;have hn1:=NR.out;have hn2:=hn1.symm;clear hb hbox hg))
   have m1:=ö (blk_drew BW.out)
   have m2:=ö (blk_drew BS.out)
   have m3:=ö (blk_drew BR.out)
   have m4:=ö (below_drew1 HB.out)
   clear hcz_0 hcz_1 hcz_2 hcz_3 hcz_4 hfz_0 hfz_1 hfz_2 hfz_3 hfz_4 hcx_0 hcx_1 hcx_2 hcx_3 hcx_4 hfx_0 hfx_1 hfx_2 hfx_3 hfx_4 hcy_0 hcy_1 hcy_2 hcy_3 hcy_4 hcy_5 hfy_0 hfy_1 hfy_2 hfy_3 hfy_4 hfy_5
   refine start_ (n:=12) (S:=fun w'=>w'.cell? ⟨bw,0,none⟩ = some (.slice (some ⟨g0,0,none⟩) ps.length cap0) ∧ w'.cell? ⟨g0,who * 5,none⟩ = some (.slice (some ⟨gr,0,none⟩) 3 cr) ∧ w'.cell? ⟨bs,1,none⟩ = some (.int .i64 (aa : Int)) ∧ w'.cell? ⟨gr,aa,none⟩ = some (.int .i64 z0)) (ds:=[]) #[false,false,false,false,false,false,false,false,false,false,false,false] (by kernel_rfl) rfl rfl ⟨(blk_cell m1.out 0).trans rfl,(m4.out.cell (è w _ HP0.out)).trans HP0.out,(blk_cell m2.out 1).trans rfl,(m4.out.cell (è w _ HZ0.out)).trans HZ0.out⟩ (fun hHeld=>?_)
   refine with_tabW goes1_tab goes1_bits (fun HT_ HW_=>?_)
   generalize w7.drew = w8 at m1 m2 m3 m4 hHeld ⊢
   refine pure_ (i:=0) (N:=some 11) (v:=?_) (a':=?_) #[true,false,false,false,false,false,false,false,false,false,false,false] rfl rfl (any_of HT_.out (by kernel_rfl)) (fun _ _ _ h=>h) (Or.inl ⟨by rfl,?_⟩) ?_ ?_
   rotate_left
   ·intro w'
    go_simp
    with_reducible rfl
   rotate_left
   ·(try simp only [á,ä,ü,é,i64_w,i32_w])
    rfl
   refine pure_ (i:=2) (N:=some 13) (v:=?_) (a':=?_) #[true,false,true,false,false,false,false,false,false,false,false,false] rfl rfl (any_of HT_.out (by kernel_rfl)) (fun _ _ _ h=>h) (Or.inl ⟨by rfl,?_⟩) ?_ ?_
   rotate_left
   ·intro w'
    go_simp
    with_reducible rfl
   rotate_left
   ·(try simp only [á,ä,ü,é,i64_w,i32_w])
    rfl
   refine pure_ (i:=6) (N:=some 17) (v:=?_) (a':=?_) #[true,false,true,false,false,false,true,false,false,false,false,false] rfl rfl (any_of HT_.out (by kernel_rfl)) (fun _ _ _ h=>h) (Or.inl ⟨by rfl,?_⟩) ?_ ?_
   rotate_left
   ·intro w'
    go_simp
    with_reducible rfl
   rotate_left
   ·(try simp only [á,ä,ü,é,i64_w,i32_w])
    rfl
   refine take_ (i:=1) (N:=some 12) (v:=?_) (a':=?_) #[true,true,true,false,false,false,true,false,false,false,false,false] rfl rfl (take_ofW HT_.out HW_.out (by kernel_rfl)) (fun _ _ _ h=>h) (Or.inl ⟨by rfl,?_⟩) hHeld ?_ ?_
   rotate_left
   ·rintro w' ⟨s0,s1,s2,s3⟩
    go_simp
    with_reducible rfl
   rotate_left
   ·(try simp only [á,ä,ü,é,i64_w,i32_w])
    rfl
   refine take_ (i:=7) (N:=some 18) (v:=?_) (a':=?_) #[true,true,true,false,false,false,true,true,false,false,false,false] rfl rfl (take_ofW HT_.out HW_.out (by kernel_rfl)) (fun _ _ _ h=>h) (Or.inl ⟨by rfl,?_⟩) hHeld ?_ ?_
   rotate_left
   ·rintro w' ⟨s0,s1,s2,s3⟩
    go_simp
    with_reducible rfl
   rotate_left
   ·(try simp only [á,ä,ü,é,i64_w,i32_w])
    rfl
   refine pure_ (i:=3) (N:=some 14) (v:=?_) (a':=?_) #[true,true,true,true,false,false,true,true,false,false,false,false] rfl rfl (any_of HT_.out (by kernel_rfl)) (fun _ _ _ h=>h) (Or.inl ⟨by rfl,?_⟩) ?_ ?_
   rotate_left
   ·intro w'
    go_simp
    with_reducible rfl
   rotate_left
   ·(try simp only [á,ä,ü,é,i64_w,i32_w])
    rfl
   refine pure_ (i:=4) (N:=some 15) (v:=?_) (a':=?_) #[true,true,true,true,true,false,true,true,false,false,false,false] rfl rfl (any_of HT_.out (by kernel_rfl)) (fun _ _ _ h=>h) (Or.inl ⟨by rfl,?_⟩) ?_ ?_
   rotate_left
   ·intro w'
    go_simp
    with_reducible rfl
   rotate_left
   ·(try simp only [á,ä,ü,é,i64_w,i32_w])
    rfl
   refine take_ (i:=5) (N:=some 16) (v:=?_) (a':=?_) #[true,true,true,true,true,true,true,true,false,false,false,false] rfl rfl (take_ofW HT_.out HW_.out (by kernel_rfl)) (fun _ _ _ h=>h) (Or.inl ⟨by rfl,?_⟩) hHeld ?_ ?_
   rotate_left
   ·rintro w' ⟨s0,s1,s2,s3⟩
    go_simp
    with_reducible rfl
   rotate_left
   ·(try simp only [á,ä,ü,é,i64_w,i32_w])
    rfl
   refine pure_ (i:=8) (N:=some 19) (v:=?_) (a':=?_) #[true,true,true,true,true,true,true,true,true,false,false,false] rfl rfl (any_of HT_.out (by kernel_rfl)) (fun _ _ _ h=>h) (Or.inl ⟨by rfl,?_⟩) ?_ ?_
   rotate_left
   ·intro w'
    go_simp
    with_reducible rfl
   rotate_left
   ·(try simp only [á,ä,ü,é,i64_w,i32_w])
    rfl
   refine take_ (i:=9) (N:=some 20) (v:=?_) (a':=?_) #[true,true,true,true,true,true,true,true,true,true,false,false] rfl rfl (take_ofW HT_.out HW_.out (by kernel_rfl)) (fun _ _ _ h=>h) (Or.inl ⟨by rfl,?_⟩) hHeld ?_ ?_
   rotate_left
   ·rintro w' ⟨s0,s1,s2,s3⟩
    go_simp
    with_reducible rfl
   rotate_left
   ·(try simp only [á,ä,ü,é,i64_w,i32_w])
    rfl
   refine pure_ (i:=10) (N:=some 21) (v:=?_) (a':=?_) #[true,true,true,true,true,true,true,true,true,true,true,false] rfl rfl (any_of HT_.out (by kernel_rfl)) (fun _ _ _ h=>h) (Or.inl ⟨by rfl,?_⟩) ?_ ?_
   rotate_left
   ·intro w'
    go_simp
    with_reducible rfl
   rotate_left
   ·(try simp only [á,ä,ü,é,i64_w,i32_w])
    rfl
   refine pure_ (i:=11) (N:=some 9) (v:=?_) (a':=?_) #[true,true,true,true,true,true,true,true,true,true,true,true] rfl rfl (any_of HT_.out (by kernel_rfl)) (fun _ _ _ h=>h) (Or.inl ⟨by rfl,?_⟩) ?_ ?_
   rotate_left
   ·intro w'
    go_simp
    with_reducible rfl
   rotate_left
   ·(try simp only [á,ä,ü,é,i64_w,i32_w])
    rfl
   refine done_ (done_of HT_.out (by kernel_rfl)) ?_
   clear HT_ HW_ hHeld BW BS BR HB
   obtain ⟨hcz_0,hcz_1,hcz_2,hcz_3,hcz_4,hfz_0,hfz_1,hfz_2,hfz_3,hfz_4⟩:=bz5_ m1;obtain ⟨hcy_0,hcy_1,hcy_2,hcy_3,hcy_4,hcy_5,hfy_0,hfy_1,hfy_2,hfy_3,hfy_4,hfy_5⟩:=bz6_ m2;obtain ⟨hcx_0,hcx_1,hcx_2,hcx_3,hcx_4,hfx_0,hfx_1,hfx_2,hfx_3,hfx_4⟩:=bz5_ m3
   go_wp2_with (first | ((with_reducible refine gate_dst (N:=22) rfl ?_);refine plain_ ?hg (fun K hK=>?_);(case hg=>rfl);refine lit0_step (kE lo) 0 69 (by rfl) ?hr (Nat.zero_le _) ?_;(case hr=>first | (go_simp;done) | (go_simp;rfl));intro gl w9 hg ho hb;refine hK _ _ ?_;clear hK K;have HL:=ö (show (kE lo).R 69 w9 0 (fun k=>ow k = 0) (.slice (some ⟨gl,0,none⟩) 0 0) [] from by obtain ⟨_,inner0,ho0,hr0⟩:=ho;exact ⟨fun k hk=>(by have e : some gl = some k:=hk;injection e with e;rw [← e];exact FREE.out gl (Nat.le_trans m4.out.size hg)),inner0,ho0,hr0.1,fun j p hj=>by simp at hj⟩);have q1_:=ö (blk_below m1.out hb);have q2_:=ö (blk_below m2.out hb);have q3_:=ö (blk_below m3.out hb);have q4_:=ö (below_step m4.out hb);clear m1 m2 m3 m4;have m1:=q1_;have m2:=q2_;have m3:=q3_;have m4:=q4_;clear q1_ q2_ q3_ q4_;clear hcz_0 hcz_1 hcz_2 hcz_3 hcz_4 hfz_0 hfz_1 hfz_2 hfz_3 hfz_4 hcx_0 hcx_1 hcx_2 hcx_3 hcx_4 hfx_0 hfx_1 hfx_2 hfx_3 hfx_4 hcy_0 hcy_1 hcy_2 hcy_3 hcy_4 hcy_5 hfy_0 hfy_1 hfy_2 hfy_3 hfy_4 hfy_5;clear ho hb hg;obtain ⟨hcz_0,hcz_1,hcz_2,hcz_3,hcz_4,hfz_0,hfz_1,hfz_2,hfz_3,hfz_4⟩:=bz5_ m1;obtain ⟨hcy_0,hcy_1,hcy_2,hcy_3,hcy_4,hcy_5,hfy_0,hfy_1,hfy_2,hfy_3,hfy_4,hfy_5⟩:=bz6_ m2;obtain ⟨hcx_0,hcx_1,hcx_2,hcx_3,hcx_4,hfx_0,hfx_1,hfx_2,hfx_3,hfx_4⟩:=bz5_ m3;))
   have HL5:=ö (HB5.out.src (HS.out.below m4.out).ag)
   have n1:=ö (blk_drew m1.out)
   have n2:=ö (blk_drew m2.out)
   have n3:=ö (blk_drew m3.out)
   have n4:=ö (below_drew1 m4.out)
   have n5:=ö (HL5.out.below (below_drew1 (Below.refl _ _)))
   clear m1 m2 m3 m4 hcz_0 hcz_1 hcz_2 hcz_3 hcz_4 hfz_0 hfz_1 hfz_2 hfz_3 hfz_4 hcx_0 hcx_1 hcx_2 hcx_3 hcx_4 hfx_0 hfx_1 hfx_2 hfx_3 hfx_4 hcy_0 hcy_1 hcy_2 hcy_3 hcy_4 hcy_5 hfy_0 hfy_1 hfy_2 hfy_3 hfy_4 hfy_5
   refine start_ (n:=9) (S:=fun w'=>w'.cell? ⟨bw,0,none⟩ = some (.slice (some ⟨g0,0,none⟩) ps.length cap0)) (ds:=[8]) #[false,false,false,false,false,false,false,false,false] (by kernel_rfl) rfl rfl ((blk_cell n1.out 0).trans rfl) (fun hHeld=>?_)
   refine with_tabW goes9_tab goes9_bits (fun HT_ HW_=>?_)
   generalize w9.drew = w20 at n1 n2 n3 n4 n5 hHeld ⊢
   refine pure_ (i:=0) (N:=some 45) (v:=?_) (a':=?_) #[true,false,false,false,false,false,false,false,false] rfl rfl (any_of HT_.out (by kernel_rfl)) (fun _ _ _ h=>h) (Or.inl ⟨by rfl,?_⟩) ?_ ?_
   rotate_left
   ·intro w'
    go_simp
    with_reducible rfl
   rotate_left
   ·(try simp only [á,ä,ü,é,i64_w,i32_w])
    rfl
   refine pure_ (i:=2) (N:=some 47) (v:=?_) (a':=?_) #[true,false,true,false,false,false,false,false,false] rfl rfl (any_of HT_.out (by kernel_rfl)) (fun _ _ _ h=>h) (Or.inl ⟨by rfl,?_⟩) ?_ ?_
   rotate_left
   ·intro w'
    go_simp
    with_reducible rfl
   rotate_left
   ·(try simp only [á,ä,ü,é,i64_w,i32_w])
    rfl
   refine pure_ (i:=3) (N:=some 48) (v:=?_) (a':=?_) #[true,false,true,true,false,false,false,false,false] rfl rfl (any_of HT_.out (by kernel_rfl)) (fun _ _ _ h=>h) (Or.inl ⟨by rfl,?_⟩) ?_ ?_
   rotate_left
   ·intro w'
    go_simp
    with_reducible rfl
   rotate_left
   ·(try simp only [á,ä,ü,é,i64_w,i32_w])
    rfl
   refine pure_ (i:=4) (N:=some 49) (v:=?_) (a':=?_) #[true,false,true,true,true,false,false,false,false] rfl rfl (any_of HT_.out (by kernel_rfl)) (fun _ _ _ h=>h) (Or.inl ⟨by rfl,?_⟩) ?_ ?_
   rotate_left
   ·intro w'
    go_simp
    with_reducible rfl
   rotate_left
   ·(try simp only [á,ä,ü,é,i64_w,i32_w])
    rfl
   refine take_ (i:=1) (N:=some 46) (v:=?_) (a':=?_) #[true,true,true,true,true,false,false,false,false] rfl rfl (take_ofW HT_.out HW_.out (by kernel_rfl)) (fun _ _ _ h=>h) (Or.inl ⟨by rfl,?_⟩) hHeld ?_ ?_
   rotate_left
   ·rintro w' s0
    go_simp
    with_reducible rfl
   rotate_left
   ·(try simp only [á,ä,ü,é,i64_w,i32_w])
    rfl
   refine one_ (i:=5) (N:=some 50) #[true,true,true,true,true,true,false,false,false] rfl rfl (one_of HT_.out (by kernel_rfl)) (by decide) (fun K hK=>?_)
   refine goes_ Try.func52 (by kernel_rfl) rfl #[.slice A5 els.length c5,.slice AR rest.length cR] (by rfl) rfl rfl (by (try simp only [List.map_toArray,List.map_cons,List.map_nil]);first | done | rfl | (simp only [List.length_drop,List.length_take];rfl)) ?_
   refine (l3ahead_says lo w20 (fun k=>ow k = 0) (fun k hk=>FREE.out k (Nat.le_trans n4.out.size hk)) _ _ els rest n5.out (Src.ofR (Kd.R_below HBR.out n4.out)) (by first | omega | (simp;done) | (simp;omega)) (by omega)).mono ?_
   rintro e wt ⟨vt,rfl,hv,hb⟩
   refine ⟨_,rfl,?_⟩
   have m1:=ö (blk_below n1.out hb)
   have m3:=ö (blk_below n3.out hb)
   have m4:=ö (below_step n4.out hb)
   have HV:=ö hv
   obtain ⟨Av,cv,ev⟩:=Kd.R_slice hv
   obtain ⟨nn,hnn⟩ : ∃ q,q = (els ++ rest).length:=⟨_,rfl⟩
   rw [← hnn] at ev
   subst ev
   clear hnn
   clear hv hb hHeld n1 n2 n3 n4 n5
   refine hK.out _ _ ((blk_cell m1.out 0).trans rfl) (fun hHeld=>?_)
   clear hK K
   refine norm_ (a':=?_) ?_ ?_
   rotate_left
   ·show á _ (some 50) _ = _
    simp only [á,ä,ü,é,i64_w,i32_w]
    rfl
   refine pure_ (i:=6) (N:=some 51) (v:=?_) (a':=?_) #[true,true,true,true,true,true,true,false,false] rfl rfl (any_of HT_.out (by kernel_rfl)) (fun _ _ _ h=>h) (Or.inl ⟨by rfl,?_⟩) ?_ ?_
   rotate_left
   ·intro w'
    go_simp
    with_reducible rfl
   rotate_left
   ·(try simp only [á,ä,ü,é,i64_w,i32_w])
    rfl
   refine pure_ (i:=7) (N:=some 52) (v:=?_) (a':=?_) #[true,true,true,true,true,true,true,true,false] rfl rfl (any_of HT_.out (by kernel_rfl)) (fun _ _ _ h=>h) (Or.inl ⟨by rfl,?_⟩) ?_ ?_
   rotate_left
   ·intro w'
    go_simp
    with_reducible rfl
   rotate_left
   ·(try simp only [á,ä,ü,é,i64_w,i32_w])
    rfl
   have hy0:=(m4.out.cell (è w _ HP1.out)).trans HP1.out
   have hfy0 : wt.frozen? ⟨g0,who * 5 + 1,none⟩ = false:=(m4.out.frozen (è w _ HP1.out)).trans (HPF.out _)
   have hk1 : g0 ≠ bw:=(by have h1:=GW.out;have h2:=GL.out;omega)
   have hk2 : g0 ≠ br:=(by have h1:=GR.out;have h2:=GL.out;omega)
   have hk3:=hk1.symm
   have hk4:=hk2.symm
   refine last_ (i:=8) (N:=none) #[true,true,true,true,true,true,true,true,true] rfl rfl (one_of HT_.out (by kernel_rfl)) (by decide) (fun K hK=>?_)
   refine skip_ (w1:=?_) (by rfl) rfl ?_ ?_
   rotate_left
   ·go_simp
    rfl
   refine hK.out _ _ ?_
   clear hK K
   refine done_ (done_of HT_.out (by kernel_rfl)) ?_
   clear HT_ HW_
   obtain ⟨hcz_0,hcz_1,hcz_2,hcz_3,hcz_4,hfz_0,hfz_1,hfz_2,hfz_3,hfz_4⟩:=bz5_ m1
   obtain ⟨hcx_0,hcx_1,hcx_2,hcx_3,hcx_4,hfx_0,hfx_1,hfx_2,hfx_3,hfx_4⟩:=bz5_ m3
   go_wp2
   have M3:=ö (blk_far (p:=⟨g0,who * 5 + 1,none⟩) m3.out hk4 (.slice Av nn cv))
   refine bodyPost_ret (results_cell_row rfl _ _ br 33 #[.slice (some ⟨g0,0,none⟩) ps.length cap0,.slice (some ⟨g1,0,none⟩) 3 cap1,.slice (some ⟨g2,0,none⟩) 2 cap2,.slice (some ⟨g3,0,none⟩) qs.length cap3,.slice A ys.length c] (0,0) _ rfl (by apply bp5_4_;apply bp5_3_;apply bp5_2_;apply bp5_1_;apply bp5_0_;exact M3.out) Try.underlying33 rfl (by kernel_rfl)) rfl ?_
   have z:=((HS.out.below m4.out).pcell who hwho 1 (by decide) (.slice Av nn cv) ⟨ps[who].f0,els ++ rest,ps[who].f2,ps[who].f3,ps[who].f4⟩ (fun cells hp=>hp.f1 _ _ HV.out)).setW5 (Nat.le_trans WS.out GR.out) M3.out (.slice (some ⟨g0,0,none⟩) ps.length cap0) (.slice (some ⟨g1,0,none⟩) 3 cap1) (.slice (some ⟨g2,0,none⟩) 2 cap2) (.slice (some ⟨g3,0,none⟩) qs.length cap3) (.slice A ys.length c)
   have fr:=(((Fr.refl ow w).below m4.out).set ⟨g0,who * 5 + 1,none⟩ (.slice Av nn cv) (.inl (by rw [hg0];decide))).set5 GR.out (.slice (some ⟨g0,0,none⟩) ps.length cap0) (.slice (some ⟨g1,0,none⟩) 3 cap1) (.slice (some ⟨g2,0,none⟩) 2 cap2) (.slice (some ⟨g3,0,none⟩) qs.length cap3) (.slice A ys.length c)
   exact ⟨_,rfl,z,fr,.inr (.inr (.inl rfl))⟩
  ·go_enter Try.func43,Try.ntmps43
   go_wp2_with (first | ((with_reducible refine gate_dst (N:=4) rfl ?_);refine box_event ?hg (N:=4) ?hd (cs:=#[.slice (some ⟨g0,0,none⟩) ps.length cap0,.slice (some ⟨g1,0,none⟩) 3 cap1,.slice (some ⟨g2,0,none⟩) 2 cap2,.slice (some ⟨g3,0,none⟩) qs.length cap3,.slice A ys.length c]) (t:=33) ?hr ?_;(case hd=>rfl);(case hg=>rfl);(case hr=>first | (go_simp;done) | (go_simp;rfl));intro bw hg w5 hbox hb;replace HB:=ö (below_step HB.out hb);have GW:=ö (Nat.le_of_eq hg.symm);have BW:=ö hbox;clear hb hbox hg) | ((with_reducible refine gate_dst (N:=6) rfl ?_);refine box_event ?hg (N:=6) ?hd (cs:=#[.int .i64 7,.int .i64 (aa : Int),.int .i64 b,.int .i64 n,.slice A4 body.length c4,.slice A5 els.length c5]) (t:=69) ?hr ?_;(case hd=>rfl);(case hg=>rfl);(case hr=>first | (go_simp;done) | (go_simp;rfl));intro bs hg w6 hbox hb;have n1_:=ö (blk_below BW.out hb);have NS:=ö (show bw ≠ bs by rw [hg];exact Nat.ne_of_lt (blk_lt BW.out));have GS:=ö (show w.heap.size ≤ bs by rw [hg];exact HB.out.size);replace HB:=ö (below_step HB.out hb);clear BW;have BW:=n1_;clear n1_;have BS:=ö hbox;clear hb hbox hg) | ((with_reducible refine gate_dst (N:=8) rfl ?_);refine box_event ?hg (N:=8) ?hd (cs:=#[.slice none 0 0,.slice none 0 0,.slice none 0 0,.slice none 0 0,.slice none 0 0]) (t:=33) ?hr ?_;(case hd=>rfl);(case hg=>rfl);(case hr=>first | (go_simp;done) | (go_simp;rfl));intro br hg w7 hbox hb;have n1_:=ö (blk_below BW.out hb);have n2_:=ö (blk_below BS.out hb);have NR:=ö (show bw ≠ br by rw [hg];exact Nat.ne_of_lt (blk_lt BW.out));have GR:=ö (show w.heap.size ≤ br by rw [hg];exact HB.out.size);replace HB:=ö (below_step HB.out hb);clear BW BS;have BW:=n1_;have BS:=n2_;clear n1_ n2_;have BR:=ö hbox;obtain ⟨hcz_0,hcz_1,hcz_2,hcz_3,hcz_4,hfz_0,hfz_1,hfz_2,hfz_3,hfz_4⟩:=bz5_ BW;obtain ⟨hcy_0,hcy_1,hcy_2,hcy_3,hcy_4,hcy_5,hfy_0,hfy_1,hfy_2,hfy_3,hfy_4,hfy_5⟩:=bz6_ BS;obtain ⟨hcx_0,hcx_1,hcx_2,hcx_3,hcx_4,hfx_0,hfx_1,hfx_2,hfx_3,hfx_4⟩:=bz5_ BR;have hn1:=NR.out;have hn2:=hn1.symm;clear hb hbox hg))
   have m1:=ö (blk_drew BW.out)
   have m2:=ö (blk_drew BS.out)
   have m3:=ö (blk_drew BR.out)
   have m4:=ö (below_drew1 HB.out)
   clear hcz_0 hcz_1 hcz_2 hcz_3 hcz_4 hfz_0 hfz_1 hfz_2 hfz_3 hfz_4 hcx_0 hcx_1 hcx_2 hcx_3 hcx_4 hfx_0 hfx_1 hfx_2 hfx_3 hfx_4 hcy_0 hcy_1 hcy_2 hcy_3 hcy_4 hcy_5 hfy_0 hfy_1 hfy_2 hfy_3 hfy_4 hfy_5
   refine start_ (n:=12) (S:=fun w'=>w'.cell? ⟨bw,0,none⟩ = some (.slice (some ⟨g0,0,none⟩) ps.length cap0) ∧ w'.cell? ⟨g0,who * 5,none⟩ = some (.slice (some ⟨gr,0,none⟩) 3 cr) ∧ w'.cell? ⟨bs,1,none⟩ = some (.int .i64 (aa : Int)) ∧ w'.cell? ⟨gr,aa,none⟩ = some (.int .i64 z0)) (ds:=[]) #[false,false,false,false,false,false,false,false,false,false,false,false] (by kernel_rfl) rfl rfl ⟨(blk_cell m1.out 0).trans rfl,(m4.out.cell (è w _ HP0.out)).trans HP0.out,(blk_cell m2.out 1).trans rfl,(m4.out.cell (è w _ HZ0.out)).trans HZ0.out⟩ (fun hHeld=>?_)
   refine with_tabW goes1_tab goes1_bits (fun HT_ HW_=>?_)
   generalize w7.drew = w8 at m1 m2 m3 m4 hHeld ⊢
   refine pure_ (i:=0) (N:=some 11) (v:=?_) (a':=?_) #[true,false,false,false,false,false,false,false,false,false,false,false] rfl rfl (any_of HT_.out (by kernel_rfl)) (fun _ _ _ h=>h) (Or.inl ⟨by rfl,?_⟩) ?_ ?_
   rotate_left
   ·intro w'
    go_simp
    with_reducible rfl
   rotate_left
   ·(try simp only [á,ä,ü,é,i64_w,i32_w])
    rfl
   refine pure_ (i:=2) (N:=some 13) (v:=?_) (a':=?_) #[true,false,true,false,false,false,false,false,false,false,false,false] rfl rfl (any_of HT_.out (by kernel_rfl)) (fun _ _ _ h=>h) (Or.inl ⟨by rfl,?_⟩) ?_ ?_
   rotate_left
   ·intro w'
    go_simp
    with_reducible rfl
   rotate_left
   ·(try simp only [á,ä,ü,é,i64_w,i32_w])
    rfl
   refine pure_ (i:=6) (N:=some 17) (v:=?_) (a':=?_) #[true,false,true,false,false,false,true,false,false,false,false,false] rfl rfl (any_of HT_.out (by kernel_rfl)) (fun _ _ _ h=>h) (Or.inl ⟨by rfl,?_⟩) ?_ ?_
   rotate_left
   ·intro w'
    go_simp
    with_reducible rfl
   rotate_left
   ·(try simp only [á,ä,ü,é,i64_w,i32_w])
    rfl
   refine take_ (i:=1) (N:=some 12) (v:=?_) (a':=?_) #[true,true,true,false,false,false,true,false,false,false,false,false] rfl rfl (take_ofW HT_.out HW_.out (by kernel_rfl)) (fun _ _ _ h=>h) (Or.inl ⟨by rfl,?_⟩) hHeld ?_ ?_
   rotate_left
   ·rintro w' ⟨s0,s1,s2,s3⟩
    go_simp
    with_reducible rfl
   rotate_left
   ·(try simp only [á,ä,ü,é,i64_w,i32_w])
    rfl
   refine take_ (i:=7) (N:=some 18) (v:=?_) (a':=?_) #[true,true,true,false,false,false,true,true,false,false,false,false] rfl rfl (take_ofW HT_.out HW_.out (by kernel_rfl)) (fun _ _ _ h=>h) (Or.inl ⟨by rfl,?_⟩) hHeld ?_ ?_
   rotate_left
   ·rintro w' ⟨s0,s1,s2,s3⟩
    go_simp
    with_reducible rfl
   rotate_left
   ·(try simp only [á,ä,ü,é,i64_w,i32_w])
    rfl
   refine pure_ (i:=3) (N:=some 14) (v:=?_) (a':=?_) #[true,true,true,true,false,false,true,true,false,false,false,false] rfl rfl (any_of HT_.out (by kernel_rfl)) (fun _ _ _ h=>h) (Or.inl ⟨by rfl,?_⟩) ?_ ?_
   rotate_left
   ·intro w'
    go_simp
    with_reducible rfl
   rotate_left
   ·(try simp only [á,ä,ü,é,i64_w,i32_w])
    rfl
   refine pure_ (i:=4) (N:=some 15) (v:=?_) (a':=?_) #[true,true,true,true,true,false,true,true,false,false,false,false] rfl rfl (any_of HT_.out (by kernel_rfl)) (fun _ _ _ h=>h) (Or.inl ⟨by rfl,?_⟩) ?_ ?_
   rotate_left
   ·intro w'
    go_simp
    with_reducible rfl
   rotate_left
   ·(try simp only [á,ä,ü,é,i64_w,i32_w])
    rfl
   refine take_ (i:=5) (N:=some 16) (v:=?_) (a':=?_) #[true,true,true,true,true,true,true,true,false,false,false,false] rfl rfl (take_ofW HT_.out HW_.out (by kernel_rfl)) (fun _ _ _ h=>h) (Or.inl ⟨by rfl,?_⟩) hHeld ?_ ?_
   rotate_left
   ·rintro w' ⟨s0,s1,s2,s3⟩
    go_simp
    with_reducible rfl
   rotate_left
   ·(try simp only [á,ä,ü,é,i64_w,i32_w])
    rfl
   refine pure_ (i:=8) (N:=some 19) (v:=?_) (a':=?_) #[true,true,true,true,true,true,true,true,true,false,false,false] rfl rfl (any_of HT_.out (by kernel_rfl)) (fun _ _ _ h=>h) (Or.inl ⟨by rfl,?_⟩) ?_ ?_
   rotate_left
   ·intro w'
    go_simp
    with_reducible rfl
   rotate_left
   ·(try simp only [á,ä,ü,é,i64_w,i32_w])
    rfl
   refine take_ (i:=9) (N:=some 20) (v:=?_) (a':=?_) #[true,true,true,true,true,true,true,true,true,true,false,false] rfl rfl (take_ofW HT_.out HW_.out (by kernel_rfl)) (fun _ _ _ h=>h) (Or.inl ⟨by rfl,?_⟩) hHeld ?_ ?_
   rotate_left
   ·rintro w' ⟨s0,s1,s2,s3⟩
    go_simp
    with_reducible rfl
   rotate_left
   ·(try simp only [á,ä,ü,é,i64_w,i32_w])
    rfl
   refine pure_ (i:=10) (N:=some 21) (v:=?_) (a':=?_) #[true,true,true,true,true,true,true,true,true,true,true,false] rfl rfl (any_of HT_.out (by kernel_rfl)) (fun _ _ _ h=>h) (Or.inl ⟨by rfl,?_⟩) ?_ ?_
   rotate_left
   ·intro w'
    go_simp
    with_reducible rfl
   rotate_left
   ·(try simp only [á,ä,ü,é,i64_w,i32_w])
    rfl
   refine pure_ (i:=11) (N:=some 9) (v:=?_) (a':=?_) #[true,true,true,true,true,true,true,true,true,true,true,true] rfl rfl (any_of HT_.out (by kernel_rfl)) (fun _ _ _ h=>h) (Or.inl ⟨by rfl,?_⟩) ?_ ?_
   rotate_left
   ·intro w'
    go_simp
    with_reducible rfl
   rotate_left
   ·(try simp only [á,ä,ü,é,i64_w,i32_w])
    rfl
   refine done_ (done_of HT_.out (by kernel_rfl)) ?_
   clear HT_ HW_ hHeld BW BS BR HB
   obtain ⟨hcz_0,hcz_1,hcz_2,hcz_3,hcz_4,hfz_0,hfz_1,hfz_2,hfz_3,hfz_4⟩:=bz5_ m1;obtain ⟨hcy_0,hcy_1,hcy_2,hcy_3,hcy_4,hcy_5,hfy_0,hfy_1,hfy_2,hfy_3,hfy_4,hfy_5⟩:=bz6_ m2;obtain ⟨hcx_0,hcx_1,hcx_2,hcx_3,hcx_4,hfx_0,hfx_1,hfx_2,hfx_3,hfx_4⟩:=bz5_ m3
   go_wp2_with (first | ((with_reducible refine gate_dst (N:=22) rfl ?_);refine plain_ ?hg (fun K hK=>?_);(case hg=>rfl);refine lit0_step (kE lo) 0 69 (by rfl) ?hr (Nat.zero_le _) ?_;(case hr=>first | (go_simp;done) | (go_simp;rfl));intro gl w9 hg ho hb;refine hK _ _ ?_;clear hK K;have HL:=ö (show (kE lo).R 69 w9 0 (fun k=>ow k = 0) (.slice (some ⟨gl,0,none⟩) 0 0) [] from by obtain ⟨_,inner0,ho0,hr0⟩:=ho;exact ⟨fun k hk=>(by have e : some gl = some k:=hk;injection e with e;rw [← e];exact FREE.out gl (Nat.le_trans m4.out.size hg)),inner0,ho0,hr0.1,fun j p hj=>by simp at hj⟩);have q1_:=ö (blk_below m1.out hb);have q2_:=ö (blk_below m2.out hb);have q3_:=ö (blk_below m3.out hb);have q4_:=ö (below_step m4.out hb);clear m1 m2 m3 m4;have m1:=q1_;have m2:=q2_;have m3:=q3_;have m4:=q4_;clear q1_ q2_ q3_ q4_;clear hcz_0 hcz_1 hcz_2 hcz_3 hcz_4 hfz_0 hfz_1 hfz_2 hfz_3 hfz_4 hcx_0 hcx_1 hcx_2 hcx_3 hcx_4 hfx_0 hfx_1 hfx_2 hfx_3 hfx_4 hcy_0 hcy_1 hcy_2 hcy_3 hcy_4 hcy_5 hfy_0 hfy_1 hfy_2 hfy_3 hfy_4 hfy_5;clear ho hb hg;obtain ⟨hcz_0,hcz_1,hcz_2,hcz_3,hcz_4,hfz_0,hfz_1,hfz_2,hfz_3,hfz_4⟩:=bz5_ m1;obtain ⟨hcy_0,hcy_1,hcy_2,hcy_3,hcy_4,hcy_5,hfy_0,hfy_1,hfy_2,hfy_3,hfy_4,hfy_5⟩:=bz6_ m2;obtain ⟨hcx_0,hcx_1,hcx_2,hcx_3,hcx_4,hfx_0,hfx_1,hfx_2,hfx_3,hfx_4⟩:=bz5_ m3;))
   have HLS:=ö (Src.ofR HL.out)
   have n1:=ö (blk_drew m1.out)
   have n2:=ö (blk_drew m2.out)
   have n3:=ö (blk_drew m3.out)
   have n4:=ö (below_drew1 m4.out)
   have n5:=ö (HLS.out.below (below_drew1 (Below.refl _ _)))
   clear m1 m2 m3 m4 hcz_0 hcz_1 hcz_2 hcz_3 hcz_4 hfz_0 hfz_1 hfz_2 hfz_3 hfz_4 hcx_0 hcx_1 hcx_2 hcx_3 hcx_4 hfx_0 hfx_1 hfx_2 hfx_3 hfx_4 hcy_0 hcy_1 hcy_2 hcy_3 hcy_4 hcy_5 hfy_0 hfy_1 hfy_2 hfy_3 hfy_4 hfy_5
   refine start_ (n:=9) (S:=fun w'=>w'.cell? ⟨bw,0,none⟩ = some (.slice (some ⟨g0,0,none⟩) ps.length cap0)) (ds:=[8]) #[false,false,false,false,false,false,false,false,false] (by kernel_rfl) rfl rfl ((blk_cell n1.out 0).trans rfl) (fun hHeld=>?_)
   refine with_tabW goes9_tab goes9_bits (fun HT_ HW_=>?_)
   generalize w9.drew = w20 at n1 n2 n3 n4 n5 hHeld ⊢
   refine pure_ (i:=0) (N:=some 45) (v:=?_) (a':=?_) #[true,false,false,false,false,false,false,false,false] rfl rfl (any_of HT_.out (by kernel_rfl)) (fun _ _ _ h=>h) (Or.inl ⟨by rfl,?_⟩) ?_ ?_
   rotate_left
   ·intro w'
    go_simp
    with_reducible rfl
   rotate_left
   ·(try simp only [á,ä,ü,é,i64_w,i32_w])
    rfl
   refine pure_ (i:=2) (N:=some 47) (v:=?_) (a':=?_) #[true,false,true,false,false,false,false,false,false] rfl rfl (any_of HT_.out (by kernel_rfl)) (fun _ _ _ h=>h) (Or.inl ⟨by rfl,?_⟩) ?_ ?_
   rotate_left
   ·intro w'
    go_simp
    with_reducible rfl
   rotate_left
   ·(try simp only [á,ä,ü,é,i64_w,i32_w])
    rfl
   refine pure_ (i:=3) (N:=some 48) (v:=?_) (a':=?_) #[true,false,true,true,false,false,false,false,false] rfl rfl (any_of HT_.out (by kernel_rfl)) (fun _ _ _ h=>h) (Or.inl ⟨by rfl,?_⟩) ?_ ?_
   rotate_left
   ·intro w'
    go_simp
    with_reducible rfl
   rotate_left
   ·(try simp only [á,ä,ü,é,i64_w,i32_w])
    rfl
   refine pure_ (i:=4) (N:=some 49) (v:=?_) (a':=?_) #[true,false,true,true,true,false,false,false,false] rfl rfl (any_of HT_.out (by kernel_rfl)) (fun _ _ _ h=>h) (Or.inl ⟨by rfl,?_⟩) ?_ ?_
   rotate_left
   ·intro w'
    go_simp
    with_reducible rfl
   rotate_left
   ·(try simp only [á,ä,ü,é,i64_w,i32_w])
    rfl
   refine take_ (i:=1) (N:=some 46) (v:=?_) (a':=?_) #[true,true,true,true,true,false,false,false,false] rfl rfl (take_ofW HT_.out HW_.out (by kernel_rfl)) (fun _ _ _ h=>h) (Or.inl ⟨by rfl,?_⟩) hHeld ?_ ?_
   rotate_left
   ·rintro w' s0
    go_simp
    with_reducible rfl
   rotate_left
   ·(try simp only [á,ä,ü,é,i64_w,i32_w])
    rfl
   refine one_ (i:=5) (N:=some 50) #[true,true,true,true,true,true,false,false,false] rfl rfl (one_of HT_.out (by kernel_rfl)) (by decide) (fun K hK=>?_)
   refine goes_ Try.func52 (by kernel_rfl) rfl #[.slice (some ⟨gl,0,none⟩) 0 0,.slice AR rest.length cR] (by rfl) rfl rfl (by (try simp only [List.map_toArray,List.map_cons,List.map_nil]);first | done | rfl | (simp only [List.length_drop,List.length_take];rfl)) ?_
   refine (l3ahead_says lo w20 (fun k=>ow k = 0) (fun k hk=>FREE.out k (Nat.le_trans n4.out.size hk)) _ _ ([] : List S69) rest n5.out (Src.ofR (Kd.R_below HBR.out n4.out)) (by first | omega | (simp;done) | (simp;omega)) (by omega)).mono ?_
   rintro e wt ⟨vt,rfl,hv,hb⟩
   refine ⟨_,rfl,?_⟩
   have m1:=ö (blk_below n1.out hb)
   have m3:=ö (blk_below n3.out hb)
   have m4:=ö (below_step n4.out hb)
   have HV:=ö hv
   obtain ⟨Av,cv,ev⟩:=Kd.R_slice hv
   obtain ⟨nn,hnn⟩ : ∃ q,q = (([] : List S69) ++ rest).length:=⟨_,rfl⟩
   rw [← hnn] at ev
   subst ev
   clear hnn
   clear hv hb hHeld n1 n2 n3 n4 n5
   refine hK.out _ _ ((blk_cell m1.out 0).trans rfl) (fun hHeld=>?_)
   clear hK K
   refine norm_ (a':=?_) ?_ ?_
   rotate_left
   ·show á _ (some 50) _ = _
    simp only [á,ä,ü,é,i64_w,i32_w]
    rfl
   refine pure_ (i:=6) (N:=some 51) (v:=?_) (a':=?_) #[true,true,true,true,true,true,true,false,false] rfl rfl (any_of HT_.out (by kernel_rfl)) (fun _ _ _ h=>h) (Or.inl ⟨by rfl,?_⟩) ?_ ?_
   rotate_left
   ·intro w'
    go_simp
    with_reducible rfl
   rotate_left
   ·(try simp only [á,ä,ü,é,i64_w,i32_w])
    rfl
   refine pure_ (i:=7) (N:=some 52) (v:=?_) (a':=?_) #[true,true,true,true,true,true,true,true,false] rfl rfl (any_of HT_.out (by kernel_rfl)) (fun _ _ _ h=>h) (Or.inl ⟨by rfl,?_⟩) ?_ ?_
   rotate_left
   ·intro w'
    go_simp
    with_reducible rfl
   rotate_left
   ·(try simp only [á,ä,ü,é,i64_w,i32_w])
    rfl
   have hy0:=(m4.out.cell (è w _ HP1.out)).trans HP1.out
   have hfy0 : wt.frozen? ⟨g0,who * 5 + 1,none⟩ = false:=(m4.out.frozen (è w _ HP1.out)).trans (HPF.out _)
   have hk1 : g0 ≠ bw:=(by have h1:=GW.out;have h2:=GL.out;omega)
   have hk2 : g0 ≠ br:=(by have h1:=GR.out;have h2:=GL.out;omega)
   have hk3:=hk1.symm
   have hk4:=hk2.symm
   refine last_ (i:=8) (N:=none) #[true,true,true,true,true,true,true,true,true] rfl rfl (one_of HT_.out (by kernel_rfl)) (by decide) (fun K hK=>?_)
   refine skip_ (w1:=?_) (by rfl) rfl ?_ ?_
   rotate_left
   ·go_simp
    rfl
   refine hK.out _ _ ?_
   clear hK K
   refine done_ (done_of HT_.out (by kernel_rfl)) ?_
   clear HT_ HW_
   obtain ⟨hcz_0,hcz_1,hcz_2,hcz_3,hcz_4,hfz_0,hfz_1,hfz_2,hfz_3,hfz_4⟩:=bz5_ m1
   obtain ⟨hcx_0,hcx_1,hcx_2,hcx_3,hcx_4,hfx_0,hfx_1,hfx_2,hfx_3,hfx_4⟩:=bz5_ m3
   go_wp2
   have M3:=ö (blk_far (p:=⟨g0,who * 5 + 1,none⟩) m3.out hk4 (.slice Av nn cv))
   refine bodyPost_ret (results_cell_row rfl _ _ br 33 #[.slice (some ⟨g0,0,none⟩) ps.length cap0,.slice (some ⟨g1,0,none⟩) 3 cap1,.slice (some ⟨g2,0,none⟩) 2 cap2,.slice (some ⟨g3,0,none⟩) qs.length cap3,.slice A ys.length c] (0,0) _ rfl (by apply bp5_4_;apply bp5_3_;apply bp5_2_;apply bp5_1_;apply bp5_0_;exact M3.out) Try.underlying33 rfl (by kernel_rfl)) rfl ?_
   have z:=((HS.out.below m4.out).pcell who hwho 1 (by decide) (.slice Av nn cv) ⟨ps[who].f0,([] : List S69) ++ rest,ps[who].f2,ps[who].f3,ps[who].f4⟩ (fun cells hp=>hp.f1 _ _ HV.out)).setW5 (Nat.le_trans WS.out GR.out) M3.out (.slice (some ⟨g0,0,none⟩) ps.length cap0) (.slice (some ⟨g1,0,none⟩) 3 cap1) (.slice (some ⟨g2,0,none⟩) 2 cap2) (.slice (some ⟨g3,0,none⟩) qs.length cap3) (.slice A ys.length c)
   have fr:=(((Fr.refl ow w).below m4.out).set ⟨g0,who * 5 + 1,none⟩ (.slice Av nn cv) (.inl (by rw [hg0];decide))).set5 GR.out (.slice (some ⟨g0,0,none⟩) ps.length cap0) (.slice (some ⟨g1,0,none⟩) 3 cap1) (.slice (some ⟨g2,0,none⟩) 2 cap2) (.slice (some ⟨g3,0,none⟩) qs.length cap3) (.slice A ys.length c)
   exact ⟨_,rfl,z,fr,.inr (.inr (.inr rfl))⟩
 ·have o1 : (z0 != 0) = true:=by simp [e0]
  rcases hk with rfl | rfl
  ·go_enter Try.func43,Try.ntmps43
   go_wp2_with (first | ((with_reducible refine gate_dst (N:=4) rfl ?_);refine box_event ?hg (N:=4) ?hd (cs:=#[.slice (some ⟨g0,0,none⟩) ps.length cap0,.slice (some ⟨g1,0,none⟩) 3 cap1,.slice (some ⟨g2,0,none⟩) 2 cap2,.slice (some ⟨g3,0,none⟩) qs.length cap3,.slice A ys.length c]) (t:=33) ?hr ?_;(case hd=>rfl);(case hg=>rfl);(case hr=>first | (go_simp;done) | (go_simp;rfl));intro bw hg w5 hbox hb;replace HB:=ö (below_step HB.out hb);have GW:=ö (Nat.le_of_eq hg.symm);have BW:=ö hbox;clear hb hbox hg) | ((with_reducible refine gate_dst (N:=6) rfl ?_);refine box_event ?hg (N:=6) ?hd (cs:=#[.int .i64 6,.int .i64 (aa : Int),.int .i64 b,.int .i64 n,.slice A4 body.length c4,.slice A5 els.length c5]) (t:=69) ?hr ?_;(case hd=>rfl);(case hg=>rfl);(case hr=>first | (go_simp;done) | (go_simp;rfl));intro bs hg w6 hbox hb;have n1_:=ö (blk_below BW.out hb);have NS:=ö (show bw ≠ bs by rw [hg];exact Nat.ne_of_lt (blk_lt BW.out));have GS:=ö (show w.heap.size ≤ bs by rw [hg];exact HB.out.size);replace HB:=ö (below_step HB.out hb);clear BW;have BW:=n1_;clear n1_;have BS:=ö hbox;clear hb hbox hg) | ((with_reducible refine gate_dst (N:=8) rfl ?_);refine box_event ?hg (N:=8) ?hd (cs:=#[.slice none 0 0,.slice none 0 0,.slice none 0 0,.slice none 0 0,.slice none 0 0]) (t:=33) ?hr ?_;(case hd=>rfl);(case hg=>rfl);(case hr=>first | (go_simp;done) | (go_simp;rfl));intro br hg w7 hbox hb;have n1_:=ö (blk_below BW.out hb);have n2_:=ö (blk_below BS.out hb);have NR:=ö (show bw ≠ br by rw [hg];exact Nat.ne_of_lt (blk_lt BW.out));have GR:=ö (show w.heap.size ≤ br by rw [hg];exact HB.out.size);replace HB:=ö (below_step HB.out hb);clear BW BS;have BW:=n1_;have BS:=n2_;clear n1_ n2_;have BR:=ö hbox;obtain ⟨hcz_0,hcz_1,hcz_2,hcz_3,hcz_4,hfz_0,hfz_1,hfz_2,hfz_3,hfz_4⟩:=bz5_ BW;obtain ⟨hcy_0,hcy_1,hcy_2,hcy_3,hcy_4,hcy_5,hfy_0,hfy_1,hfy_2,hfy_3,hfy_4,hfy_5⟩:=bz6_ BS;obtain ⟨hcx_0,hcx_1,hcx_2,hcx_3,hcx_4,hfx_0,hfx_1,hfx_2,hfx_3,hfx_4⟩:=bz5_ BR;have hn1:=NR.out;have hn2:=hn1.symm;clear hb hbox hg))
   have m1:=ö (blk_drew BW.out)
   have m2:=ö (blk_drew BS.out)
   have m3:=ö (blk_drew BR.out)
   have m4:=ö (below_drew1 HB.out)
   clear hcz_0 hcz_1 hcz_2 hcz_3 hcz_4 hfz_0 hfz_1 hfz_2 hfz_3 hfz_4 hcx_0 hcx_1 hcx_2 hcx_3 hcx_4 hfx_0 hfx_1 hfx_2 hfx_3 hfx_4 hcy_0 hcy_1 hcy_2 hcy_3 hcy_4 hcy_5 hfy_0 hfy_1 hfy_2 hfy_3 hfy_4 hfy_5
   refine start_ (n:=12) (S:=fun w'=>w'.cell? ⟨bw,0,none⟩ = some (.slice (some ⟨g0,0,none⟩) ps.length cap0) ∧ w'.cell? ⟨g0,who * 5,none⟩ = some (.slice (some ⟨gr,0,none⟩) 3 cr) ∧ w'.cell? ⟨bs,1,none⟩ = some (.int .i64 (aa : Int)) ∧ w'.cell? ⟨gr,aa,none⟩ = some (.int .i64 z0)) (ds:=[]) #[false,false,false,false,false,false,false,false,false,false,false,false] (by kernel_rfl) rfl rfl ⟨(blk_cell m1.out 0).trans rfl,(m4.out.cell (è w _ HP0.out)).trans HP0.out,(blk_cell m2.out 1).trans rfl,(m4.out.cell (è w _ HZ0.out)).trans HZ0.out⟩ (fun hHeld=>?_)
   refine with_tabW goes1_tab goes1_bits (fun HT_ HW_=>?_)
   generalize w7.drew = w8 at m1 m2 m3 m4 hHeld ⊢
   refine pure_ (i:=0) (N:=some 11) (v:=?_) (a':=?_) #[true,false,false,false,false,false,false,false,false,false,false,false] rfl rfl (any_of HT_.out (by kernel_rfl)) (fun _ _ _ h=>h) (Or.inl ⟨by rfl,?_⟩) ?_ ?_
   rotate_left
   ·intro w'
    go_simp
    with_reducible rfl
   rotate_left
   ·(try simp only [á,ä,ü,é,i64_w,i32_w])
    rfl
   refine pure_ (i:=2) (N:=some 13) (v:=?_) (a':=?_) #[true,false,true,false,false,false,false,false,false,false,false,false] rfl rfl (any_of HT_.out (by kernel_rfl)) (fun _ _ _ h=>h) (Or.inl ⟨by rfl,?_⟩) ?_ ?_
   rotate_left
   ·intro w'
    go_simp
    with_reducible rfl
   rotate_left
   ·(try simp only [á,ä,ü,é,i64_w,i32_w])
    rfl
   refine pure_ (i:=6) (N:=some 17) (v:=?_) (a':=?_) #[true,false,true,false,false,false,true,false,false,false,false,false] rfl rfl (any_of HT_.out (by kernel_rfl)) (fun _ _ _ h=>h) (Or.inl ⟨by rfl,?_⟩) ?_ ?_
   rotate_left
   ·intro w'
    go_simp
    with_reducible rfl
   rotate_left
   ·(try simp only [á,ä,ü,é,i64_w,i32_w])
    rfl
   refine take_ (i:=1) (N:=some 12) (v:=?_) (a':=?_) #[true,true,true,false,false,false,true,false,false,false,false,false] rfl rfl (take_ofW HT_.out HW_.out (by kernel_rfl)) (fun _ _ _ h=>h) (Or.inl ⟨by rfl,?_⟩) hHeld ?_ ?_
   rotate_left
   ·rintro w' ⟨s0,s1,s2,s3⟩
    go_simp
    with_reducible rfl
   rotate_left
   ·(try simp only [á,ä,ü,é,i64_w,i32_w])
    rfl
   refine take_ (i:=7) (N:=some 18) (v:=?_) (a':=?_) #[true,true,true,false,false,false,true,true,false,false,false,false] rfl rfl (take_ofW HT_.out HW_.out (by kernel_rfl)) (fun _ _ _ h=>h) (Or.inl ⟨by rfl,?_⟩) hHeld ?_ ?_
   rotate_left
   ·rintro w' ⟨s0,s1,s2,s3⟩
    go_simp
    with_reducible rfl
   rotate_left
   ·(try simp only [á,ä,ü,é,i64_w,i32_w])
    rfl
   refine pure_ (i:=3) (N:=some 14) (v:=?_) (a':=?_) #[true,true,true,true,false,false,true,true,false,false,false,false] rfl rfl (any_of HT_.out (by kernel_rfl)) (fun _ _ _ h=>h) (Or.inl ⟨by rfl,?_⟩) ?_ ?_
   rotate_left
   ·intro w'
    go_simp
    with_reducible rfl
   rotate_left
   ·(try simp only [á,ä,ü,é,i64_w,i32_w])
    rfl
   refine pure_ (i:=4) (N:=some 15) (v:=?_) (a':=?_) #[true,true,true,true,true,false,true,true,false,false,false,false] rfl rfl (any_of HT_.out (by kernel_rfl)) (fun _ _ _ h=>h) (Or.inl ⟨by rfl,?_⟩) ?_ ?_
   rotate_left
   ·intro w'
    go_simp
    with_reducible rfl
   rotate_left
   ·(try simp only [á,ä,ü,é,i64_w,i32_w])
    rfl
   refine take_ (i:=5) (N:=some 16) (v:=?_) (a':=?_) #[true,true,true,true,true,true,true,true,false,false,false,false] rfl rfl (take_ofW HT_.out HW_.out (by kernel_rfl)) (fun _ _ _ h=>h) (Or.inl ⟨by rfl,?_⟩) hHeld ?_ ?_
   rotate_left
   ·rintro w' ⟨s0,s1,s2,s3⟩
    go_simp
    with_reducible rfl
   rotate_left
   ·(try simp only [á,ä,ü,é,i64_w,i32_w])
    rfl
   refine pure_ (i:=8) (N:=some 19) (v:=?_) (a':=?_) #[true,true,true,true,true,true,true,true,true,false,false,false] rfl rfl (any_of HT_.out (by kernel_rfl)) (fun _ _ _ h=>h) (Or.inl ⟨by rfl,?_⟩) ?_ ?_
   rotate_left
   ·intro w'
    go_simp
    with_reducible rfl
   rotate_left
   ·(try simp only [á,ä,ü,é,i64_w,i32_w])
    rfl
   refine take_ (i:=9) (N:=some 20) (v:=?_) (a':=?_) #[true,true,true,true,true,true,true,true,true,true,false,false] rfl rfl (take_ofW HT_.out HW_.out (by kernel_rfl)) (fun _ _ _ h=>h) (Or.inl ⟨by rfl,?_⟩) hHeld ?_ ?_
   rotate_left
   ·rintro w' ⟨s0,s1,s2,s3⟩
    go_simp
    with_reducible rfl
   rotate_left
   ·(try simp only [á,ä,ü,é,i64_w,i32_w])
    rfl
   refine pure_ (i:=10) (N:=some 21) (v:=?_) (a':=?_) #[true,true,true,true,true,true,true,true,true,true,true,false] rfl rfl (any_of HT_.out (by kernel_rfl)) (fun _ _ _ h=>h) (Or.inl ⟨by rfl,?_⟩) ?_ ?_
   rotate_left
   ·intro w'
    go_simp
    with_reducible rfl
   rotate_left
   ·(try simp only [á,ä,ü,é,i64_w,i32_w])
    rfl
   refine pure_ (i:=11) (N:=some 9) (v:=?_) (a':=?_) #[true,true,true,true,true,true,true,true,true,true,true,true] rfl rfl (any_of HT_.out (by kernel_rfl)) (fun _ _ _ h=>h) (Or.inl ⟨by rfl,?_⟩) ?_ ?_
   rotate_left
   ·intro w'
    go_simp
    with_reducible rfl
   rotate_left
   ·(try simp only [á,ä,ü,é,i64_w,i32_w])
    rfl
   refine done_ (done_of HT_.out (by kernel_rfl)) ?_
   clear HT_ HW_ hHeld BW BS BR HB
   obtain ⟨hcz_0,hcz_1,hcz_2,hcz_3,hcz_4,hfz_0,hfz_1,hfz_2,hfz_3,hfz_4⟩:=bz5_ m1;obtain ⟨hcy_0,hcy_1,hcy_2,hcy_3,hcy_4,hcy_5,hfy_0,hfy_1,hfy_2,hfy_3,hfy_4,hfy_5⟩:=bz6_ m2;obtain ⟨hcx_0,hcx_1,hcx_2,hcx_3,hcx_4,hfx_0,hfx_1,hfx_2,hfx_3,hfx_4⟩:=bz5_ m3
   go_wp2_with (first | ((with_reducible refine gate_dst (N:=22) rfl ?_);refine plain_ ?hg (fun K hK=>?_);(case hg=>rfl);refine lit0_step (kE lo) 0 69 (by rfl) ?hr (Nat.zero_le _) ?_;(case hr=>first | (go_simp;done) | (go_simp;rfl));intro gl w9 hg ho hb;refine hK _ _ ?_;clear hK K;have HL:=ö (show (kE lo).R 69 w9 0 (fun k=>ow k = 0) (.slice (some ⟨gl,0,none⟩) 0 0) [] from by obtain ⟨_,inner0,ho0,hr0⟩:=ho;exact ⟨fun k hk=>(by have e : some gl = some k:=hk;injection e with e;rw [← e];exact FREE.out gl (Nat.le_trans m4.out.size hg)),inner0,ho0,hr0.1,fun j p hj=>by simp at hj⟩);have q1_:=ö (blk_below m1.out hb);have q2_:=ö (blk_below m2.out hb);have q3_:=ö (blk_below m3.out hb);have q4_:=ö (below_step m4.out hb);clear m1 m2 m3 m4;have m1:=q1_;have m2:=q2_;have m3:=q3_;have m4:=q4_;clear q1_ q2_ q3_ q4_;clear hcz_0 hcz_1 hcz_2 hcz_3 hcz_4 hfz_0 hfz_1 hfz_2 hfz_3 hfz_4 hcx_0 hcx_1 hcx_2 hcx_3 hcx_4 hfx_0 hfx_1 hfx_2 hfx_3 hfx_4 hcy_0 hcy_1 hcy_2 hcy_3 hcy_4 hcy_5 hfy_0 hfy_1 hfy_2 hfy_3 hfy_4 hfy_5;clear ho hb hg;obtain ⟨hcz_0,hcz_1,hcz_2,hcz_3,hcz_4,hfz_0,hfz_1,hfz_2,hfz_3,hfz_4⟩:=bz5_ m1;obtain ⟨hcy_0,hcy_1,hcy_2,hcy_3,hcy_4,hcy_5,hfy_0,hfy_1,hfy_2,hfy_3,hfy_4,hfy_5⟩:=bz6_ m2;obtain ⟨hcx_0,hcx_1,hcx_2,hcx_3,hcx_4,hfx_0,hfx_1,hfx_2,hfx_3,hfx_4⟩:=bz5_ m3;))
   have HL4:=ö (HB4.out.src (HS.out.below m4.out).ag)
   have n1:=ö (blk_drew m1.out)
   have n2:=ö (blk_drew m2.out)
   have n3:=ö (blk_drew m3.out)
   have n4:=ö (below_drew1 m4.out)
   have n5:=ö (HL4.out.below (below_drew1 (Below.refl _ _)))
   clear m1 m2 m3 m4 hcz_0 hcz_1 hcz_2 hcz_3 hcz_4 hfz_0 hfz_1 hfz_2 hfz_3 hfz_4 hcx_0 hcx_1 hcx_2 hcx_3 hcx_4 hfx_0 hfx_1 hfx_2 hfx_3 hfx_4 hcy_0 hcy_1 hcy_2 hcy_3 hcy_4 hcy_5 hfy_0 hfy_1 hfy_2 hfy_3 hfy_4 hfy_5
   refine start_ (n:=9) (S:=fun w'=>w'.cell? ⟨bw,0,none⟩ = some (.slice (some ⟨g0,0,none⟩) ps.length cap0)) (ds:=[8]) #[false,false,false,false,false,false,false,false,false] (by kernel_rfl) rfl rfl ((blk_cell n1.out 0).trans rfl) (fun hHeld=>?_)
   refine with_tabW goes9_tab goes9_bits (fun HT_ HW_=>?_)
   generalize w9.drew = w20 at n1 n2 n3 n4 n5 hHeld ⊢
   refine pure_ (i:=0) (N:=some 45) (v:=?_) (a':=?_) #[true,false,false,false,false,false,false,false,false] rfl rfl (any_of HT_.out (by kernel_rfl)) (fun _ _ _ h=>h) (Or.inl ⟨by rfl,?_⟩) ?_ ?_
   rotate_left
   ·intro w'
    go_simp
    with_reducible rfl
   rotate_left
   ·(try simp only [á,ä,ü,é,i64_w,i32_w])
    rfl
   refine pure_ (i:=2) (N:=some 47) (v:=?_) (a':=?_) #[true,false,true,false,false,false,false,false,false] rfl rfl (any_of HT_.out (by kernel_rfl)) (fun _ _ _ h=>h) (Or.inl ⟨by rfl,?_⟩) ?_ ?_
   rotate_left
   ·intro w'
    go_simp
    with_reducible rfl
   rotate_left
   ·(try simp only [á,ä,ü,é,i64_w,i32_w])
    rfl
   refine pure_ (i:=3) (N:=some 48) (v:=?_) (a':=?_) #[true,false,true,true,false,false,false,false,false] rfl rfl (any_of HT_.out (by kernel_rfl)) (fun _ _ _ h=>h) (Or.inl ⟨by rfl,?_⟩) ?_ ?_
   rotate_left
   ·intro w'
    go_simp
    with_reducible rfl
   rotate_left
   ·(try simp only [á,ä,ü,é,i64_w,i32_w])
    rfl
   refine pure_ (i:=4) (N:=some 49) (v:=?_) (a':=?_) #[true,false,true,true,true,false,false,false,false] rfl rfl (any_of HT_.out (by kernel_rfl)) (fun _ _ _ h=>h) (Or.inl ⟨by rfl,?_⟩) ?_ ?_
   rotate_left
   ·intro w'
    go_simp
    with_reducible rfl
   rotate_left
   ·(try simp only [á,ä,ü,é,i64_w,i32_w])
    rfl
   refine take_ (i:=1) (N:=some 46) (v:=?_) (a':=?_) #[true,true,true,true,true,false,false,false,false] rfl rfl (take_ofW HT_.out HW_.out (by kernel_rfl)) (fun _ _ _ h=>h) (Or.inl ⟨by rfl,?_⟩) hHeld ?_ ?_
   rotate_left
   ·rintro w' s0
    go_simp
    with_reducible rfl
   rotate_left
   ·(try simp only [á,ä,ü,é,i64_w,i32_w])
    rfl
   refine one_ (i:=5) (N:=some 50) #[true,true,true,true,true,true,false,false,false] rfl rfl (one_of HT_.out (by kernel_rfl)) (by decide) (fun K hK=>?_)
   refine goes_ Try.func52 (by kernel_rfl) rfl #[.slice A4 body.length c4,.slice AR rest.length cR] (by rfl) rfl rfl (by (try simp only [List.map_toArray,List.map_cons,List.map_nil]);first | done | rfl | (simp only [List.length_drop,List.length_take];rfl)) ?_
   refine (l3ahead_says lo w20 (fun k=>ow k = 0) (fun k hk=>FREE.out k (Nat.le_trans n4.out.size hk)) _ _ body rest n5.out (Src.ofR (Kd.R_below HBR.out n4.out)) (by first | omega | (simp;done) | (simp;omega)) (by omega)).mono ?_
   rintro e wt ⟨vt,rfl,hv,hb⟩
   refine ⟨_,rfl,?_⟩
   have m1:=ö (blk_below n1.out hb)
   have m3:=ö (blk_below n3.out hb)
   have m4:=ö (below_step n4.out hb)
   have HV:=ö hv
   obtain ⟨Av,cv,ev⟩:=Kd.R_slice hv
   obtain ⟨nn,hnn⟩ : ∃ q,q = (body ++ rest).length:=⟨_,rfl⟩
   rw [← hnn] at ev
   subst ev
   clear hnn
   clear hv hb hHeld n1 n2 n3 n4 n5
   refine hK.out _ _ ((blk_cell m1.out 0).trans rfl) (fun hHeld=>?_)
   clear hK K
   refine norm_ (a':=?_) ?_ ?_
   rotate_left
   ·show á _ (some 50) _ = _
    simp only [á,ä,ü,é,i64_w,i32_w]
    rfl
   refine pure_ (i:=6) (N:=some 51) (v:=?_) (a':=?_) #[true,true,true,true,true,true,true,false,false] rfl rfl (any_of HT_.out (by kernel_rfl)) (fun _ _ _ h=>h) (Or.inl ⟨by rfl,?_⟩) ?_ ?_
   rotate_left
   ·intro w'
    go_simp
    with_reducible rfl
   rotate_left
   ·(try simp only [á,ä,ü,é,i64_w,i32_w])
    rfl
   refine pure_ (i:=7) (N:=some 52) (v:=?_) (a':=?_) #[true,true,true,true,true,true,true,true,false] rfl rfl (any_of HT_.out (by kernel_rfl)) (fun _ _ _ h=>h) (Or.inl ⟨by rfl,?_⟩) ?_ ?_
   rotate_left
   ·intro w'
    go_simp
    with_reducible rfl
   rotate_left
   ·(try simp only [á,ä,ü,é,i64_w,i32_w])
    rfl
   have hy0:=(m4.out.cell (è w _ HP1.out)).trans HP1.out
   have hfy0 : wt.frozen? ⟨g0,who * 5 + 1,none⟩ = false:=(m4.out.frozen (è w _ HP1.out)).trans (HPF.out _)
   have hk1 : g0 ≠ bw:=(by have h1:=GW.out;have h2:=GL.out;omega)
   have hk2 : g0 ≠ br:=(by have h1:=GR.out;have h2:=GL.out;omega)
   have hk3:=hk1.symm
   have hk4:=hk2.symm
   refine last_ (i:=8) (N:=none) #[true,true,true,true,true,true,true,true,true] rfl rfl (one_of HT_.out (by kernel_rfl)) (by decide) (fun K hK=>?_)
   refine skip_ (w1:=?_) (by rfl) rfl ?_ ?_
   rotate_left
   ·go_simp
    rfl
   refine hK.out _ _ ?_
   clear hK K
   refine done_ (done_of HT_.out (by kernel_rfl)) ?_
   clear HT_ HW_
   obtain ⟨hcz_0,hcz_1,hcz_2,hcz_3,hcz_4,hfz_0,hfz_1,hfz_2,hfz_3,hfz_4⟩:=bz5_ m1
   obtain ⟨hcx_0,hcx_1,hcx_2,hcx_3,hcx_4,hfx_0,hfx_1,hfx_2,hfx_3,hfx_4⟩:=bz5_ m3
   go_wp2
   have M3:=ö (blk_far (p:=⟨g0,who * 5 + 1,none⟩) m3.out hk4 (.slice Av nn cv))
   refine bodyPost_ret (results_cell_row rfl _ _ br 33 #[.slice (some ⟨g0,0,none⟩) ps.length cap0,.slice (some ⟨g1,0,none⟩) 3 cap1,.slice (some ⟨g2,0,none⟩) 2 cap2,.slice (some ⟨g3,0,none⟩) qs.length cap3,.slice A ys.length c] (0,0) _ rfl (by apply bp5_4_;apply bp5_3_;apply bp5_2_;apply bp5_1_;apply bp5_0_;exact M3.out) Try.underlying33 rfl (by kernel_rfl)) rfl ?_
   have z:=((HS.out.below m4.out).pcell who hwho 1 (by decide) (.slice Av nn cv) ⟨ps[who].f0,body ++ rest,ps[who].f2,ps[who].f3,ps[who].f4⟩ (fun cells hp=>hp.f1 _ _ HV.out)).setW5 (Nat.le_trans WS.out GR.out) M3.out (.slice (some ⟨g0,0,none⟩) ps.length cap0) (.slice (some ⟨g1,0,none⟩) 3 cap1) (.slice (some ⟨g2,0,none⟩) 2 cap2) (.slice (some ⟨g3,0,none⟩) qs.length cap3) (.slice A ys.length c)
   have fr:=(((Fr.refl ow w).below m4.out).set ⟨g0,who * 5 + 1,none⟩ (.slice Av nn cv) (.inl (by rw [hg0];decide))).set5 GR.out (.slice (some ⟨g0,0,none⟩) ps.length cap0) (.slice (some ⟨g1,0,none⟩) 3 cap1) (.slice (some ⟨g2,0,none⟩) 2 cap2) (.slice (some ⟨g3,0,none⟩) qs.length cap3) (.slice A ys.length c)
   exact ⟨_,rfl,z,fr,.inr (.inl rfl)⟩
  ·go_enter Try.func43,Try.ntmps43
   go_wp2_with (first | ((with_reducible refine gate_dst (N:=4) rfl ?_);refine box_event ?hg (N:=4) ?hd (cs:=#[.slice (some ⟨g0,0,none⟩) ps.length cap0,.slice (some ⟨g1,0,none⟩) 3 cap1,.slice (some ⟨g2,0,none⟩) 2 cap2,.slice (some ⟨g3,0,none⟩) qs.length cap3,.slice A ys.length c]) (t:=33) ?hr ?_;(case hd=>rfl);(case hg=>rfl);(case hr=>first | (go_simp;done) | (go_simp;rfl));intro bw hg w5 hbox hb;replace HB:=ö (below_step HB.out hb);have GW:=ö (Nat.le_of_eq hg.symm);have BW:=ö hbox;clear hb hbox hg) | ((with_reducible refine gate_dst (N:=6) rfl ?_);refine box_event ?hg (N:=6) ?hd (cs:=#[.int .i64 7,.int .i64 (aa : Int),.int .i64 b,.int .i64 n,.slice A4 body.length c4,.slice A5 els.length c5]) (t:=69) ?hr ?_;(case hd=>rfl);(case hg=>rfl);(case hr=>first | (go_simp;done) | (go_simp;rfl));intro bs hg w6 hbox hb;have n1_:=ö (blk_below BW.out hb);have NS:=ö (show bw ≠ bs by rw [hg];exact Nat.ne_of_lt (blk_lt BW.out));have GS:=ö (show w.heap.size ≤ bs by rw [hg];exact HB.out.size);replace HB:=ö (below_step HB.out hb);clear BW;have BW:=n1_;clear n1_;have BS:=ö hbox;clear hb hbox hg) | ((with_reducible refine gate_dst (N:=8) rfl ?_);refine box_event ?hg (N:=8) ?hd (cs:=#[.slice none 0 0,.slice none 0 0,.slice none 0 0,.slice none 0 0,.slice none 0 0]) (t:=33) ?hr ?_;(case hd=>rfl);(case hg=>rfl);(case hr=>first | (go_simp;done) | (go_simp;rfl));intro br hg w7 hbox hb;have n1_:=ö (blk_below BW.out hb);have n2_:=ö (blk_below BS.out hb);have NR:=ö (show bw ≠ br by rw [hg];exact Nat.ne_of_lt (blk_lt BW.out));have GR:=ö (show w.heap.size ≤ br by rw [hg];exact HB.out.size);replace HB:=ö (below_step HB.out hb);clear BW BS;have BW:=n1_;have BS:=n2_;clear n1_ n2_;have BR:=ö hbox;obtain ⟨hcz_0,hcz_1,hcz_2,hcz_3,hcz_4,hfz_0,hfz_1,hfz_2,hfz_3,hfz_4⟩:=bz5_ BW;obtain ⟨hcy_0,hcy_1,hcy_2,hcy_3,hcy_4,hcy_5,hfy_0,hfy_1,hfy_2,hfy_3,hfy_4,hfy_5⟩:=bz6_ BS;obtain ⟨hcx_0,hcx_1,hcx_2,hcx_3,hcx_4,hfx_0,hfx_1,hfx_2,hfx_3,hfx_4⟩:=bz5_ BR;have hn1:=NR.out;have hn2:=hn1.symm;clear hb hbox hg))
   have m1:=ö (blk_drew BW.out)
   have m2:=ö (blk_drew BS.out)
   have m3:=ö (blk_drew BR.out)
   have m4:=ö (below_drew1 HB.out)
   clear hcz_0 hcz_1 hcz_2 hcz_3 hcz_4 hfz_0 hfz_1 hfz_2 hfz_3 hfz_4 hcx_0 hcx_1 hcx_2 hcx_3 hcx_4 hfx_0 hfx_1 hfx_2 hfx_3 hfx_4 hcy_0 hcy_1 hcy_2 hcy_3 hcy_4 hcy_5 hfy_0 hfy_1 hfy_2 hfy_3 hfy_4 hfy_5
   refine start_ (n:=12) (S:=fun w'=>w'.cell? ⟨bw,0,none⟩ = some (.slice (some ⟨g0,0,none⟩) ps.length cap0) ∧ w'.cell? ⟨g0,who * 5,none⟩ = some (.slice (some ⟨gr,0,none⟩) 3 cr) ∧ w'.cell? ⟨bs,1,none⟩ = some (.int .i64 (aa : Int)) ∧ w'.cell? ⟨gr,aa,none⟩ = some (.int .i64 z0)) (ds:=[]) #[false,false,false,false,false,false,false,false,false,false,false,false] (by kernel_rfl) rfl rfl ⟨(blk_cell m1.out 0).trans rfl,(m4.out.cell (è w _ HP0.out)).trans HP0.out,(blk_cell m2.out 1).trans rfl,(m4.out.cell (è w _ HZ0.out)).trans HZ0.out⟩ (fun hHeld=>?_)
   refine with_tabW goes1_tab goes1_bits (fun HT_ HW_=>?_)
   generalize w7.drew = w8 at m1 m2 m3 m4 hHeld ⊢
   refine pure_ (i:=0) (N:=some 11) (v:=?_) (a':=?_) #[true,false,false,false,false,false,false,false,false,false,false,false] rfl rfl (any_of HT_.out (by kernel_rfl)) (fun _ _ _ h=>h) (Or.inl ⟨by rfl,?_⟩) ?_ ?_
   rotate_left
   ·intro w'
    go_simp
    with_reducible rfl
   rotate_left
   ·(try simp only [á,ä,ü,é,i64_w,i32_w])
    rfl
   refine pure_ (i:=2) (N:=some 13) (v:=?_) (a':=?_) #[true,false,true,false,false,false,false,false,false,false,false,false] rfl rfl (any_of HT_.out (by kernel_rfl)) (fun _ _ _ h=>h) (Or.inl ⟨by rfl,?_⟩) ?_ ?_
   rotate_left
   ·intro w'
    go_simp
    with_reducible rfl
   rotate_left
   ·(try simp only [á,ä,ü,é,i64_w,i32_w])
    rfl
   refine pure_ (i:=6) (N:=some 17) (v:=?_) (a':=?_) #[true,false,true,false,false,false,true,false,false,false,false,false] rfl rfl (any_of HT_.out (by kernel_rfl)) (fun _ _ _ h=>h) (Or.inl ⟨by rfl,?_⟩) ?_ ?_
   rotate_left
   ·intro w'
    go_simp
    with_reducible rfl
   rotate_left
   ·(try simp only [á,ä,ü,é,i64_w,i32_w])
    rfl
   refine take_ (i:=1) (N:=some 12) (v:=?_) (a':=?_) #[true,true,true,false,false,false,true,false,false,false,false,false] rfl rfl (take_ofW HT_.out HW_.out (by kernel_rfl)) (fun _ _ _ h=>h) (Or.inl ⟨by rfl,?_⟩) hHeld ?_ ?_
   rotate_left
   ·rintro w' ⟨s0,s1,s2,s3⟩
    go_simp
    with_reducible rfl
   rotate_left
   ·(try simp only [á,ä,ü,é,i64_w,i32_w])
    rfl
   refine take_ (i:=7) (N:=some 18) (v:=?_) (a':=?_) #[true,true,true,false,false,false,true,true,false,false,false,false] rfl rfl (take_ofW HT_.out HW_.out (by kernel_rfl)) (fun _ _ _ h=>h) (Or.inl ⟨by rfl,?_⟩) hHeld ?_ ?_
   rotate_left
   ·rintro w' ⟨s0,s1,s2,s3⟩
    go_simp
    with_reducible rfl
   rotate_left
   ·(try simp only [á,ä,ü,é,i64_w,i32_w])
    rfl
   refine pure_ (i:=3) (N:=some 14) (v:=?_) (a':=?_) #[true,true,true,true,false,false,true,true,false,false,false,false] rfl rfl (any_of HT_.out (by kernel_rfl)) (fun _ _ _ h=>h) (Or.inl ⟨by rfl,?_⟩) ?_ ?_
   rotate_left
   ·intro w'
    go_simp
    with_reducible rfl
   rotate_left
   ·(try simp only [á,ä,ü,é,i64_w,i32_w])
    rfl
   refine pure_ (i:=4) (N:=some 15) (v:=?_) (a':=?_) #[true,true,true,true,true,false,true,true,false,false,false,false] rfl rfl (any_of HT_.out (by kernel_rfl)) (fun _ _ _ h=>h) (Or.inl ⟨by rfl,?_⟩) ?_ ?_
   rotate_left
   ·intro w'
    go_simp
    with_reducible rfl
   rotate_left
   ·(try simp only [á,ä,ü,é,i64_w,i32_w])
    rfl
   refine take_ (i:=5) (N:=some 16) (v:=?_) (a':=?_) #[true,true,true,true,true,true,true,true,false,false,false,false] rfl rfl (take_ofW HT_.out HW_.out (by kernel_rfl)) (fun _ _ _ h=>h) (Or.inl ⟨by rfl,?_⟩) hHeld ?_ ?_
   rotate_left
   ·rintro w' ⟨s0,s1,s2,s3⟩
    go_simp
    with_reducible rfl
   rotate_left
   ·(try simp only [á,ä,ü,é,i64_w,i32_w])
    rfl
   refine pure_ (i:=8) (N:=some 19) (v:=?_) (a':=?_) #[true,true,true,true,true,true,true,true,true,false,false,false] rfl rfl (any_of HT_.out (by kernel_rfl)) (fun _ _ _ h=>h) (Or.inl ⟨by rfl,?_⟩) ?_ ?_
   rotate_left
   ·intro w'
    go_simp
    with_reducible rfl
   rotate_left
   ·(try simp only [á,ä,ü,é,i64_w,i32_w])
    rfl
   refine take_ (i:=9) (N:=some 20) (v:=?_) (a':=?_) #[true,true,true,true,true,true,true,true,true,true,false,false] rfl rfl (take_ofW HT_.out HW_.out (by kernel_rfl)) (fun _ _ _ h=>h) (Or.inl ⟨by rfl,?_⟩) hHeld ?_ ?_
   rotate_left
   ·rintro w' ⟨s0,s1,s2,s3⟩
    go_simp
    with_reducible rfl
   rotate_left
   ·(try simp only [á,ä,ü,é,i64_w,i32_w])
    rfl
   refine pure_ (i:=10) (N:=some 21) (v:=?_) (a':=?_) #[true,true,true,true,true,true,true,true,true,true,true,false] rfl rfl (any_of HT_.out (by kernel_rfl)) (fun _ _ _ h=>h) (Or.inl ⟨by rfl,?_⟩) ?_ ?_
   rotate_left
   ·intro w'
    go_simp
    with_reducible rfl
   rotate_left
   ·(try simp only [á,ä,ü,é,i64_w,i32_w])
    rfl
   refine pure_ (i:=11) (N:=some 9) (v:=?_) (a':=?_) #[true,true,true,true,true,true,true,true,true,true,true,true] rfl rfl (any_of HT_.out (by kernel_rfl)) (fun _ _ _ h=>h) (Or.inl ⟨by rfl,?_⟩) ?_ ?_
   rotate_left
   ·intro w'
    go_simp
    with_reducible rfl
   rotate_left
   ·(try simp only [á,ä,ü,é,i64_w,i32_w])
    rfl
   refine done_ (done_of HT_.out (by kernel_rfl)) ?_
   clear HT_ HW_ hHeld BW BS BR HB
   obtain ⟨hcz_0,hcz_1,hcz_2,hcz_3,hcz_4,hfz_0,hfz_1,hfz_2,hfz_3,hfz_4⟩:=bz5_ m1;obtain ⟨hcy_0,hcy_1,hcy_2,hcy_3,hcy_4,hcy_5,hfy_0,hfy_1,hfy_2,hfy_3,hfy_4,hfy_5⟩:=bz6_ m2;obtain ⟨hcx_0,hcx_1,hcx_2,hcx_3,hcx_4,hfx_0,hfx_1,hfx_2,hfx_3,hfx_4⟩:=bz5_ m3
   go_wp2_with (first | ((with_reducible refine gate_dst (N:=22) rfl ?_);refine plain_ ?hg (fun K hK=>?_);(case hg=>rfl);refine lit0_step (kE lo) 0 69 (by rfl) ?hr (Nat.zero_le _) ?_;(case hr=>first | (go_simp;done) | (go_simp;rfl));intro gl w9 hg ho hb;refine hK _ _ ?_;clear hK K;have HL:=ö (show (kE lo).R 69 w9 0 (fun k=>ow k = 0) (.slice (some ⟨gl,0,none⟩) 0 0) [] from by obtain ⟨_,inner0,ho0,hr0⟩:=ho;exact ⟨fun k hk=>(by have e : some gl = some k:=hk;injection e with e;rw [← e];exact FREE.out gl (Nat.le_trans m4.out.size hg)),inner0,ho0,hr0.1,fun j p hj=>by simp at hj⟩);have q1_:=ö (blk_below m1.out hb);have q2_:=ö (blk_below m2.out hb);have q3_:=ö (blk_below m3.out hb);have q4_:=ö (below_step m4.out hb);clear m1 m2 m3 m4;have m1:=q1_;have m2:=q2_;have m3:=q3_;have m4:=q4_;clear q1_ q2_ q3_ q4_;clear hcz_0 hcz_1 hcz_2 hcz_3 hcz_4 hfz_0 hfz_1 hfz_2 hfz_3 hfz_4 hcx_0 hcx_1 hcx_2 hcx_3 hcx_4 hfx_0 hfx_1 hfx_2 hfx_3 hfx_4 hcy_0 hcy_1 hcy_2 hcy_3 hcy_4 hcy_5 hfy_0 hfy_1 hfy_2 hfy_3 hfy_4 hfy_5;clear ho hb hg;obtain ⟨hcz_0,hcz_1,hcz_2,hcz_3,hcz_4,hfz_0,hfz_1,hfz_2,hfz_3,hfz_4⟩:=bz5_ m1;obtain ⟨hcy_0,hcy_1,hcy_2,hcy_3,hcy_4,hcy_5,hfy_0,hfy_1,hfy_2,hfy_3,hfy_4,hfy_5⟩:=bz6_ m2;obtain ⟨hcx_0,hcx_1,hcx_2,hcx_3,hcx_4,hfx_0,hfx_1,hfx_2,hfx_3,hfx_4⟩:=bz5_ m3;) | ((with_reducible refine gate_dst (N:=33) rfl ?_);refine plain_ ?hg (fun K hK=>?_);(case hg=>rfl);refine Kd.R_lit_step (kE lo) (w0:=w) 0 69 (by rfl) (N:=33) rfl (xs:=[(⟨7,(aa : Int),b,n,body,els⟩ : S69)]) (inner:=[.int .i64 7,.int .i64 (aa : Int),.int .i64 b,.int .i64 n,.slice A4 body.length c4,.slice A5 els.length c5]) (ok:=fun k=>ow k = 0) (okp:=fun k=>ow k = 0) ?hr (Reps.c6 (kE_mkM lo _ 0 _ (⟨7,(aa : Int),b,n,body,els⟩ : S69) HB4.out HB5.out) (Reps.none _ _)) (fun _ h=>h) (FREE.out _ m4.out.size) (Below.zero m4.out) (Nat.zero_le _) (by simp) ?_;(case hr=>first | (go_simp;done) | (go_simp;rfl));intro v33 w10 ho hb0 hg_ hn_;refine hK _ _ ?_;clear hK K;have hb : Below w9.heap.size w9 w10:=⟨hg_.os,hg_.tape,hg_.output,hg_.size,fun k hk=>hg_.block k hk (by simp)⟩;have H33:=ö ho;have q1_:=ö (blk_below m1.out hb);have q2_:=ö (blk_below m2.out hb);have q3_:=ö (blk_below m3.out hb);have q4_:=ö (below_step m4.out hb);clear m1 m2 m3 m4;have m1:=q1_;have m2:=q2_;have m3:=q3_;have m4:=q4_;clear q1_ q2_ q3_ q4_;clear hcz_0 hcz_1 hcz_2 hcz_3 hcz_4 hfz_0 hfz_1 hfz_2 hfz_3 hfz_4 hcx_0 hcx_1 hcx_2 hcx_3 hcx_4 hfx_0 hfx_1 hfx_2 hfx_3 hfx_4 hcy_0 hcy_1 hcy_2 hcy_3 hcy_4 hcy_5 hfy_0 hfy_1 hfy_2 hfy_3 hfy_4 hfy_5;clear ho hb hb0 hg_ hn_;obtain ⟨A33,c33,e33⟩:=Kd.R_slice H33.out;subst e33;obtain ⟨hcz_0,hcz_1,hcz_2,hcz_3,hcz_4,hfz_0,hfz_1,hfz_2,hfz_3,hfz_4⟩:=bz5_ m1;obtain ⟨hcy_0,hcy_1,hcy_2,hcy_3,hcy_4,hcy_5,hfy_0,hfy_1,hfy_2,hfy_3,hfy_4,hfy_5⟩:=bz6_ m2;obtain ⟨hcx_0,hcx_1,hcx_2,hcx_3,hcx_4,hfx_0,hfx_1,hfx_2,hfx_3,hfx_4⟩:=bz5_ m3;) | (go_at_call 52;refine (l3ahead_says lo w10 (fun k=>ow k = 0) (fun k hk=>FREE.out k (Nat.le_trans m4.out.size hk)) _ _ body _ (HB4.out.src (HS.out.below m4.out).ag) (Src.ofR H33.out) (by omega) (by simp)).mono ?_;rintro e w11 ⟨v34,rfl,hv,hb⟩;have HL2:=ö hv;have q1_:=ö (blk_below m1.out hb);have q2_:=ö (blk_below m2.out hb);have q3_:=ö (blk_below m3.out hb);have q4_:=ö (below_step m4.out hb);clear m1 m2 m3 m4;have m1:=q1_;have m2:=q2_;have m3:=q3_;have m4:=q4_;clear q1_ q2_ q3_ q4_;clear hcz_0 hcz_1 hcz_2 hcz_3 hcz_4 hfz_0 hfz_1 hfz_2 hfz_3 hfz_4 hcx_0 hcx_1 hcx_2 hcx_3 hcx_4 hfx_0 hfx_1 hfx_2 hfx_3 hfx_4 hcy_0 hcy_1 hcy_2 hcy_3 hcy_4 hcy_5 hfy_0 hfy_1 hfy_2 hfy_3 hfy_4 hfy_5;clear hv hb;obtain ⟨A34,c34,e34⟩:=Kd.R_slice HL2.out;obtain ⟨n34,h34⟩ : ∃ q,q = (body ++ [(⟨7,(aa : Int),b,n,body,els⟩ : S69)]).length:=⟨_,rfl⟩;rw [← h34] at e34;subst e34;clear h34;obtain ⟨hcz_0,hcz_1,hcz_2,hcz_3,hcz_4,hfz_0,hfz_1,hfz_2,hfz_3,hfz_4⟩:=bz5_ m1;obtain ⟨hcy_0,hcy_1,hcy_2,hcy_3,hcy_4,hcy_5,hfy_0,hfy_1,hfy_2,hfy_3,hfy_4,hfy_5⟩:=bz6_ m2;obtain ⟨hcx_0,hcx_1,hcx_2,hcx_3,hcx_4,hfx_0,hfx_1,hfx_2,hfx_3,hfx_4⟩:=bz5_ m3;))
   have HLS:=ö (Src.ofR HL2.out)
   have n1:=ö (blk_drew m1.out)
   have n2:=ö (blk_drew m2.out)
   have n3:=ö (blk_drew m3.out)
   have n4:=ö (below_drew1 m4.out)
   have n5:=ö (HLS.out.below (below_drew1 (Below.refl _ _)))
   clear m1 m2 m3 m4 hcz_0 hcz_1 hcz_2 hcz_3 hcz_4 hfz_0 hfz_1 hfz_2 hfz_3 hfz_4 hcx_0 hcx_1 hcx_2 hcx_3 hcx_4 hfx_0 hfx_1 hfx_2 hfx_3 hfx_4 hcy_0 hcy_1 hcy_2 hcy_3 hcy_4 hcy_5 hfy_0 hfy_1 hfy_2 hfy_3 hfy_4 hfy_5
   refine start_ (n:=9) (S:=fun w'=>w'.cell? ⟨bw,0,none⟩ = some (.slice (some ⟨g0,0,none⟩) ps.length cap0)) (ds:=[8]) #[false,false,false,false,false,false,false,false,false] (by kernel_rfl) rfl rfl ((blk_cell n1.out 0).trans rfl) (fun hHeld=>?_)
   refine with_tabW goes9_tab goes9_bits (fun HT_ HW_=>?_)
   generalize w11.drew = w20 at n1 n2 n3 n4 n5 hHeld ⊢
   refine pure_ (i:=0) (N:=some 45) (v:=?_) (a':=?_) #[true,false,false,false,false,false,false,false,false] rfl rfl (any_of HT_.out (by kernel_rfl)) (fun _ _ _ h=>h) (Or.inl ⟨by rfl,?_⟩) ?_ ?_
   rotate_left
   ·intro w'
    go_simp
    with_reducible rfl
   rotate_left
   ·(try simp only [á,ä,ü,é,i64_w,i32_w])
    rfl
   refine pure_ (i:=2) (N:=some 47) (v:=?_) (a':=?_) #[true,false,true,false,false,false,false,false,false] rfl rfl (any_of HT_.out (by kernel_rfl)) (fun _ _ _ h=>h) (Or.inl ⟨by rfl,?_⟩) ?_ ?_
   rotate_left
   ·intro w'
    go_simp
    with_reducible rfl
   rotate_left
   ·(try simp only [á,ä,ü,é,i64_w,i32_w])
    rfl
   refine pure_ (i:=3) (N:=some 48) (v:=?_) (a':=?_) #[true,false,true,true,false,false,false,false,false] rfl rfl (any_of HT_.out (by kernel_rfl)) (fun _ _ _ h=>h) (Or.inl ⟨by rfl,?_⟩) ?_ ?_
   rotate_left
   ·intro w'
    go_simp
    with_reducible rfl
   rotate_left
   ·(try simp only [á,ä,ü,é,i64_w,i32_w])
    rfl
   refine pure_ (i:=4) (N:=some 49) (v:=?_) (a':=?_) #[true,false,true,true,true,false,false,false,false] rfl rfl (any_of HT_.out (by kernel_rfl)) (fun _ _ _ h=>h) (Or.inl ⟨by rfl,?_⟩) ?_ ?_
   rotate_left
   ·intro w'
    go_simp
    with_reducible rfl
   rotate_left
   ·(try simp only [á,ä,ü,é,i64_w,i32_w])
    rfl
   refine take_ (i:=1) (N:=some 46) (v:=?_) (a':=?_) #[true,true,true,true,true,false,false,false,false] rfl rfl (take_ofW HT_.out HW_.out (by kernel_rfl)) (fun _ _ _ h=>h) (Or.inl ⟨by rfl,?_⟩) hHeld ?_ ?_
   rotate_left
   ·rintro w' s0
    go_simp
    with_reducible rfl
   rotate_left
   ·(try simp only [á,ä,ü,é,i64_w,i32_w])
    rfl
   refine one_ (i:=5) (N:=some 50) #[true,true,true,true,true,true,false,false,false] rfl rfl (one_of HT_.out (by kernel_rfl)) (by decide) (fun K hK=>?_)
   refine goes_ Try.func52 (by kernel_rfl) rfl #[.slice A34 n34 c34,.slice AR rest.length cR] (by rfl) rfl rfl (by (try simp only [List.map_toArray,List.map_cons,List.map_nil]);first | done | rfl | (simp only [List.length_drop,List.length_take];rfl)) ?_
   refine (l3ahead_says lo w20 (fun k=>ow k = 0) (fun k hk=>FREE.out k (Nat.le_trans n4.out.size hk)) _ _ (body ++ [(⟨7,(aa : Int),b,n,body,els⟩ : S69)]) rest n5.out (Src.ofR (Kd.R_below HBR.out n4.out)) (by first | omega | (simp;done) | (simp;omega)) (by omega)).mono ?_
   rintro e wt ⟨vt,rfl,hv,hb⟩
   refine ⟨_,rfl,?_⟩
   have m1:=ö (blk_below n1.out hb)
   have m3:=ö (blk_below n3.out hb)
   have m4:=ö (below_step n4.out hb)
   have HV:=ö hv
   obtain ⟨Av,cv,ev⟩:=Kd.R_slice hv
   obtain ⟨nn,hnn⟩ : ∃ q,q = ((body ++ [(⟨7,(aa : Int),b,n,body,els⟩ : S69)]) ++ rest).length:=⟨_,rfl⟩
   rw [← hnn] at ev
   subst ev
   clear hnn
   clear hv hb hHeld n1 n2 n3 n4 n5
   refine hK.out _ _ ((blk_cell m1.out 0).trans rfl) (fun hHeld=>?_)
   clear hK K
   refine norm_ (a':=?_) ?_ ?_
   rotate_left
   ·show á _ (some 50) _ = _
    simp only [á,ä,ü,é,i64_w,i32_w]
    rfl
   refine pure_ (i:=6) (N:=some 51) (v:=?_) (a':=?_) #[true,true,true,true,true,true,true,false,false] rfl rfl (any_of HT_.out (by kernel_rfl)) (fun _ _ _ h=>h) (Or.inl ⟨by rfl,?_⟩) ?_ ?_
   rotate_left
   ·intro w'
    go_simp
    with_reducible rfl
   rotate_left
   ·(try simp only [á,ä,ü,é,i64_w,i32_w])
    rfl
   refine pure_ (i:=7) (N:=some 52) (v:=?_) (a':=?_) #[true,true,true,true,true,true,true,true,false] rfl rfl (any_of HT_.out (by kernel_rfl)) (fun _ _ _ h=>h) (Or.inl ⟨by rfl,?_⟩) ?_ ?_
   rotate_left
   ·intro w'
    go_simp
    with_reducible rfl
   rotate_left
   ·(try simp only [á,ä,ü,é,i64_w,i32_w])
    rfl
   have hy0:=(m4.out.cell (è w _ HP1.out)).trans HP1.out
   have hfy0 : wt.frozen? ⟨g0,who * 5 + 1,none⟩ = false:=(m4.out.frozen (è w _ HP1.out)).trans (HPF.out _)
   have hk1 : g0 ≠ bw:=(by have h1:=GW.out;have h2:=GL.out;omega)
   have hk2 : g0 ≠ br:=(by have h1:=GR.out;have h2:=GL.out;omega)
   have hk3:=hk1.symm
   have hk4:=hk2.symm
   refine last_ (i:=8) (N:=none) #[true,true,true,true,true,true,true,true,true] rfl rfl (one_of HT_.out (by kernel_rfl)) (by decide) (fun K hK=>?_)
   refine skip_ (w1:=?_) (by rfl) rfl ?_ ?_
   rotate_left
   ·go_simp
    rfl
   refine hK.out _ _ ?_
   clear hK K
   refine done_ (done_of HT_.out (by kernel_rfl)) ?_
   clear HT_ HW_
   obtain ⟨hcz_0,hcz_1,hcz_2,hcz_3,hcz_4,hfz_0,hfz_1,hfz_2,hfz_3,hfz_4⟩:=bz5_ m1
   obtain ⟨hcx_0,hcx_1,hcx_2,hcx_3,hcx_4,hfx_0,hfx_1,hfx_2,hfx_3,hfx_4⟩:=bz5_ m3
   go_wp2
   have M3:=ö (blk_far (p:=⟨g0,who * 5 + 1,none⟩) m3.out hk4 (.slice Av nn cv))
   refine bodyPost_ret (results_cell_row rfl _ _ br 33 #[.slice (some ⟨g0,0,none⟩) ps.length cap0,.slice (some ⟨g1,0,none⟩) 3 cap1,.slice (some ⟨g2,0,none⟩) 2 cap2,.slice (some ⟨g3,0,none⟩) qs.length cap3,.slice A ys.length c] (0,0) _ rfl (by apply bp5_4_;apply bp5_3_;apply bp5_2_;apply bp5_1_;apply bp5_0_;exact M3.out) Try.underlying33 rfl (by kernel_rfl)) rfl ?_
   have z:=((HS.out.below m4.out).pcell who hwho 1 (by decide) (.slice Av nn cv) ⟨ps[who].f0,(body ++ [(⟨7,(aa : Int),b,n,body,els⟩ : S69)]) ++ rest,ps[who].f2,ps[who].f3,ps[who].f4⟩ (fun cells hp=>hp.f1 _ _ HV.out)).setW5 (Nat.le_trans WS.out GR.out) M3.out (.slice (some ⟨g0,0,none⟩) ps.length cap0) (.slice (some ⟨g1,0,none⟩) 3 cap1) (.slice (some ⟨g2,0,none⟩) 2 cap2) (.slice (some ⟨g3,0,none⟩) qs.length cap3) (.slice A ys.length c)
   have fr:=(((Fr.refl ow w).below m4.out).set ⟨g0,who * 5 + 1,none⟩ (.slice Av nn cv) (.inl (by rw [hg0];decide))).set5 GR.out (.slice (some ⟨g0,0,none⟩) ps.length cap0) (.slice (some ⟨g1,0,none⟩) 3 cap1) (.slice (some ⟨g2,0,none⟩) 2 cap2) (.slice (some ⟨g3,0,none⟩) qs.length cap3) (.slice A ys.length c)
   exact ⟨_,rfl,z,fr,.inl ⟨trivial,rfl⟩⟩
end Go.Proofs.Ytfbocgagfodgnaa.P

namespace Go.Proofs.Ytfbocgagfodgnaa.P
open Go.Proofs.YtfbocgagfodgnaaW.PrintWords renaming Aside0.mk → ö
open List renaming setIfInBounds_toArray → ä
open Go.RowKit Go.Proofs.YtfbocgagfodgnaaW.PrintWords Go.Proofs.YtfbocgagfodgnaaW.PrintLast Go.Proofs.YtfbocgagfodgnaaW.PrintMore
attribute [local go_sem] max2_int min2_int max_two min_two max_three min_three max_four min_four
set_option linter.unusedVariables false
set_option linter.unusedSimpArgs false
def sig4_T : Bool × List (List Nat × List Nat):=(true,[([],[]),([0],[0]),([],[]),([],[]),([3],[3]),([],[]),([4,5],[4,5]),([6],[6]),([7],[7]),([1,2,0,1,2,3,4,5,6,7,8],[1,2]),([9,8,0,1,2,3,4,5,6,7,8],[8,9])])
def sig4_B : List Nat:=[0,1,0,0,8,0,56,120,248,511,1023]
theorem sig4_tab : rtab .any (opsOf Try.f53 4) = sig4_T:=by kernel_rfl
theorem sig4_bits : waitsOk sig4_T.2 sig4_B = true:=by kernel_rfl
theorem ty_ne0 {lo : Gr} {ow : Nat → Nat} {W : World} {g cap n : Nat} {v1 v2 v3 v4 : Value} {ps : List S51} {qs : List (List Int)} {ys : List S38} {b : Nat} {cs : Array Value} (h : SV lo ow W (.slice (some ⟨g,0,none⟩) n cap) v1 v2 v3 v4 ps qs ys) (hb : W.heap[b]? = some (.cells cs 33 (0,0))) : g ≠ b:=by
 obtain ⟨g0,cap0,cells,e,_,_,hh,_⟩:=h.pr
 injection e with e _ _
 injection e with e
 injection e with e
 rw [e]
 exact ty_far hb hh (by decide)
set_option maxHeartbeats 2000000 in
set_option maxRecDepth 100000 in
theorem l3signal_says (lo : Gr) (ow : Nat → Nat) (w : World) (v0 v1 v2 v3 v4 : Value) (ps : List S51) (qs : List (List Int)) (ys : List S38) (h : SV lo ow w v0 v1 v2 v3 v4 ps qs ys) (s : Nat) (hs : s < qs.length) (hq2 : qs.length ≤ 1000) (hp2 : ps.length ≤ 1000) (hpp : 0 < ps.length) (hin : ∀ x ∈ qs[s],0 ≤ x ∧ x < ps.length) (hlo : lo.n ≤ w.heap.size) :
  Calls Try.prog 53 #[.agg #[v0,v1,v2,v3,v4],.int .i64 s] w fun e w'=>e = .returned (.agg #[v0,v1,v2,v3,v4]) ∧ Fr ow w w' ∧ ((qs[s] = [] ∧ SV lo ow w' v0 v1 v2 v3 v4 ps qs ys) ∨ ∃ (i : Nat) (hi : i < ps.length) (l : List Int),qs[s] = (i : Int) :: l ∧ SV lo ow w' v0 v1 v2 v3 v4 (ps.set i ⟨ps[i].f0,ps[i].f1,2,0,ps[i].f4⟩) (qs.set s l) ys):=by
 have hu29:=Try.underlying33
 have hu59:=Try.underlying51
 obtain ⟨g0,cap0,cells0,rfl,hg0,_⟩:=h.pr
 obtain ⟨g1,cap1,rfl,hg1,_⟩:=h.ce.form
 obtain ⟨g2,cap2,rfl,hg2,_⟩:=h.ro.form
 obtain ⟨g3,cap3,cells3,rfl,hg3,hl3,hh3,hc3⟩:=h.si
 obtain ⟨A,c,rfl⟩:=Kd.R_slice h.sa
 obtain ⟨u,hu,hQ⟩:=hc3 s hs
 have hu0 : w.cell? ⟨g3,s,none⟩ = some u:=(blk_cell hh3 s).trans hu
 have hf3 : w.frozen? ⟨g3,s,none⟩ = false:=blk_frozen hh3 s
 have HS:=ö h
 have WS:=ö h.ws
 have HF3:=ö hf3
 have HIN:=ö hin
 have HB:=ö (Below.refl w.heap.size w)
 have G3L:=ö (show g3 < w.heap.size from blk_lt hh3)
 have p1 : 0 ≤ (s : Int):=by omega
 have q1 : (s : Int) < (qs.length : Int):=by omega
 replace p1:=eq_true p1
 replace q1:=eq_true q1
 obtain ⟨A0,n0,c0,rfl,hn0⟩ : ∃ A0 n0 c0,u = .slice A0 n0 c0 ∧ n0 = qs[s].length:=by
  rcases hQ with ⟨e,A0,rfl⟩ | ⟨g,off,cap,cells,e,_⟩
  ·exact ⟨A0,0,0,rfl,by rw [e];rfl⟩
  ·exact ⟨_,_,_,e,rfl⟩
 have HU:=ö hu0
 have HQ:=ö hQ
 clear h hc3 hu hu0 hf3 hQ hin hh3 hl3
 by_cases e0 : qs[s] = []
 ·have hz : n0 = 0:=by rw [hn0,e0];rfl
  subst hz
  clear hn0
  go_enter Try.func53,Try.ntmps53
  go_wp2_with (first | ((with_reducible refine gate_dst (N:=2) rfl ?_);refine box_event ?hg (N:=2) ?hd (cs:=#[.slice (some ⟨g0,0,none⟩) ps.length cap0,.slice (some ⟨g1,0,none⟩) 3 cap1,.slice (some ⟨g2,0,none⟩) 2 cap2,.slice (some ⟨g3,0,none⟩) qs.length cap3,.slice A ys.length c]) (t:=33) ?hr ?_;(case hd=>rfl);(case hg=>rfl);(case hr=>first | (go_simp;done) | (go_simp;rfl));intro bw hg w5 hbox hb;replace HB:=ö (below_step HB.out hb);have GW:=ö (Nat.le_of_eq hg.symm);have BW:=ö hbox;clear hb hbox hg) | ((with_reducible refine gate_dst (N:=4) rfl ?_);refine box_event ?hg (N:=4) ?hd (cs:=#[.slice none 0 0,.slice none 0 0,.slice none 0 0,.slice none 0 0,.slice none 0 0]) (t:=33) ?hr ?_;(case hd=>rfl);(case hg=>rfl);(case hr=>first | (go_simp;done) | (go_simp;rfl));intro br hg w7 hbox hb;have n1_:=ö (blk_below BW.out hb);have NR:=ö (show bw ≠ br by rw [hg];exact Nat.ne_of_lt (blk_lt BW.out));have GR:=ö (show w.heap.size ≤ br by rw [hg];exact HB.out.size);replace HB:=ö (below_step HB.out hb);clear BW;have BW:=n1_;clear n1_;have BR:=ö hbox;obtain ⟨hcz_0,hcz_1,hcz_2,hcz_3,hcz_4,hfz_0,hfz_1,hfz_2,hfz_3,hfz_4⟩:=bz5_ BW;obtain ⟨hcx_0,hcx_1,hcx_2,hcx_3,hcx_4,hfx_0,hfx_1,hfx_2,hfx_3,hfx_4⟩:=bz5_ BR;have hn1:=NR.out;have hn2:=hn1.symm;have hx3:=(HB.out.cell (World.block_lt_of_cell? w _ HU.out)).trans HU.out;clear hb hbox hg))
  refine bodyPost_ret (results_cell_row rfl _ _ br 33 #[.slice (some ⟨g0,0,none⟩) ps.length cap0,.slice (some ⟨g1,0,none⟩) 3 cap1,.slice (some ⟨g2,0,none⟩) 2 cap2,.slice (some ⟨g3,0,none⟩) qs.length cap3,.slice A ys.length c] (0,0) _ rfl (by apply bp5_4_;apply bp5_3_;apply bp5_2_;apply bp5_1_;apply bp5_0_;exact BR.out) Try.underlying33 rfl (by kernel_rfl)) rfl ?_
  exact ⟨rfl,((Fr.refl ow w).below HB.out).set5 GR.out _ _ _ _ _,.inl ⟨e0,(HS.out.below HB.out).setW5 (Nat.le_trans WS.out GR.out) BR.out _ _ _ _ _⟩⟩
 ·obtain ⟨x,l,hx⟩:=List.exists_cons_of_ne_nil e0
  have hxx:=HIN.out x (by rw [hx];simp)
  obtain ⟨i,rfl⟩:=Int.eq_ofNat_of_zero_le hxx.1
  have hi : i < ps.length:=by omega
  rcases HQ.out with ⟨e,_⟩ | ⟨gq,off,cap,cells,e,hgq,hlq,hmq,hhq,hsq,hcq⟩
  ·exact absurd e e0
  rw [hx] at e hlq hmq hcq
  injection e with e1 e2 e3
  subst e1;subst e3
  have hn : n0 = l.length + 1:=by rw [hn0,hx];rfl
  subst hn
  have hx0 : w.cell? ⟨gq,off,none⟩ = some (.int .i64 i):=by
   have:=hcq 0 i rfl
   rw [Nat.add_zero] at this
   exact (blk_cell hhq off).trans this
  have HX0:=ö hx0
  have HX:=ö hx
  have HI:=ö hi
  have HQN:=ö (show QRow ow s w (.slice (if c0 = 1 then some ⟨gq,off,none⟩ else some ⟨gq,off + 1,none⟩) l.length (c0 - 1)) l from by
   by_cases hc : c0 = 1
   ·have hl : l = []:=List.eq_nil_of_length_eq_zero (by simp at hlq;omega)
    subst hl
    exact .inl ⟨rfl,_,by rw [hc];rfl⟩
   ·rw [if_neg hc]
    exact .inr ⟨gq,off + 1,c0 - 1,cells,rfl,hgq,by simp at hlq;omega,by simp at hmq;omega,hhq,by simp at hlq;omega,fun q z hz=>by
     have:=hcq (q + 1) z (by simpa using hz)
     rw [show off + 1 + q = off + (q + 1) by omega]
     exact this⟩)
  obtain ⟨au,hau⟩ : ∃ q : Option Addr,q = (if c0 = 1 then some ⟨gq,off,none⟩ else some ⟨gq,off + 1,none⟩):=⟨_,rfl⟩
  rw [← hau] at HQN
  have HAU:=ö hau
  clear hau
  have r1 : ((1 : Int) ≤ (l.length : Int) + 1) = True:=eq_true (by omega)
  have r2 : l.length + 1 ≤ c0:=by simpa using hlq
  have r3 : (i : Int) < (ps.length : Int):=by omega
  have r4 : 0 ≤ (i : Int):=by omega
  replace r3:=eq_true r3
  replace r4:=eq_true r4
  clear hx0 hx hcq hhq hsq hlq hmq hn0 e2 hxx hi e0
  go_enter Try.func53,Try.ntmps53
  go_wp2_with (first | ((with_reducible refine gate_dst (N:=2) rfl ?_);refine box_event ?hg (N:=2) ?hd (cs:=#[.slice (some ⟨g0,0,none⟩) ps.length cap0,.slice (some ⟨g1,0,none⟩) 3 cap1,.slice (some ⟨g2,0,none⟩) 2 cap2,.slice (some ⟨g3,0,none⟩) qs.length cap3,.slice A ys.length c]) (t:=33) ?hr ?_;(case hd=>rfl);(case hg=>rfl);(case hr=>first | (go_simp;done) | (go_simp;rfl));intro bw hg w5 hbox hb;replace HB:=ö (below_step HB.out hb);have GW:=ö (Nat.le_of_eq hg.symm);have BW:=ö hbox;clear hb hbox hg) | ((with_reducible refine gate_dst (N:=4) rfl ?_);refine box_event ?hg (N:=4) ?hd (cs:=#[.slice none 0 0,.slice none 0 0,.slice none 0 0,.slice none 0 0,.slice none 0 0]) (t:=33) ?hr ?_;(case hd=>rfl);(case hg=>rfl);(case hr=>first | (go_simp;done) | (go_simp;rfl));intro br hg w7 hbox hb;have n1_:=ö (blk_below BW.out hb);have NR:=ö (show bw ≠ br by rw [hg];exact Nat.ne_of_lt (blk_lt BW.out));have GR:=ö (show w.heap.size ≤ br by rw [hg];exact HB.out.size);replace HB:=ö (below_step HB.out hb);clear BW;have BW:=n1_;clear n1_;have BR:=ö hbox;obtain ⟨hcz_0,hcz_1,hcz_2,hcz_3,hcz_4,hfz_0,hfz_1,hfz_2,hfz_3,hfz_4⟩:=bz5_ BW;obtain ⟨hcx_0,hcx_1,hcx_2,hcx_3,hcx_4,hfx_0,hfx_1,hfx_2,hfx_3,hfx_4⟩:=bz5_ BR;have hn1:=NR.out;have hn2:=hn1.symm;have hx3:=(HB.out.cell (World.block_lt_of_cell? w _ HU.out)).trans HU.out;have hx4:=(HB.out.cell (World.block_lt_of_cell? w _ HX0.out)).trans HX0.out;clear hb hbox hg))
  have m1:=ö (blk_drew BW.out)
  have m3:=ö (blk_drew BR.out)
  have m4:=ö (below_drew1 HB.out)
  clear hcz_0 hcz_1 hcz_2 hcz_3 hcz_4 hfz_0 hfz_1 hfz_2 hfz_3 hfz_4 hcx_0 hcx_1 hcx_2 hcx_3 hcx_4 hfx_0 hfx_1 hfx_2 hfx_3 hfx_4 hx3 hx4
  refine start_ (n:=11) (S:=fun w'=>w'.cell? ⟨bw,3,none⟩ = some (.slice (some ⟨g3,0,none⟩) qs.length cap3) ∧ w'.cell? ⟨g3,s,none⟩ = some (.slice (some ⟨gq,off,none⟩) (l.length + 1) c0)) (ds:=[10]) #[false,false,false,false,false,false,false,false,false,false,false] (by kernel_rfl) rfl rfl ⟨(blk_cell m1.out 3).trans rfl,(m4.out.cell (World.block_lt_of_cell? w _ HU.out)).trans HU.out⟩ (fun hHeld=>?_)
  refine with_tabW sig4_tab sig4_bits (fun HT_ HW_=>?_)
  generalize w7.drew = w8 at m1 m3 m4 hHeld ⊢
  refine pure_ (i:=0) (N:=some 21) (v:=?_) (a':=?_) #[true,false,false,false,false,false,false,false,false,false,false] rfl rfl (any_of HT_.out (by kernel_rfl)) (fun _ _ _ h=>h) (Or.inl ⟨by rfl,?_⟩) ?_ ?_
  rotate_left
  ·intro w'
   go_simp
   with_reducible rfl
  rotate_left
  ·(try simp only [Act.put,ä,List.set_cons_zero,List.set_cons_succ,i64_w,i32_w])
   rfl
  refine pure_ (i:=2) (N:=some 23) (v:=?_) (a':=?_) #[true,false,true,false,false,false,false,false,false,false,false] rfl rfl (any_of HT_.out (by kernel_rfl)) (fun _ _ _ h=>h) (Or.inl ⟨by rfl,?_⟩) ?_ ?_
  rotate_left
  ·intro w'
   go_simp
   with_reducible rfl
  rotate_left
  ·(try simp only [Act.put,ä,List.set_cons_zero,List.set_cons_succ,i64_w,i32_w])
   rfl
  refine pure_ (i:=3) (N:=some 24) (v:=?_) (a':=?_) #[true,false,true,true,false,false,false,false,false,false,false] rfl rfl (any_of HT_.out (by kernel_rfl)) (fun _ _ _ h=>h) (Or.inl ⟨by rfl,?_⟩) ?_ ?_
  rotate_left
  ·intro w'
   go_simp
   with_reducible rfl
  rotate_left
  ·(try simp only [Act.put,ä,List.set_cons_zero,List.set_cons_succ,i64_w,i32_w])
   rfl
  refine pure_ (i:=5) (N:=some 26) (v:=?_) (a':=?_) #[true,false,true,true,false,true,false,false,false,false,false] rfl rfl (any_of HT_.out (by kernel_rfl)) (fun _ _ _ h=>h) (Or.inl ⟨by rfl,?_⟩) ?_ ?_
  rotate_left
  ·intro w'
   go_simp
   with_reducible rfl
  rotate_left
  ·(try simp only [Act.put,ä,List.set_cons_zero,List.set_cons_succ,i64_w,i32_w])
   rfl
  refine take_ (i:=1) (N:=some 22) (v:=?_) (a':=?_) #[true,true,true,true,false,true,false,false,false,false,false] rfl rfl (take_ofW HT_.out HW_.out (by kernel_rfl)) (fun _ _ _ h=>h) (Or.inl ⟨by rfl,?_⟩) hHeld ?_ ?_
  rotate_left
  ·rintro w' ⟨s0,s1⟩
   go_simp
   with_reducible rfl
  rotate_left
  ·(try simp only [Act.put,ä,List.set_cons_zero,List.set_cons_succ,i64_w,i32_w])
   rfl
  refine take_ (i:=4) (N:=some 25) (v:=?_) (a':=?_) #[true,true,true,true,true,true,false,false,false,false,false] rfl rfl (take_ofW HT_.out HW_.out (by kernel_rfl)) (fun _ _ _ h=>h) (Or.inl ⟨by rfl,?_⟩) hHeld ?_ ?_
  rotate_left
  ·rintro w' ⟨s0,s1⟩
   go_simp
   with_reducible rfl
  rotate_left
  ·(try simp only [Act.put,ä,List.set_cons_zero,List.set_cons_succ,i64_w,i32_w])
   rfl
  refine pure_ (i:=6) (N:=some 27) (v:=?_) (a':=?_) #[true,true,true,true,true,true,true,false,false,false,false] rfl rfl (any_of HT_.out (by kernel_rfl)) (fun _ _ _ h=>h) (Or.inl ⟨by rfl,?_⟩) ?_ ?_
  rotate_left
  ·intro w'
   go_simp
   with_reducible rfl
  rotate_left
  ·(try simp only [Act.put,ä,List.set_cons_zero,List.set_cons_succ,i64_w,i32_w])
   rfl
  refine take_ (i:=7) (N:=some 28) (v:=?_) (a':=?_) #[true,true,true,true,true,true,true,true,false,false,false] rfl rfl (take_ofW HT_.out HW_.out (by kernel_rfl)) (fun _ _ _ h=>h) (Or.inl ⟨by rfl,?_⟩) hHeld ?_ ?_
  rotate_left
  ·rintro w' ⟨s0,s1⟩
   go_simp
   with_reducible rfl
  rotate_left
  ·(try simp only [Act.put,ä,List.set_cons_zero,List.set_cons_succ,i64_w,i32_w])
   rfl
  refine pure_ (i:=8) (N:=some 29) (v:=?_) (a':=?_) #[true,true,true,true,true,true,true,true,true,false,false] rfl rfl (any_of HT_.out (by kernel_rfl)) (fun _ _ _ h=>h) (Or.inl ⟨by rfl,?_⟩) ?_ ?_
  rotate_left
  ·intro w'
   go_simp
   simp only [← HAU.out]
   with_reducible rfl
  rotate_left
  ·(try simp only [Act.put,ä,List.set_cons_zero,List.set_cons_succ,i64_w,i32_w])
   rfl
  refine pure_ (i:=9) (N:=some 30) (v:=?_) (a':=?_) #[true,true,true,true,true,true,true,true,true,true,false] rfl rfl (any_of HT_.out (by kernel_rfl)) (fun _ _ _ h=>h) (Or.inl ⟨by rfl,?_⟩) ?_ ?_
  rotate_left
  ·intro w'
   go_simp
   with_reducible rfl
  rotate_left
  ·(try simp only [Act.put,ä,List.set_cons_zero,List.set_cons_succ,i64_w,i32_w])
   rfl
  have hy0:=(m4.out.cell (World.block_lt_of_cell? w _ HU.out)).trans HU.out
  have hfy0 : w8.frozen? ⟨g3,s,none⟩ = false:=(m4.out.frozen (World.block_lt_of_cell? w _ HU.out)).trans HF3.out
  refine last_ (i:=10) (N:=none) #[true,true,true,true,true,true,true,true,true,true,true] rfl rfl (one_of HT_.out (by kernel_rfl)) (by decide) (fun K hK=>?_)
  refine skip_ (w1:=?_) (by rfl) rfl ?_ ?_
  rotate_left
  ·go_simp
   rfl
  refine hK.out _ _ ?_
  clear hK K
  refine done_ (done_of HT_.out (by kernel_rfl)) ?_
  clear HT_ HW_ hHeld hy0 hfy0
  have hk1 : bw ≠ g3:=(by have h1:=GW.out;have h2:=G3L.out;omega)
  have hk2 : br ≠ g3:=(by have h1:=GR.out;have h2:=G3L.out;omega)
  have n1:=ö (blk_far (p:=⟨g3,s,none⟩) m1.out hk1 (.slice au l.length (c0 - 1)))
  have n3:=ö (blk_far (p:=⟨g3,s,none⟩) m3.out hk2 (.slice au l.length (c0 - 1)))
  have fr:=ö (((Fr.refl ow w).below m4.out).set ⟨g3,s,none⟩ (.slice au l.length (c0 - 1)) (.inl (by rw [hg3];decide)))
  have sv:=(HS.out.below m4.out).qcell s hs (.slice au l.length (c0 - 1)) l (HQN.out.move fun k hk=>m4.out.block k (HS.out.bd k (by omega)).2)
  clear m1 m3
  have hle:=m4.out.size
  have GWL:=ö (show bw < (w8.setCell ⟨g3,s,none⟩ (.slice au l.length (c0 - 1))).heap.size from blk_lt n1.out)
  generalize w8.setCell ⟨g3,s,none⟩ (.slice au l.length (c0 - 1)) = w9 at n1 n3 fr sv GWL ⊢
  obtain ⟨ga,capa,gra,cra,ta,ea,hga,⟨_,_,hpa2,hpa3,_⟩,hpaf,_⟩:=sv.pfull i HI.out
  injection ea with ea1 _ ea2
  injection ea1 with ea1
  injection ea1 with ea1
  subst ea1;subst ea2
  have hpf2:=hpaf (i * 5 + 2)
  have hpf3:=hpaf (i * 5 + 3)
  have SVA:=ö sv
  have hk3 : g0 ≠ bw:=ty_ne0 sv n1.out
  have hk4 : g0 ≠ br:=ty_ne0 sv n3.out
  have hk5:=hk3.symm
  have hk6:=hk4.symm
  clear sv hpaf
  obtain ⟨hcz_0,hcz_1,hcz_2,hcz_3,hcz_4,hfz_0,hfz_1,hfz_2,hfz_3,hfz_4⟩:=bz5_ n1
  obtain ⟨hcx_0,hcx_1,hcx_2,hcx_3,hcx_4,hfx_0,hfx_1,hfx_2,hfx_3,hfx_4⟩:=bz5_ n3
  go_wp2
  have M3:=ö (blk_far (p:=⟨g0,i * 5 + 3,none⟩) (blk_far (p:=⟨g0,i * 5 + 2,none⟩) n3.out hk6 (.int .i64 2)) hk6 (.int .i64 0))
  refine bodyPost_ret (results_cell_row rfl _ _ br 33 #[.slice (some ⟨g0,0,none⟩) ps.length cap0,.slice (some ⟨g1,0,none⟩) 3 cap1,.slice (some ⟨g2,0,none⟩) 2 cap2,.slice (some ⟨g3,0,none⟩) qs.length cap3,.slice A ys.length c] (0,0) _ rfl (by apply bp5_4_;apply bp5_3_;apply bp5_2_;apply bp5_1_;apply bp5_0_;exact M3.out) Try.underlying33 rfl (by kernel_rfl)) rfl ?_
  have hi:=HI.out
  have z1:=SVA.out.pcell i HI.out 2 (by decide) (.int .i64 2) ⟨ps[i].f0,ps[i].f1,2,ps[i].f3,ps[i].f4⟩ (fun cells hp=>hp.f2 2)
  have z2:=z1.pcell i (by rw [List.length_set];exact HI.out) 3 (by decide) (.int .i64 0) ⟨ps[i].f0,ps[i].f1,2,0,ps[i].f4⟩ (fun cells hp=>by rw [List.getElem_set_self] at hp;exact hp.f3 0)
  rw [List.set_set] at z2
  exact ⟨rfl,((fr.out.set ⟨g0,i * 5 + 2,none⟩ _ (.inl (by rw [hga];decide))).set ⟨g0,i * 5 + 3,none⟩ _ (.inl (by rw [hga];decide))).set5 GR.out _ _ _ _ _,.inr ⟨i,HI.out,l,HX.out,z2.setW5 (Nat.le_trans WS.out GR.out) M3.out _ _ _ _ _⟩⟩
end Go.Proofs.Ytfbocgagfodgnaa.P

namespace Go.Proofs.Ytfbocgagfodgnaa.P
open Go.RowKit Go.Proofs.YtfbocgagfodgnaaW.PrintWords Go.Proofs.YtfbocgagfodgnaaW.PrintLast Go.Proofs.YtfbocgagfodgnaaW.PrintMore
set_option linter.unusedVariables false
set_option linter.unusedSimpArgs false
section
variable {P : Program} {ops : Array Oper} {o : Oper} {a : Act} {Q' : Exit → Act → World → Prop} {Kc : Act → World → Prop}
theorem append_step_ {N : Option Tmp} {W w1 : World} {v1 sv xv : Value} (hw : Region.wanted o (yielded ops a.tmps) = true) (hN : o.dst = N) (s x : Operand) (t ty : TypeId) (hty : o.type = ty)
  (ho : o.op = .call { callee:=.builtin .append,args:=#[s,x],argTypes:=#[t,t] }) (hs : a.eval s = sv) (hx : a.eval x = xv) (hr : (Builtin.append_ #[t,t] ty #[sv,xv]).run P W = .ok v1 w1) (h : Kc (a.put N v1) w1) :
  if Region.wanted o (yielded ops a.tmps) = true then Oper.wp P o a W Kc Q' else Kc (a.put N undef) W:=by
 subst hN
 subst hty
 rw [if_pos hw]
 unfold Oper.wp execOp
 simp only [ho,resolve,invoke,builtin,Sem.run_bind,Sem.run_pure,Result.andThen_ok,List.map_toArray,List.map_cons,List.map_nil,hs,hx,hr]
 exact h
end
def Queued (lo : Gr) (ow : Nat → Nat) (W : World) (j : Nat) (v : Value) (l0 l : List Int) (v1 : Value) (w1 : World) : Prop :=
 ∃ ow1 : Nat → Nat,QRow ow1 j w1 v l0 ∧ QRow ow1 j w1 v1 l ∧ Below 0 W w1 ∧ (∀ k,k < W.heap.size → ow k ≠ 10 + j → w1.heap[k]? = W.heap[k]?) ∧ (∀ k,k < W.heap.size → ow1 k = ow k) ∧ (∀ k,ow1 k ≠ 0 → lo.n ≤ k ∧ k < w1.heap.size) ∧ ∀ k,ow1 k = 4 → ow k = 4
theorem QRow.both {ow ow' : Nat → Nat} {W W' : World} {v : Value} {j : Nat} {l : List Int} (h : QRow ow j W v l) (ht : ∀ k,k < W.heap.size → ow' k = ow k) (hm : ∀ k,k < W.heap.size → W'.heap[k]? = W.heap[k]?) : QRow ow' j W' v l:=by
 rcases h with h | ⟨g,off,cap,cells,e,hg,hl,h1,hh,hc⟩
 ·exact .inl h
 ·exact .inr ⟨g,off,cap,cells,e,(ht g (blk_lt hh)).trans hg,hl,h1,(hm g (blk_lt hh)).trans hh,hc⟩
theorem queued_new {lo : Gr} {ow : Nat → Nat} {W w0 w1 : World} {j : Nat} {l : List Int} {v1 : Value} {base : Nat} (hlo : lo.n ≤ W.heap.size) (hbd : ∀ k,ow k ≠ 0 → lo.n ≤ k ∧ k < W.heap.size) (hb0 : Below W.heap.size W w0) (hs : W.heap.size ≤ base) (hg : w0.grownBy w1 none) (ho : w1.ownsRow base 3 1 v1 l.length (l.map (.int .i64))) (hn : 0 < l.length) (hl : l.length ≤ 1000000000000) {v : Value} {l0 : List Int} (h0q : QRow ow j W v l0) : Queued lo ow W j v l0 l v1 w1:=by
 obtain ⟨_,⟨_,h0⟩ | ⟨g,cap,cur,rfl,hb,hh,hc,_,hcs,ht⟩⟩:=ho
 ·omega
 have hg1 : g < w1.heap.size:=blk_lt hh
 have hB : Below W.heap.size W w1:=⟨hg.os.trans hb0.os,hg.tape.trans hb0.tape,hg.output.trans hb0.output,Nat.le_trans hb0.size hg.size,fun k hk=>(hg.block k (Nat.lt_of_lt_of_le hk hb0.size) (by simp)).trans (hb0.block k hk)⟩
 have hgs : W.heap.size ≤ g:=by omega
 refine ⟨fun k=>if k = g then 10 + j else ow k,h0q.both (fun k hk=>if_neg (by omega)) hB.block,.inr ⟨g,0,cap,cur,rfl,if_pos rfl,hc,hl,hh,by omega,fun q z hz=>?_⟩,Below.zero hB,fun k hk _=>hB.block k hk,fun k hk=>if_neg (by omega),fun k hk=>?_,fun k hk=>?_⟩
 ·have hq:=(List.getElem?_eq_some_iff.1 hz).1
  have e1 : (cur.toList.take (l.length * 1))[q]? = some (.int .i64 z):=by rw [ht];simp [hz]
  rw [List.getElem?_take,if_pos (by omega)] at e1
  rw [Nat.zero_add,← Array.getElem?_toList]
  exact e1
 ·by_cases e : k = g
  ·exact ⟨by omega,by omega⟩
  ·have h1 : ow k ≠ 0:=by simpa [e] using hk
   exact ⟨(hbd k h1).1,Nat.lt_of_lt_of_le (hbd k h1).2 hB.size⟩
 ·by_cases e : k = g
  ·simp [e] at hk
   omega
  ·simpa [e] using hk
theorem qrow_append {P : Program} {lo : Gr} {ow : Nat → Nat} {W : World} {v : Value} {j : Nat} {l : List Int} (hlo : lo.n ≤ W.heap.size) (hbd : ∀ k,ow k ≠ 0 → lo.n ≤ k ∧ k < W.heap.size) (h : QRow ow j W v l) (t ty : TypeId) (ht : P.underlying t = some (.slice 3)) (hinfo : (P.info? 3).map (fun i=>(i.zero,i.size,i.bytes)) = some (some (.int .i64 0),1,8)) (z : Int) (hl : l.length ≤ 1000000) :
  ∃ v1 w1,(Builtin.append_ #[t,t] ty #[v,.slice (some ⟨W.heap.size,0,none⟩) 1 1]).run P (W.alloc (.cells #[.int .i64 z] 3)) = .ok v1 w1 ∧ Queued lo ow W j v l (l ++ [z]) v1 w1:=by
 obtain ⟨i0,hi,hzz⟩:=Option.map_eq_some_iff.1 hinfo
 simp only [Prod.mk.injEq] at hzz
 obtain ⟨hz0,hz1,hz2⟩:=hzz
 have h0:=h
 have hnew : ∀ q u,[Value.int .i64 z][q]? = some u → (W.alloc (.cells #[.int .i64 z] 3)).cell? ((⟨W.heap.size,0,none⟩ : Addr).add q) = some u:=by
  simpa using World.news_of_block (cs:=#[Value.int .i64 z]) (t:=3) (fr:=(0,0)) (heap_alloc_new W (.cells #[.int .i64 z] 3))
 have hB0 : Below W.heap.size W (W.alloc (.cells #[.int .i64 z] 3)):=below_alloc (Below.refl _ _) _
 have hmp : (l ++ [z]).map (Value.int .i64) = l.map (Value.int .i64) ++ [Value.int .i64 z]:=by simp
 have hlen : (l ++ [z]).length = l.length + 1:=by simp
 have fin : ∀ v1 w1,w1.ownsRow (W.alloc (.cells #[.int .i64 z] 3)).heap.size 3 1 v1 (l.length + 1) (l.map (Value.int .i64) ++ [Value.int .i64 z]) → (W.alloc (.cells #[.int .i64 z] 3)).grownBy w1 none → Queued lo ow W j v l (l ++ [z]) v1 w1:=fun v1 w1 ho hg=>by
  rw [← hmp,← hlen] at ho
  exact queued_new hlo hbd hB0 hB0.size hg ho (by omega) (by omega) h0
 clear h0
 rcases h with ⟨rfl,A,rfl⟩ | ⟨g,off,cap,cells,rfl,hg,hc,hl9,hh,hs,hq⟩
 ·cases A with
  | none =>
   obtain ⟨v1,w1,hr,ho,hg,_⟩:=run_append_own (P:=P) (W.alloc (.cells #[.int .i64 z] 3)) (W.alloc (.cells #[.int .i64 z] 3)).heap.size t ty 3 i0 _ 1 8 ht hi hz0 hz1 hz2 rfl (by decide) (.slice none 0 0) 0 [] (World.ownsRow_nil _ _ 3 1) ⟨W.heap.size,0,none⟩ 1 1 [.int .i64 z] rfl hnew (by simp [Value.oneCell']) (by simp [maxLen]) (by simp) (Nat.le_refl _)
   exact ⟨v1,w1,hr,fin v1 w1 ho hg⟩
  | some b =>
   obtain ⟨v1,w1,hr,ho,hg⟩:=run_append_arg_grows (P:=P) (W.alloc (.cells #[.int .i64 z] 3)) t ty 3 i0 _ 1 8 ht hi hz0 hz1 hz2 rfl (by decide) b 0 0 [] rfl (fun q u hu=>by simp at hu) ⟨W.heap.size,0,none⟩ 1 1 [.int .i64 z] rfl hnew (by simp) (by simp [maxLen]) (by simp)
   exact ⟨v1,w1,hr,fin v1 w1 ho hg⟩
 ·have hh1:=blk_alloc hh (.cells #[.int .i64 z] 3)
  by_cases hr : l.length + 1 ≤ cap
  ·have hlt : off + l.length < cells.size:=by omega
   have hrun:=run_append_room_cells (P:=P) (w:=W.alloc (.cells #[.int .i64 z] 3)) t ty 3 i0 ht hi g off l.length cap ⟨W.heap.size,0,none⟩ 1 1 [.int .i64 z] (by rw [hz1];rfl) hnew (by simp [Value.oneCell']) hr
    (fun q hq1=>by rw [blk_cell hh1,hz1];simp at hq1;simp;omega) (fun q _=>blk_frozen hh1 _)
   rw [hz1,Nat.mul_one] at hrun
   refine ⟨_,_,hrun,ow,.inr ⟨g,off,cap,cells.setIfInBounds (off + l.length) (.int .i64 z),rfl,hg,hc,hl9,blk_set hh1 _ _,by simpa using hs,fun q y hy=>by
    rw [Array.getElem?_setIfInBounds_ne (by have:=(List.getElem?_eq_some_iff.1 hy).1;omega)]
    exact hq q y hy⟩,.inr ⟨g,off,cap,cells.setIfInBounds (off + l.length) (.int .i64 z),by rw [hlen],hg,by rw [hlen];exact hr,by rw [hlen];omega,blk_set hh1 _ _,by simpa using hs,fun q y hy=>?_⟩,?_,?_,fun _ _=>rfl,fun k hk=>⟨(hbd k hk).1,?_⟩,fun _ h=>h⟩
   ·by_cases e : q < l.length
    ·rw [List.getElem?_append_left e] at hy
     rw [Array.getElem?_setIfInBounds_ne (by omega)]
     exact hq q y hy
    ·have e2 : q = l.length:=by have:=(List.getElem?_eq_some_iff.1 hy).1;simp at this;omega
     subst e2
     rw [List.getElem?_append_right (Nat.le_refl _)] at hy
     have e3 : z = y:=by simpa using hy
     rw [← e3,Array.getElem?_setIfInBounds]
     simp [hlt]
   ·exact (Below.zero hB0).setCell (Nat.zero_le _) _
   ·intro k hk hn
    exact (Below.heap_setCell _ ⟨g,off + l.length,none⟩ _ k (fun e=>by have e' : k = g:=e;subst e';exact hn hg)).trans (hB0.block k hk)
   ·have:=(hbd k hk).2
    have h2:=hB0.size
    simp only [World.setCells,World.setCell,Array.size_modify]
    omega
  ·obtain ⟨v1,w1,hrun,ho,hgr⟩:=run_append_arg_grows (P:=P) (W.alloc (.cells #[.int .i64 z] 3)) t ty 3 i0 _ 1 8 ht hi hz0 hz1 hz2 rfl (by decide) ⟨g,off,none⟩ l.length cap (l.map (Value.int .i64)) (by simp) (fun q u hu=>by
    rw [List.getElem?_map] at hu
    obtain ⟨y,hy,rfl⟩:=Option.map_eq_some_iff.1 hu
    have e4 : Addr.add ⟨g,off,none⟩ q = ⟨g,off + q,none⟩:=by
     unfold Addr.add
     split
     ·next h0=>rw [h0];rfl
     ·simp
    rw [e4,blk_cell hh1]
    exact hq q y hy) ⟨W.heap.size,0,none⟩ 1 1 [.int .i64 z] rfl hnew (by omega) (by simp only [maxLen];omega) (by omega)
   exact ⟨v1,w1,hrun,fin v1 w1 ho hgr⟩
section
variable {lo : Gr} {ow : Nat → Nat} {W : World} {v0 v1 v2 v3 v4 : Value} {ps : List S51} {qs : List (List Int)} {ys : List S38} {g cap n : Nat}
theorem IRow.at {len : Nat} (h : IRow ow W (.slice (some ⟨g,0,none⟩) n cap) len) (q : Nat) (hq : q < len) : (∃ z,W.cell? ⟨g,q,none⟩ = some (.int .i64 z)) ∧ W.frozen? ⟨g,q,none⟩ = false:=by
 obtain ⟨g1,cap1,cells,e,_,_,hh,hz⟩:=h
 injection e with ea _ _
 injection ea with ea
 injection ea with ea
 subst ea
 obtain ⟨z,h1⟩:=hz q hq
 exact ⟨⟨z,(blk_cell hh q).trans h1⟩,blk_frozen hh q⟩
theorem SV.pat (h : SV lo ow W (.slice (some ⟨g,0,none⟩) n cap) v1 v2 v3 v4 ps qs ys) (i : Nat) (hi : i < ps.length) : (∃ u,W.cell? ⟨g,i * 5,none⟩ = some u) ∧ (∃ u,W.cell? ⟨g,i * 5 + 1,none⟩ = some u) ∧ W.cell? ⟨g,i * 5 + 2,none⟩ = some (.int .i64 ps[i].f2) ∧ W.cell? ⟨g,i * 5 + 3,none⟩ = some (.int .i64 ps[i].f3) ∧ W.cell? ⟨g,i * 5 + 4,none⟩ = some (.int .i64 ps[i].f4) ∧ ∀ q,W.frozen? ⟨g,q,none⟩ = false:=by
 obtain ⟨g1,cap1,cells,e,_,_,hh,hz⟩:=h.pr
 injection e with ea _ _
 injection ea with ea
 injection ea with ea
 subst ea
 obtain ⟨r,t,a,b,c,d,e,_,_⟩:=hz i hi
 exact ⟨⟨r,(blk_cell hh _).trans a⟩,⟨t,(blk_cell hh _).trans b⟩,(blk_cell hh _).trans c,(blk_cell hh _).trans d,(blk_cell hh _).trans e,fun q=>blk_frozen hh q⟩
theorem SV.qat (h : SV lo ow W v0 v1 v2 (.slice (some ⟨g,0,none⟩) n cap) v4 ps qs ys) (j : Nat) (hj : j < qs.length) : ∃ u,W.cell? ⟨g,j,none⟩ = some u ∧ W.frozen? ⟨g,j,none⟩ = false ∧ QRow ow j W u qs[j] ∧ ow g = 3:=by
 obtain ⟨g1,cap1,cells,e,hg,_,hh,hz⟩:=h.si
 injection e with ea _ _
 injection ea with ea
 injection ea with ea
 subst ea
 obtain ⟨u,h1,h2⟩:=hz j hj
 exact ⟨u,(blk_cell hh _).trans h1,blk_frozen hh _,h2,hg⟩
theorem SV.queued {W' : World} {s : Nat} {u v9 : Value} {l9 : List Int} (h : SV lo ow W v0 v1 v2 (.slice (some ⟨g,0,none⟩) n cap) v4 ps qs ys) (hs : s < qs.length) (hu : W.cell? ⟨g,s,none⟩ = some u) (hq : Queued lo ow W s u qs[s] l9 v9 W') : ∃ ow',SV lo ow' W' v0 v1 v2 (.slice (some ⟨g,0,none⟩) n cap) v4 ps qs ys ∧ QRow ow' s W' v9 l9 ∧ (∀ k,k < W.heap.size → ow' k = ow k) ∧ Below 0 W W' ∧ ∀ k,k < W.heap.size → ow k ≠ 10 + s → W'.heap[k]? = W.heap[k]?:=by
 obtain ⟨ow1,h1,h2,hb,hk,ht,hbd,h4⟩:=hq
 refine ⟨ow1,h.grown (tag:=10 + s) ht hbd hb.size hk (by omega) (Kd.R_mono (Kd.R_move (Kd.R_bound h.sa) (fun k hk1=>hk k hk1.2.2.1 (by have:=hk1.1;omega))) (fun k hk1=>(ht k hk1.2.2.1).trans hk1.1)) (fun g3 cap3 n3 e j hj et u1 hu1=>?_),h2,ht,hb,hk⟩
 injection e with ea _ _
 injection ea with ea
 injection ea with ea
 subst ea
 obtain rfl : j = s:=by omega
 rw [hu] at hu1
 obtain rfl : u = u1:=by simpa using hu1
 exact h1
end
end Go.Proofs.Ytfbocgagfodgnaa.P
