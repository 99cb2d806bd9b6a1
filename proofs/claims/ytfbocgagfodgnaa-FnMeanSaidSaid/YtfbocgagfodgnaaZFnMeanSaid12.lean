/- Parts of the proof of FnMeanSaid: plain Lean functions of Go functions, and that the calls come to what they say; no condition beyond those that each theorem names. -/
import Derived.Test.YtfbocgagfodgnaaZFnMeanSaid11
import Derived.Test.YtfbocgagfodgnaaZFnMeanSaid9
namespace Go.Proofs.Ytfbocgagfodgnaa.P
open Go.RowKit Go.Proofs.YtfbocgagfodgnaaW.PrintWords Go.Proofs.YtfbocgagfodgnaaW.PrintLast Go.Proofs.YtfbocgagfodgnaaW.PrintMore
attribute [local go_sem] max2_int min2_int max_two min_two max_three min_three max_four min_four
set_option linter.unusedVariables false
set_option linter.unusedSimpArgs false
theorem IRow.form {ow : Nat → Nat} {W : World} {v : Value} {len : Nat} (h : IRow ow W v len) : ∃ g cap,v = .slice (some ⟨g,0,none⟩) len cap ∧ ow g = 1 ∧ ∀ q,q < len → ∃ z,W.cell? ⟨g,q,none⟩ = some (.int .i64 z) ∧ W.frozen? ⟨g,q,none⟩ = false:=by
  obtain ⟨g,cap,cells,e,hg,hl,hh,hc⟩:=h
  refine ⟨g,cap,e,hg,fun q hq=>?_⟩
  obtain ⟨z,hz⟩:=hc q hq
  exact ⟨z,(blk_cell hh q).trans hz,blk_frozen hh q⟩
theorem numdo_total (a b c : Int) : ∃ r1 r2,spec_NumDo.f 1 a b c = some (r1,r2):=by
  have cut : ∀ x,∃ y,spec_NumCut.f x = some y:=fun x=>by
    unfold spec_NumCut.f
    split
    · exact ⟨_,rfl⟩
    · split
      · exact ⟨_,rfl⟩
      · exact ⟨_,rfl⟩
  have ife : ∀ x,∃ y,spec_l1If.f x = some y:=fun x=>by
    unfold spec_l1If.f
    split
    · exact ⟨_,rfl⟩
    · exact ⟨_,rfl⟩
  have ok : ∀ x,∃ y,spec_NumOk.f x = some y:=fun x=>by
    unfold spec_NumOk.f
    split
    · exact ⟨_,rfl⟩
    · exact ⟨_,rfl⟩
  have j : ∀ v,∃ r1 r2,spec_NumDo.j0 1 a b c v = some (r1,r2):=fun v=>by
    obtain ⟨y1,h1⟩:=cut (wrap64 (b + c))
    obtain ⟨y2,h2⟩:=cut (wrap64 (b - c))
    obtain ⟨y3,h3⟩:=cut (wrap64 (b * c))
    obtain ⟨y4,h4⟩:=ife (decide (b < c))
    obtain ⟨y5,h5⟩:=ife (b == c)
    simp only [spec_NumDo.j0,h1,h2,h3,h4,h5,Option.bind_some]
    repeat' split
    all_goals exact ⟨_,_,rfl⟩
  obtain ⟨y1,h1⟩:=ok b
  obtain ⟨y2,h2⟩:=ok c
  unfold spec_NumDo.f
  simp only [h1,h2,Option.bind_some]
  split
  · exact j _
  · exact j _
def leaf9_T : Bool × List (List Nat × List Nat):=(true,[([],[]),([],[]),([1],[1]),([],[]),([3],[3]),([],[]),([5],[5]),([4,6],[4,6]),([7],[7]),([0,2,0,1,2,3,4,5,6,7,8],[0,2]),([9,8,0,1,2,3,4,5,6,7,8],[8,9])])
def leaf9_B : List Nat:=[0,0,2,0,8,0,32,120,248,511,1023]
theorem leaf9_tab : rtab .any (opsOf Try.f45 9) = leaf9_T:=by kernel_rfl
theorem leaf9_bits : waitsOk leaf9_T.2 leaf9_B = true:=by kernel_rfl
def leaf11_T : Bool × List (List Nat × List Nat):=(true,[([],[]),([0],[0]),([],[]),([2],[2]),([],[]),([],[]),([5],[5]),([4,6],[4,6]),([7],[7]),([1,3,0,1,2,3,4,5,6,7,8],[1,3]),([9,8,0,1,2,3,4,5,6,7,8],[8,9])])
def leaf11_B : List Nat:=[0,1,0,4,0,0,32,112,240,511,1023]
theorem leaf11_tab : rtab .any (opsOf Try.f45 11) = leaf11_T:=by kernel_rfl
theorem leaf11_bits : waitsOk leaf11_T.2 leaf11_B = true:=by kernel_rfl
def leaf6_T : Bool × List (List Nat × List Nat):=(true,[([],[]),([0],[0]),([],[]),([],[]),([3],[3]),([2,4],[2,4]),([5],[5]),([],[]),([],[]),([8],[8]),([7,9],[7,9]),([10],[10]),([1,6,11],[1,6,11]),([12],[12]),([13],[13]),([13],[13]),([14,12,0,1,2,3,4,5,6,7,8,9,10,11,12,13,14],[14]),([15,16,0,1,2,3,4,5,6,7,8,9,10,11,12,13,14,15,16],[15])])
def leaf6_B : List Nat:=[0,1,0,0,8,28,60,0,0,256,896,1920,4095,8191,16383,16383,32767,131071]
theorem leaf6_tab : rtab .any (opsOf Try.f45 6) = leaf6_T:=by kernel_rfl
theorem leaf6_bits : waitsOk leaf6_T.2 leaf6_B = true:=by kernel_rfl
def leaf13_T : Bool × List (List Nat × List Nat):=(true,[([],[]),([0],[0]),([],[]),([],[]),([],[]),([4],[4]),([3,5],[3,5]),([6],[6]),([2,7],[2,7]),([8],[8]),([1,9],[1,9]),([0,1,2,3,4,5,6,7,8,9,10],[]),([11,10,10,0,1,2,3,4,5,6,7,8,9,10],[10,11])])
def leaf13_B : List Nat:=[0,1,0,0,0,16,56,120,252,508,1023,2047,4095]
theorem leaf13_tab : rtab .any (opsOf Try.f45 13) = leaf13_T:=by kernel_rfl
theorem leaf13_bits : waitsOk leaf13_T.2 leaf13_B = true:=by kernel_rfl
theorem SV.regs {lo : Gr} {ow : Nat → Nat} {W : World} {v0 v1 v2 v3 v4 : Value} {ps : List S51} {qs : List (List Int)} {ys : List S38} (h : SV lo ow W v0 v1 v2 v3 v4 ps qs ys) (i : Nat) (hi : i < ps.length) : ∃ g cap gr cr,v0 = .slice (some ⟨g,0,none⟩) ps.length cap ∧ ow g = 2 ∧ W.cell? ⟨g,i * 5,none⟩ = some (.slice (some ⟨gr,0,none⟩) 3 cr) ∧ ow gr = 1 ∧ ∀ q,q < 3 → ∃ z,W.cell? ⟨gr,q,none⟩ = some (.int .i64 z) ∧ W.frozen? ⟨gr,q,none⟩ = false:=by
  obtain ⟨g,cap,cells,e,hg,hl,hh,hc⟩:=h.pr
  obtain ⟨r,t,a,_,_,_,_,hr,_⟩:=hc i hi
  obtain ⟨gr,cr,er,hgr,hq⟩:=hr.form
  exact ⟨g,cap,gr,cr,e,hg,by rw [blk_cell hh,a,er],hgr,hq⟩
def LeafIn (k a b : Int) : Prop:=(k = 1 → 0 ≤ a ∧ a < 3) ∧ (k = 2 → 0 ≤ a ∧ a < 3 ∧ 0 ≤ b ∧ b < 3) ∧ (k = 3 → 0 ≤ a ∧ a < 3 ∧ 0 ≤ b ∧ b < 3) ∧ (k = 4 → 0 ≤ a ∧ a < 3 ∧ 0 ≤ b ∧ b < 3) ∧ (k = 5 → 0 ≤ a ∧ a < 3)
set_option maxHeartbeats 8000000 in
set_option maxRecDepth 100000 in
theorem l3leaf_says (lo : Gr) (ow : Nat → Nat) (w : World) (v0 v1 v2 v3 v4 : Value) (ps : List S51) (qs : List (List Int)) (ys : List S38) (h : SV lo ow w v0 v1 v2 v3 v4 ps qs ys) (who : Nat) (hwho : who < ps.length) (k a b n : Int) (A4 A5 : Option Addr) (n4 c4 n5 c5 : Nat) (hk : LeafIn k a b) (hp : ps.length ≤ 1000) (hy : ys.length ≤ 1000000) (hlo : lo.n ≤ w.heap.size) :
    Calls Try.prog 45 #[.agg #[v0,v1,v2,v3,v4],.int .i64 who,.agg #[.int .i64 k,.int .i64 a,.int .i64 b,.int .i64 n,.slice A4 n4 c4,.slice A5 n5 c5]] w fun e w'=>∃ ow' v4' ys',e = .returned (.agg #[v0,v1,v2,v3,v4']) ∧ SV lo ow' w' v0 v1 v2 v3 v4' ps qs ys' ∧ (∀ k,k < w.heap.size → ow' k = ow k) ∧ Fr ow w w' ∧ (ys' = ys ∨ ∃ z,ys' = ys ++ [⟨who,z⟩]):=by
  have hu29:=Try.underlying33
  have hu59:=Try.underlying51
  obtain ⟨g0,cap0,gr,cr,rfl,hg0,hcr,hgr,hregs⟩:=h.regs who hwho
  obtain ⟨g1,cap1,rfl,hg1,hcells⟩:=h.ce.form
  obtain ⟨g2,cap2,rfl,hg2,hrooms⟩:=h.ro.form
  obtain ⟨g3,cap3,cells3,rfl,hg3,_⟩:=h.si
  obtain ⟨A,c,rfl⟩:=Kd.R_slice h.sa
  have HS:=Aside0.mk h
  have WS:=Aside0.mk h.ws
  have HCR:=Aside0.mk hcr
  have HG:=Aside0.mk hregs
  have HC:=Aside0.mk hcells
  have HK:=Aside0.mk hk
  have HB:=Aside0.mk (Below.refl w.heap.size w)
  have p1 : 0 ≤ (who : Int):=by omega
  have q1 : (who : Int) < (ps.length : Int):=by omega
  have P1:=Aside0.mk p1
  clear h hregs hcells hrooms hk hcr
  by_cases e1 : k = 1
  · subst e1
    obtain ⟨a0,a1⟩:=HK.out.1 rfl
    obtain ⟨aa,rfl⟩:=Int.eq_ofNat_of_zero_le a0
    replace p1:=eq_true p1
    replace q1:=eq_true q1
    have a2:=eq_true a0
    have a3:=eq_true a1
    go_enter Try.func45,Try.ntmps45
    go_wp2_with (first | ((with_reducible refine gate_dst (N:=3) rfl ?_);refine box_event ?hg (N:=3) ?hd (cs:=#[.slice (some ⟨g0,0,none⟩) ps.length cap0,.slice (some ⟨g1,0,none⟩) 3 cap1,.slice (some ⟨g2,0,none⟩) 2 cap2,.slice (some ⟨g3,0,none⟩) qs.length cap3,.slice A ys.length c]) (t:=33) ?hr ?_;(case hd=>rfl);(case hg=>rfl);(case hr=>first | (go_simp;done) | (go_simp;rfl));intro bw hg w5 hbox hb;have n0_:=Aside0.mk (below_step HB.out hb);clear HB;have HB:=n0_;clear n0_;have GW:=Aside0.mk (Nat.le_of_eq hg.symm);have BW:=Aside0.mk hbox;clear hb hbox hg) | ((with_reducible refine gate_dst (N:=5) rfl ?_);refine box_event ?hg (N:=5) ?hd (cs:=#[.int .i64 1,.int .i64 (aa : Int),.int .i64 b,.int .i64 n,.slice A4 n4 c4,.slice A5 n5 c5]) (t:=69) ?hr ?_;(case hd=>rfl);(case hg=>rfl);(case hr=>first | (go_simp;done) | (go_simp;rfl));intro bs hg w6 hbox hb;have n1_:=Aside0.mk (blk_below BW.out hb);have NS:=Aside0.mk (show bw ≠ bs by rw [hg];exact Nat.ne_of_lt (blk_lt BW.out));have GS:=Aside0.mk (show w.heap.size ≤ bs by rw [hg];exact HB.out.size);have n0_:=Aside0.mk (below_step HB.out hb);clear HB;have HB:=n0_;clear n0_;clear BW;have BW:=n1_;clear n1_;have BS:=Aside0.mk hbox;clear hb hbox hg) | ((with_reducible refine gate_dst (N:=6) rfl ?_);refine box_event ?hg (N:=6) ?hd (cs:=#[.slice none 0 0,.slice none 0 0,.slice none 0 0,.slice none 0 0,.slice none 0 0]) (t:=33) ?hr ?_;(case hd=>rfl);(case hg=>rfl);(case hr=>first | (go_simp;done) | (go_simp;rfl));intro br hg w7 hbox hb;have n1_:=Aside0.mk (blk_below BW.out hb);have n2_:=Aside0.mk (blk_below BS.out hb);have NR:=Aside0.mk (show bw ≠ br by rw [hg];exact Nat.ne_of_lt (blk_lt BW.out));have GR:=Aside0.mk (show w.heap.size ≤ br by rw [hg];exact HB.out.size);have n0_:=Aside0.mk (below_step HB.out hb);clear HB;have HB:=n0_;clear n0_;clear BW BS;have BW:=n1_;have BS:=n2_;clear n1_ n2_;have BR:=Aside0.mk hbox;obtain ⟨hcz_0,hcz_1,hcz_2,hcz_3,hcz_4,hfz_0,hfz_1,hfz_2,hfz_3,hfz_4⟩:=bz5_ BW;obtain ⟨hcy_0,hcy_1,hcy_2,hcy_3,hcy_4,hcy_5,hfy_0,hfy_1,hfy_2,hfy_3,hfy_4,hfy_5⟩:=bz6_ BS;obtain ⟨hcx_0,hcx_1,hcx_2,hcx_3,hcx_4,hfx_0,hfx_1,hfx_2,hfx_3,hfx_4⟩:=bz5_ BR;have hcr:=(HB.out.cell (World.block_lt_of_cell? w _ HCR.out)).trans HCR.out;have hn1:=NR.out;have hn2:=hn1.symm;obtain ⟨z0,hz0,hf0⟩:=HG.out aa (by omega);have hx0:=(HB.out.cell (World.block_lt_of_cell? w _ hz0)).trans hz0;have hfx0 : w7.frozen? ⟨gr,aa,none⟩ = false:=(HB.out.frozen (World.block_lt_of_cell? w _ hz0)).trans hf0;have hn0_1 : gr ≠ bw:=(by have h1:=GW.out;have h3 : gr < w.heap.size:=World.block_lt_of_cell? w _ hz0;omega);have hn0_2 : gr ≠ br:=(by have h1:=GR.out;have h3 : gr < w.heap.size:=World.block_lt_of_cell? w _ hz0;omega);have hn0_3:=hn0_1.symm;have hn0_4:=hn0_2.symm;clear hb hbox hg))
    refine bodyPost_ret (results_cell_row rfl _ _ br 33 #[.slice (some ⟨g0,0,none⟩) ps.length cap0,.slice (some ⟨g1,0,none⟩) 3 cap1,.slice (some ⟨g2,0,none⟩) 2 cap2,.slice (some ⟨g3,0,none⟩) qs.length cap3,.slice A ys.length c] (0,0) _ rfl (by apply bp5_4_;apply bp5_3_;apply bp5_2_;apply bp5_1_;apply bp5_0_;exact (blk_far (p:=⟨gr,aa,none⟩) BR.out hn0_4 _)) Try.underlying33 rfl (by kernel_rfl)) rfl ?_
    exact ⟨ow,_,ys,rfl,((HS.out.below HB.out).istore gr aa n hgr).setW5 (Nat.le_trans WS.out GR.out) (blk_far (p:=⟨gr,aa,none⟩) BR.out hn0_4 _) _ _ _ _ _,fun _ _=>rfl,(((Fr.refl ow w).below HB.out).set ⟨gr,aa,none⟩ _ (.inl (by rw [hgr];decide))).set5 GR.out _ _ _ _ _,.inl rfl⟩
  have f1 : (k == 1) = false:=by simpa using e1
  by_cases e2 : k = 2
  · subst e2
    obtain ⟨a0,a1,b0,b1⟩:=HK.out.2.1 rfl
    obtain ⟨aa,rfl⟩:=Int.eq_ofNat_of_zero_le a0
    obtain ⟨bb,rfl⟩:=Int.eq_ofNat_of_zero_le b0
    replace p1:=eq_true p1
    replace q1:=eq_true q1
    have a2:=eq_true a0
    have a3:=eq_true a1
    have b2:=eq_true b0
    have b3:=eq_true b1
    go_enter Try.func45,Try.ntmps45
    go_wp2_with (first | ((with_reducible refine gate_dst (N:=3) rfl ?_);refine box_event ?hg (N:=3) ?hd (cs:=#[.slice (some ⟨g0,0,none⟩) ps.length cap0,.slice (some ⟨g1,0,none⟩) 3 cap1,.slice (some ⟨g2,0,none⟩) 2 cap2,.slice (some ⟨g3,0,none⟩) qs.length cap3,.slice A ys.length c]) (t:=33) ?hr ?_;(case hd=>rfl);(case hg=>rfl);(case hr=>first | (go_simp;done) | (go_simp;rfl));intro bw hg w5 hbox hb;have n0_:=Aside0.mk (below_step HB.out hb);clear HB;have HB:=n0_;clear n0_;have GW:=Aside0.mk (Nat.le_of_eq hg.symm);have BW:=Aside0.mk hbox;clear hb hbox hg) | ((with_reducible refine gate_dst (N:=5) rfl ?_);refine box_event ?hg (N:=5) ?hd (cs:=#[.int .i64 2,.int .i64 (aa : Int),.int .i64 (bb : Int),.int .i64 n,.slice A4 n4 c4,.slice A5 n5 c5]) (t:=69) ?hr ?_;(case hd=>rfl);(case hg=>rfl);(case hr=>first | (go_simp;done) | (go_simp;rfl));intro bs hg w6 hbox hb;have n1_:=Aside0.mk (blk_below BW.out hb);have NS:=Aside0.mk (show bw ≠ bs by rw [hg];exact Nat.ne_of_lt (blk_lt BW.out));have GS:=Aside0.mk (show w.heap.size ≤ bs by rw [hg];exact HB.out.size);have n0_:=Aside0.mk (below_step HB.out hb);clear HB;have HB:=n0_;clear n0_;clear BW;have BW:=n1_;clear n1_;have BS:=Aside0.mk hbox;clear hb hbox hg) | ((with_reducible refine gate_dst (N:=6) rfl ?_);refine box_event ?hg (N:=6) ?hd (cs:=#[.slice none 0 0,.slice none 0 0,.slice none 0 0,.slice none 0 0,.slice none 0 0]) (t:=33) ?hr ?_;(case hd=>rfl);(case hg=>rfl);(case hr=>first | (go_simp;done) | (go_simp;rfl));intro br hg w7 hbox hb;have n1_:=Aside0.mk (blk_below BW.out hb);have n2_:=Aside0.mk (blk_below BS.out hb);have NR:=Aside0.mk (show bw ≠ br by rw [hg];exact Nat.ne_of_lt (blk_lt BW.out));have GR:=Aside0.mk (show w.heap.size ≤ br by rw [hg];exact HB.out.size);have n0_:=Aside0.mk (below_step HB.out hb);clear HB;have HB:=n0_;clear n0_;clear BW BS;have BW:=n1_;have BS:=n2_;clear n1_ n2_;have BR:=Aside0.mk hbox;obtain ⟨hcz_0,hcz_1,hcz_2,hcz_3,hcz_4,hfz_0,hfz_1,hfz_2,hfz_3,hfz_4⟩:=bz5_ BW;obtain ⟨hcy_0,hcy_1,hcy_2,hcy_3,hcy_4,hcy_5,hfy_0,hfy_1,hfy_2,hfy_3,hfy_4,hfy_5⟩:=bz6_ BS;obtain ⟨hcx_0,hcx_1,hcx_2,hcx_3,hcx_4,hfx_0,hfx_1,hfx_2,hfx_3,hfx_4⟩:=bz5_ BR;have hcr:=(HB.out.cell (World.block_lt_of_cell? w _ HCR.out)).trans HCR.out;have hn1:=NR.out;have hn2:=hn1.symm;obtain ⟨z0,hz0,hf0⟩:=HG.out aa (by omega);have hx0:=(HB.out.cell (World.block_lt_of_cell? w _ hz0)).trans hz0;have hfx0 : w7.frozen? ⟨gr,aa,none⟩ = false:=(HB.out.frozen (World.block_lt_of_cell? w _ hz0)).trans hf0;have hn0_1 : gr ≠ bw:=(by have h1:=GW.out;have h3 : gr < w.heap.size:=World.block_lt_of_cell? w _ hz0;omega);have hn0_2 : gr ≠ br:=(by have h1:=GR.out;have h3 : gr < w.heap.size:=World.block_lt_of_cell? w _ hz0;omega);have hn0_3:=hn0_1.symm;have hn0_4:=hn0_2.symm;obtain ⟨z1,hz1,hf1⟩:=HG.out bb (by omega);have hx1:=(HB.out.cell (World.block_lt_of_cell? w _ hz1)).trans hz1;have hfx1 : w7.frozen? ⟨gr,bb,none⟩ = false:=(HB.out.frozen (World.block_lt_of_cell? w _ hz1)).trans hf1;have hn1_1 : gr ≠ bw:=(by have h1:=GW.out;have h3 : gr < w.heap.size:=World.block_lt_of_cell? w _ hz1;omega);have hn1_2 : gr ≠ br:=(by have h1:=GR.out;have h3 : gr < w.heap.size:=World.block_lt_of_cell? w _ hz1;omega);have hn1_3:=hn1_1.symm;have hn1_4:=hn1_2.symm;clear hb hbox hg))
    obtain ⟨r1,r2,hnd⟩:=numdo_total n z0 z1
    have m1:=Aside0.mk (blk_drew BW.out)
    have m2:=Aside0.mk (blk_drew BS.out)
    have m3:=Aside0.mk (blk_drew BR.out)
    have m4:=Aside0.mk (below_drew1 HB.out)
    clear hcz_0 hcz_1 hcz_2 hcz_3 hcz_4 hfz_0 hfz_1 hfz_2 hfz_3 hfz_4 hcx_0 hcx_1 hcx_2 hcx_3 hcx_4 hfx_0 hfx_1 hfx_2 hfx_3 hfx_4 hcy_0 hcy_1 hcy_2 hcy_3 hcy_4 hcy_5 hfy_0 hfy_1 hfy_2 hfy_3 hfy_4 hfy_5
    refine start_ (n:=18) (S:=fun w'=>w'.cell? ⟨bs,3,none⟩ = some (.int .i64 n) ∧ w'.cell? ⟨bs,1,none⟩ = some (.int .i64 (aa : Int)) ∧ w'.cell? ⟨gr,aa,none⟩ = some (.int .i64 z0) ∧ w'.cell? ⟨bs,2,none⟩ = some (.int .i64 (bb : Int)) ∧ w'.cell? ⟨gr,bb,none⟩ = some (.int .i64 z1)) (ds:=[]) #[false,false,false,false,false,false,false,false,false,false,false,false,false,false,false,false,false,false] (by kernel_rfl) rfl rfl ⟨(blk_cell m2.out 3).trans rfl,(blk_cell m2.out 1).trans rfl,hx0,(blk_cell m2.out 2).trans rfl,hx1⟩ (fun hHeld=>?_)
    refine with_tabW leaf6_tab leaf6_bits (fun HT_ HW_=>?_)
    generalize w7.drew = w8 at m1 m2 m3 m4 hHeld ⊢
    refine pure_ (i:=0) (N:=some 29) (v:=?_) (a':=?_) #[true,false,false,false,false,false,false,false,false,false,false,false,false,false,false,false,false,false] rfl rfl (any_of HT_.out (by kernel_rfl)) (fun _ _ _ h=>h) (Or.inl ⟨by rfl,?_⟩) ?_ ?_
    rotate_left
    · intro w'
      go_simp
      with_reducible rfl
    rotate_left
    · (try simp only [Act.put,List.setIfInBounds_toArray,List.set_cons_zero,List.set_cons_succ,i64_w,i32_w])
      rfl
    refine pure_ (i:=2) (N:=some 31) (v:=?_) (a':=?_) #[true,false,true,false,false,false,false,false,false,false,false,false,false,false,false,false,false,false] rfl rfl (any_of HT_.out (by kernel_rfl)) (fun _ _ _ h=>h) (Or.inl ⟨by rfl,?_⟩) ?_ ?_
    rotate_left
    · intro w'
      go_simp
      with_reducible rfl
    rotate_left
    · (try simp only [Act.put,List.setIfInBounds_toArray,List.set_cons_zero,List.set_cons_succ,i64_w,i32_w])
      rfl
    refine pure_ (i:=3) (N:=some 32) (v:=?_) (a':=?_) #[true,false,true,true,false,false,false,false,false,false,false,false,false,false,false,false,false,false] rfl rfl (any_of HT_.out (by kernel_rfl)) (fun _ _ _ h=>h) (Or.inl ⟨by rfl,?_⟩) ?_ ?_
    rotate_left
    · intro w'
      go_simp
      with_reducible rfl
    rotate_left
    · (try simp only [Act.put,List.setIfInBounds_toArray,List.set_cons_zero,List.set_cons_succ,i64_w,i32_w])
      rfl
    refine pure_ (i:=7) (N:=some 36) (v:=?_) (a':=?_) #[true,false,true,true,false,false,false,true,false,false,false,false,false,false,false,false,false,false] rfl rfl (any_of HT_.out (by kernel_rfl)) (fun _ _ _ h=>h) (Or.inl ⟨by rfl,?_⟩) ?_ ?_
    rotate_left
    · intro w'
      go_simp
      with_reducible rfl
    rotate_left
    · (try simp only [Act.put,List.setIfInBounds_toArray,List.set_cons_zero,List.set_cons_succ,i64_w,i32_w])
      rfl
    refine pure_ (i:=8) (N:=some 37) (v:=?_) (a':=?_) #[true,false,true,true,false,false,false,true,true,false,false,false,false,false,false,false,false,false] rfl rfl (any_of HT_.out (by kernel_rfl)) (fun _ _ _ h=>h) (Or.inl ⟨by rfl,?_⟩) ?_ ?_
    rotate_left
    · intro w'
      go_simp
      with_reducible rfl
    rotate_left
    · (try simp only [Act.put,List.setIfInBounds_toArray,List.set_cons_zero,List.set_cons_succ,i64_w,i32_w])
      rfl
    refine take_ (i:=1) (N:=some 30) (v:=?_) (a':=?_) #[true,true,true,true,false,false,false,true,true,false,false,false,false,false,false,false,false,false] rfl rfl (take_ofW HT_.out HW_.out (by kernel_rfl)) (fun _ _ _ h=>h) (Or.inl ⟨by rfl,?_⟩) hHeld ?_ ?_
    rotate_left
    · rintro w' ⟨s0,s1,s2,s3,s4⟩
      go_simp
      with_reducible rfl
    rotate_left
    · (try simp only [Act.put,List.setIfInBounds_toArray,List.set_cons_zero,List.set_cons_succ,i64_w,i32_w])
      rfl
    refine take_ (i:=4) (N:=some 33) (v:=?_) (a':=?_) #[true,true,true,true,true,false,false,true,true,false,false,false,false,false,false,false,false,false] rfl rfl (take_ofW HT_.out HW_.out (by kernel_rfl)) (fun _ _ _ h=>h) (Or.inl ⟨by rfl,?_⟩) hHeld ?_ ?_
    rotate_left
    · rintro w' ⟨s0,s1,s2,s3,s4⟩
      go_simp
      with_reducible rfl
    rotate_left
    · (try simp only [Act.put,List.setIfInBounds_toArray,List.set_cons_zero,List.set_cons_succ,i64_w,i32_w])
      rfl
    refine pure_ (i:=5) (N:=some 34) (v:=?_) (a':=?_) #[true,true,true,true,true,true,false,true,true,false,false,false,false,false,false,false,false,false] rfl rfl (any_of HT_.out (by kernel_rfl)) (fun _ _ _ h=>h) (Or.inl ⟨by rfl,?_⟩) ?_ ?_
    rotate_left
    · intro w'
      go_simp
      with_reducible rfl
    rotate_left
    · (try simp only [Act.put,List.setIfInBounds_toArray,List.set_cons_zero,List.set_cons_succ,i64_w,i32_w])
      rfl
    refine take_ (i:=6) (N:=some 35) (v:=?_) (a':=?_) #[true,true,true,true,true,true,true,true,true,false,false,false,false,false,false,false,false,false] rfl rfl (take_ofW HT_.out HW_.out (by kernel_rfl)) (fun _ _ _ h=>h) (Or.inl ⟨by rfl,?_⟩) hHeld ?_ ?_
    rotate_left
    · rintro w' ⟨s0,s1,s2,s3,s4⟩
      go_simp
      with_reducible rfl
    rotate_left
    · (try simp only [Act.put,List.setIfInBounds_toArray,List.set_cons_zero,List.set_cons_succ,i64_w,i32_w])
      rfl
    refine take_ (i:=9) (N:=some 38) (v:=?_) (a':=?_) #[true,true,true,true,true,true,true,true,true,true,false,false,false,false,false,false,false,false] rfl rfl (take_ofW HT_.out HW_.out (by kernel_rfl)) (fun _ _ _ h=>h) (Or.inl ⟨by rfl,?_⟩) hHeld ?_ ?_
    rotate_left
    · rintro w' ⟨s0,s1,s2,s3,s4⟩
      go_simp
      with_reducible rfl
    rotate_left
    · (try simp only [Act.put,List.setIfInBounds_toArray,List.set_cons_zero,List.set_cons_succ,i64_w,i32_w])
      rfl
    refine pure_ (i:=10) (N:=some 39) (v:=?_) (a':=?_) #[true,true,true,true,true,true,true,true,true,true,true,false,false,false,false,false,false,false] rfl rfl (any_of HT_.out (by kernel_rfl)) (fun _ _ _ h=>h) (Or.inl ⟨by rfl,?_⟩) ?_ ?_
    rotate_left
    · intro w'
      go_simp
      with_reducible rfl
    rotate_left
    · (try simp only [Act.put,List.setIfInBounds_toArray,List.set_cons_zero,List.set_cons_succ,i64_w,i32_w])
      rfl
    refine take_ (i:=11) (N:=some 40) (v:=?_) (a':=?_) #[true,true,true,true,true,true,true,true,true,true,true,true,false,false,false,false,false,false] rfl rfl (take_ofW HT_.out HW_.out (by kernel_rfl)) (fun _ _ _ h=>h) (Or.inl ⟨by rfl,?_⟩) hHeld ?_ ?_
    rotate_left
    · rintro w' ⟨s0,s1,s2,s3,s4⟩
      go_simp
      with_reducible rfl
    rotate_left
    · (try simp only [Act.put,List.setIfInBounds_toArray,List.set_cons_zero,List.set_cons_succ,i64_w,i32_w])
      rfl
    refine one_ (i:=12) (N:=some 41) #[true,true,true,true,true,true,true,true,true,true,true,true,true,false,false,false,false,false] rfl rfl (one_of HT_.out (by kernel_rfl)) (by decide) (fun K hK=>?_)
    refine goes_ Try.func54 (by kernel_rfl) rfl #[.int .i64 n,.int .i64 z0,.int .i64 z1] (by rfl) rfl rfl (by (try simp only [List.map_toArray,List.map_cons,List.map_nil]);first | done | rfl | (simp only [List.length_drop,List.length_take];rfl)) ?_
    with_reducible refine (spec_NumDo.calls 1 n z0 z1 r1 r2 _ hnd).mono ?_
    rintro e wt ⟨rfl,⟨nd,rfl⟩⟩
    refine ⟨_,rfl,?_⟩
    have n1:=Aside0.mk (blk_drewN m1.out nd)
    have n2:=Aside0.mk (blk_drewN m2.out nd)
    have n3:=Aside0.mk (blk_drewN m3.out nd)
    have n4:=Aside0.mk (pw_below_drewN m4.out nd)
    clear m1 m2 m3 m4 hHeld
    have m1:=n1;have m2:=n2;have m3:=n3;have m4:=n4
    clear n1 n2 n3 n4
    generalize w8.drewN nd = w9 at m1 m2 m3 m4 ⊢
    refine hK.out _ _ ⟨(blk_cell m2.out 3).trans rfl,(blk_cell m2.out 1).trans rfl,(m4.out.cell (World.block_lt_of_cell? w _ hz0)).trans hz0,(blk_cell m2.out 2).trans rfl,(m4.out.cell (World.block_lt_of_cell? w _ hz1)).trans hz1⟩ (fun hHeld=>?_)
    clear hK K
    refine norm_ (a':=?_) ?_ ?_
    rotate_left
    · show Act.put _ (some 41) _ = _
      simp only [Act.put,List.setIfInBounds_toArray,List.set_cons_zero,List.set_cons_succ,i64_w,i32_w]
      rfl
    refine pure_ (i:=13) (N:=some 28) (v:=?_) (a':=?_) #[true,true,true,true,true,true,true,true,true,true,true,true,true,true,false,false,false,false] rfl rfl (any_of HT_.out (by kernel_rfl)) (fun _ _ _ h=>h) (Or.inl ⟨by rfl,?_⟩) ?_ ?_
    rotate_left
    · intro w'
      go_simp
      with_reducible rfl
    rotate_left
    · (try simp only [Act.put,List.setIfInBounds_toArray,List.set_cons_zero,List.set_cons_succ,i64_w,i32_w])
      rfl
    refine pure_ (i:=14) (N:=some 42) (v:=?_) (a':=?_) #[true,true,true,true,true,true,true,true,true,true,true,true,true,true,true,false,false,false] rfl rfl (any_of HT_.out (by kernel_rfl)) (fun _ _ _ h=>h) (Or.inl ⟨by rfl,?_⟩) ?_ ?_
    rotate_left
    · intro w'
      go_simp
      with_reducible rfl
    rotate_left
    · (try simp only [Act.put,List.setIfInBounds_toArray,List.set_cons_zero,List.set_cons_succ,i64_w,i32_w])
      rfl
    refine pure_ (i:=15) (N:=some 43) (v:=?_) (a':=?_) #[true,true,true,true,true,true,true,true,true,true,true,true,true,true,true,true,false,false] rfl rfl (any_of HT_.out (by kernel_rfl)) (fun _ _ _ h=>h) (Or.inl ⟨by rfl,?_⟩) ?_ ?_
    rotate_left
    · intro w'
      go_simp
      with_reducible rfl
    rotate_left
    · (try simp only [Act.put,List.setIfInBounds_toArray,List.set_cons_zero,List.set_cons_succ,i64_w,i32_w])
      rfl
    refine pure_ (i:=16) (N:=some 8) (v:=?_) (a':=?_) #[true,true,true,true,true,true,true,true,true,true,true,true,true,true,true,true,true,false] rfl rfl (any_of HT_.out (by kernel_rfl)) (fun _ _ _ h=>h) (Or.inl ⟨by rfl,?_⟩) ?_ ?_
    rotate_left
    · intro w'
      go_simp
      with_reducible rfl
    rotate_left
    · (try simp only [Act.put,List.setIfInBounds_toArray,List.set_cons_zero,List.set_cons_succ,i64_w,i32_w])
      rfl
    refine pure_ (i:=17) (N:=some 9) (v:=?_) (a':=?_) #[true,true,true,true,true,true,true,true,true,true,true,true,true,true,true,true,true,true] rfl rfl (any_of HT_.out (by kernel_rfl)) (fun _ _ _ h=>h) (Or.inl ⟨by rfl,?_⟩) ?_ ?_
    rotate_left
    · intro w'
      go_simp
      with_reducible rfl
    rotate_left
    · (try simp only [Act.put,List.setIfInBounds_toArray,List.set_cons_zero,List.set_cons_succ,i64_w,i32_w])
      rfl
    refine done_ (done_of HT_.out (by kernel_rfl)) ?_
    clear HT_ HW_
    have hy0:=(m4.out.cell (World.block_lt_of_cell? w _ hz0)).trans hz0
    have hfy0 : w9.frozen? ⟨gr,aa,none⟩ = false:=(m4.out.frozen (World.block_lt_of_cell? w _ hz0)).trans hf0
    obtain ⟨hcz_0,hcz_1,hcz_2,hcz_3,hcz_4,hfz_0,hfz_1,hfz_2,hfz_3,hfz_4⟩:=bz5_ m1
    obtain ⟨hcy_0,hcy_1,hcy_2,hcy_3,hcy_4,hcy_5,hfy_0,hfy_1,hfy_2,hfy_3,hfy_4,hfy_5⟩:=bz6_ m2
    obtain ⟨hcx_0,hcx_1,hcx_2,hcx_3,hcx_4,hfx_0,hfx_1,hfx_2,hfx_3,hfx_4⟩:=bz5_ m3
    go_wp2
    refine bodyPost_ret (results_cell_row rfl _ _ br 33 #[.slice (some ⟨g0,0,none⟩) ps.length cap0,.slice (some ⟨g1,0,none⟩) 3 cap1,.slice (some ⟨g2,0,none⟩) 2 cap2,.slice (some ⟨g3,0,none⟩) qs.length cap3,.slice A ys.length c] (0,0) _ rfl (by apply bp5_4_;apply bp5_3_;apply bp5_2_;apply bp5_1_;apply bp5_0_;exact (blk_far (p:=⟨gr,aa,none⟩) m3.out hn0_4 _)) Try.underlying33 rfl (by kernel_rfl)) rfl ?_
    exact ⟨ow,_,ys,rfl,((HS.out.below m4.out).istore gr aa r1 hgr).setW5 (Nat.le_trans WS.out GR.out) (blk_far (p:=⟨gr,aa,none⟩) m3.out hn0_4 _) _ _ _ _ _,fun _ _=>rfl,(((Fr.refl ow w).below m4.out).set ⟨gr,aa,none⟩ _ (.inl (by rw [hgr];decide))).set5 GR.out _ _ _ _ _,.inl rfl⟩
  have f2 : (k == 2) = false:=by simpa using e2
  by_cases e3 : k = 3
  · subst e3
    obtain ⟨a0,a1,b0,b1⟩:=HK.out.2.2.1 rfl
    obtain ⟨aa,rfl⟩:=Int.eq_ofNat_of_zero_le a0
    obtain ⟨bb,rfl⟩:=Int.eq_ofNat_of_zero_le b0
    replace p1:=eq_true p1
    replace q1:=eq_true q1
    have a2:=eq_true a0
    have a3:=eq_true a1
    have b2:=eq_true b0
    have b3:=eq_true b1
    go_enter Try.func45,Try.ntmps45
    go_wp2_with (first | ((with_reducible refine gate_dst (N:=3) rfl ?_);refine box_event ?hg (N:=3) ?hd (cs:=#[.slice (some ⟨g0,0,none⟩) ps.length cap0,.slice (some ⟨g1,0,none⟩) 3 cap1,.slice (some ⟨g2,0,none⟩) 2 cap2,.slice (some ⟨g3,0,none⟩) qs.length cap3,.slice A ys.length c]) (t:=33) ?hr ?_;(case hd=>rfl);(case hg=>rfl);(case hr=>first | (go_simp;done) | (go_simp;rfl));intro bw hg w5 hbox hb;have n0_:=Aside0.mk (below_step HB.out hb);clear HB;have HB:=n0_;clear n0_;have GW:=Aside0.mk (Nat.le_of_eq hg.symm);have BW:=Aside0.mk hbox;clear hb hbox hg) | ((with_reducible refine gate_dst (N:=5) rfl ?_);refine box_event ?hg (N:=5) ?hd (cs:=#[.int .i64 3,.int .i64 (aa : Int),.int .i64 (bb : Int),.int .i64 n,.slice A4 n4 c4,.slice A5 n5 c5]) (t:=69) ?hr ?_;(case hd=>rfl);(case hg=>rfl);(case hr=>first | (go_simp;done) | (go_simp;rfl));intro bs hg w6 hbox hb;have n1_:=Aside0.mk (blk_below BW.out hb);have NS:=Aside0.mk (show bw ≠ bs by rw [hg];exact Nat.ne_of_lt (blk_lt BW.out));have GS:=Aside0.mk (show w.heap.size ≤ bs by rw [hg];exact HB.out.size);have n0_:=Aside0.mk (below_step HB.out hb);clear HB;have HB:=n0_;clear n0_;clear BW;have BW:=n1_;clear n1_;have BS:=Aside0.mk hbox;clear hb hbox hg) | ((with_reducible refine gate_dst (N:=6) rfl ?_);refine box_event ?hg (N:=6) ?hd (cs:=#[.slice none 0 0,.slice none 0 0,.slice none 0 0,.slice none 0 0,.slice none 0 0]) (t:=33) ?hr ?_;(case hd=>rfl);(case hg=>rfl);(case hr=>first | (go_simp;done) | (go_simp;rfl));intro br hg w7 hbox hb;have n1_:=Aside0.mk (blk_below BW.out hb);have n2_:=Aside0.mk (blk_below BS.out hb);have NR:=Aside0.mk (show bw ≠ br by rw [hg];exact Nat.ne_of_lt (blk_lt BW.out));have GR:=Aside0.mk (show w.heap.size ≤ br by rw [hg];exact HB.out.size);have n0_:=Aside0.mk (below_step HB.out hb);clear HB;have HB:=n0_;clear n0_;clear BW BS;have BW:=n1_;have BS:=n2_;clear n1_ n2_;have BR:=Aside0.mk hbox;obtain ⟨hcz_0,hcz_1,hcz_2,hcz_3,hcz_4,hfz_0,hfz_1,hfz_2,hfz_3,hfz_4⟩:=bz5_ BW;obtain ⟨hcy_0,hcy_1,hcy_2,hcy_3,hcy_4,hcy_5,hfy_0,hfy_1,hfy_2,hfy_3,hfy_4,hfy_5⟩:=bz6_ BS;obtain ⟨hcx_0,hcx_1,hcx_2,hcx_3,hcx_4,hfx_0,hfx_1,hfx_2,hfx_3,hfx_4⟩:=bz5_ BR;have hcr:=(HB.out.cell (World.block_lt_of_cell? w _ HCR.out)).trans HCR.out;have hn1:=NR.out;have hn2:=hn1.symm;obtain ⟨z0,hz0,hf0⟩:=HG.out aa (by omega);have hx0:=(HB.out.cell (World.block_lt_of_cell? w _ hz0)).trans hz0;have hfx0 : w7.frozen? ⟨gr,aa,none⟩ = false:=(HB.out.frozen (World.block_lt_of_cell? w _ hz0)).trans hf0;have hn0_1 : gr ≠ bw:=(by have h1:=GW.out;have h3 : gr < w.heap.size:=World.block_lt_of_cell? w _ hz0;omega);have hn0_2 : gr ≠ br:=(by have h1:=GR.out;have h3 : gr < w.heap.size:=World.block_lt_of_cell? w _ hz0;omega);have hn0_3:=hn0_1.symm;have hn0_4:=hn0_2.symm;obtain ⟨z1,hz1,hf1⟩:=HC.out bb (by omega);have hx1:=(HB.out.cell (World.block_lt_of_cell? w _ hz1)).trans hz1;have hfx1 : w7.frozen? ⟨g1,bb,none⟩ = false:=(HB.out.frozen (World.block_lt_of_cell? w _ hz1)).trans hf1;have hn1_1 : g1 ≠ bw:=(by have h1:=GW.out;have h3 : g1 < w.heap.size:=World.block_lt_of_cell? w _ hz1;omega);have hn1_2 : g1 ≠ br:=(by have h1:=GR.out;have h3 : g1 < w.heap.size:=World.block_lt_of_cell? w _ hz1;omega);have hn1_3:=hn1_1.symm;have hn1_4:=hn1_2.symm;clear hb hbox hg))
    have m1:=Aside0.mk (blk_drew BW.out)
    have m2:=Aside0.mk (blk_drew BS.out)
    have m3:=Aside0.mk (blk_drew BR.out)
    have m4:=Aside0.mk (below_drew1 HB.out)
    clear hcz_0 hcz_1 hcz_2 hcz_3 hcz_4 hfz_0 hfz_1 hfz_2 hfz_3 hfz_4 hcx_0 hcx_1 hcx_2 hcx_3 hcx_4 hfx_0 hfx_1 hfx_2 hfx_3 hfx_4 hcy_0 hcy_1 hcy_2 hcy_3 hcy_4 hcy_5 hfy_0 hfy_1 hfy_2 hfy_3 hfy_4 hfy_5
    refine start_ (n:=11) (S:=fun w'=>w'.cell? ⟨bs,1,none⟩ = some (.int .i64 (aa : Int)) ∧ w'.cell? ⟨bw,1,none⟩ = some (.slice (some ⟨g1,0,none⟩) 3 cap1) ∧ w'.cell? ⟨bs,2,none⟩ = some (.int .i64 (bb : Int)) ∧ w'.cell? ⟨g1,bb,none⟩ = some (.int .i64 z1)) (ds:=[10]) #[false,false,false,false,false,false,false,false,false,false,false] (by kernel_rfl) rfl rfl ⟨(blk_cell m2.out 1).trans rfl,(blk_cell m1.out 1).trans rfl,(blk_cell m2.out 2).trans rfl,hx1⟩ (fun hHeld=>?_)
    refine with_tabW leaf9_tab leaf9_bits (fun HT_ HW_=>?_)
    generalize w7.drew = w8 at m1 m2 m3 m4 hHeld ⊢
    refine pure_ (i:=0) (N:=some 51) (v:=?_) (a':=?_) #[true,false,false,false,false,false,false,false,false,false,false] rfl rfl (any_of HT_.out (by kernel_rfl)) (fun _ _ _ h=>h) (Or.inl ⟨by rfl,?_⟩) ?_ ?_
    rotate_left
    · intro w'
      go_simp
      with_reducible rfl
    rotate_left
    · (try simp only [Act.put,List.setIfInBounds_toArray,List.set_cons_zero,List.set_cons_succ,i64_w,i32_w])
      rfl
    refine pure_ (i:=1) (N:=some 52) (v:=?_) (a':=?_) #[true,true,false,false,false,false,false,false,false,false,false] rfl rfl (any_of HT_.out (by kernel_rfl)) (fun _ _ _ h=>h) (Or.inl ⟨by rfl,?_⟩) ?_ ?_
    rotate_left
    · intro w'
      go_simp
      with_reducible rfl
    rotate_left
    · (try simp only [Act.put,List.setIfInBounds_toArray,List.set_cons_zero,List.set_cons_succ,i64_w,i32_w])
      rfl
    refine pure_ (i:=3) (N:=some 54) (v:=?_) (a':=?_) #[true,true,false,true,false,false,false,false,false,false,false] rfl rfl (any_of HT_.out (by kernel_rfl)) (fun _ _ _ h=>h) (Or.inl ⟨by rfl,?_⟩) ?_ ?_
    rotate_left
    · intro w'
      go_simp
      with_reducible rfl
    rotate_left
    · (try simp only [Act.put,List.setIfInBounds_toArray,List.set_cons_zero,List.set_cons_succ,i64_w,i32_w])
      rfl
    refine pure_ (i:=5) (N:=some 56) (v:=?_) (a':=?_) #[true,true,false,true,false,true,false,false,false,false,false] rfl rfl (any_of HT_.out (by kernel_rfl)) (fun _ _ _ h=>h) (Or.inl ⟨by rfl,?_⟩) ?_ ?_
    rotate_left
    · intro w'
      go_simp
      with_reducible rfl
    rotate_left
    · (try simp only [Act.put,List.setIfInBounds_toArray,List.set_cons_zero,List.set_cons_succ,i64_w,i32_w])
      rfl
    refine take_ (i:=2) (N:=some 53) (v:=?_) (a':=?_) #[true,true,true,true,false,true,false,false,false,false,false] rfl rfl (take_ofW HT_.out HW_.out (by kernel_rfl)) (fun _ _ _ h=>h) (Or.inl ⟨by rfl,?_⟩) hHeld ?_ ?_
    rotate_left
    · rintro w' ⟨s0,s1,s2,s3⟩
      go_simp
      with_reducible rfl
    rotate_left
    · (try simp only [Act.put,List.setIfInBounds_toArray,List.set_cons_zero,List.set_cons_succ,i64_w,i32_w])
      rfl
    refine take_ (i:=4) (N:=some 55) (v:=?_) (a':=?_) #[true,true,true,true,true,true,false,false,false,false,false] rfl rfl (take_ofW HT_.out HW_.out (by kernel_rfl)) (fun _ _ _ h=>h) (Or.inl ⟨by rfl,?_⟩) hHeld ?_ ?_
    rotate_left
    · rintro w' ⟨s0,s1,s2,s3⟩
      go_simp
      with_reducible rfl
    rotate_left
    · (try simp only [Act.put,List.setIfInBounds_toArray,List.set_cons_zero,List.set_cons_succ,i64_w,i32_w])
      rfl
    refine take_ (i:=6) (N:=some 57) (v:=?_) (a':=?_) #[true,true,true,true,true,true,true,false,false,false,false] rfl rfl (take_ofW HT_.out HW_.out (by kernel_rfl)) (fun _ _ _ h=>h) (Or.inl ⟨by rfl,?_⟩) hHeld ?_ ?_
    rotate_left
    · rintro w' ⟨s0,s1,s2,s3⟩
      go_simp
      with_reducible rfl
    rotate_left
    · (try simp only [Act.put,List.setIfInBounds_toArray,List.set_cons_zero,List.set_cons_succ,i64_w,i32_w])
      rfl
    refine pure_ (i:=7) (N:=some 58) (v:=?_) (a':=?_) #[true,true,true,true,true,true,true,true,false,false,false] rfl rfl (any_of HT_.out (by kernel_rfl)) (fun _ _ _ h=>h) (Or.inl ⟨by rfl,?_⟩) ?_ ?_
    rotate_left
    · intro w'
      go_simp
      with_reducible rfl
    rotate_left
    · (try simp only [Act.put,List.setIfInBounds_toArray,List.set_cons_zero,List.set_cons_succ,i64_w,i32_w])
      rfl
    refine take_ (i:=8) (N:=some 59) (v:=?_) (a':=?_) #[true,true,true,true,true,true,true,true,true,false,false] rfl rfl (take_ofW HT_.out HW_.out (by kernel_rfl)) (fun _ _ _ h=>h) (Or.inl ⟨by rfl,?_⟩) hHeld ?_ ?_
    rotate_left
    · rintro w' ⟨s0,s1,s2,s3⟩
      go_simp
      with_reducible rfl
    rotate_left
    · (try simp only [Act.put,List.setIfInBounds_toArray,List.set_cons_zero,List.set_cons_succ,i64_w,i32_w])
      rfl
    refine pure_ (i:=9) (N:=some 60) (v:=?_) (a':=?_) #[true,true,true,true,true,true,true,true,true,true,false] rfl rfl (any_of HT_.out (by kernel_rfl)) (fun _ _ _ h=>h) (Or.inl ⟨by rfl,?_⟩) ?_ ?_
    rotate_left
    · intro w'
      go_simp
      with_reducible rfl
    rotate_left
    · (try simp only [Act.put,List.setIfInBounds_toArray,List.set_cons_zero,List.set_cons_succ,i64_w,i32_w])
      rfl
    have hy0:=(m4.out.cell (World.block_lt_of_cell? w _ hz0)).trans hz0
    have hfy0 : w8.frozen? ⟨gr,aa,none⟩ = false:=(m4.out.frozen (World.block_lt_of_cell? w _ hz0)).trans hf0
    refine last_ (i:=10) (N:=none) #[true,true,true,true,true,true,true,true,true,true,true] rfl rfl (one_of HT_.out (by kernel_rfl)) (by decide) (fun K hK=>?_)
    refine skip_ (w1:=?_) (by rfl) rfl ?_ ?_
    rotate_left
    · go_simp
      rfl
    refine hK.out _ _ ?_
    clear hK K
    refine done_ (done_of HT_.out (by kernel_rfl)) ?_
    clear HT_ HW_
    obtain ⟨hcz_0,hcz_1,hcz_2,hcz_3,hcz_4,hfz_0,hfz_1,hfz_2,hfz_3,hfz_4⟩:=bz5_ m1
    obtain ⟨hcx_0,hcx_1,hcx_2,hcx_3,hcx_4,hfx_0,hfx_1,hfx_2,hfx_3,hfx_4⟩:=bz5_ m3
    go_wp2
    refine bodyPost_ret (results_cell_row rfl _ _ br 33 #[.slice (some ⟨g0,0,none⟩) ps.length cap0,.slice (some ⟨g1,0,none⟩) 3 cap1,.slice (some ⟨g2,0,none⟩) 2 cap2,.slice (some ⟨g3,0,none⟩) qs.length cap3,.slice A ys.length c] (0,0) _ rfl (by apply bp5_4_;apply bp5_3_;apply bp5_2_;apply bp5_1_;apply bp5_0_;exact (blk_far (p:=⟨gr,aa,none⟩) m3.out hn0_4 _)) Try.underlying33 rfl (by kernel_rfl)) rfl ?_
    exact ⟨ow,_,ys,rfl,((HS.out.below m4.out).istore gr aa z1 hgr).setW5 (Nat.le_trans WS.out GR.out) (blk_far (p:=⟨gr,aa,none⟩) m3.out hn0_4 _) _ _ _ _ _,fun _ _=>rfl,(((Fr.refl ow w).below m4.out).set ⟨gr,aa,none⟩ _ (.inl (by rw [hgr];decide))).set5 GR.out _ _ _ _ _,.inl rfl⟩
  have f3 : (k == 3) = false:=by simpa using e3
  by_cases e4 : k = 4
  · subst e4
    obtain ⟨a0,a1,b0,b1⟩:=HK.out.2.2.2.1 rfl
    obtain ⟨aa,rfl⟩:=Int.eq_ofNat_of_zero_le a0
    obtain ⟨bb,rfl⟩:=Int.eq_ofNat_of_zero_le b0
    replace p1:=eq_true p1
    replace q1:=eq_true q1
    have a2:=eq_true a0
    have a3:=eq_true a1
    have b2:=eq_true b0
    have b3:=eq_true b1
    go_enter Try.func45,Try.ntmps45
    go_wp2_with (first | ((with_reducible refine gate_dst (N:=3) rfl ?_);refine box_event ?hg (N:=3) ?hd (cs:=#[.slice (some ⟨g0,0,none⟩) ps.length cap0,.slice (some ⟨g1,0,none⟩) 3 cap1,.slice (some ⟨g2,0,none⟩) 2 cap2,.slice (some ⟨g3,0,none⟩) qs.length cap3,.slice A ys.length c]) (t:=33) ?hr ?_;(case hd=>rfl);(case hg=>rfl);(case hr=>first | (go_simp;done) | (go_simp;rfl));intro bw hg w5 hbox hb;have n0_:=Aside0.mk (below_step HB.out hb);clear HB;have HB:=n0_;clear n0_;have GW:=Aside0.mk (Nat.le_of_eq hg.symm);have BW:=Aside0.mk hbox;clear hb hbox hg) | ((with_reducible refine gate_dst (N:=5) rfl ?_);refine box_event ?hg (N:=5) ?hd (cs:=#[.int .i64 4,.int .i64 (aa : Int),.int .i64 (bb : Int),.int .i64 n,.slice A4 n4 c4,.slice A5 n5 c5]) (t:=69) ?hr ?_;(case hd=>rfl);(case hg=>rfl);(case hr=>first | (go_simp;done) | (go_simp;rfl));intro bs hg w6 hbox hb;have n1_:=Aside0.mk (blk_below BW.out hb);have NS:=Aside0.mk (show bw ≠ bs by rw [hg];exact Nat.ne_of_lt (blk_lt BW.out));have GS:=Aside0.mk (show w.heap.size ≤ bs by rw [hg];exact HB.out.size);have n0_:=Aside0.mk (below_step HB.out hb);clear HB;have HB:=n0_;clear n0_;clear BW;have BW:=n1_;clear n1_;have BS:=Aside0.mk hbox;clear hb hbox hg) | ((with_reducible refine gate_dst (N:=6) rfl ?_);refine box_event ?hg (N:=6) ?hd (cs:=#[.slice none 0 0,.slice none 0 0,.slice none 0 0,.slice none 0 0,.slice none 0 0]) (t:=33) ?hr ?_;(case hd=>rfl);(case hg=>rfl);(case hr=>first | (go_simp;done) | (go_simp;rfl));intro br hg w7 hbox hb;have n1_:=Aside0.mk (blk_below BW.out hb);have n2_:=Aside0.mk (blk_below BS.out hb);have NR:=Aside0.mk (show bw ≠ br by rw [hg];exact Nat.ne_of_lt (blk_lt BW.out));have GR:=Aside0.mk (show w.heap.size ≤ br by rw [hg];exact HB.out.size);have n0_:=Aside0.mk (below_step HB.out hb);clear HB;have HB:=n0_;clear n0_;clear BW BS;have BW:=n1_;have BS:=n2_;clear n1_ n2_;have BR:=Aside0.mk hbox;obtain ⟨hcz_0,hcz_1,hcz_2,hcz_3,hcz_4,hfz_0,hfz_1,hfz_2,hfz_3,hfz_4⟩:=bz5_ BW;obtain ⟨hcy_0,hcy_1,hcy_2,hcy_3,hcy_4,hcy_5,hfy_0,hfy_1,hfy_2,hfy_3,hfy_4,hfy_5⟩:=bz6_ BS;obtain ⟨hcx_0,hcx_1,hcx_2,hcx_3,hcx_4,hfx_0,hfx_1,hfx_2,hfx_3,hfx_4⟩:=bz5_ BR;have hcr:=(HB.out.cell (World.block_lt_of_cell? w _ HCR.out)).trans HCR.out;have hn1:=NR.out;have hn2:=hn1.symm;obtain ⟨z0,hz0,hf0⟩:=HC.out aa (by omega);have hx0:=(HB.out.cell (World.block_lt_of_cell? w _ hz0)).trans hz0;have hfx0 : w7.frozen? ⟨g1,aa,none⟩ = false:=(HB.out.frozen (World.block_lt_of_cell? w _ hz0)).trans hf0;have hn0_1 : g1 ≠ bw:=(by have h1:=GW.out;have h3 : g1 < w.heap.size:=World.block_lt_of_cell? w _ hz0;omega);have hn0_2 : g1 ≠ br:=(by have h1:=GR.out;have h3 : g1 < w.heap.size:=World.block_lt_of_cell? w _ hz0;omega);have hn0_3:=hn0_1.symm;have hn0_4:=hn0_2.symm;obtain ⟨z1,hz1,hf1⟩:=HG.out bb (by omega);have hx1:=(HB.out.cell (World.block_lt_of_cell? w _ hz1)).trans hz1;have hfx1 : w7.frozen? ⟨gr,bb,none⟩ = false:=(HB.out.frozen (World.block_lt_of_cell? w _ hz1)).trans hf1;have hn1_1 : gr ≠ bw:=(by have h1:=GW.out;have h3 : gr < w.heap.size:=World.block_lt_of_cell? w _ hz1;omega);have hn1_2 : gr ≠ br:=(by have h1:=GR.out;have h3 : gr < w.heap.size:=World.block_lt_of_cell? w _ hz1;omega);have hn1_3:=hn1_1.symm;have hn1_4:=hn1_2.symm;clear hb hbox hg))
    have m1:=Aside0.mk (blk_drew BW.out)
    have m2:=Aside0.mk (blk_drew BS.out)
    have m3:=Aside0.mk (blk_drew BR.out)
    have m4:=Aside0.mk (below_drew1 HB.out)
    clear hcz_0 hcz_1 hcz_2 hcz_3 hcz_4 hfz_0 hfz_1 hfz_2 hfz_3 hfz_4 hcx_0 hcx_1 hcx_2 hcx_3 hcx_4 hfx_0 hfx_1 hfx_2 hfx_3 hfx_4 hcy_0 hcy_1 hcy_2 hcy_3 hcy_4 hcy_5 hfy_0 hfy_1 hfy_2 hfy_3 hfy_4 hfy_5
    refine start_ (n:=11) (S:=fun w'=>w'.cell? ⟨bw,1,none⟩ = some (.slice (some ⟨g1,0,none⟩) 3 cap1) ∧ w'.cell? ⟨bs,1,none⟩ = some (.int .i64 (aa : Int)) ∧ w'.cell? ⟨bs,2,none⟩ = some (.int .i64 (bb : Int)) ∧ w'.cell? ⟨gr,bb,none⟩ = some (.int .i64 z1)) (ds:=[10]) #[false,false,false,false,false,false,false,false,false,false,false] (by kernel_rfl) rfl rfl ⟨(blk_cell m1.out 1).trans rfl,(blk_cell m2.out 1).trans rfl,(blk_cell m2.out 2).trans rfl,hx1⟩ (fun hHeld=>?_)
    refine with_tabW leaf11_tab leaf11_bits (fun HT_ HW_=>?_)
    generalize w7.drew = w8 at m1 m2 m3 m4 hHeld ⊢
    refine pure_ (i:=0) (N:=some 63) (v:=?_) (a':=?_) #[true,false,false,false,false,false,false,false,false,false,false] rfl rfl (any_of HT_.out (by kernel_rfl)) (fun _ _ _ h=>h) (Or.inl ⟨by rfl,?_⟩) ?_ ?_
    rotate_left
    · intro w'
      go_simp
      with_reducible rfl
    rotate_left
    · (try simp only [Act.put,List.setIfInBounds_toArray,List.set_cons_zero,List.set_cons_succ,i64_w,i32_w])
      rfl
    refine pure_ (i:=2) (N:=some 65) (v:=?_) (a':=?_) #[true,false,true,false,false,false,false,false,false,false,false] rfl rfl (any_of HT_.out (by kernel_rfl)) (fun _ _ _ h=>h) (Or.inl ⟨by rfl,?_⟩) ?_ ?_
    rotate_left
    · intro w'
      go_simp
      with_reducible rfl
    rotate_left
    · (try simp only [Act.put,List.setIfInBounds_toArray,List.set_cons_zero,List.set_cons_succ,i64_w,i32_w])
      rfl
    refine pure_ (i:=4) (N:=some 67) (v:=?_) (a':=?_) #[true,false,true,false,true,false,false,false,false,false,false] rfl rfl (any_of HT_.out (by kernel_rfl)) (fun _ _ _ h=>h) (Or.inl ⟨by rfl,?_⟩) ?_ ?_
    rotate_left
    · intro w'
      go_simp
      with_reducible rfl
    rotate_left
    · (try simp only [Act.put,List.setIfInBounds_toArray,List.set_cons_zero,List.set_cons_succ,i64_w,i32_w])
      rfl
    refine pure_ (i:=5) (N:=some 68) (v:=?_) (a':=?_) #[true,false,true,false,true,true,false,false,false,false,false] rfl rfl (any_of HT_.out (by kernel_rfl)) (fun _ _ _ h=>h) (Or.inl ⟨by rfl,?_⟩) ?_ ?_
    rotate_left
    · intro w'
      go_simp
      with_reducible rfl
    rotate_left
    · (try simp only [Act.put,List.setIfInBounds_toArray,List.set_cons_zero,List.set_cons_succ,i64_w,i32_w])
      rfl
    refine take_ (i:=1) (N:=some 64) (v:=?_) (a':=?_) #[true,true,true,false,true,true,false,false,false,false,false] rfl rfl (take_ofW HT_.out HW_.out (by kernel_rfl)) (fun _ _ _ h=>h) (Or.inl ⟨by rfl,?_⟩) hHeld ?_ ?_
    rotate_left
    · rintro w' ⟨s0,s1,s2,s3⟩
      go_simp
      with_reducible rfl
    rotate_left
    · (try simp only [Act.put,List.setIfInBounds_toArray,List.set_cons_zero,List.set_cons_succ,i64_w,i32_w])
      rfl
    refine take_ (i:=3) (N:=some 66) (v:=?_) (a':=?_) #[true,true,true,true,true,true,false,false,false,false,false] rfl rfl (take_ofW HT_.out HW_.out (by kernel_rfl)) (fun _ _ _ h=>h) (Or.inl ⟨by rfl,?_⟩) hHeld ?_ ?_
    rotate_left
    · rintro w' ⟨s0,s1,s2,s3⟩
      go_simp
      with_reducible rfl
    rotate_left
    · (try simp only [Act.put,List.setIfInBounds_toArray,List.set_cons_zero,List.set_cons_succ,i64_w,i32_w])
      rfl
    refine take_ (i:=6) (N:=some 69) (v:=?_) (a':=?_) #[true,true,true,true,true,true,true,false,false,false,false] rfl rfl (take_ofW HT_.out HW_.out (by kernel_rfl)) (fun _ _ _ h=>h) (Or.inl ⟨by rfl,?_⟩) hHeld ?_ ?_
    rotate_left
    · rintro w' ⟨s0,s1,s2,s3⟩
      go_simp
      with_reducible rfl
    rotate_left
    · (try simp only [Act.put,List.setIfInBounds_toArray,List.set_cons_zero,List.set_cons_succ,i64_w,i32_w])
      rfl
    refine pure_ (i:=7) (N:=some 70) (v:=?_) (a':=?_) #[true,true,true,true,true,true,true,true,false,false,false] rfl rfl (any_of HT_.out (by kernel_rfl)) (fun _ _ _ h=>h) (Or.inl ⟨by rfl,?_⟩) ?_ ?_
    rotate_left
    · intro w'
      go_simp
      with_reducible rfl
    rotate_left
    · (try simp only [Act.put,List.setIfInBounds_toArray,List.set_cons_zero,List.set_cons_succ,i64_w,i32_w])
      rfl
    refine take_ (i:=8) (N:=some 71) (v:=?_) (a':=?_) #[true,true,true,true,true,true,true,true,true,false,false] rfl rfl (take_ofW HT_.out HW_.out (by kernel_rfl)) (fun _ _ _ h=>h) (Or.inl ⟨by rfl,?_⟩) hHeld ?_ ?_
    rotate_left
    · rintro w' ⟨s0,s1,s2,s3⟩
      go_simp
      with_reducible rfl
    rotate_left
    · (try simp only [Act.put,List.setIfInBounds_toArray,List.set_cons_zero,List.set_cons_succ,i64_w,i32_w])
      rfl
    refine pure_ (i:=9) (N:=some 72) (v:=?_) (a':=?_) #[true,true,true,true,true,true,true,true,true,true,false] rfl rfl (any_of HT_.out (by kernel_rfl)) (fun _ _ _ h=>h) (Or.inl ⟨by rfl,?_⟩) ?_ ?_
    rotate_left
    · intro w'
      go_simp
      with_reducible rfl
    rotate_left
    · (try simp only [Act.put,List.setIfInBounds_toArray,List.set_cons_zero,List.set_cons_succ,i64_w,i32_w])
      rfl
    have hy0:=(m4.out.cell (World.block_lt_of_cell? w _ hz0)).trans hz0
    have hfy0 : w8.frozen? ⟨g1,aa,none⟩ = false:=(m4.out.frozen (World.block_lt_of_cell? w _ hz0)).trans hf0
    refine last_ (i:=10) (N:=none) #[true,true,true,true,true,true,true,true,true,true,true] rfl rfl (one_of HT_.out (by kernel_rfl)) (by decide) (fun K hK=>?_)
    refine skip_ (w1:=?_) (by rfl) rfl ?_ ?_
    rotate_left
    · go_simp
      rfl
    refine hK.out _ _ ?_
    clear hK K
    refine done_ (done_of HT_.out (by kernel_rfl)) ?_
    clear HT_ HW_
    obtain ⟨hcz_0,hcz_1,hcz_2,hcz_3,hcz_4,hfz_0,hfz_1,hfz_2,hfz_3,hfz_4⟩:=bz5_ m1
    obtain ⟨hcx_0,hcx_1,hcx_2,hcx_3,hcx_4,hfx_0,hfx_1,hfx_2,hfx_3,hfx_4⟩:=bz5_ m3
    go_wp2
    refine bodyPost_ret (results_cell_row rfl _ _ br 33 #[.slice (some ⟨g0,0,none⟩) ps.length cap0,.slice (some ⟨g1,0,none⟩) 3 cap1,.slice (some ⟨g2,0,none⟩) 2 cap2,.slice (some ⟨g3,0,none⟩) qs.length cap3,.slice A ys.length c] (0,0) _ rfl (by apply bp5_4_;apply bp5_3_;apply bp5_2_;apply bp5_1_;apply bp5_0_;exact (blk_far (p:=⟨g1,aa,none⟩) m3.out hn0_4 _)) Try.underlying33 rfl (by kernel_rfl)) rfl ?_
    exact ⟨ow,_,ys,rfl,((HS.out.below m4.out).istore g1 aa z1 hg1).setW5 (Nat.le_trans WS.out GR.out) (blk_far (p:=⟨g1,aa,none⟩) m3.out hn0_4 _) _ _ _ _ _,fun _ _=>rfl,(((Fr.refl ow w).below m4.out).set ⟨g1,aa,none⟩ _ (.inl (by rw [hg1];decide))).set5 GR.out _ _ _ _ _,.inl rfl⟩
  have f4 : (k == 4) = false:=by simpa using e4
  by_cases e5 : k = 5
  · subst e5
    obtain ⟨a0,a1⟩:=HK.out.2.2.2.2 rfl
    obtain ⟨aa,rfl⟩:=Int.eq_ofNat_of_zero_le a0
    replace p1:=eq_true p1
    replace q1:=eq_true q1
    have a2:=eq_true a0
    have a3:=eq_true a1
    go_enter Try.func45,Try.ntmps45
    go_wp2_with (first | ((with_reducible refine gate_dst (N:=3) rfl ?_);refine box_event ?hg (N:=3) ?hd (cs:=#[.slice (some ⟨g0,0,none⟩) ps.length cap0,.slice (some ⟨g1,0,none⟩) 3 cap1,.slice (some ⟨g2,0,none⟩) 2 cap2,.slice (some ⟨g3,0,none⟩) qs.length cap3,.slice A ys.length c]) (t:=33) ?hr ?_;(case hd=>rfl);(case hg=>rfl);(case hr=>first | (go_simp;done) | (go_simp;rfl));intro bw hg w5 hbox hb;have n0_:=Aside0.mk (below_step HB.out hb);clear HB;have HB:=n0_;clear n0_;have GW:=Aside0.mk (Nat.le_of_eq hg.symm);have BW:=Aside0.mk hbox;clear hb hbox hg) | ((with_reducible refine gate_dst (N:=5) rfl ?_);refine box_event ?hg (N:=5) ?hd (cs:=#[.int .i64 5,.int .i64 (aa : Int),.int .i64 b,.int .i64 n,.slice A4 n4 c4,.slice A5 n5 c5]) (t:=69) ?hr ?_;(case hd=>rfl);(case hg=>rfl);(case hr=>first | (go_simp;done) | (go_simp;rfl));intro bs hg w6 hbox hb;have n1_:=Aside0.mk (blk_below BW.out hb);have NS:=Aside0.mk (show bw ≠ bs by rw [hg];exact Nat.ne_of_lt (blk_lt BW.out));have GS:=Aside0.mk (show w.heap.size ≤ bs by rw [hg];exact HB.out.size);have n0_:=Aside0.mk (below_step HB.out hb);clear HB;have HB:=n0_;clear n0_;clear BW;have BW:=n1_;clear n1_;have BS:=Aside0.mk hbox;clear hb hbox hg) | ((with_reducible refine gate_dst (N:=6) rfl ?_);refine box_event ?hg (N:=6) ?hd (cs:=#[.slice none 0 0,.slice none 0 0,.slice none 0 0,.slice none 0 0,.slice none 0 0]) (t:=33) ?hr ?_;(case hd=>rfl);(case hg=>rfl);(case hr=>first | (go_simp;done) | (go_simp;rfl));intro br hg w7 hbox hb;have n1_:=Aside0.mk (blk_below BW.out hb);have n2_:=Aside0.mk (blk_below BS.out hb);have NR:=Aside0.mk (show bw ≠ br by rw [hg];exact Nat.ne_of_lt (blk_lt BW.out));have GR:=Aside0.mk (show w.heap.size ≤ br by rw [hg];exact HB.out.size);have n0_:=Aside0.mk (below_step HB.out hb);clear HB;have HB:=n0_;clear n0_;clear BW BS;have BW:=n1_;have BS:=n2_;clear n1_ n2_;have BR:=Aside0.mk hbox;obtain ⟨hcz_0,hcz_1,hcz_2,hcz_3,hcz_4,hfz_0,hfz_1,hfz_2,hfz_3,hfz_4⟩:=bz5_ BW;obtain ⟨hcy_0,hcy_1,hcy_2,hcy_3,hcy_4,hcy_5,hfy_0,hfy_1,hfy_2,hfy_3,hfy_4,hfy_5⟩:=bz6_ BS;obtain ⟨hcx_0,hcx_1,hcx_2,hcx_3,hcx_4,hfx_0,hfx_1,hfx_2,hfx_3,hfx_4⟩:=bz5_ BR;have hcr:=(HB.out.cell (World.block_lt_of_cell? w _ HCR.out)).trans HCR.out;have hn1:=NR.out;have hn2:=hn1.symm;obtain ⟨z0,hz0,hf0⟩:=HG.out aa (by omega);have hx0:=(HB.out.cell (World.block_lt_of_cell? w _ hz0)).trans hz0;have hfx0 : w7.frozen? ⟨gr,aa,none⟩ = false:=(HB.out.frozen (World.block_lt_of_cell? w _ hz0)).trans hf0;have hn0_1 : gr ≠ bw:=(by have h1:=GW.out;have h3 : gr < w.heap.size:=World.block_lt_of_cell? w _ hz0;omega);have hn0_2 : gr ≠ br:=(by have h1:=GR.out;have h3 : gr < w.heap.size:=World.block_lt_of_cell? w _ hz0;omega);have hn0_3:=hn0_1.symm;have hn0_4:=hn0_2.symm;clear hb hbox hg))
    have m1:=Aside0.mk (blk_drew BW.out)
    have m2:=Aside0.mk (blk_drew BS.out)
    have m3:=Aside0.mk (blk_drew BR.out)
    have m4:=Aside0.mk (below_drew1 HB.out)
    clear hcz_0 hcz_1 hcz_2 hcz_3 hcz_4 hfz_0 hfz_1 hfz_2 hfz_3 hfz_4 hcx_0 hcx_1 hcx_2 hcx_3 hcx_4 hfx_0 hfx_1 hfx_2 hfx_3 hfx_4 hcy_0 hcy_1 hcy_2 hcy_3 hcy_4 hcy_5 hfy_0 hfy_1 hfy_2 hfy_3 hfy_4 hfy_5
    refine start_ (n:=13) (S:=fun w'=>w'.cell? ⟨bw,4,none⟩ = some (.slice A ys.length c) ∧ w'.cell? ⟨bs,1,none⟩ = some (.int .i64 (aa : Int)) ∧ w'.cell? ⟨gr,aa,none⟩ = some (.int .i64 z0)) (ds:=[12]) #[false,false,false,false,false,false,false,false,false,false,false,false,false] (by kernel_rfl) rfl rfl ⟨(blk_cell m1.out 4).trans rfl,(blk_cell m2.out 1).trans rfl,hx0⟩ (fun hHeld=>?_)
    refine with_tabW leaf13_tab leaf13_bits (fun HT_ HW_=>?_)
    generalize w7.drew = w8 at m1 m2 m3 m4 hHeld ⊢
    refine pure_ (i:=0) (N:=some 75) (v:=?_) (a':=?_) #[true,false,false,false,false,false,false,false,false,false,false,false,false] rfl rfl (any_of HT_.out (by kernel_rfl)) (fun _ _ _ h=>h) (Or.inl ⟨by rfl,?_⟩) ?_ ?_
    rotate_left
    · intro w'
      go_simp
      with_reducible rfl
    rotate_left
    · (try simp only [Act.put,List.setIfInBounds_toArray,List.set_cons_zero,List.set_cons_succ,i64_w,i32_w])
      rfl
    refine pure_ (i:=2) (N:=some 77) (v:=?_) (a':=?_) #[true,false,true,false,false,false,false,false,false,false,false,false,false] rfl rfl (any_of HT_.out (by kernel_rfl)) (fun _ _ _ h=>h) (Or.inl ⟨by rfl,?_⟩) ?_ ?_
    rotate_left
    · intro w'
      go_simp
      with_reducible rfl
    rotate_left
    · (try simp only [Act.put,List.setIfInBounds_toArray,List.set_cons_zero,List.set_cons_succ,i64_w,i32_w])
      rfl
    refine pure_ (i:=3) (N:=some 78) (v:=?_) (a':=?_) #[true,false,true,true,false,false,false,false,false,false,false,false,false] rfl rfl (any_of HT_.out (by kernel_rfl)) (fun _ _ _ h=>h) (Or.inl ⟨by rfl,?_⟩) ?_ ?_
    rotate_left
    · intro w'
      go_simp
      with_reducible rfl
    rotate_left
    · (try simp only [Act.put,List.setIfInBounds_toArray,List.set_cons_zero,List.set_cons_succ,i64_w,i32_w])
      rfl
    refine pure_ (i:=4) (N:=some 79) (v:=?_) (a':=?_) #[true,false,true,true,true,false,false,false,false,false,false,false,false] rfl rfl (any_of HT_.out (by kernel_rfl)) (fun _ _ _ h=>h) (Or.inl ⟨by rfl,?_⟩) ?_ ?_
    rotate_left
    · intro w'
      go_simp
      with_reducible rfl
    rotate_left
    · (try simp only [Act.put,List.setIfInBounds_toArray,List.set_cons_zero,List.set_cons_succ,i64_w,i32_w])
      rfl
    refine take_ (i:=1) (N:=some 76) (v:=?_) (a':=?_) #[true,true,true,true,true,false,false,false,false,false,false,false,false] rfl rfl (take_ofW HT_.out HW_.out (by kernel_rfl)) (fun _ _ _ h=>h) (Or.inl ⟨by rfl,?_⟩) hHeld ?_ ?_
    rotate_left
    · rintro w' ⟨s0,s1,s2⟩
      go_simp
      with_reducible rfl
    rotate_left
    · (try simp only [Act.put,List.setIfInBounds_toArray,List.set_cons_zero,List.set_cons_succ,i64_w,i32_w])
      rfl
    refine take_ (i:=5) (N:=some 80) (v:=?_) (a':=?_) #[true,true,true,true,true,true,false,false,false,false,false,false,false] rfl rfl (take_ofW HT_.out HW_.out (by kernel_rfl)) (fun _ _ _ h=>h) (Or.inl ⟨by rfl,?_⟩) hHeld ?_ ?_
    rotate_left
    · rintro w' ⟨s0,s1,s2⟩
      go_simp
      with_reducible rfl
    rotate_left
    · (try simp only [Act.put,List.setIfInBounds_toArray,List.set_cons_zero,List.set_cons_succ,i64_w,i32_w])
      rfl
    refine pure_ (i:=6) (N:=some 81) (v:=?_) (a':=?_) #[true,true,true,true,true,true,true,false,false,false,false,false,false] rfl rfl (any_of HT_.out (by kernel_rfl)) (fun _ _ _ h=>h) (Or.inl ⟨by rfl,?_⟩) ?_ ?_
    rotate_left
    · intro w'
      go_simp
      with_reducible rfl
    rotate_left
    · (try simp only [Act.put,List.setIfInBounds_toArray,List.set_cons_zero,List.set_cons_succ,i64_w,i32_w])
      rfl
    refine take_ (i:=7) (N:=some 82) (v:=?_) (a':=?_) #[true,true,true,true,true,true,true,true,false,false,false,false,false] rfl rfl (take_ofW HT_.out HW_.out (by kernel_rfl)) (fun _ _ _ h=>h) (Or.inl ⟨by rfl,?_⟩) hHeld ?_ ?_
    rotate_left
    · rintro w' ⟨s0,s1,s2⟩
      go_simp
      with_reducible rfl
    rotate_left
    · (try simp only [Act.put,List.setIfInBounds_toArray,List.set_cons_zero,List.set_cons_succ,i64_w,i32_w])
      rfl
    refine pure_ (i:=8) (N:=some 83) (v:=?_) (a':=?_) #[true,true,true,true,true,true,true,true,true,false,false,false,false] rfl rfl (any_of HT_.out (by kernel_rfl)) (fun _ _ _ h=>h) (Or.inl ⟨by rfl,?_⟩) ?_ ?_
    rotate_left
    · intro w'
      go_simp
      with_reducible rfl
    rotate_left
    · (try simp only [Act.put,List.setIfInBounds_toArray,List.set_cons_zero,List.set_cons_succ,i64_w,i32_w])
      rfl
    have HO:=Aside0.mk (show k38.R 38 w8 0 (fun k=>ow k = 4 ∨ w8.heap.size ≤ k) (.slice A ys.length c) ys from Kd.R_mono (Kd.R_below HS.out.sa m4.out) (fun _ hk=>.inl hk))
    have hx9:=(m4.out.cell (World.block_lt_of_cell? w _ hz0)).trans hz0
    refine one_ (i:=9) (N:=some 84) #[true,true,true,true,true,true,true,true,true,true,false,false,false] rfl rfl (one_of HT_.out (by kernel_rfl)) (by decide) (fun K hK=>?_)
    refine value_ (w1:=?_) (v:=?_) (by rfl) rfl ?_ ?_
    rotate_left 2
    · go_simp
      constructor
      · rfl
      · rfl
    refine hK.out _ _ ⟨(blk_cell (blk_alloc m1.out _) 4).trans rfl,(blk_cell (blk_alloc m2.out _) 1).trans rfl,((below_alloc (Below.refl w8.heap.size w8) _).cell (World.block_lt_of_cell? w8 _ hx9)).trans hx9⟩ (fun hHeld=>?_)
    clear hK K
    refine norm_ (a':=?_) ?_ ?_
    rotate_left
    · show Act.put _ (some 84) _ = _
      simp only [Act.put,List.setIfInBounds_toArray,List.set_cons_zero,List.set_cons_succ,i64_w,i32_w]
      rfl
    refine one_ (i:=10) (N:=some 85) #[true,true,true,true,true,true,true,true,true,true,true,false,false] rfl rfl (one_of HT_.out (by kernel_rfl)) (by decide) (fun K hK=>?_)
    refine Kd.R_append_step k38 (w0:=w) 0 (by rfl) (.tmp 76) (.tmp 84) 23 38 (.agg #[(.int .i64 0),(.int .i64 0)]) 16 rfl Try.underlying23 info38 rfl (by decide) (by omega) (.slice A ys.length c) ys (⟨(who : Int),z0⟩ : S38) [.int .i64 (who : Int),.int .i64 z0] (fun k=>ow k = 4 ∨ w8.heap.size ≤ k) (fun _=>False) rfl rfl ⟨[.int .i64 (who : Int)],[.int .i64 z0],rfl,rfl,rfl⟩ (fun _ h=>h.elim) (fun _ h=>.inr h) HO.out (Below.zero m4.out) (Nat.zero_le _) (by omega) ?_
    intro v9 w9 ho hb hg hat
    obtain ⟨ow',hsv,hext⟩:=(HS.out.below m4.out).said (Nat.le_trans hlo m4.out.size) ho hg
    have n1:=Aside0.mk (blk_grown m1.out hg (Kd.R_ne HO.out m1.out (by decide)))
    have n3:=Aside0.mk (blk_grown m3.out hg (Kd.R_ne HO.out m3.out (by decide)))
    have n2:=Aside0.mk (blk_grown m2.out hg (fun e=>by have h1:=HS.out.sa.1 bs e.symm;have h2:=(HS.out.bd bs (by omega)).2;have h3:=GS.out;omega))
    have hx8 : w9.cell? ⟨gr,aa,none⟩ = some (.int .i64 z0):=by
      have hh : w9.heap[gr]? = w8.heap[gr]?:=hg.block gr (World.block_lt_of_cell? w8 _ hx9) (fun e=>by have h1:=HS.out.sa.1 gr e.symm;omega)
      rw [← hx9]
      simp only [World.cell?,hh]
    have fr:=Aside0.mk (show Fr ow w w9 from ⟨hb,fun k hk h0=>(hg.block k (Nat.lt_of_lt_of_le hk m4.out.size) (fun e=>by have h1:=HS.out.sa.1 k e.symm;omega)).trans (m4.out.block k hk)⟩)
    obtain ⟨A9,c9,e9⟩:=Kd.R_slice ho
    subst e9
    have hs9:=m4.out.size
    have HV:=Aside0.mk hsv
    have HE:=Aside0.mk hext
    clear ho hb hg hat hsv hext m1 m2 m3 hHeld hx9
    refine hK.out _ _ ⟨(blk_cell n1.out 4).trans rfl,(blk_cell n2.out 1).trans rfl,hx8⟩ (fun hHeld=>?_)
    clear hK K
    refine norm_ (a':=?_) ?_ ?_
    rotate_left
    · show Act.put _ (some 85) _ = _
      simp only [Act.put,List.setIfInBounds_toArray,List.set_cons_zero,List.set_cons_succ,i64_w,i32_w]
      rfl
    refine pure_ (i:=11) (N:=some 86) (v:=?_) (a':=?_) #[true,true,true,true,true,true,true,true,true,true,true,true,false] rfl rfl (any_of HT_.out (by kernel_rfl)) (fun _ _ _ h=>h) (Or.inl ⟨by rfl,?_⟩) ?_ ?_
    rotate_left
    · intro w'
      go_simp
      with_reducible rfl
    rotate_left
    · (try simp only [Act.put,List.setIfInBounds_toArray,List.set_cons_zero,List.set_cons_succ,i64_w,i32_w])
      rfl
    have hcw : w9.cell? ⟨bw,4,none⟩ = some (.slice A ys.length c):=(blk_cell n1.out 4).trans rfl
    have hfw:=blk_frozen n1.out 4
    refine last_ (i:=12) (N:=none) #[true,true,true,true,true,true,true,true,true,true,true,true,true] rfl rfl (one_of HT_.out (by kernel_rfl)) (by decide) (fun K hK=>?_)
    refine skip_ (w1:=?_) (by rfl) rfl ?_ ?_
    rotate_left
    · go_simp
      rfl
    refine hK.out _ _ ?_
    clear hK K
    refine done_ (done_of HT_.out (by kernel_rfl)) ?_
    clear HT_ HW_
    have m1:=Aside0.mk (show (w9.setCell ⟨bw,4,none⟩ (.slice A9 (ys.length + 1) c9)).heap[bw]? = some (.cells #[.slice (some ⟨g0,0,none⟩) ps.length cap0,.slice (some ⟨g1,0,none⟩) 3 cap1,.slice (some ⟨g2,0,none⟩) 2 cap2,.slice (some ⟨g3,0,none⟩) qs.length cap3,.slice A9 (ys.length + 1) c9] 33 (0,0)) from bp5_4_ n1.out)
    have m3:=Aside0.mk (blk_far (p:=⟨bw,4,none⟩) n3.out hn2 (.slice A9 (ys.length + 1) c9))
    clear hHeld hcw hfw hx8
    obtain ⟨hcz_0,hcz_1,hcz_2,hcz_3,hcz_4,hfz_0,hfz_1,hfz_2,hfz_3,hfz_4⟩:=bz5_ m1
    obtain ⟨hcx_0,hcx_1,hcx_2,hcx_3,hcx_4,hfx_0,hfx_1,hfx_2,hfx_3,hfx_4⟩:=bz5_ m3
    go_wp2
    refine bodyPost_ret (results_cell_row rfl _ _ br 33 #[.slice (some ⟨g0,0,none⟩) ps.length cap0,.slice (some ⟨g1,0,none⟩) 3 cap1,.slice (some ⟨g2,0,none⟩) 2 cap2,.slice (some ⟨g3,0,none⟩) qs.length cap3,.slice A9 (ys.length + 1) c9] (0,0) _ rfl (by apply bp5_4_;apply bp5_3_;apply bp5_2_;apply bp5_1_;apply bp5_0_;exact m3.out) Try.underlying33 rfl (by kernel_rfl)) rfl ?_
    refine ⟨ow',_,ys ++ [⟨(who : Int),z0⟩],rfl,?_,fun k hk=>HE.out k (Nat.lt_of_lt_of_le hk hs9),(fr.out.set ⟨bw,4,none⟩ _ (.inr GW.out)).set5 GR.out _ _ _ _ _,.inr ⟨z0,rfl⟩⟩
    have z:=(HV.out.setW (Nat.le_trans WS.out GW.out) n1.out 4 (.slice A9 (ys.length + 1) c9)).setW5 (Nat.le_trans WS.out GR.out) m3.out (.slice (some ⟨g0,0,none⟩) ps.length cap0) (.slice (some ⟨g1,0,none⟩) 3 cap1) (.slice (some ⟨g2,0,none⟩) 2 cap2) (.slice (some ⟨g3,0,none⟩) qs.length cap3) (.slice A9 (ys.length + 1) c9)
    have el : (ys ++ [(⟨(who : Int),z0⟩ : S38)]).length = ys.length + 1:=by simp
    rw [el] at z
    exact z
  have f5 : (k == 5) = false:=by simpa using e5
  replace p1:=eq_true p1
  replace q1:=eq_true q1
  go_enter Try.func45,Try.ntmps45
  go_wp2_with (first | ((with_reducible refine gate_dst (N:=3) rfl ?_);refine box_event ?hg (N:=3) ?hd (cs:=#[.slice (some ⟨g0,0,none⟩) ps.length cap0,.slice (some ⟨g1,0,none⟩) 3 cap1,.slice (some ⟨g2,0,none⟩) 2 cap2,.slice (some ⟨g3,0,none⟩) qs.length cap3,.slice A ys.length c]) (t:=33) ?hr ?_;(case hd=>rfl);(case hg=>rfl);(case hr=>first | (go_simp;done) | (go_simp;rfl));intro bw hg w5 hbox hb;have n0_:=Aside0.mk (below_step HB.out hb);clear HB;have HB:=n0_;clear n0_;have GW:=Aside0.mk (Nat.le_of_eq hg.symm);have BW:=Aside0.mk hbox;clear hb hbox hg) | ((with_reducible refine gate_dst (N:=5) rfl ?_);refine box_event ?hg (N:=5) ?hd (cs:=#[.int .i64 k,.int .i64 a,.int .i64 b,.int .i64 n,.slice A4 n4 c4,.slice A5 n5 c5]) (t:=69) ?hr ?_;(case hd=>rfl);(case hg=>rfl);(case hr=>first | (go_simp;done) | (go_simp;rfl));intro bs hg w6 hbox hb;have n1_:=Aside0.mk (blk_below BW.out hb);have NS:=Aside0.mk (show bw ≠ bs by rw [hg];exact Nat.ne_of_lt (blk_lt BW.out));have GS:=Aside0.mk (show w.heap.size ≤ bs by rw [hg];exact HB.out.size);have n0_:=Aside0.mk (below_step HB.out hb);clear HB;have HB:=n0_;clear n0_;clear BW;have BW:=n1_;clear n1_;have BS:=Aside0.mk hbox;clear hb hbox hg) | ((with_reducible refine gate_dst (N:=6) rfl ?_);refine box_event ?hg (N:=6) ?hd (cs:=#[.slice none 0 0,.slice none 0 0,.slice none 0 0,.slice none 0 0,.slice none 0 0]) (t:=33) ?hr ?_;(case hd=>rfl);(case hg=>rfl);(case hr=>first | (go_simp;done) | (go_simp;rfl));intro br hg w7 hbox hb;have n1_:=Aside0.mk (blk_below BW.out hb);have n2_:=Aside0.mk (blk_below BS.out hb);have NR:=Aside0.mk (show bw ≠ br by rw [hg];exact Nat.ne_of_lt (blk_lt BW.out));have GR:=Aside0.mk (show w.heap.size ≤ br by rw [hg];exact HB.out.size);have n0_:=Aside0.mk (below_step HB.out hb);clear HB;have HB:=n0_;clear n0_;clear BW BS;have BW:=n1_;have BS:=n2_;clear n1_ n2_;have BR:=Aside0.mk hbox;obtain ⟨hcz_0,hcz_1,hcz_2,hcz_3,hcz_4,hfz_0,hfz_1,hfz_2,hfz_3,hfz_4⟩:=bz5_ BW;obtain ⟨hcy_0,hcy_1,hcy_2,hcy_3,hcy_4,hcy_5,hfy_0,hfy_1,hfy_2,hfy_3,hfy_4,hfy_5⟩:=bz6_ BS;obtain ⟨hcx_0,hcx_1,hcx_2,hcx_3,hcx_4,hfx_0,hfx_1,hfx_2,hfx_3,hfx_4⟩:=bz5_ BR;have hcr:=(HB.out.cell (World.block_lt_of_cell? w _ HCR.out)).trans HCR.out;have hn1:=NR.out;have hn2:=hn1.symm;clear hb hbox hg))
  refine bodyPost_ret (results_cell_row rfl _ _ br 33 #[.slice (some ⟨g0,0,none⟩) ps.length cap0,.slice (some ⟨g1,0,none⟩) 3 cap1,.slice (some ⟨g2,0,none⟩) 2 cap2,.slice (some ⟨g3,0,none⟩) qs.length cap3,.slice A ys.length c] (0,0) _ rfl (by apply bp5_4_;apply bp5_3_;apply bp5_2_;apply bp5_1_;apply bp5_0_;exact BR.out) Try.underlying33 rfl (by kernel_rfl)) rfl ?_
  exact ⟨ow,_,ys,rfl,(HS.out.below HB.out).setW5 (Nat.le_trans WS.out GR.out) BR.out _ _ _ _ _,fun _ _=>rfl,((Fr.refl ow w).below HB.out).set5 GR.out _ _ _ _ _,.inl rfl⟩
set_option maxHeartbeats 8000000 in
set_option maxRecDepth 100000 in
theorem l3ahead_says (lo : Gr) (w : World) (ok : Nat → Prop) (hok : ∀ k,w.heap.size ≤ k → ok k) (v1 v2 : Value) (xs ys : List S69) (h1 : Src lo w v1 xs) (h2 : Src lo w v2 ys) (l1 : xs.length ≤ 1000000000) (l2 : ys.length ≤ 1000000000) :
    Calls Try.prog 52 #[v1,v2] w fun e w'=>∃ v : Value,e = .returned v ∧ (kE lo).R 69 w' 0 ok v (xs ++ ys) ∧ Below w.heap.size w w':=by
  obtain ⟨A1,c1,rfl⟩:=h1.slice
  obtain ⟨A2,c2,rfl⟩:=h2.slice
  have H1:=Aside0.mk h1
  have H2:=Aside0.mk h2
  have OK:=Aside0.mk hok
  have HB:=Aside0.mk (Below.refl w.heap.size w)
  clear h1 h2 hok
  go_enter Try.func52,Try.ntmps52
  go_wp2_with (first | ((with_reducible refine gate_dst (N:=5) rfl ?_);refine plain_ ?hg (fun K hK=>?_);(case hg=>rfl);refine lit0_step (kE lo) 0 69 (by rfl) ?hr (Nat.zero_le _) ?_;(case hr=>first | (go_simp;done) | (go_simp;rfl));intro g w5 hg ho hb;refine hK _ _ ?_;clear hK K;have HG:=Aside0.mk hg;have HO:=Aside0.mk ho;have n0_:=Aside0.mk (below_step HB.out hb);clear HB hg ho hb;have HB:=n0_;clear n0_) | ((with_reducible refine gate_dst (N:=7) rfl ?_);refine plain_ ?hg (fun K hK=>?_);(case hg=>rfl);obtain ⟨A_,c_,e_,_,hread⟩:=H1.out.below HB.out;replace hread : ReadsRow (fun x cs=>(kE lo).M w 0 ok x cs) 6 _ _ _ _:=hread;injection e_ with e_1 _ e_2;subst e_1;subst e_2;refine lit_append_stepY (kE lo) 0 (by rfl) (.tmp 5) (.tmp 6) 49 69 (.agg #[(.int .i64 0),(.int .i64 0),(.int .i64 0),(.int .i64 0),(.slice none 0 0),(.slice none 0 0)]) 80 rfl Try.underlying49 info69 rfl (show 0 < 6 by decide) g xs A1 xs.length c1 ok rfl rfl HO.out hread (fun _ _ h=>h) (Nat.zero_le _) (by omega) (by decide) ?_;intro v7 w7 ho hb _ hown;refine hK _ _ ?_;clear hK K hread;have HO7:=Aside0.mk (show (kE lo).R 69 w7 0 ok v7 xs from Kd.R_mono ho fun k hk=>by rcases hk with hk | hk | hk;exact hk;exact OK.out k (Nat.le_trans HB.out.size hk);exact OK.out k (by rw [hk];exact HG.out));have OWN:=Aside0.mk (show ∀ k,v7.ownBlock = some k → w.heap.size ≤ k from fun k hk=>by have h3:=HG.out;have h4:=HB.out.size;rcases hown k hk with h5 | h5 <;> omega);have n0_:=Aside0.mk (below_step HB.out hb);clear HB ho hb hown HO;have HB:=n0_;clear n0_) | ((with_reducible refine gate_dst (N:=9) rfl ?_);obtain ⟨A_,c_,e_,_,hread⟩:=H2.out.below HB.out;replace hread : ReadsRow (fun x cs=>(kE lo).M w 0 (fun k=>ok k ∧ k < w.heap.size) x cs) 6 _ _ _ _:=hread;injection e_ with e_1 _ e_2;subst e_1;subst e_2;refine Kd.R_append_rows (kE lo) (w0:=w) 0 rfl (.tmp 7) (.tmp 8) 49 69 (.agg #[(.int .i64 0),(.int .i64 0),(.int .i64 0),(.int .i64 0),(.slice none 0 0),(.slice none 0 0)]) 80 rfl Try.underlying49 info69 rfl (show 0 < 6 by decide) (by omega) v7 xs ys A2 ys.length c2 ok (fun k=>ok k ∧ k < w.heap.size) rfl rfl HO7.out hread (fun _ _ h=>h) (fun k hk=>⟨hk.1,fun e=>by have h3:=OWN.out k e.symm;have h4:=hk.2;omega⟩) (fun k hk=>OK.out k (Nat.le_trans HB.out.size hk)) (Below.zero HB.out) (Nat.zero_le _) (by omega) ?_;intro v9 w9 ho hb hg hat;have HO9:=Aside0.mk ho;have n0_:=Aside0.mk (show Below w.heap.size w w9 from ⟨hb.os,hb.tape,hb.output,hb.size,fun k hk=>(hg.block k (Nat.lt_of_lt_of_le hk HB.out.size) (fun e=>by have h3:=OWN.out k e.symm;omega)).trans (HB.out.block k hk)⟩);clear HB ho hb hg hat hread;have HB:=n0_;clear n0_))
  go_ret
  exact ⟨_,rfl,HO9.out,HB.out⟩
end Go.Proofs.Ytfbocgagfodgnaa.P
