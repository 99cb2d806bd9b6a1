/- Parts of the proof of FnMeanSame: plain Lean functions of Go functions, and that the calls come to what they say; no condition beyond those that each theorem names. -/
import Derived.Test.YtfbocgagfodgnaaZFnMeanSame7
import Derived.Test.YtfbocgagfodgnaaZFnMeanSame4
import Derived.Test.YtfbocgagfodgnaaZFnMeanSame6
namespace Go.Proofs.Ytfbocgagfodgnaa.P
open Go.Proofs.YtfbocgagfodgnaaW.PrintWords renaming Aside0.mk → ö
open Go.RowKit Go.Proofs.YtfbocgagfodgnaaW.PrintWords Go.Proofs.YtfbocgagfodgnaaW.PrintLast Go.Proofs.YtfbocgagfodgnaaW.PrintMore
attribute [local go_sem] max2_int min2_int max_two min_two max_three min_three max_four min_four
set_option linter.unusedVariables false
set_option linter.unusedSimpArgs false
theorem k59_29 : ∀ q,q ∈ 51 :: k51.E → q ≠ 33:=by decide
theorem kQ_C {w : World} {A : Option Addr} {n : Nat} {xs : List (List Int)} (h : kQ.C w A n xs) : (Kd.slice 3 (Kd.int .i64)).C w A n xs :=
 ⟨h.1,h.2.1,fun hn=>by
  obtain ⟨ad,e,hc⟩:=h.2.2 hn
  refine ⟨ad,e,fun j p hj=>?_⟩
  obtain ⟨c,hs,hr,hcell⟩:=hc j p hj
  exact ⟨c,hs,hr.1,hcell⟩⟩
theorem wo_len {r : Bool} {l : List (List S69)} (h : r = true → (∀ x ∈ l,x.length ≤ 1000000000) ∧ l.length ≤ 1000000000) : Len3 (wo0 r l) (wo1 r) (wo2 r) (wo3 r) []:=by
 cases r with
 | false=>exact ⟨by simp [wo0],by simp [wo1],by simp [wo2],by simp [wo3],by simp,by simp [wo0],by simp [wo0],by simp [wo3]⟩
 | true =>
  obtain ⟨h1,h2⟩:=h rfl
  refine ⟨by simpa [wo0] using h2,by simp [wo1],by simp [wo2],by simp [wo3],by simp,fun x hx=>?_,fun x hx=>?_,fun x hx=>?_⟩
  ·obtain ⟨y,hy,rfl⟩:=List.mem_map.1 (show x ∈ l.map prO from hx)
   simp [prO]
  ·obtain ⟨y,hy,rfl⟩:=List.mem_map.1 (show x ∈ l.map prO from hx)
   exact h1 y hy
  ·obtain ⟨_,rfl⟩:=List.mem_replicate.1 (show x ∈ List.replicate 2 [] from hx)
   simp
set_option maxHeartbeats 8000000 in
set_option maxRecDepth 100000 in
theorem l3out_nil (w : World) : Calls Try.prog 25 #[.agg #[.slice none 0 0,.slice none 0 0,.slice none 0 0,.slice none 0 0,.slice none 0 0]] w fun e w'=>e = .returned (.agg #[.slice none 0 0,.slice none 0 0,.slice none 0 0,.slice none 0 0,.slice none 0 0]) ∧ Below w.heap.size w w':=by
 have hu29:=Try.underlying33
 have HB:=ö (Below.refl w.heap.size w)
 go_enter Try.func25,Try.ntmps25
 go_wp2_with (first | ((with_reducible refine gate_dst (N:=1) rfl ?_);refine box_event ?hg (N:=1) ?hd (cs:=#[.slice none 0 0,.slice none 0 0,.slice none 0 0,.slice none 0 0,.slice none 0 0]) (t:=33) ?hr ?_;(case hd=>rfl);(case hg=>rfl);(case hr=>first | (go_simp;done) | (go_simp;rfl));intro g1 hg w5 hbox hb;have n0_:=ö (below_step (q0_ HB) hb);have n1_:=ö (hbox);have GE1:=ö ((by rw [hg];exact (below_size (q0_ HB)) : w.heap.size ≤ g1));clear HB;have HB:=n0_;have BK1:=n1_;clear n0_ n1_;clear hb hbox hg) | ((with_reducible refine gate_dst (N:=2) rfl ?_);refine box_event ?hg (N:=2) ?hd (cs:=#[.slice none 0 0,.slice none 0 0,.slice none 0 0,.slice none 0 0,.slice none 0 0]) (t:=33) ?hr ?_;(case hd=>rfl);(case hg=>rfl);(case hr=>first | (go_simp;done) | (go_simp;rfl));intro gb hg w6 hbox hb;have n2_:=ö (blk_below BK1.out hb);have N12:=ö ((by rw [hg];exact Nat.ne_of_lt (blk_lt BK1.out)) : g1 ≠ gb);have n0_:=ö (below_step (q0_ HB) hb);have n1_:=ö (hbox);have GE:=ö ((by rw [hg];exact (below_size (q0_ HB)) : w.heap.size ≤ gb));clear HB;have HB:=n0_;have BK:=n1_;clear n0_ n1_;clear BK1;have BK1:=n2_;clear n2_;obtain ⟨hcz_0,hcz_1,hcz_2,hcz_3,hcz_4,hfz_0,hfz_1,hfz_2,hfz_3,hfz_4⟩:=bz5_ BK1;obtain ⟨hcy_0,hcy_1,hcy_2,hcy_3,hcy_4,hfy_0,hfy_1,hfy_2,hfy_3,hfy_4⟩:=bz5_ BK;have hn12:=N12.out;have hn21:=hn12.symm;clear hb hbox hg))
 refine bodyPost_ret (results_cell_row rfl _ _ gb 33 #[.slice none 0 0,.slice none 0 0,.slice none 0 0,.slice none 0 0,.slice none 0 0] (0,0) _ rfl (by apply bp5_4_;apply bp5_3_;apply bp5_2_;apply bp5_1_;apply bp5_0_;exact BK.out) Try.underlying33 rfl (by kernel_rfl)) rfl ?_
 exact ⟨rfl,below_set (below_set (below_set (below_set (below_set HB.out GE.out) GE.out) GE.out) GE.out) GE.out⟩
set_option maxHeartbeats 8000000 in
set_option maxRecDepth 100000 in
theorem smeanR_says (k : Nat) (A0 : Option Addr) (c0 : Nat) (l0 : List (List S69)) (r : Bool) (w : World) (hr0 : Kd.C (Kd.slice 69 kM) w A0 l0.length l0) (hc0 : l0.length ≤ c0) (hlen : r = true → (∀ x ∈ l0,x.length ≤ 1000000000) ∧ l0.length ≤ 1000000000) (hpos : r = true → 0 < l0.length) (h : spec_ProgOk.f k l0 = some r) (hf : r = true → ∀ x ∈ l0,spec_l2Copy.f k x 4 = some x) :
  Calls Try.prog 26 #[.slice A0 l0.length c0] w fun e w'=>∃ v0 v1 v2 v3 v4 : Value,e = .returned (.agg #[v0,v1,v2,v3,v4]) ∧ (if r = true then RO k51 w.heap.size w' (wo0 r l0) (wo1 r) (wo2 r) (wo3 r) [] v0 v1 v2 v3 v4 else v0 = .slice none 0 0 ∧ v1 = .slice none 0 0 ∧ v2 = .slice none 0 0 ∧ v3 = .slice none 0 0 ∧ v4 = .slice none 0 0) ∧ Below w.heap.size w w':=by
 have hu29:=Try.underlying33
 have HR0:=ö hr0
 have HC0:=ö hc0
 have HL:=ö hlen
 have HP:=ö hpos
 have HF:=ö (show ∀ x ∈ wo0 r l0,spec_l2Copy.f k x.f1 4 = some x.f1 from fun x hx=>by
  cases r with
  | false=>simp [wo0] at hx
  | true =>
   obtain ⟨y,hy,rfl⟩:=List.mem_map.1 (show x ∈ l0.map prO from hx)
   exact hf rfl y hy)
 have A2:=ö h
 clear hr0 hc0 h hf hlen hpos
 have HB:=ö (Below.refl w.heap.size w)
 cases r with
 | true =>
  have HLN:=ö (wo_len HL.out)
  have HPN:=ö (show 0 < (wo0 true l0).length by have:=HP.out rfl;simpa [wo0] using this)
  have HLT:=ö (HL.out rfl)
  clear HL HP
  go_enter Try.func26,Try.ntmps26
  go_wp2_with (first | ((with_reducible refine gate_dst (N:=2) rfl ?_);refine box_event ?hg (N:=2) ?hd (cs:=#[.slice none 0 0,.slice none 0 0,.slice none 0 0,.slice none 0 0,.slice none 0 0]) (t:=33) ?hr ?_;(case hd=>rfl);(case hg=>rfl);(case hr=>first | (go_simp;done) | (go_simp;rfl));intro gb hg w5 hbox hb;have n0_:=ö (below_step (q0_ HB) hb);have n1_:=ö (hbox);have GE:=ö ((by rw [hg];exact (below_size (q0_ HB)) : w.heap.size ≤ gb));clear HB;have HB:=n0_;have BK:=n1_;clear n0_ n1_;clear hb hbox hg) | (go_at_call 24;(with_reducible refine (l3open_says k A0 c0 l0 true w w5 HB.out HR0.out HC0.out (fun _=>HLT.out) A2.out).mono ?_);rintro e w6 ⟨v0,v1,v2,v3,v4,rfl,hw,hb⟩;have n0_:=ö (blk_below BK.out hb);have n1_:=ö (below_step HB.out hb);have HW:=ö (show RO (kPf w) w5.heap.size w6 (wo0 true l0) (wo1 true) (wo2 true) (wo3 true) [] v0 v1 v2 v3 v4 from hw);clear BK HB hw hb;have BK:=n0_;have HB:=n1_;clear n0_ n1_;obtain ⟨B0,d0,e0,_,h0_⟩:=Kd.R_reads HW.out.r0;obtain ⟨B1,d1,e1,_,h1_⟩:=Kd.R_reads HW.out.r1;obtain ⟨B2,d2,e2,_,h2_⟩:=Kd.R_reads HW.out.r2;obtain ⟨B3,d3,e3,_,h3_⟩:=Kd.R_reads HW.out.r3;replace h3_:=kQ_C h3_;obtain ⟨B4,d4,e4,_,h4_⟩:=Kd.R_reads HW.out.r4;subst e0;subst e1;subst e2;subst e3;subst e4) | (go_at_call 25;refine (l3out_says k B0 d0 (wo0 true l0) B1 d1 (wo1 true) B2 d2 (wo2 true) B3 d3 (wo3 true) B4 d4 [] w w6 HB.out HPN.out h0_ h1_ h2_ h3_ h4_ HLN.out HF.out).mono ?_;rintro e w7 ⟨v0,v1,v2,v3,v4,rfl,hw,hb⟩;have n0_:=ö (blk_below BK.out hb);have n1_:=ö (below_step HB.out hb);have HV:=ö hw;have HS:=ö HB.out.size;clear BK HB hw hb h0_ h1_ h2_ h3_ h4_ HW;have BK:=n0_;have HB:=n1_;clear n0_ n1_;obtain ⟨E0,i0,e0⟩:=Kd.R_slice HV.out.r0;obtain ⟨E1,i1,e1⟩:=Kd.R_slice HV.out.r1;obtain ⟨E2,i2,e2⟩:=Kd.R_slice HV.out.r2;obtain ⟨E3,i3,e3⟩:=Kd.R_slice HV.out.r3;obtain ⟨E4,i4,e4⟩:=Kd.R_slice HV.out.r4;subst e0;subst e1;subst e2;subst e3;subst e4;obtain ⟨hcz_0,hcz_1,hcz_2,hcz_3,hcz_4,hfz_0,hfz_1,hfz_2,hfz_3,hfz_4⟩:=bz5_ BK))
  refine bodyPost_ret (results_cell_row rfl _ _ gb 33 #[.slice E0 (wo0 true l0).length i0,.slice E1 (wo1 true).length i1,.slice E2 (wo2 true).length i2,.slice E3 (wo3 true).length i3,.slice E4 ([] : List S38).length i4] (0,0) _ rfl (by apply bp5_4_;apply bp5_3_;apply bp5_2_;apply bp5_1_;apply bp5_0_;exact BK.out) Try.underlying33 rfl (by kernel_rfl)) rfl ?_
  have hb:=below_set (v:=.slice E4 ([] : List S38).length i4) (j:=4) (below_set (v:=.slice E3 (wo3 true).length i3) (j:=3) (below_set (v:=.slice E2 (wo2 true).length i2) (j:=2) (below_set (v:=.slice E1 (wo1 true).length i1) (j:=1) (below_set (v:=.slice E0 (wo0 true l0).length i0) (j:=0) HB.out GE.out) GE.out) GE.out) GE.out) GE.out
  have hs:=HS.out
  exact ⟨_,_,_,_,_,rfl,⟨set5_ _ _ _ _ _ (Kd.R_lower HV.out.r0 hs) BK.out k59_29,set5_ _ _ _ _ _ (Kd.R_lower HV.out.r1 hs) BK.out (by decide),set5_ _ _ _ _ _ (Kd.R_lower HV.out.r2 hs) BK.out (by decide),set5_ _ _ _ _ _ (Kd.R_lower HV.out.r3 hs) BK.out (by decide),set5_ _ _ _ _ _ (Kd.R_lower HV.out.r4 hs) BK.out (by decide)⟩,hb⟩
 | false =>
  go_enter Try.func26,Try.ntmps26
  go_wp2_with (first | ((with_reducible refine gate_dst (N:=2) rfl ?_);refine box_event ?hg (N:=2) ?hd (cs:=#[.slice none 0 0,.slice none 0 0,.slice none 0 0,.slice none 0 0,.slice none 0 0]) (t:=33) ?hr ?_;(case hd=>rfl);(case hg=>rfl);(case hr=>first | (go_simp;done) | (go_simp;rfl));intro gb hg w5 hbox hb;have n0_:=ö (below_step (q0_ HB) hb);have n1_:=ö (hbox);have GE:=ö ((by rw [hg];exact (below_size (q0_ HB)) : w.heap.size ≤ gb));clear HB;have HB:=n0_;have BK:=n1_;clear n0_ n1_;clear hb hbox hg) | (go_at_call 24;(with_reducible refine (l3open_says k A0 c0 l0 false w w5 HB.out HR0.out HC0.out (fun e=>absurd e (by decide)) A2.out).mono ?_);rintro e w6 ⟨v0,v1,v2,v3,v4,rfl,⟨rfl,rfl,rfl,rfl,rfl⟩,hb⟩;have n0_:=ap2 (blk_below BK.out hb) (below_step HB.out hb);clear BK HB hb;obtain ⟨BK,HB⟩:=n0_) | (go_at_call 25;(with_reducible refine (l3out_nil w6).mono ?_);rintro e w7 ⟨rfl,hb⟩;have n0_:=ap2 (blk_below BK.out hb) (below_step HB.out hb);clear BK HB hb;obtain ⟨BK,HB⟩:=n0_;obtain ⟨hcz_0,hcz_1,hcz_2,hcz_3,hcz_4,hfz_0,hfz_1,hfz_2,hfz_3,hfz_4⟩:=bz5_ BK))
  refine bodyPost_ret (results_cell_row rfl _ _ gb 33 #[.slice none 0 0,.slice none 0 0,.slice none 0 0,.slice none 0 0,.slice none 0 0] (0,0) _ rfl (by apply bp5_4_;apply bp5_3_;apply bp5_2_;apply bp5_1_;apply bp5_0_;exact BK.out) Try.underlying33 rfl (by kernel_rfl)) rfl ?_
  exact ⟨_,_,_,_,_,rfl,⟨rfl,rfl,rfl,rfl,rfl⟩,below_set (below_set (below_set (below_set (below_set HB.out GE.out) GE.out) GE.out) GE.out) GE.out⟩
end Go.Proofs.Ytfbocgagfodgnaa.P

namespace Go.Proofs.Ytfbocgagfodgnaa.P
open Go.RowKit Go.Proofs.YtfbocgagfodgnaaW.PrintWords Go.Proofs.YtfbocgagfodgnaaW.PrintLast Go.Proofs.YtfbocgagfodgnaaW.PrintMore
set_option linter.unusedVariables false
set_option linter.unusedSimpArgs false
structure Gr where
 n : Nat
 w : World
 S : Nat → Prop
def kS (S : Nat → Prop) : Kd S69 where
 sz:=6
 E:=[]
 K:=fun w x cs=>Kd.FK k69 w S x cs
 M:=fun _ _ _ _ _=>False
 K_len:=fun h=>k69.K_len (Kd.FK_now h)
 K_one:=fun h=>k69.K_one (Kd.FK_now h)
 K_below:=fun hb h=>Kd.FK_below h hb
 K_of_M:=fun h=>h.elim
 M_mono:=fun _ h=>h
 M_bound:=fun h=>h
 M_move:=fun _ h=>h
 M_lower:=fun _ h=>h
def kE (lo : Gr) : Kd S69:=Kd.fixed (kS lo.S) lo.w
def Vs (lo : Gr) (v : Value) (xs : List S69) : Prop:=∃ A c,v = .slice A xs.length c ∧ xs.length ≤ c ∧ Kd.F k69 lo.w lo.S A xs.length xs
def Src (lo : Gr) (W : World) (v : Value) (xs : List S69) : Prop:=∃ A c,v = .slice A xs.length c ∧ xs.length ≤ c ∧ ReadsRow (fun x cs=>Kd.FK k69 lo.w lo.S x cs) 6 W A xs.length xs
def Ag (lo : Gr) (W : World) : Prop:=∀ k,lo.S k → k < lo.w.heap.size → W.heap[k]? = lo.w.heap[k]?
theorem kE_ne (lo : Gr) {t : Nat} (ht : 69 ≠ t) : ∀ q,q ∈ 69 :: (kE lo).E → q ≠ t:=fun q hq=>by
 have e : q ∈ [69]:=hq
 rw [List.mem_singleton.1 e]
 exact ht
theorem Vs.nil (lo : Gr) : Vs lo (.slice none 0 0) []:=⟨none,0,rfl,Nat.le_refl _,Kd.F_nil _ _ _⟩
theorem Vs.slice {lo : Gr} {v : Value} {xs : List S69} (h : Vs lo v xs) : ∃ A c,v = .slice A xs.length c:=by
 obtain ⟨A,c,e,_⟩:=h
 exact ⟨A,c,e⟩
theorem Src.slice {lo : Gr} {W : World} {v : Value} {xs : List S69} (h : Src lo W v xs) : ∃ A c,v = .slice A xs.length c:=by
 obtain ⟨A,c,e,_⟩:=h
 exact ⟨A,c,e⟩
theorem Src.below {lo : Gr} {W W' : World} {v : Value} {xs : List S69} (h : Src lo W v xs) (hb : Below W.heap.size W W') : Src lo W' v xs:=by
 obtain ⟨A,c,e,hl,hr⟩:=h
 exact ⟨A,c,e,hl,ReadsRow.imp_ hr hb fun _ _ hp=>hp⟩
theorem Vs.src {lo : Gr} {W : World} {v : Value} {xs : List S69} (h : Vs lo v xs) (ha : Ag lo W) : Src lo W v xs:=by
 obtain ⟨A,c,e,hl,hF⟩:=h
 have hr:=Kd.F_rows hF
 refine ⟨A,c,e,hl,hr.1,hr.2.1,fun hp=>?_⟩
 obtain ⟨ad,eA,hc⟩:=hr.2.2 hp
 have hin:=Kd.F_in hF eA hp (show 0 < k69.sz by decide)
 refine ⟨ad,eA,fun j p hj=>?_⟩
 obtain ⟨cs,h1,h2,h3⟩:=hc j p hj
 refine ⟨cs,h1,h2,fun i u hu=>?_⟩
 have h4:=h3 i u hu
 have hlt:=World.block_lt_of_cell? _ _ h4
 rw [add_block] at hlt
 have h5:=ha ad.block hin hlt
 have h6 : W.cell? (ad.add (j * 6 + i)) = lo.w.cell? (ad.add (j * k69.sz + i)):=by
  show W.cell? (ad.add (j * 6 + i)) = lo.w.cell? (ad.add (j * 6 + i))
  unfold World.cell?
  rw [add_block,h5]
 rw [h6]
 exact h4
theorem R_readsM {α : Type} {d : Kd α} {e base : Nat} {ok : Nat → Prop} {W : World} {v : Value} {xs : List α} (h : d.R e W base ok v xs) : ∃ A c,v = .slice A xs.length c ∧ xs.length ≤ c ∧ ReadsRow (fun x cs=>d.M W base ok x cs) d.sz W A xs.length xs:=by
 obtain ⟨A,c,ev,hl,hC⟩:=Kd.R_reads h
 refine ⟨A,c,ev,hl,rfl,hC.2.1,fun hp=>?_⟩
 obtain ⟨g,cap,e2,_,_,_⟩:=Kd.R_form h hp
 rw [ev] at e2
 injection e2 with ea _ ec
 subst ea;subst ec
 rw [ev] at h
 refine ⟨_,rfl,fun j p hj=>?_⟩
 obtain ⟨hjl,hjp⟩:=List.getElem?_eq_some_iff.1 hj
 obtain ⟨cs,h1,h2,h3,_⟩:=Kd.R_elem h (xs[0]'hp) (j : Int) (by omega) (by omega)
 have ex : xs.getD (j : Int).toNat (xs[0]'hp) = p:=by simp [List.getD_eq_getElem?_getD,List.getElem?_eq_getElem hjl,hjp]
 rw [ex] at h2
 refine ⟨cs,h1,d.M_mono (fun k hk=>hk.1) h2,fun i u hu=>?_⟩
 have e0 : Addr.add ⟨g,0,none⟩ (j * d.sz + i) = ⟨g,j * d.sz + i,none⟩:=by
  unfold Addr.add
  split
  ·next h0=>rw [h0]
  ·simp
 rw [e0]
 have:=h3 i u hu
 simpa using this
theorem Src.ofR {lo : Gr} {W : World} {ok : Nat → Prop} {v : Value} {xs : List S69} (h : (kE lo).R 69 W 0 ok v xs) : Src lo W v xs:=R_readsM h
theorem Src.reads {lo : Gr} {W : World} {v : Value} {xs : List S69} (h : Src lo W v xs) (ha : Ag lo W) : ∃ A c,v = .slice A xs.length c ∧ xs.length ≤ c ∧ k69.C W A xs.length xs:=by
 obtain ⟨A,c,e,hl,h1,h2,h3⟩:=h
 refine ⟨A,c,e,hl,h1,h2,fun hp=>?_⟩
 obtain ⟨ad,eA,hc⟩:=h3 hp
 refine ⟨ad,eA,fun j p hj=>?_⟩
 obtain ⟨cs,h4,h5,h6⟩:=hc j p hj
 exact ⟨cs,h4,h5 W ha,h6⟩
theorem kE_mkM (lo : Gr) (W : World) (base : Nat) (ok : Nat → Prop) (x : S69) {v4 v5 : Value} (g4 : Vs lo v4 x.f4) (g5 : Vs lo v5 x.f5) : (kE lo).M W base ok x [.int .i64 x.f0,.int .i64 x.f1,.int .i64 x.f2,.int .i64 x.f3,v4,v5]:=by
 obtain ⟨A4,c4,rfl,l4,f4⟩:=g4
 obtain ⟨A5,c5,rfl,l5,f5⟩:=g5
 exact k69_mkF lo.w lo.S x l4 f4 l5 f5
theorem kE_openM {lo : Gr} {W : World} {base : Nat} {ok : Nat → Prop} {x : S69} {cs : List Value} (h : (kE lo).M W base ok x cs) : ∃ v4 v5,cs = [.int .i64 x.f0,.int .i64 x.f1,.int .i64 x.f2,.int .i64 x.f3,v4,v5] ∧ Vs lo v4 x.f4 ∧ Vs lo v5 x.f5:=by
 obtain ⟨A4,c4,A5,c5,e,l4,f4,l5,f5⟩:=k69_openF (show Kd.FK k69 lo.w lo.S x cs from h)
 exact ⟨_,_,e,⟨A4,c4,rfl,l4,f4⟩,⟨A5,c5,rfl,l5,f5⟩⟩
def IRow (ow : Nat → Nat) (W : World) (v : Value) (len : Nat) : Prop:=∃ g cap cells,v = .slice (some ⟨g,0,none⟩) len cap ∧ ow g = 1 ∧ len ≤ cap ∧ W.heap[g]? = some (.cells cells 3 (0,0)) ∧ ∀ q,q < len → ∃ z,cells[q]? = some (.int .i64 z)
def QRow (ow : Nat → Nat) (j : Nat) (W : World) (v : Value) (l : List Int) : Prop:=(l = [] ∧ ∃ A,v = .slice A 0 0) ∨ ∃ g off cap cells,v = .slice (some ⟨g,off,none⟩) l.length cap ∧ ow g = 10 + j ∧ l.length ≤ cap ∧ l.length ≤ 1000000000000 ∧ W.heap[g]? = some (.cells cells 3 (0,0)) ∧ cells.size = off + cap ∧ ∀ q z,l[q]? = some z → cells[off + q]? = some (.int .i64 z)
def PCell (lo : Gr) (ow : Nat → Nat) (W : World) (cells : Array Value) (i : Nat) (p : S51) : Prop:=∃ r t,cells[i * 5]? = some r ∧ cells[i * 5 + 1]? = some t ∧ cells[i * 5 + 2]? = some (.int .i64 p.f2) ∧ cells[i * 5 + 3]? = some (.int .i64 p.f3) ∧ cells[i * 5 + 4]? = some (.int .i64 p.f4) ∧ IRow ow W r 3 ∧ (kE lo).R 69 W 0 (fun k=>ow k = 0) t p.f1
structure SV (lo : Gr) (ow : Nat → Nat) (W : World) (v0 v1 v2 v3 v4 : Value) (ps : List S51) (qs : List (List Int)) (ys : List S38) : Prop where
 bd : ∀ k,ow k ≠ 0 → lo.n ≤ k ∧ k < W.heap.size
 pr : ∃ g cap cells,v0 = .slice (some ⟨g,0,none⟩) ps.length cap ∧ ow g = 2 ∧ ps.length ≤ cap ∧ W.heap[g]? = some (.cells cells 51 (0,0)) ∧ ∀ i (hi : i < ps.length),PCell lo ow W cells i ps[i]
 ce : IRow ow W v1 3
 ro : IRow ow W v2 2
 si : ∃ g cap cells,v3 = .slice (some ⟨g,0,none⟩) qs.length cap ∧ ow g = 3 ∧ qs.length ≤ cap ∧ W.heap[g]? = some (.cells cells 26 (0,0)) ∧ ∀ j (hj : j < qs.length),∃ u,cells[j]? = some u ∧ QRow ow j W u qs[j]
 sa : k38.R 38 W 0 (fun k=>ow k = 4) v4 ys
 ag : Ag lo W
 zs : ∀ k,lo.S k → k < lo.w.heap.size → ow k = 0
 ws : lo.w.heap.size ≤ W.heap.size
def Fr (ow : Nat → Nat) (W W' : World) : Prop:=Below 0 W W' ∧ ∀ k,k < W.heap.size → ow k = 0 → W'.heap[k]? = W.heap[k]?
theorem Below.zero {n : Nat} {w w' : World} (h : Below n w w') : Below 0 w w':=⟨h.os,h.tape,h.output,h.size,fun k hk=>absurd hk (Nat.not_lt_zero k)⟩
theorem Fr.refl (ow : Nat → Nat) (W : World) : Fr ow W W:=⟨Below.refl _ _,fun _ _ _=>rfl⟩
theorem Fr.trans {ow ow' : Nat → Nat} {W W1 W2 : World} (h : Fr ow W W1) (k : Fr ow' W1 W2) (he : ∀ k,k < W.heap.size → ow k = 0 → ow' k = 0) : Fr ow W W2:=⟨h.1.trans k.1,fun b hb hp=>(k.2 b (Nat.lt_of_lt_of_le hb h.1.size) (he b hb hp)).trans (h.2 b hb hp)⟩
theorem Fr.below {ow : Nat → Nat} {W W1 W2 : World} (h : Fr ow W W1) (hb : Below W1.heap.size W1 W2) : Fr ow W W2:=⟨h.1.trans (Below.zero hb),fun k hk hp=>(hb.block k (Nat.lt_of_lt_of_le hk h.1.size)).trans (h.2 k hk hp)⟩
theorem Fr.set {ow : Nat → Nat} {W W1 : World} (h : Fr ow W W1) (p : Addr) (v : Value) (hp : ow p.block ≠ 0 ∨ W.heap.size ≤ p.block) : Fr ow W (W1.setCell p v):=⟨h.1.setCell (Nat.zero_le _) _,fun k hk h0=>(Below.heap_setCell W1 p v k (fun e=>by subst e;rcases hp with hp | hp;exact hp h0;omega)).trans (h.2 k hk h0)⟩
section
variable {lo : Gr} {ow : Nat → Nat} {W W' : World} {v0 v1 v2 v3 v4 : Value} {ps : List S51} {qs : List (List Int)} {ys : List S38}
theorem IRow.move {v : Value} {len : Nat} (h : IRow ow W v len) (hf : ∀ k,ow k = 1 → W'.heap[k]? = W.heap[k]?) : IRow ow W' v len:=by
 obtain ⟨g,cap,cells,e,hg,hl,hh,hc⟩:=h
 exact ⟨g,cap,cells,e,hg,hl,(hf g hg).trans hh,hc⟩
theorem QRow.move {v : Value} {j : Nat} {l : List Int} (h : QRow ow j W v l) (hf : ∀ k,ow k = 10 + j → W'.heap[k]? = W.heap[k]?) : QRow ow j W' v l:=by
 rcases h with h | ⟨g,off,cap,cells,e,hg,hl,hm,hh,hc⟩
 ·exact .inl h
 ·exact .inr ⟨g,off,cap,cells,e,hg,hl,hm,(hf g hg).trans hh,hc⟩
theorem PCell.move {cells : Array Value} {i : Nat} {p : S51} (h : PCell lo ow W cells i p) (hf : ∀ k,ow k = 1 → W'.heap[k]? = W.heap[k]?) (hz : ∀ t xs,(kE lo).R 69 W 0 (fun k=>ow k = 0) t xs → (kE lo).R 69 W' 0 (fun k=>ow k = 0) t xs) : PCell lo ow W' cells i p:=by
 obtain ⟨r,t,a,b,c,d,e,f,g⟩:=h
 exact ⟨r,t,a,b,c,d,e,f.move hf,hz _ _ g⟩
theorem SV.below (h : SV lo ow W v0 v1 v2 v3 v4 ps qs ys) (hb : Below W.heap.size W W') : SV lo ow W' v0 v1 v2 v3 v4 ps qs ys:=by
 have hf : ∀ k,ow k ≠ 0 → W'.heap[k]? = W.heap[k]?:=fun k hk=>hb.block k (h.bd k hk).2
 obtain ⟨g,cap,cells,e,hg,hl,hh,hc⟩:=h.pr
 obtain ⟨g3,cap3,cells3,e3,hg3,hl3,hh3,hc3⟩:=h.si
 refine ⟨fun k hk=>⟨(h.bd k hk).1,Nat.lt_of_lt_of_le (h.bd k hk).2 hb.size⟩,⟨g,cap,cells,e,hg,hl,(hf g (by omega)).trans hh,fun i hi=>(hc i hi).move (fun k hk=>hf k (by omega)) fun t xs hr=>Kd.R_below hr hb⟩,h.ce.move fun k hk=>hf k (by omega),h.ro.move fun k hk=>hf k (by omega),⟨g3,cap3,cells3,e3,hg3,hl3,(hf g3 (by omega)).trans hh3,fun j hj=>?_⟩,Kd.R_below h.sa hb,fun k hk hl=>(hb.block k (Nat.lt_of_lt_of_le hl h.ws)).trans (h.ag k hk hl),h.zs,Nat.le_trans h.ws hb.size⟩
 obtain ⟨u,hu,hq⟩:=hc3 j hj
 exact ⟨u,hu,hq.move fun k hk=>hf k (by omega)⟩
theorem IRow.set {v : Value} {len : Nat} (h : IRow ow W v len) (g q : Nat) (z : Int) : IRow ow (W.setCell ⟨g,q,none⟩ (.int .i64 z)) v len:=by
 obtain ⟨g1,cap,cells,e,hg,hl,hh,hc⟩:=h
 by_cases eg : g1 = g
 ·subst eg
  refine ⟨g1,cap,cells.setIfInBounds q (.int .i64 z),e,hg,hl,blk_set hh q _,fun j hj=>?_⟩
  obtain ⟨y,hy⟩:=hc j hj
  by_cases ej : q = j
  ·subst ej
   exact ⟨z,by rw [Array.getElem?_setIfInBounds];simp [(Array.getElem?_eq_some_iff.1 hy).1]⟩
  ·exact ⟨y,by rw [Array.getElem?_setIfInBounds_ne ej];exact hy⟩
 ·exact ⟨g1,cap,cells,e,hg,hl,(Below.heap_setCell W ⟨g,q,none⟩ _ g1 eg).trans hh,hc⟩
theorem SV.istore (h : SV lo ow W v0 v1 v2 v3 v4 ps qs ys) (g q : Nat) (z : Int) (hg : ow g = 1) : SV lo ow (W.setCell ⟨g,q,none⟩ (.int .i64 z)) v0 v1 v2 v3 v4 ps qs ys:=by
 have hf : ∀ k,ow k ≠ 1 → (W.setCell ⟨g,q,none⟩ (.int .i64 z)).heap[k]? = W.heap[k]?:=fun k hk=>Below.heap_setCell W ⟨g,q,none⟩ _ k (fun e=>hk (by rw [e];exact hg))
 obtain ⟨g0,cap,cells,e,hg0,hl,hh,hc⟩:=h.pr
 obtain ⟨g3,cap3,cells3,e3,hg3,hl3,hh3,hc3⟩:=h.si
 refine ⟨fun k hk=>by simpa [World.setCell] using h.bd k hk,⟨g0,cap,cells,e,hg0,hl,(hf g0 (by omega)).trans hh,fun i hi=>?_⟩,h.ce.set g q z,h.ro.set g q z,⟨g3,cap3,cells3,e3,hg3,hl3,(hf g3 (by omega)).trans hh3,fun j hj=>?_⟩,Kd.R_far (p:=⟨g,q,none⟩) h.sa (fun k hk e=>by have e' : k = g:=e;subst e';omega) _,fun k hk hl=>(hf k (by have:=h.zs k hk hl;omega)).trans (h.ag k hk hl),h.zs,by simpa [World.setCell] using h.ws⟩
 ·obtain ⟨r,t,a,b,c,d,e1,f,g1⟩:=hc i hi
  exact ⟨r,t,a,b,c,d,e1,f.set g q z,Kd.R_far (p:=⟨g,q,none⟩) g1 (fun k hk e=>by have e' : k = g:=e;subst e';omega) _⟩
 ·obtain ⟨u,hu,hq⟩:=hc3 j hj
  exact ⟨u,hu,hq.move fun k hk=>hf k (by omega)⟩
theorem PCell.other {cells : Array Value} {i k j : Nat} {u : Value} {p : S51} (h : PCell lo ow W cells i p) (hne : i ≠ k) (hj : j < 5) : PCell lo ow W (cells.setIfInBounds (k * 5 + j) u) i p:=by
 obtain ⟨r,t,a,b,c,d,e,f,g⟩:=h
 exact ⟨r,t,by rw [Array.getElem?_setIfInBounds_ne (by omega)];exact a,by rw [Array.getElem?_setIfInBounds_ne (by omega)];exact b,by rw [Array.getElem?_setIfInBounds_ne (by omega)];exact c,by rw [Array.getElem?_setIfInBounds_ne (by omega)];exact d,by rw [Array.getElem?_setIfInBounds_ne (by omega)];exact e,f,g⟩
theorem set_at {cells : Array Value} {q : Nat} {u y : Value} (h : cells[q]? = some y) : (cells.setIfInBounds q u)[q]? = some u:=by
 rw [Array.getElem?_setIfInBounds]
 simp [(Array.getElem?_eq_some_iff.1 h).1]
theorem PCell.f1 {cells : Array Value} {i : Nat} {p : S51} (h : PCell lo ow W cells i p) (t : Value) (xs : List S69) (ht : (kE lo).R 69 W 0 (fun k=>ow k = 0) t xs) : PCell lo ow W (cells.setIfInBounds (i * 5 + 1) t) i ⟨p.f0,xs,p.f2,p.f3,p.f4⟩:=by
 obtain ⟨r,t0,a,b,c,d,e,f,g⟩:=h
 exact ⟨r,t,by rw [Array.getElem?_setIfInBounds_ne (by omega)];exact a,set_at b,by rw [Array.getElem?_setIfInBounds_ne (by omega)];exact c,by rw [Array.getElem?_setIfInBounds_ne (by omega)];exact d,by rw [Array.getElem?_setIfInBounds_ne (by omega)];exact e,f,ht⟩
theorem PCell.f2 {cells : Array Value} {i : Nat} {p : S51} (h : PCell lo ow W cells i p) (z : Int) : PCell lo ow W (cells.setIfInBounds (i * 5 + 2) (.int .i64 z)) i ⟨p.f0,p.f1,z,p.f3,p.f4⟩:=by
 obtain ⟨r,t,a,b,c,d,e,f,g⟩:=h
 exact ⟨r,t,by rw [Array.getElem?_setIfInBounds_ne (by omega)];exact a,by rw [Array.getElem?_setIfInBounds_ne (by omega)];exact b,set_at c,by rw [Array.getElem?_setIfInBounds_ne (by omega)];exact d,by rw [Array.getElem?_setIfInBounds_ne (by omega)];exact e,f,g⟩
theorem PCell.f3 {cells : Array Value} {i : Nat} {p : S51} (h : PCell lo ow W cells i p) (z : Int) : PCell lo ow W (cells.setIfInBounds (i * 5 + 3) (.int .i64 z)) i ⟨p.f0,p.f1,p.f2,z,p.f4⟩:=by
 obtain ⟨r,t,a,b,c,d,e,f,g⟩:=h
 exact ⟨r,t,by rw [Array.getElem?_setIfInBounds_ne (by omega)];exact a,by rw [Array.getElem?_setIfInBounds_ne (by omega)];exact b,by rw [Array.getElem?_setIfInBounds_ne (by omega)];exact c,set_at d,by rw [Array.getElem?_setIfInBounds_ne (by omega)];exact e,f,g⟩
theorem PCell.f4 {cells : Array Value} {i : Nat} {p : S51} (h : PCell lo ow W cells i p) (z : Int) : PCell lo ow W (cells.setIfInBounds (i * 5 + 4) (.int .i64 z)) i ⟨p.f0,p.f1,p.f2,p.f3,z⟩:=by
 obtain ⟨r,t,a,b,c,d,e,f,g⟩:=h
 exact ⟨r,t,by rw [Array.getElem?_setIfInBounds_ne (by omega)];exact a,by rw [Array.getElem?_setIfInBounds_ne (by omega)];exact b,by rw [Array.getElem?_setIfInBounds_ne (by omega)];exact c,by rw [Array.getElem?_setIfInBounds_ne (by omega)];exact d,set_at e,f,g⟩
theorem SV.pcell {g cap n : Nat} (h : SV lo ow W (.slice (some ⟨g,0,none⟩) n cap) v1 v2 v3 v4 ps qs ys) (i : Nat) (hi : i < ps.length) (j : Nat) (hj : j < 5) (u : Value) (p' : S51) (hp : ∀ cells,PCell lo ow W cells i ps[i] → PCell lo ow W (cells.setIfInBounds (i * 5 + j) u) i p') : SV lo ow (W.setCell ⟨g,i * 5 + j,none⟩ u) (.slice (some ⟨g,0,none⟩) n cap) v1 v2 v3 v4 (ps.set i p') qs ys:=by
 obtain ⟨g0,cap0,cells,e,hg0,hl,hh,hc⟩:=h.pr
 obtain ⟨g3,cap3,cells3,e3,hg3,hl3,hh3,hc3⟩:=h.si
 injection e with ea eb ec
 injection ea with ea
 injection ea with ea
 subst ea;subst eb;subst ec
 have hf : ∀ k,ow k ≠ 2 → (W.setCell ⟨g,i * 5 + j,none⟩ u).heap[k]? = W.heap[k]?:=fun k hk=>Below.heap_setCell W ⟨g,i * 5 + j,none⟩ _ k (fun e=>hk (by rw [e];exact hg0))
 have hr : ∀ t xs,(kE lo).R 69 W 0 (fun k=>ow k = 0) t xs → (kE lo).R 69 (W.setCell ⟨g,i * 5 + j,none⟩ u) 0 (fun k=>ow k = 0) t xs:=fun t xs h=>Kd.R_far (p:=⟨g,i * 5 + j,none⟩) h (fun k hk e=>by have e' : k = g:=e;subst e';omega) _
 refine ⟨fun k hk=>by simpa [World.setCell] using h.bd k hk,⟨g,cap,cells.setIfInBounds (i * 5 + j) u,by rw [List.length_set],hg0,by rw [List.length_set];exact hl,blk_set hh _ _,fun k hk=>?_⟩,h.ce.move fun k hk=>hf k (by omega),h.ro.move fun k hk=>hf k (by omega),⟨g3,cap3,cells3,e3,hg3,hl3,(hf g3 (by omega)).trans hh3,fun q hq=>?_⟩,Kd.R_far (p:=⟨g,i * 5 + j,none⟩) h.sa (fun k hk e=>by have e' : k = g:=e;subst e';omega) _,fun k hk hl=>(hf k (by have:=h.zs k hk hl;omega)).trans (h.ag k hk hl),h.zs,by simpa [World.setCell] using h.ws⟩
 ·have hk' : k < ps.length:=by simpa using hk
  refine PCell.move (W:=W) ?_ (fun k hk=>hf k (by omega)) hr
  by_cases ek : k = i
  ·subst ek
   rw [List.getElem_set_self]
   exact hp cells (hc k hk')
  ·rw [List.getElem_set_ne (fun e=>ek e.symm)]
   exact (hc k hk').other ek hj
 ·obtain ⟨u1,hu,hq1⟩:=hc3 q hq
  exact ⟨u1,hu,hq1.move fun k hk=>hf k (by omega)⟩
theorem SV.qcell {g cap n : Nat} (h : SV lo ow W v0 v1 v2 (.slice (some ⟨g,0,none⟩) n cap) v4 ps qs ys) (j : Nat) (hj : j < qs.length) (u : Value) (l : List Int) (hq : QRow ow j W u l) : SV lo ow (W.setCell ⟨g,j,none⟩ u) v0 v1 v2 (.slice (some ⟨g,0,none⟩) n cap) v4 ps (qs.set j l) ys:=by
 obtain ⟨g0,cap0,cells,e,hg0,hl,hh,hc⟩:=h.pr
 obtain ⟨g3,cap3,cells3,e3,hg3,hl3,hh3,hc3⟩:=h.si
 injection e3 with ea eb ec
 injection ea with ea
 injection ea with ea
 subst ea;subst eb;subst ec
 have hf : ∀ k,ow k ≠ 3 → (W.setCell ⟨g,j,none⟩ u).heap[k]? = W.heap[k]?:=fun k hk=>Below.heap_setCell W ⟨g,j,none⟩ _ k (fun e=>hk (by rw [e];exact hg3))
 have hr : ∀ t xs,(kE lo).R 69 W 0 (fun k=>ow k = 0) t xs → (kE lo).R 69 (W.setCell ⟨g,j,none⟩ u) 0 (fun k=>ow k = 0) t xs:=fun t xs h=>Kd.R_far (p:=⟨g,j,none⟩) h (fun k hk e=>by have e' : k = g:=e;subst e';omega) _
 refine ⟨fun k hk=>by simpa [World.setCell] using h.bd k hk,⟨g0,cap0,cells,e,hg0,hl,(hf g0 (by omega)).trans hh,fun i hi=>(hc i hi).move (fun k hk=>hf k (by omega)) hr⟩,h.ce.move fun k hk=>hf k (by omega),h.ro.move fun k hk=>hf k (by omega),⟨g,cap,cells3.setIfInBounds j u,by rw [List.length_set],hg3,by rw [List.length_set];exact hl3,blk_set hh3 _ _,fun q hq1=>?_⟩,Kd.R_far (p:=⟨g,j,none⟩) h.sa (fun k hk e=>by have e' : k = g:=e;subst e';omega) _,fun k hk hl=>(hf k (by have:=h.zs k hk hl;omega)).trans (h.ag k hk hl),h.zs,by simpa [World.setCell] using h.ws⟩
 have hq1' : q < qs.length:=by simpa using hq1
 obtain ⟨u1,hu,hq2⟩:=hc3 q hq1'
 by_cases ek : q = j
 ·subst ek
  rw [List.getElem_set_self]
  exact ⟨u,set_at hu,hq.move fun k hk=>hf k (by omega)⟩
 ·rw [List.getElem_set_ne (fun e=>ek e.symm)]
  exact ⟨u1,by rw [Array.getElem?_setIfInBounds_ne (fun e=>ek e.symm)];exact hu,hq2.move fun k hk=>hf k (by omega)⟩
theorem IRow.reads {v : Value} {len : Nat} (h : IRow ow W v len) (hl : len ≤ 1000) : ∃ xs : List Int,xs.length = len ∧ Rd (Kd.int .i64) W v xs:=by
 obtain ⟨g,cap,cells,e,hg,hc,hh,hz⟩:=h
 refine ⟨(List.range len).pmap (fun q hq=>Classical.choose (hz q hq)) (fun q hq=>List.mem_range.1 hq),by simp,some ⟨g,0,none⟩,cap,by rw [e];simp,by simpa using hc,rfl,by simp;omega,fun _=>⟨⟨g,0,none⟩,rfl,fun j p hj=>?_⟩⟩
 have hjl : j < len:=by simpa using (List.getElem?_eq_some_iff.1 hj).1
 have ep : p = Classical.choose (hz j hjl):=by
  have e2 : ((List.range len).pmap (fun q hq=>Classical.choose (hz q hq)) (fun q hq=>List.mem_range.1 hq))[j]? = some (Classical.choose (hz j hjl)):=by simp [List.getElem?_pmap,hjl]
  rw [hj] at e2
  exact Option.some.inj e2
 refine ⟨[.int .i64 p],rfl,rfl,fun i u hu=>?_⟩
 obtain rfl : i = 0:=by have:=(List.getElem?_eq_some_iff.1 hu).1;simp at this;omega
 obtain rfl : Value.int .i64 p = u:=by simpa using hu
 have e4 : Addr.add ⟨g,0,none⟩ (j * (Kd.int .i64).sz + 0) = ⟨g,j,none⟩:=by
  rw [show (Kd.int .i64).sz = 1 from rfl,Nat.mul_one,Nat.add_zero]
  unfold Addr.add
  split
  ·next h0=>rw [h0]
  ·simp
 rw [e4,blk_cell hh,ep]
 exact Classical.choose_spec (hz j hjl)
theorem rd_row {g off cap : Nat} {cells : Array Value} {l : List Int} (hh : W.heap[g]? = some (.cells cells 3 (0,0))) (hm : l.length ≤ 1000000000000) (hl : l.length ≤ cap) (hc : ∀ q z,l[q]? = some z → cells[off + q]? = some (.int .i64 z)) : Rd (Kd.int .i64) W (.slice (some ⟨g,off,none⟩) l.length cap) l:=by
 refine ⟨some ⟨g,off,none⟩,cap,rfl,hl,rfl,by omega,fun _=>⟨⟨g,off,none⟩,rfl,fun j p hj=>⟨[.int .i64 p],rfl,rfl,fun i u hu=>?_⟩⟩⟩
 obtain rfl : i = 0:=by have:=(List.getElem?_eq_some_iff.1 hu).1;simp at this;omega
 obtain rfl : Value.int .i64 p = u:=by simpa using hu
 have e4 : Addr.add ⟨g,off,none⟩ (j * (Kd.int .i64).sz + 0) = ⟨g,off + j,none⟩:=by
  rw [show (Kd.int .i64).sz = 1 from rfl,Nat.mul_one,Nat.add_zero]
  unfold Addr.add
  split
  ·next h0=>rw [h0];rfl
  ·simp
 rw [e4,blk_cell hh]
 exact hc j p hj
theorem QRow.reads {v : Value} {j : Nat} {l : List Int} (h : QRow ow j W v l) : Rd (Kd.int .i64) W v l:=by
 rcases h with ⟨rfl,A,rfl⟩ | ⟨g,off,cap,cells,rfl,hg,hl,hm,hh,hs,hc⟩
 ·exact ⟨A,0,rfl,Nat.le_refl _,rfl,by simp,fun h=>absurd h (Nat.lt_irrefl 0)⟩
 ·exact rd_row hh (by omega) hl hc
def Likes (p x : S51) : Prop:=x.f0.length = 3 ∧ x.f1 = p.f1 ∧ x.f2 = p.f2 ∧ x.f3 = p.f3 ∧ x.f4 = p.f4
theorem PCell.reads {cells : Array Value} {i : Nat} {p : S51} (h : PCell lo ow W cells i p) (ha : Ag lo W) : ∃ x cs,Likes p x ∧ cs.length = 5 ∧ k51.K W x cs ∧ ∀ q u,cs[q]? = some u → cells[i * 5 + q]? = some u:=by
 obtain ⟨r,t,a,b,c,d,e,f,g⟩:=h
 obtain ⟨xs,hx,A,c0,er,hl,hC⟩:=f.reads (by omega)
 obtain ⟨A1,c1,et,hl1,hC1⟩:=(Src.ofR g).reads ha
 subst er;subst et
 refine ⟨⟨xs,p.f1,p.f2,p.f3,p.f4⟩,[.slice A xs.length c0,.slice A1 p.f1.length c1,.int .i64 p.f2,.int .i64 p.f3,.int .i64 p.f4],⟨hx,rfl,rfl,rfl,rfl⟩,rfl,k51_mk W ⟨xs,p.f1,p.f2,p.f3,p.f4⟩ hl hC hl1 hC1,fun q u hu=>?_⟩
 match q,hu with
 | 0,hu=>rw [← Option.some.inj hu];exact a
 | 1,hu=>rw [← Option.some.inj hu];exact b
 | 2,hu=>rw [← Option.some.inj hu];exact c
 | 3,hu=>rw [← Option.some.inj hu];exact d
 | 4,hu=>rw [← Option.some.inj hu];exact e
 | q + 5,hu=>simp at hu
theorem add_zero_off (g m : Nat) : Addr.add ⟨g,0,none⟩ m = ⟨g,m,none⟩:=by
 unfold Addr.add
 split
 ·next h0=>rw [h0]
 ·simp
theorem SV.reads (h : SV lo ow W v0 v1 v2 v3 v4 ps qs ys) (hp : ps.length ≤ 1000) (hq : qs.length ≤ 1000) : ∃ x0 x1 x2,x0.length = ps.length ∧ (∀ i (hi : i < ps.length) (hx : i < x0.length),Likes ps[i] x0[i]) ∧ x1.length = 3 ∧ x2.length = 2 ∧ WC W x0 x1 x2 qs ys v0 v1 v2 v3 v4:=by
 obtain ⟨x1,hx1,r1⟩:=h.ce.reads (by omega)
 obtain ⟨x2,hx2,r2⟩:=h.ro.reads (by omega)
 obtain ⟨g0,cap,cells,e,hg0,hl,hh,hc⟩:=h.pr
 obtain ⟨g3,cap3,cells3,e3,hg3,hl3,hh3,hc3⟩:=h.si
 have key:=fun i (hi : i < ps.length)=>(hc i hi).reads h.ag
 refine ⟨(List.range ps.length).pmap (fun i hi=>Classical.choose (key i hi)) (fun i hi=>List.mem_range.1 hi),x1,x2,by simp,fun i hi hx=>?_,hx1,hx2,⟨⟨some ⟨g0,0,none⟩,cap,by rw [e];simp,by simpa using hl,rfl,by simp;omega,fun _=>⟨⟨g0,0,none⟩,rfl,fun j p hj=>?_⟩⟩,r1,r2,⟨some ⟨g3,0,none⟩,cap3,e3,hl3,rfl,by omega,fun _=>⟨⟨g3,0,none⟩,rfl,fun j p hj=>?_⟩⟩,Kd.R_reads h.sa⟩⟩
 ·simp only [List.getElem_pmap,List.getElem_range]
  obtain ⟨cs,h1,_⟩:=Classical.choose_spec (key i hi)
  exact h1
 ·have hjl : j < ps.length:=by simpa using (List.getElem?_eq_some_iff.1 hj).1
  have ep : p = Classical.choose (key j hjl):=by
   have e2 : ((List.range ps.length).pmap (fun i hi=>Classical.choose (key i hi)) (fun i hi=>List.mem_range.1 hi))[j]? = some (Classical.choose (key j hjl)):=by simp [List.getElem?_pmap,hjl]
   rw [hj] at e2
   exact Option.some.inj e2
  obtain ⟨cs,_,h2,h3,h4⟩:=Classical.choose_spec (key j hjl)
  rw [← ep] at h3
  refine ⟨cs,h2,h3,fun q u hu=>?_⟩
  rw [add_zero_off,blk_cell hh]
  exact h4 q u hu
 ·obtain ⟨hjl,rfl⟩:=List.getElem?_eq_some_iff.1 hj
  obtain ⟨u,hu,hq1⟩:=hc3 j hjl
  obtain ⟨A,c,eu,hl4,hC⟩:=hq1.reads
  refine ⟨[u],rfl,⟨A,c,by rw [eu],hl4,hC⟩,fun q y hy=>?_⟩
  obtain rfl : q = 0:=by have:=(List.getElem?_eq_some_iff.1 hy).1;simp at this;omega
  obtain rfl : u = y:=by simpa using hy
  rw [add_zero_off,blk_cell hh3]
  simpa [Kd.slice] using hu
theorem IRow.tag {ow' : Nat → Nat} {v : Value} {len : Nat} (h : IRow ow W v len) (ht : ∀ k,k < W.heap.size → ow' k = ow k) : IRow ow' W v len:=by
 obtain ⟨g,cap,cells,e,hg,hl,hh,hc⟩:=h
 exact ⟨g,cap,cells,e,(ht g (blk_lt hh)).trans hg,hl,hh,hc⟩
theorem QRow.tag {ow' : Nat → Nat} {v : Value} {j : Nat} {l : List Int} (h : QRow ow j W v l) (ht : ∀ k,k < W.heap.size → ow' k = ow k) : QRow ow' j W v l:=by
 rcases h with h | ⟨g,off,cap,cells,e,hg,hl,hm,hh,hc⟩
 ·exact .inl h
 ·exact .inr ⟨g,off,cap,cells,e,(ht g (blk_lt hh)).trans hg,hl,hm,hh,hc⟩
theorem SV.grown {ow' : Nat → Nat} {tag : Nat} {v4' : Value} {ys' : List S38} (h : SV lo ow W v0 v1 v2 v3 v4 ps qs ys) (ht : ∀ k,k < W.heap.size → ow' k = ow k) (hbd : ∀ k,ow' k ≠ 0 → lo.n ≤ k ∧ k < W'.heap.size) (hs : W.heap.size ≤ W'.heap.size) (hf : ∀ k,k < W.heap.size → ow k ≠ tag → W'.heap[k]? = W.heap[k]?) (hn : 4 ≤ tag) (hsa : k38.R 38 W' 0 (fun k=>ow' k = 4) v4' ys')
  (hq : ∀ g3 cap n,v3 = .slice (some ⟨g3,0,none⟩) n cap → ∀ j (hj : j < qs.length),tag = 10 + j → ∀ u,W.cell? ⟨g3,j,none⟩ = some u → QRow ow' j W' u qs[j]) : SV lo ow' W' v0 v1 v2 v3 v4' ps qs ys':=by
 have bl : ∀ k,ow k ≠ 0 → k < W.heap.size:=fun k hk=>(h.bd k hk).2
 obtain ⟨g0,cap,cells,e,hg0,hl,hh,hc⟩:=h.pr
 obtain ⟨g3,cap3,cells3,e3,hg3,hl3,hh3,hc3⟩:=h.si
 have mv : ∀ {v len},IRow ow W v len → IRow ow' W' v len:=fun {v len} hr=>by
  have h1:=IRow.move (W':=W') hr fun k hk=>hf k (bl k (by omega)) (by omega)
  obtain ⟨g,cap,cells,e,hg,hl,hh,hc⟩:=h1
  exact ⟨g,cap,cells,e,(ht g (bl g (by omega))).trans hg,hl,hh,hc⟩
 have mt : ∀ t xs,(kE lo).R 69 W 0 (fun k=>ow k = 0) t xs → (kE lo).R 69 W' 0 (fun k=>ow' k = 0) t xs:=fun t xs hr=>Kd.R_mono (Kd.R_move (Kd.R_bound hr) (fun k hk=>hf k hk.2.2.1 (by have:=hk.1;omega))) (fun k hk=>by rw [ht k hk.2.2.1];exact hk.1)
 refine ⟨hbd,⟨g0,cap,cells,e,(ht g0 (blk_lt hh)).trans hg0,hl,(hf g0 (blk_lt hh) (by omega)).trans hh,fun i hi=>?_⟩,mv h.ce,mv h.ro,⟨g3,cap3,cells3,e3,(ht g3 (blk_lt hh3)).trans hg3,hl3,(hf g3 (blk_lt hh3) (by omega)).trans hh3,fun j hj=>?_⟩,hsa,fun k hk hl=>(hf k (Nat.lt_of_lt_of_le hl h.ws) (by have:=h.zs k hk hl;omega)).trans (h.ag k hk hl),fun k hk hl=>(ht k (Nat.lt_of_lt_of_le hl h.ws)).trans (h.zs k hk hl),Nat.le_trans h.ws hs⟩
 ·obtain ⟨r,t,a,b,c,d,e1,f,g1⟩:=hc i hi
  exact ⟨r,t,a,b,c,d,e1,mv f,mt _ _ g1⟩
 ·obtain ⟨u,hu,hq1⟩:=hc3 j hj
  refine ⟨u,hu,?_⟩
  by_cases et : tag = 10 + j
  ·exact hq g3 cap3 _ e3 j hj et u ((blk_cell hh3 j).trans hu)
  ·rcases hq1 with hz | ⟨g,off,cap1,cells1,e1,hg,hl1,hm1,hh1,hs1,hc1⟩
   ·exact .inl hz
   ·exact .inr ⟨g,off,cap1,cells1,e1,(ht g (blk_lt hh1)).trans hg,hl1,hm1,(hf g (blk_lt hh1) (by omega)).trans hh1,hs1,hc1⟩
theorem SV.said {v4' : Value} {ys' : List S38} (h : SV lo ow W v0 v1 v2 v3 v4 ps qs ys) (hlo : lo.n ≤ W.heap.size) (ho : k38.R 38 W' 0 (fun k=>ow k = 4 ∨ W.heap.size ≤ k) v4' ys') (hg : W.grownBy W' v4.ownBlock) : ∃ ow',SV lo ow' W' v0 v1 v2 v3 v4' ps qs ys' ∧ ∀ k,k < W.heap.size → ow' k = ow k:=by
 refine ⟨fun k=>if W.heap.size ≤ k ∧ some k = v4'.ownBlock then 4 else ow k,h.grown (tag:=4) (fun k hk=>if_neg (by omega)) (fun k hk=>?_) hg.size (fun k hk hn=>hg.block k hk (fun e=>hn (h.sa.1 k e.symm))) (Nat.le_refl 4) ?_ (fun _ _ _ _ j _ e=>by omega),fun k hk=>if_neg (by omega)⟩
 ·by_cases c : W.heap.size ≤ k ∧ some k = v4'.ownBlock
  ·exact ⟨by omega,Kd.R_lt ho k c.2.symm⟩
  ·have hk' : ow k ≠ 0:=by simpa [c] using hk
   exact ⟨(h.bd k hk').1,Nat.lt_of_lt_of_le (h.bd k hk').2 hg.size⟩
 ·refine Kd.R_mono (ok:=fun k=>(ow k = 4 ∨ W.heap.size ≤ k) ∧ some k = v4'.ownBlock) (Kd.R_tight (by rfl) ho |> fun z=>Kd.R_mono z fun k hk=>⟨ho.1 k hk.symm,hk⟩) fun k hk=>?_
  by_cases c : W.heap.size ≤ k ∧ some k = v4'.ownBlock
  ·exact if_pos c
  ·have e1 : ow k = 4:=hk.1.resolve_right fun z=>c ⟨z,hk.2⟩
   show (if _ then _ else _) = 4
   rw [if_neg c]
   exact e1
theorem ty_far {g k : Nat} {a b : Array Value} {s t : Nat} (h1 : W.heap[g]? = some (.cells a s (0,0))) (h2 : W.heap[k]? = some (.cells b t (0,0))) (hne : s ≠ t) : k ≠ g:=fun e=>by
 subst e
 rw [h1] at h2
 injection h2 with h3
 injection h3 with _ h4 _
 exact hne h4
theorem SV.setW {g : Nat} {cs : Array Value} (h : SV lo ow W v0 v1 v2 v3 v4 ps qs ys) (hb : lo.w.heap.size ≤ g) (hg : W.heap[g]? = some (.cells cs 33 (0,0))) (j : Nat) (u : Value) : SV lo ow (W.setCell ⟨g,j,none⟩ u) v0 v1 v2 v3 v4 ps qs ys:=by
 have hf : ∀ k,k ≠ g → (W.setCell ⟨g,j,none⟩ u).heap[k]? = W.heap[k]?:=fun k hk=>Below.heap_setCell W ⟨g,j,none⟩ _ k hk
 obtain ⟨g0,cap,cells,e,hg0,hl,hh,hc⟩:=h.pr
 obtain ⟨g3,cap3,cells3,e3,hg3,hl3,hh3,hc3⟩:=h.si
 have mv : ∀ {v len},IRow ow W v len → IRow ow (W.setCell ⟨g,j,none⟩ u) v len:=fun {v len} hr=>by
  obtain ⟨g1,cap,cells,e,hg1,hl,hh,hc⟩:=hr
  exact ⟨g1,cap,cells,e,hg1,hl,(hf g1 (ty_far hg hh (by decide))).trans hh,hc⟩
 refine ⟨fun k hk=>by simpa [World.setCell] using h.bd k hk,⟨g0,cap,cells,e,hg0,hl,(hf g0 (ty_far hg hh (by decide))).trans hh,fun i hi=>?_⟩,mv h.ce,mv h.ro,⟨g3,cap3,cells3,e3,hg3,hl3,(hf g3 (ty_far hg hh3 (by decide))).trans hh3,fun q hq=>?_⟩,Kd.R_set h.sa hg (by decide) j u,fun k hk hl=>(hf k (by omega)).trans (h.ag k hk hl),h.zs,by simpa [World.setCell] using h.ws⟩
 ·obtain ⟨r,t,a,b,c,d,e1,f,g1⟩:=hc i hi
  exact ⟨r,t,a,b,c,d,e1,mv f,Kd.R_set g1 hg (kE_ne lo (by decide)) j u⟩
 ·obtain ⟨u1,hu,hq1⟩:=hc3 q hq
  refine ⟨u1,hu,?_⟩
  rcases hq1 with hz | ⟨g1,off,cap1,cells1,e1,hg1,hl1,hm1,hh1,hs1,hc1⟩
  ·exact .inl hz
  ·exact .inr ⟨g1,off,cap1,cells1,e1,hg1,hl1,hm1,(hf g1 (ty_far hg hh1 (by decide))).trans hh1,hs1,hc1⟩
theorem SV.setW5 {g : Nat} {cs : Array Value} (h : SV lo ow W v0 v1 v2 v3 v4 ps qs ys) (hb : lo.w.heap.size ≤ g) (hg : W.heap[g]? = some (.cells cs 33 (0,0))) (u0 u1 u2 u3 u4 : Value) : SV lo ow (((((W.setCell ⟨g,0,none⟩ u0).setCell ⟨g,1,none⟩ u1).setCell ⟨g,2,none⟩ u2).setCell ⟨g,3,none⟩ u3).setCell ⟨g,4,none⟩ u4) v0 v1 v2 v3 v4 ps qs ys :=
 ((((h.setW hb hg 0 u0).setW hb (blk_set hg 0 u0) 1 u1).setW hb (blk_set (blk_set hg 0 u0) 1 u1) 2 u2).setW hb (blk_set (blk_set (blk_set hg 0 u0) 1 u1) 2 u2) 3 u3).setW hb (blk_set (blk_set (blk_set (blk_set hg 0 u0) 1 u1) 2 u2) 3 u3) 4 u4
theorem SV.other {b : Nat} {cs : Array Value} {ty : Nat} (h : SV lo ow W v0 v1 v2 v3 v4 ps qs ys) (hg : W.heap[b]? = some (.cells cs ty (0,0))) (hty : 69 ≠ ty) (ho : ow b = 0) (hS : lo.S b → ¬ b < lo.w.heap.size) (hs : W.heap.size ≤ W'.heap.size) (hf : ∀ k,k < W.heap.size → k ≠ b → W'.heap[k]? = W.heap[k]?) : SV lo ow W' v0 v1 v2 v3 v4 ps qs ys:=by
 have hf1 : ∀ k,ow k ≠ 0 → W'.heap[k]? = W.heap[k]?:=fun k hk=>hf k (h.bd k hk).2 (fun e=>hk (by rw [e];exact ho))
 obtain ⟨g,cap,cells,e,hg1,hl,hh,hc⟩:=h.pr
 obtain ⟨g3,cap3,cells3,e3,hg3,hl3,hh3,hc3⟩:=h.si
 refine ⟨fun k hk=>⟨(h.bd k hk).1,Nat.lt_of_lt_of_le (h.bd k hk).2 hs⟩,⟨g,cap,cells,e,hg1,hl,(hf1 g (by omega)).trans hh,fun i hi=>(hc i hi).move (fun k hk=>hf1 k (by omega)) fun t xs hr=>?_⟩,h.ce.move fun k hk=>hf1 k (by omega),h.ro.move fun k hk=>hf1 k (by omega),⟨g3,cap3,cells3,e3,hg3,hl3,(hf1 g3 (by omega)).trans hh3,fun j hj=>?_⟩,Kd.R_move h.sa fun k hk=>hf1 k (by omega),fun k hk hl=>(hf k (Nat.lt_of_lt_of_le hl h.ws) (fun e=>hS (e ▸ hk) (e ▸ hl))).trans (h.ag k hk hl),h.zs,Nat.le_trans h.ws hs⟩
 ·refine Kd.R_mono (Kd.R_move (Kd.R_bound hr) fun k hk=>?_) fun k hk=>hk.1
  obtain ⟨_,_,hlt,q,hq,cells4,hc4⟩:=hk
  refine hf k hlt (fun e=>kE_ne lo hty q hq ?_)
  rw [e,hg] at hc4
  injection hc4 with h5
  injection h5 with _ h6 _
  exact h6.symm
 ·obtain ⟨u,hu,hq⟩:=hc3 j hj
  exact ⟨u,hu,hq.move fun k hk=>hf1 k (by omega)⟩
theorem Fr.set5 {W0 : World} {g : Nat} (h : Fr ow W0 W) (hg : W0.heap.size ≤ g) (u0 u1 u2 u3 u4 : Value) : Fr ow W0 (((((W.setCell ⟨g,0,none⟩ u0).setCell ⟨g,1,none⟩ u1).setCell ⟨g,2,none⟩ u2).setCell ⟨g,3,none⟩ u3).setCell ⟨g,4,none⟩ u4) :=
 ((((h.set ⟨g,0,none⟩ u0 (.inr hg)).set ⟨g,1,none⟩ u1 (.inr hg)).set ⟨g,2,none⟩ u2 (.inr hg)).set ⟨g,3,none⟩ u3 (.inr hg)).set ⟨g,4,none⟩ u4 (.inr hg)
end
end Go.Proofs.Ytfbocgagfodgnaa.P

namespace Go.Proofs.Ytfbocgagfodgnaa.P
open Go.Proofs.YtfbocgagfodgnaaW.PrintWords renaming Aside0.mk → ö
open List renaming setIfInBounds_toArray → ä, set_cons_zero → ü, set_cons_succ → é
open Go renaming World.block_lt_of_cell? → è, Act.put → á
open Go.RowKit Go.Proofs.YtfbocgagfodgnaaW.PrintWords Go.Proofs.YtfbocgagfodgnaaW.PrintLast Go.Proofs.YtfbocgagfodgnaaW.PrintMore
attribute [local go_sem] max2_int min2_int max_two min_two max_three min_three max_four min_four
set_option linter.unusedVariables false
set_option linter.unusedSimpArgs false
theorem IRow.form {ow : Nat → Nat} {W : World} {v : Value} {len : Nat} (h : IRow ow W v len) : ∃ g cap,v = .slice (some ⟨g,0,none⟩) len cap ∧ ow g = 1 ∧ ∀ q,q < len → ∃ z,W.cell? ⟨g,q,none⟩ = some (.int .i64 z) ∧ W.frozen? ⟨g,q,none⟩ = false:=by
 obtain ⟨g,cap,cells,e,hg,hl,hh,hc⟩:=h
 refine ⟨g,cap,e,hg,fun q hq=>?_⟩
 obtain ⟨z,hz⟩:=hc q hq
 exact ⟨z,(blk_cell hh q).trans hz,blk_frozen hh q⟩
theorem numdo_total (a b c : Int) : ∃ r1 r2,spec_NumDo.f 1 a b c = some (r1,r2):=by
 have cut : ∀ x,∃ y,spec_NumCut.f x = some y:=fun x=>by
  unfold spec_NumCut.f
  split
  ·exact ⟨_,rfl⟩
  ·split
   ·exact ⟨_,rfl⟩
   ·exact ⟨_,rfl⟩
 have ife : ∀ x,∃ y,spec_l1If.f x = some y:=fun x=>by
  unfold spec_l1If.f
  split
  ·exact ⟨_,rfl⟩
  ·exact ⟨_,rfl⟩
 have ok : ∀ x,∃ y,spec_NumOk.f x = some y:=fun x=>by
  unfold spec_NumOk.f
  split
  ·exact ⟨_,rfl⟩
  ·exact ⟨_,rfl⟩
 have j : ∀ v,∃ r1 r2,spec_NumDo.j0 1 a b c v = some (r1,r2):=fun v=>by
  obtain ⟨y1,h1⟩:=cut (wrap64 (b + c))
  obtain ⟨y2,h2⟩:=cut (wrap64 (b - c))
  obtain ⟨y3,h3⟩:=cut (wrap64 (b * c))
  obtain ⟨y4,h4⟩:=ife (decide (b < c))
  obtain ⟨y5,h5⟩:=ife (b == c)
  simp only [spec_NumDo.j0,h1,h2,h3,h4,h5,Option.bind_some]
  repeat' split
  all_goals exact ⟨_,_,rfl⟩
 obtain ⟨y1,h1⟩:=ok b
 obtain ⟨y2,h2⟩:=ok c
 unfold spec_NumDo.f
 simp only [h1,h2,Option.bind_some]
 split
 ·exact j _
 ·exact j _
def leaf9_T : Bool × List (List Nat × List Nat):=(true,[([],[]),([],[]),([1],[1]),([],[]),([3],[3]),([],[]),([5],[5]),([4,6],[4,6]),([7],[7]),([0,2,0,1,2,3,4,5,6,7,8],[0,2]),([9,8,0,1,2,3,4,5,6,7,8],[8,9])])
def leaf9_B : List Nat:=[0,0,2,0,8,0,32,120,248,511,1023]
theorem leaf9_tab : rtab .any (opsOf Try.f45 9) = leaf9_T:=by kernel_rfl
theorem leaf9_bits : waitsOk leaf9_T.2 leaf9_B = true:=by kernel_rfl
def leaf11_T : Bool × List (List Nat × List Nat):=(true,[([],[]),([0],[0]),([],[]),([2],[2]),([],[]),([],[]),([5],[5]),([4,6],[4,6]),([7],[7]),([1,3,0,1,2,3,4,5,6,7,8],[1,3]),([9,8,0,1,2,3,4,5,6,7,8],[8,9])])
def leaf11_B : List Nat:=[0,1,0,4,0,0,32,112,240,511,1023]
theorem leaf11_tab : rtab .any (opsOf Try.f45 11) = leaf11_T:=by kernel_rfl
theorem leaf11_bits : waitsOk leaf11_T.2 leaf11_B = true:=by kernel_rfl
def leaf6_T : Bool × List (List Nat × List Nat):=(true,[([],[]),([0],[0]),([],[]),([],[]),([3],[3]),([2,4],[2,4]),([5],[5]),([],[]),([],[]),([8],[8]),([7,9],[7,9]),([10],[10]),([1,6,11],[1,6,11]),([12],[12]),([13],[13]),([13],[13]),([14,12,0,1,2,3,4,5,6,7,8,9,10,11,12,13,14],[14]),([15,16,0,1,2,3,4,5,6,7,8,9,10,11,12,13,14,15,16],[15])])
def leaf6_B : List Nat:=[0,1,0,0,8,28,60,0,0,256,896,1920,4095,8191,16383,16383,32767,131071]
theorem leaf6_tab : rtab .any (opsOf Try.f45 6) = leaf6_T:=by kernel_rfl
theorem leaf6_bits : waitsOk leaf6_T.2 leaf6_B = true:=by kernel_rfl
def leaf13_T : Bool × List (List Nat × List Nat):=(true,[([],[]),([0],[0]),([],[]),([],[]),([],[]),([4],[4]),([3,5],[3,5]),([6],[6]),([2,7],[2,7]),([8],[8]),([1,9],[1,9]),([0,1,2,3,4,5,6,7,8,9,10],[]),([11,10,10,0,1,2,3,4,5,6,7,8,9,10],[10,11])])
def leaf13_B : List Nat:=[0,1,0,0,0,16,56,120,252,508,1023,2047,4095]
theorem leaf13_tab : rtab .any (opsOf Try.f45 13) = leaf13_T:=by kernel_rfl
theorem leaf13_bits : waitsOk leaf13_T.2 leaf13_B = true:=by kernel_rfl
theorem SV.regs {lo : Gr} {ow : Nat → Nat} {W : World} {v0 v1 v2 v3 v4 : Value} {ps : List S51} {qs : List (List Int)} {ys : List S38} (h : SV lo ow W v0 v1 v2 v3 v4 ps qs ys) (i : Nat) (hi : i < ps.length) : ∃ g cap gr cr,v0 = .slice (some ⟨g,0,none⟩) ps.length cap ∧ ow g = 2 ∧ W.cell? ⟨g,i * 5,none⟩ = some (.slice (some ⟨gr,0,none⟩) 3 cr) ∧ ow gr = 1 ∧ ∀ q,q < 3 → ∃ z,W.cell? ⟨gr,q,none⟩ = some (.int .i64 z) ∧ W.frozen? ⟨gr,q,none⟩ = false:=by
 obtain ⟨g,cap,cells,e,hg,hl,hh,hc⟩:=h.pr
 obtain ⟨r,t,a,_,_,_,_,hr,_⟩:=hc i hi
 obtain ⟨gr,cr,er,hgr,hq⟩:=hr.form
 exact ⟨g,cap,gr,cr,e,hg,by rw [blk_cell hh,a,er],hgr,hq⟩
def LeafIn (k a b : Int) : Prop:=(k = 1 → 0 ≤ a ∧ a < 3) ∧ (k = 2 → 0 ≤ a ∧ a < 3 ∧ 0 ≤ b ∧ b < 3) ∧ (k = 3 → 0 ≤ a ∧ a < 3 ∧ 0 ≤ b ∧ b < 3) ∧ (k = 4 → 0 ≤ a ∧ a < 3 ∧ 0 ≤ b ∧ b < 3) ∧ (k = 5 → 0 ≤ a ∧ a < 3)
set_option maxHeartbeats 8000000 in
set_option maxRecDepth 100000 in
theorem l3leaf_says (lo : Gr) (ow : Nat → Nat) (w : World) (v0 v1 v2 v3 v4 : Value) (ps : List S51) (qs : List (List Int)) (ys : List S38) (h : SV lo ow w v0 v1 v2 v3 v4 ps qs ys) (who : Nat) (hwho : who < ps.length) (k a b n : Int) (A4 A5 : Option Addr) (n4 c4 n5 c5 : Nat) (hk : LeafIn k a b) (hp : ps.length ≤ 1000) (hy : ys.length ≤ 1000000) (hlo : lo.n ≤ w.heap.size) :
  Calls Try.prog 45 #[.agg #[v0,v1,v2,v3,v4],.int .i64 who,.agg #[.int .i64 k,.int .i64 a,.int .i64 b,.int .i64 n,.slice A4 n4 c4,.slice A5 n5 c5]] w fun e w'=>∃ ow' v4' ys',e = .returned (.agg #[v0,v1,v2,v3,v4']) ∧ SV lo ow' w' v0 v1 v2 v3 v4' ps qs ys' ∧ (∀ k,k < w.heap.size → ow' k = ow k) ∧ Fr ow w w' ∧ (ys' = ys ∨ ∃ z,ys' = ys ++ [⟨who,z⟩]):=by
 have hu29:=Try.underlying33
 have hu59:=Try.underlying51
 obtain ⟨g0,cap0,gr,cr,rfl,hg0,hcr,hgr,hregs⟩:=h.regs who hwho
 obtain ⟨g1,cap1,rfl,hg1,hcells⟩:=h.ce.form
 obtain ⟨g2,cap2,rfl,hg2,hrooms⟩:=h.ro.form
 obtain ⟨g3,cap3,cells3,rfl,hg3,_⟩:=h.si
 obtain ⟨A,c,rfl⟩:=Kd.R_slice h.sa
 have HS:=ö h
 have WS:=ö h.ws
 have HCR:=ö hcr
 have HG:=ö hregs
 have HC:=ö hcells
 have HK:=ö hk
 have HB:=ö (Below.refl w.heap.size w)
 have p1 : 0 ≤ (who : Int):=by omega
 have q1 : (who : Int) < (ps.length : Int):=by omega
 have P1:=ö p1
 clear h hregs hcells hrooms hk hcr
 by_cases e1 : k = 1
 ·subst e1
  obtain ⟨a0,a1⟩:=HK.out.1 rfl
  obtain ⟨aa,rfl⟩:=Int.eq_ofNat_of_zero_le a0
  replace p1:=eq_true p1
  replace q1:=eq_true q1
  have a2:=eq_true a0
  have a3:=eq_true a1
  go_enter Try.func45,Try.ntmps45
  go_wp2_with (first | ((with_reducible refine gate_dst (N:=3) rfl ?_);refine box_event ?hg (N:=3) ?hd (cs:=#[.slice (some ⟨g0,0,none⟩) ps.length cap0,.slice (some ⟨g1,0,none⟩) 3 cap1,.slice (some ⟨g2,0,none⟩) 2 cap2,.slice (some ⟨g3,0,none⟩) qs.length cap3,.slice A ys.length c]) (t:=33) ?hr ?_;(case hd=>rfl);(case hg=>rfl);(case hr=>first | (go_simp;done) | (go_simp;rfl));intro bw hg w5 hbox hb;replace HB:=ö (below_step HB.out hb);have GW:=ö (Nat.le_of_eq hg.symm);have BW:=ö hbox;clear hb hbox hg) | ((with_reducible refine gate_dst (N:=5) rfl ?_);refine box_event ?hg (N:=5) ?hd (cs:=#[.int .i64 1,.int .i64 (aa : Int),.int .i64 b,.int .i64 n,.slice A4 n4 c4,.slice A5 n5 c5]) (t:=69) ?hr ?_;(case hd=>rfl);(case hg=>rfl);(case hr=>first | (go_simp;done) | (go_simp;rfl));intro bs hg w6 hbox hb;have n1_:=ö (blk_below BW.out hb);have NS:=ö (show bw ≠ bs by rw [hg];exact Nat.ne_of_lt (blk_lt BW.out));have GS:=ö (show w.heap.size ≤ bs by rw [hg];exact HB.out.size);replace HB:=ö (below_step HB.out hb);clear BW;have BW:=n1_;clear n1_;have BS:=ö hbox;clear hb hbox hg) | ((with_reducible refine gate_dst (N:=6) rfl ?_);refine box_event ?hg (N:=6) ?hd (cs:=#[.slice none 0 0,.slice none 0 0,.slice none 0 0,.slice none 0 0,.slice none 0 0]) (t:=33) ?hr ?_;(case hd=>rfl);(case hg=>rfl);(case hr=>first | (go_simp;done) | (go_simp;rfl));intro br hg w7 hbox hb;have n1_:=ö (blk_below BW.out hb);have n2_:=ö (blk_below BS.out hb);have NR:=ö (show bw ≠ br by rw [hg];exact Nat.ne_of_lt (blk_lt BW.out));have GR:=ö (show w.heap.size ≤ br by rw [hg];exact HB.out.size);replace HB:=ö (below_step HB.out hb);clear BW BS;have BW:=n1_;have BS:=n2_;clear n1_ n2_;have BR:=ö hbox;obtain ⟨hcz_0,hcz_1,hcz_2,hcz_3,hcz_4,hfz_0,hfz_1,hfz_2,hfz_3,hfz_4⟩:=bz5_ BW;obtain ⟨hcy_0,hcy_1,hcy_2,hcy_3,hcy_4,hcy_5,hfy_0,hfy_1,hfy_2,hfy_3,hfy_4,hfy_5⟩:=bz6_ BS;obtain ⟨hcx_0,hcx_1,hcx_2,hcx_3,hcx_4,hfx_0,hfx_1,hfx_2,hfx_3,hfx_4⟩:=bz5_ BR;have hcr:=(HB.out.cell (è w _ HCR.out)).trans HCR.out;have hn1:=NR.out;have hn2:=hn1.symm;obtain ⟨z0,hz0,hf0⟩:=HG.out aa (by omega);have hx0:=(HB.out.cell (è w _ hz0)).trans hz0;have hfx0 : w7.frozen? ⟨gr,aa,none⟩ = false:=(HB.out.frozen (è w _ hz0)).trans hf0;have hn0_1 : gr ≠ bw:=(by have h1:=GW.out;have h3 : gr < w.heap.size:=è w _ hz0;omega);have hn0_2 : gr ≠ br:=(by have h1:=GR.out;have h3 : gr < w.heap.size:=è w _ hz0;omega);have hn0_3:=hn0_1.symm;have hn0_4:=hn0_2.symm;clear hb hbox hg))
  refine bodyPost_ret (results_cell_row rfl _ _ br 33 #[.slice (some ⟨g0,0,none⟩) ps.length cap0,.slice (some ⟨g1,0,none⟩) 3 cap1,.slice (some ⟨g2,0,none⟩) 2 cap2,.slice (some ⟨g3,0,none⟩) qs.length cap3,.slice A ys.length c] (0,0) _ rfl (by apply bp5_4_;apply bp5_3_;apply bp5_2_;apply bp5_1_;apply bp5_0_;exact (blk_far (p:=⟨gr,aa,none⟩) BR.out hn0_4 _)) Try.underlying33 rfl (by kernel_rfl)) rfl ?_
  exact ⟨ow,_,ys,rfl,((HS.out.below HB.out).istore gr aa n hgr).setW5 (Nat.le_trans WS.out GR.out) (blk_far (p:=⟨gr,aa,none⟩) BR.out hn0_4 _) _ _ _ _ _,fun _ _=>rfl,(((Fr.refl ow w).below HB.out).set ⟨gr,aa,none⟩ _ (.inl (by rw [hgr];decide))).set5 GR.out _ _ _ _ _,.inl rfl⟩
 have f1 : (k == 1) = false:=by simpa using e1
 by_cases e2 : k = 2
 ·subst e2
  obtain ⟨a0,a1,b0,b1⟩:=HK.out.2.1 rfl
  obtain ⟨aa,rfl⟩:=Int.eq_ofNat_of_zero_le a0
  obtain ⟨bb,rfl⟩:=Int.eq_ofNat_of_zero_le b0
  replace p1:=eq_true p1
  replace q1:=eq_true q1
  have a2:=eq_true a0
  have a3:=eq_true a1
  have b2:=eq_true b0
  have b3:=eq_true b1
  go_enter Try.func45,Try.ntmps45
  go_wp2_with (first | ((with_reducible refine gate_dst (N:=3) rfl ?_);refine box_event ?hg (N:=3) ?hd (cs:=#[.slice (some ⟨g0,0,none⟩) ps.length cap0,.slice (some ⟨g1,0,none⟩) 3 cap1,.slice (some ⟨g2,0,none⟩) 2 cap2,.slice (some ⟨g3,0,none⟩) qs.length cap3,.slice A ys.length c]) (t:=33) ?hr ?_;(case hd=>rfl);(case hg=>rfl);(case hr=>first | (go_simp;done) | (go_simp;rfl));intro bw hg w5 hbox hb;replace HB:=ö (below_step HB.out hb);have GW:=ö (Nat.le_of_eq hg.symm);have BW:=ö hbox;clear hb hbox hg) | ((with_reducible refine gate_dst (N:=5) rfl ?_);refine box_event ?hg (N:=5) ?hd (cs:=#[.int .i64 2,.int .i64 (aa : Int),.int .i64 (bb : Int),.int .i64 n,.slice A4 n4 c4,.slice A5 n5 c5]) (t:=69) ?hr ?_;(case hd=>rfl);(case hg=>rfl);(case hr=>first | (go_simp;done) | (go_simp;rfl));intro bs hg w6 hbox hb;have n1_:=ö (blk_below BW.out hb);have NS:=ö (show bw ≠ bs by rw [hg];exact Nat.ne_of_lt (blk_lt BW.out));have GS:=ö (show w.heap.size ≤ bs by rw [hg];exact HB.out.size);replace HB:=ö (below_step HB.out hb);clear BW;have BW:=n1_;clear n1_;have BS:=ö hbox;clear hb hbox hg) | ((with_reducible refine gate_dst (N:=6) rfl ?_);refine box_event ?hg (N:=6) ?hd (cs:=#[.slice none 0 0,.slice none 0 0,.slice none 0 0,.slice none 0 0,.slice none 0 0]) (t:=33) ?hr ?_;(case hd=>rfl);(case hg=>rfl);(case hr=>first | (go_simp;done) | (go_simp;rfl));intro br hg w7 hbox hb;have n1_:=ö (blk_below BW.out hb);have n2_:=ö (blk_below BS.out hb);have NR:=ö (show bw ≠ br by rw [hg];exact Nat.ne_of_lt (blk_lt BW.out));have GR:=ö (show w.heap.size ≤ br by rw [hg];exact HB.out.size);replace HB:=ö (below_step HB.out hb);clear BW BS;have BW:=n1_;have BS:=n2_;clear n1_ n2_;have BR:=ö hbox;obtain ⟨hcz_0,hcz_1,hcz_2,hcz_3,hcz_4,hfz_0,hfz_1,hfz_2,hfz_3,hfz_4⟩:=bz5_ BW;obtain ⟨hcy_0,hcy_1,hcy_2,hcy_3,hcy_4,hcy_5,hfy_0,hfy_1,hfy_2,hfy_3,hfy_4,hfy_5⟩:=bz6_ BS;obtain ⟨hcx_0,hcx_1,hcx_2,hcx_3,hcx_4,hfx_0,hfx_1,hfx_2,hfx_3,hfx_4⟩:=bz5_ BR;have hcr:=(HB.out.cell (è w _ HCR.out)).trans HCR.out;have hn1:=NR.out;have hn2:=hn1.symm;obtain ⟨z0,hz0,hf0⟩:=HG.out aa (by omega);have hx0:=(HB.out.cell (è w _ hz0)).trans hz0;have hfx0 : w7.frozen? ⟨gr,aa,none⟩ = false:=(HB.out.frozen (è w _ hz0)).trans hf0;have hn0_1 : gr ≠ bw:=(by have h1:=GW.out;have h3 : gr < w.heap.size:=è w _ hz0;omega);have hn0_2 : gr ≠ br:=(by have h1:=GR.out;have h3 : gr < w.heap.size:=è w _ hz0;omega);have hn0_3:=hn0_1.symm;have hn0_4:=hn0_2.symm;obtain ⟨z1,hz1,hf1⟩:=HG.out bb (by omega);have hx1:=(HB.out.cell (è w _ hz1)).trans hz1;have hfx1 : w7.frozen? ⟨gr,bb,none⟩ = false:=(HB.out.frozen (è w _ hz1)).trans hf1;have hn1_1 : gr ≠ bw:=(by have h1:=GW.out;have h3 : gr < w.heap.size:=è w _ hz1;omega);have hn1_2 : gr ≠ br:=(by have h1:=GR.out;have h3 : gr < w.heap.size:=è w _ hz1;omega);have hn1_3:=hn1_1.symm;have hn1_4:=hn1_2.symm;clear hb hbox hg))
  obtain ⟨r1,r2,hnd⟩:=numdo_total n z0 z1
  have m1:=ö (blk_drew BW.out)
  have m2:=ö (blk_drew BS.out)
  have m3:=ö (blk_drew BR.out)
  have m4:=ö (below_drew1 HB.out)
  clear hcz_0 hcz_1 hcz_2 hcz_3 hcz_4 hfz_0 hfz_1 hfz_2 hfz_3 hfz_4 hcx_0 hcx_1 hcx_2 hcx_3 hcx_4 hfx_0 hfx_1 hfx_2 hfx_3 hfx_4 hcy_0 hcy_1 hcy_2 hcy_3 hcy_4 hcy_5 hfy_0 hfy_1 hfy_2 hfy_3 hfy_4 hfy_5
  refine start_ (n:=18) (S:=fun w'=>w'.cell? ⟨bs,3,none⟩ = some (.int .i64 n) ∧ w'.cell? ⟨bs,1,none⟩ = some (.int .i64 (aa : Int)) ∧ w'.cell? ⟨gr,aa,none⟩ = some (.int .i64 z0) ∧ w'.cell? ⟨bs,2,none⟩ = some (.int .i64 (bb : Int)) ∧ w'.cell? ⟨gr,bb,none⟩ = some (.int .i64 z1)) (ds:=[]) #[false,false,false,false,false,false,false,false,false,false,false,false,false,false,false,false,false,false] (by kernel_rfl) rfl rfl ⟨(blk_cell m2.out 3).trans rfl,(blk_cell m2.out 1).trans rfl,hx0,(blk_cell m2.out 2).trans rfl,hx1⟩ (fun hHeld=>?_)
  refine with_tabW leaf6_tab leaf6_bits (fun HT_ HW_=>?_)
  generalize w7.drew = w8 at m1 m2 m3 m4 hHeld ⊢
  refine pure_ (i:=0) (N:=some 29) (v:=?_) (a':=?_) #[true,false,false,false,false,false,false,false,false,false,false,false,false,false,false,false,false,false] rfl rfl (any_of HT_.out (by kernel_rfl)) (fun _ _ _ h=>h) (Or.inl ⟨by rfl,?_⟩) ?_ ?_
  rotate_left
  ·intro w'
   go_simp
   with_reducible rfl
  rotate_left
  ·(try simp only [á,ä,ü,é,i64_w,i32_w])
   rfl
  refine pure_ (i:=2) (N:=some 31) (v:=?_) (a':=?_) #[true,false,true,false,false,false,false,false,false,false,false,false,false,false,false,false,false,false] rfl rfl (any_of HT_.out (by kernel_rfl)) (fun _ _ _ h=>h) (Or.inl ⟨by rfl,?_⟩) ?_ ?_
  rotate_left
  ·intro w'
   go_simp
   with_reducible rfl
  rotate_left
  ·(try simp only [á,ä,ü,é,i64_w,i32_w])
   rfl
  refine pure_ (i:=3) (N:=some 32) (v:=?_) (a':=?_) #[true,false,true,true,false,false,false,false,false,false,false,false,false,false,false,false,false,false] rfl rfl (any_of HT_.out (by kernel_rfl)) (fun _ _ _ h=>h) (Or.inl ⟨by rfl,?_⟩) ?_ ?_
  rotate_left
  ·intro w'
   go_simp
   with_reducible rfl
  rotate_left
  ·(try simp only [á,ä,ü,é,i64_w,i32_w])
   rfl
  refine pure_ (i:=7) (N:=some 36) (v:=?_) (a':=?_) #[true,false,true,true,false,false,false,true,false,false,false,false,false,false,false,false,false,false] rfl rfl (any_of HT_.out (by kernel_rfl)) (fun _ _ _ h=>h) (Or.inl ⟨by rfl,?_⟩) ?_ ?_
  rotate_left
  ·intro w'
   go_simp
   with_reducible rfl
  rotate_left
  ·(try simp only [á,ä,ü,é,i64_w,i32_w])
   rfl
  refine pure_ (i:=8) (N:=some 37) (v:=?_) (a':=?_) #[true,false,true,true,false,false,false,true,true,false,false,false,false,false,false,false,false,false] rfl rfl (any_of HT_.out (by kernel_rfl)) (fun _ _ _ h=>h) (Or.inl ⟨by rfl,?_⟩) ?_ ?_
  rotate_left
  ·intro w'
   go_simp
   with_reducible rfl
  rotate_left
  ·(try simp only [á,ä,ü,é,i64_w,i32_w])
   rfl
  refine take_ (i:=1) (N:=some 30) (v:=?_) (a':=?_) #[true,true,true,true,false,false,false,true,true,false,false,false,false,false,false,false,false,false] rfl rfl (take_ofW HT_.out HW_.out (by kernel_rfl)) (fun _ _ _ h=>h) (Or.inl ⟨by rfl,?_⟩) hHeld ?_ ?_
  rotate_left
  ·rintro w' ⟨s0,s1,s2,s3,s4⟩
   go_simp
   with_reducible rfl
  rotate_left
  ·(try simp only [á,ä,ü,é,i64_w,i32_w])
   rfl
  refine take_ (i:=4) (N:=some 33) (v:=?_) (a':=?_) #[true,true,true,true,true,false,false,true,true,false,false,false,false,false,false,false,false,false] rfl rfl (take_ofW HT_.out HW_.out (by kernel_rfl)) (fun _ _ _ h=>h) (Or.inl ⟨by rfl,?_⟩) hHeld ?_ ?_
  rotate_left
  ·rintro w' ⟨s0,s1,s2,s3,s4⟩
   go_simp
   with_reducible rfl
  rotate_left
  ·(try simp only [á,ä,ü,é,i64_w,i32_w])
   rfl
  refine pure_ (i:=5) (N:=some 34) (v:=?_) (a':=?_) #[true,true,true,true,true,true,false,true,true,false,false,false,false,false,false,false,false,false] rfl rfl (any_of HT_.out (by kernel_rfl)) (fun _ _ _ h=>h) (Or.inl ⟨by rfl,?_⟩) ?_ ?_
  rotate_left
  ·intro w'
   go_simp
   with_reducible rfl
  rotate_left
  ·(try simp only [á,ä,ü,é,i64_w,i32_w])
   rfl
  refine take_ (i:=6) (N:=some 35) (v:=?_) (a':=?_) #[true,true,true,true,true,true,true,true,true,false,false,false,false,false,false,false,false,false] rfl rfl (take_ofW HT_.out HW_.out (by kernel_rfl)) (fun _ _ _ h=>h) (Or.inl ⟨by rfl,?_⟩) hHeld ?_ ?_
  rotate_left
  ·rintro w' ⟨s0,s1,s2,s3,s4⟩
   go_simp
   with_reducible rfl
  rotate_left
  ·(try simp only [á,ä,ü,é,i64_w,i32_w])
   rfl
  refine take_ (i:=9) (N:=some 38) (v:=?_) (a':=?_) #[true,true,true,true,true,true,true,true,true,true,false,false,false,false,false,false,false,false] rfl rfl (take_ofW HT_.out HW_.out (by kernel_rfl)) (fun _ _ _ h=>h) (Or.inl ⟨by rfl,?_⟩) hHeld ?_ ?_
  rotate_left
  ·rintro w' ⟨s0,s1,s2,s3,s4⟩
   go_simp
   with_reducible rfl
  rotate_left
  ·(try simp only [á,ä,ü,é,i64_w,i32_w])
   rfl
  refine pure_ (i:=10) (N:=some 39) (v:=?_) (a':=?_) #[true,true,true,true,true,true,true,true,true,true,true,false,false,false,false,false,false,false] rfl rfl (any_of HT_.out (by kernel_rfl)) (fun _ _ _ h=>h) (Or.inl ⟨by rfl,?_⟩) ?_ ?_
  rotate_left
  ·intro w'
   go_simp
   with_reducible rfl
  rotate_left
  ·(try simp only [á,ä,ü,é,i64_w,i32_w])
   rfl
  refine take_ (i:=11) (N:=some 40) (v:=?_) (a':=?_) #[true,true,true,true,true,true,true,true,true,true,true,true,false,false,false,false,false,false] rfl rfl (take_ofW HT_.out HW_.out (by kernel_rfl)) (fun _ _ _ h=>h) (Or.inl ⟨by rfl,?_⟩) hHeld ?_ ?_
  rotate_left
  ·rintro w' ⟨s0,s1,s2,s3,s4⟩
   go_simp
   with_reducible rfl
  rotate_left
  ·(try simp only [á,ä,ü,é,i64_w,i32_w])
   rfl
  refine one_ (i:=12) (N:=some 41) #[true,true,true,true,true,true,true,true,true,true,true,true,true,false,false,false,false,false] rfl rfl (one_of HT_.out (by kernel_rfl)) (by decide) (fun K hK=>?_)
  refine goes_ Try.func54 (by kernel_rfl) rfl #[.int .i64 n,.int .i64 z0,.int .i64 z1] (by rfl) rfl rfl (by (try simp only [List.map_toArray,List.map_cons,List.map_nil]);first | done | rfl | (simp only [List.length_drop,List.length_take];rfl)) ?_
  with_reducible refine (spec_NumDo.calls 1 n z0 z1 r1 r2 _ hnd).mono ?_
  rintro e wt ⟨rfl,⟨nd,rfl⟩⟩
  refine ⟨_,rfl,?_⟩
  have n1:=ö (blk_drewN m1.out nd)
  have n2:=ö (blk_drewN m2.out nd)
  have n3:=ö (blk_drewN m3.out nd)
  have n4:=ö (pw_below_drewN m4.out nd)
  clear m1 m2 m3 m4 hHeld
  have m1:=n1;have m2:=n2;have m3:=n3;have m4:=n4
  clear n1 n2 n3 n4
  generalize w8.drewN nd = w9 at m1 m2 m3 m4 ⊢
  refine hK.out _ _ ⟨(blk_cell m2.out 3).trans rfl,(blk_cell m2.out 1).trans rfl,(m4.out.cell (è w _ hz0)).trans hz0,(blk_cell m2.out 2).trans rfl,(m4.out.cell (è w _ hz1)).trans hz1⟩ (fun hHeld=>?_)
  clear hK K
  refine norm_ (a':=?_) ?_ ?_
  rotate_left
  ·show á _ (some 41) _ = _
   simp only [á,ä,ü,é,i64_w,i32_w]
   rfl
  refine pure_ (i:=13) (N:=some 28) (v:=?_) (a':=?_) #[true,true,true,true,true,true,true,true,true,true,true,true,true,true,false,false,false,false] rfl rfl (any_of HT_.out (by kernel_rfl)) (fun _ _ _ h=>h) (Or.inl ⟨by rfl,?_⟩) ?_ ?_
  rotate_left
  ·intro w'
   go_simp
   with_reducible rfl
  rotate_left
  ·(try simp only [á,ä,ü,é,i64_w,i32_w])
   rfl
  refine pure_ (i:=14) (N:=some 42) (v:=?_) (a':=?_) #[true,true,true,true,true,true,true,true,true,true,true,true,true,true,true,false,false,false] rfl rfl (any_of HT_.out (by kernel_rfl)) (fun _ _ _ h=>h) (Or.inl ⟨by rfl,?_⟩) ?_ ?_
  rotate_left
  ·intro w'
   go_simp
   with_reducible rfl
  rotate_left
  ·(try simp only [á,ä,ü,é,i64_w,i32_w])
   rfl
  refine pure_ (i:=15) (N:=some 43) (v:=?_) (a':=?_) #[true,true,true,true,true,true,true,true,true,true,true,true,true,true,true,true,false,false] rfl rfl (any_of HT_.out (by kernel_rfl)) (fun _ _ _ h=>h) (Or.inl ⟨by rfl,?_⟩) ?_ ?_
  rotate_left
  ·intro w'
   go_simp
   with_reducible rfl
  rotate_left
  ·(try simp only [á,ä,ü,é,i64_w,i32_w])
   rfl
  refine pure_ (i:=16) (N:=some 8) (v:=?_) (a':=?_) #[true,true,true,true,true,true,true,true,true,true,true,true,true,true,true,true,true,false] rfl rfl (any_of HT_.out (by kernel_rfl)) (fun _ _ _ h=>h) (Or.inl ⟨by rfl,?_⟩) ?_ ?_
  rotate_left
  ·intro w'
   go_simp
   with_reducible rfl
  rotate_left
  ·(try simp only [á,ä,ü,é,i64_w,i32_w])
   rfl
  refine pure_ (i:=17) (N:=some 9) (v:=?_) (a':=?_) #[true,true,true,true,true,true,true,true,true,true,true,true,true,true,true,true,true,true] rfl rfl (any_of HT_.out (by kernel_rfl)) (fun _ _ _ h=>h) (Or.inl ⟨by rfl,?_⟩) ?_ ?_
  rotate_left
  ·intro w'
   go_simp
   with_reducible rfl
  rotate_left
  ·(try simp only [á,ä,ü,é,i64_w,i32_w])
   rfl
  refine done_ (done_of HT_.out (by kernel_rfl)) ?_
  clear HT_ HW_
  have hy0:=(m4.out.cell (è w _ hz0)).trans hz0
  have hfy0 : w9.frozen? ⟨gr,aa,none⟩ = false:=(m4.out.frozen (è w _ hz0)).trans hf0
  obtain ⟨hcz_0,hcz_1,hcz_2,hcz_3,hcz_4,hfz_0,hfz_1,hfz_2,hfz_3,hfz_4⟩:=bz5_ m1
  obtain ⟨hcy_0,hcy_1,hcy_2,hcy_3,hcy_4,hcy_5,hfy_0,hfy_1,hfy_2,hfy_3,hfy_4,hfy_5⟩:=bz6_ m2
  obtain ⟨hcx_0,hcx_1,hcx_2,hcx_3,hcx_4,hfx_0,hfx_1,hfx_2,hfx_3,hfx_4⟩:=bz5_ m3
  go_wp2
  refine bodyPost_ret (results_cell_row rfl _ _ br 33 #[.slice (some ⟨g0,0,none⟩) ps.length cap0,.slice (some ⟨g1,0,none⟩) 3 cap1,.slice (some ⟨g2,0,none⟩) 2 cap2,.slice (some ⟨g3,0,none⟩) qs.length cap3,.slice A ys.length c] (0,0) _ rfl (by apply bp5_4_;apply bp5_3_;apply bp5_2_;apply bp5_1_;apply bp5_0_;exact (blk_far (p:=⟨gr,aa,none⟩) m3.out hn0_4 _)) Try.underlying33 rfl (by kernel_rfl)) rfl ?_
  exact ⟨ow,_,ys,rfl,((HS.out.below m4.out).istore gr aa r1 hgr).setW5 (Nat.le_trans WS.out GR.out) (blk_far (p:=⟨gr,aa,none⟩) m3.out hn0_4 _) _ _ _ _ _,fun _ _=>rfl,(((Fr.refl ow w).below m4.out).set ⟨gr,aa,none⟩ _ (.inl (by rw [hgr];decide))).set5 GR.out _ _ _ _ _,.inl rfl⟩
 have f2 : (k == 2) = false:=by simpa using e2
 by_cases e3 : k = 3
 ·subst e3
  obtain ⟨a0,a1,b0,b1⟩:=HK.out.2.2.1 rfl
  obtain ⟨aa,rfl⟩:=Int.eq_ofNat_of_zero_le a0
  obtain ⟨bb,rfl⟩:=Int.eq_ofNat_of_zero_le b0
  replace p1:=eq_true p1
  replace q1:=eq_true q1
  have a2:=eq_true a0
  have a3:=eq_true a1
  have b2:=eq_true b0
  have b3:=eq_true b1
  go_enter Try.func45,Try.ntmps45
  go_wp2_with (first | ((with_reducible refine gate_dst (N:=3) rfl ?_);refine box_event ?hg (N:=3) ?hd (cs:=#[.slice (some ⟨g0,0,none⟩) ps.length cap0,.slice (some ⟨g1,0,none⟩) 3 cap1,.slice (some ⟨g2,0,none⟩) 2 cap2,.slice (some ⟨g3,0,none⟩) qs.length cap3,.slice A ys.length c]) (t:=33) ?hr ?_;(case hd=>rfl);(case hg=>rfl);(case hr=>first | (go_simp;done) | (go_simp;rfl));intro bw hg w5 hbox hb;replace HB:=ö (below_step HB.out hb);have GW:=ö (Nat.le_of_eq hg.symm);have BW:=ö hbox;clear hb hbox hg) | ((with_reducible refine gate_dst (N:=5) rfl ?_);refine box_event ?hg (N:=5) ?hd (cs:=#[.int .i64 3,.int .i64 (aa : Int),.int .i64 (bb : Int),.int .i64 n,.slice A4 n4 c4,.slice A5 n5 c5]) (t:=69) ?hr ?_;(case hd=>rfl);(case hg=>rfl);(case hr=>first | (go_simp;done) | (go_simp;rfl));intro bs hg w6 hbox hb;have n1_:=ö (blk_below BW.out hb);have NS:=ö (show bw ≠ bs by rw [hg];exact Nat.ne_of_lt (blk_lt BW.out));have GS:=ö (show w.heap.size ≤ bs by rw [hg];exact HB.out.size);replace HB:=ö (below_step HB.out hb);clear BW;have BW:=n1_;clear n1_;have BS:=ö hbox;clear hb hbox hg) | ((with_reducible refine gate_dst (N:=6) rfl ?_);refine box_event ?hg (N:=6) ?hd (cs:=#[.slice none 0 0,.slice none 0 0,.slice none 0 0,.slice none 0 0,.slice none 0 0]) (t:=33) ?hr ?_;(case hd=>rfl);(case hg=>rfl);(case hr=>first | (go_simp;done) | (go_simp;rfl));intro br hg w7 hbox hb;have n1_:=ö (blk_below BW.out hb);have n2_:=ö (blk_below BS.out hb);have NR:=ö (show bw ≠ br by rw [hg];exact Nat.ne_of_lt (blk_lt BW.out));have GR:=ö (show w.heap.size ≤ br by rw [hg];exact HB.out.size);replace HB:=ö (below_step HB.out hb);clear BW BS;have BW:=n1_;have BS:=n2_;clear n1_ n2_;have BR:=ö hbox;obtain ⟨hcz_0,hcz_1,hcz_2,hcz_3,hcz_4,hfz_0,hfz_1,hfz_2,hfz_3,hfz_4⟩:=bz5_ BW;obtain ⟨hcy_0,hcy_1,hcy_2,hcy_3,hcy_4,hcy_5,hfy_0,hfy_1,hfy_2,hfy_3,hfy_4,hfy_5⟩:=bz6_ BS;obtain ⟨hcx_0,hcx_1,hcx_2,hcx_3,hcx_4,hfx_0,hfx_1,hfx_2,hfx_3,hfx_4⟩:=bz5_ BR;have hcr:=(HB.out.cell (è w _ HCR.out)).trans HCR.out;have hn1:=NR.out;have hn2:=hn1.symm;obtain ⟨z0,hz0,hf0⟩:=HG.out aa (by omega);have hx0:=(HB.out.cell (è w _ hz0)).trans hz0;have hfx0 : w7.frozen? ⟨gr,aa,none⟩ = false:=(HB.out.frozen (è w _ hz0)).trans hf0;have hn0_1 : gr ≠ bw:=(by have h1:=GW.out;have h3 : gr < w.heap.size:=è w _ hz0;omega);have hn0_2 : gr ≠ br:=(by have h1:=GR.out;have h3 : gr < w.heap.size:=è w _ hz0;omega);have hn0_3:=hn0_1.symm;have hn0_4:=hn0_2.symm;obtain ⟨z1,hz1,hf1⟩:=HC.out bb (by omega);have hx1:=(HB.out.cell (è w _ hz1)).trans hz1;have hfx1 : w7.frozen? ⟨g1,bb,none⟩ = false:=(HB.out.frozen (è w _ hz1)).trans hf1;have hn1_1 : g1 ≠ bw:=(by have h1:=GW.out;have h3 : g1 < w.heap.size:=è w _ hz1;omega);have hn1_2 : g1 ≠ br:=(by have h1:=GR.out;have h3 : g1 < w.heap.size:=è w _ hz1;omega);have hn1_3:=hn1_1.symm;have hn1_4:=hn1_2.symm;clear hb hbox hg))
  have m1:=ö (blk_drew BW.out)
  have m2:=ö (blk_drew BS.out)
  have m3:=ö (blk_drew BR.out)
  have m4:=ö (below_drew1 HB.out)
  clear hcz_0 hcz_1 hcz_2 hcz_3 hcz_4 hfz_0 hfz_1 hfz_2 hfz_3 hfz_4 hcx_0 hcx_1 hcx_2 hcx_3 hcx_4 hfx_0 hfx_1 hfx_2 hfx_3 hfx_4 hcy_0 hcy_1 hcy_2 hcy_3 hcy_4 hcy_5 hfy_0 hfy_1 hfy_2 hfy_3 hfy_4 hfy_5
  refine start_ (n:=11) (S:=fun w'=>w'.cell? ⟨bs,1,none⟩ = some (.int .i64 (aa : Int)) ∧ w'.cell? ⟨bw,1,none⟩ = some (.slice (some ⟨g1,0,none⟩) 3 cap1) ∧ w'.cell? ⟨bs,2,none⟩ = some (.int .i64 (bb : Int)) ∧ w'.cell? ⟨g1,bb,none⟩ = some (.int .i64 z1)) (ds:=[10]) #[false,false,false,false,false,false,false,false,false,false,false] (by kernel_rfl) rfl rfl ⟨(blk_cell m2.out 1).trans rfl,(blk_cell m1.out 1).trans rfl,(blk_cell m2.out 2).trans rfl,hx1⟩ (fun hHeld=>?_)
  refine with_tabW leaf9_tab leaf9_bits (fun HT_ HW_=>?_)
  generalize w7.drew = w8 at m1 m2 m3 m4 hHeld ⊢
  refine pure_ (i:=0) (N:=some 51) (v:=?_) (a':=?_) #[true,false,false,false,false,false,false,false,false,false,false] rfl rfl (any_of HT_.out (by kernel_rfl)) (fun _ _ _ h=>h) (Or.inl ⟨by rfl,?_⟩) ?_ ?_
  rotate_left
  ·intro w'
   go_simp
   with_reducible rfl
  rotate_left
  ·(try simp only [á,ä,ü,é,i64_w,i32_w])
   rfl
  refine pure_ (i:=1) (N:=some 52) (v:=?_) (a':=?_) #[true,true,false,false,false,false,false,false,false,false,false] rfl rfl (any_of HT_.out (by kernel_rfl)) (fun _ _ _ h=>h) (Or.inl ⟨by rfl,?_⟩) ?_ ?_
  rotate_left
  ·intro w'
   go_simp
   with_reducible rfl
  rotate_left
  ·(try simp only [á,ä,ü,é,i64_w,i32_w])
   rfl
  refine pure_ (i:=3) (N:=some 54) (v:=?_) (a':=?_) #[true,true,false,true,false,false,false,false,false,false,false] rfl rfl (any_of HT_.out (by kernel_rfl)) (fun _ _ _ h=>h) (Or.inl ⟨by rfl,?_⟩) ?_ ?_
  rotate_left
  ·intro w'
   go_simp
   with_reducible rfl
  rotate_left
  ·(try simp only [á,ä,ü,é,i64_w,i32_w])
   rfl
  refine pure_ (i:=5) (N:=some 56) (v:=?_) (a':=?_) #[true,true,false,true,false,true,false,false,false,false,false] rfl rfl (any_of HT_.out (by kernel_rfl)) (fun _ _ _ h=>h) (Or.inl ⟨by rfl,?_⟩) ?_ ?_
  rotate_left
  ·intro w'
   go_simp
   with_reducible rfl
  rotate_left
  ·(try simp only [á,ä,ü,é,i64_w,i32_w])
   rfl
  refine take_ (i:=2) (N:=some 53) (v:=?_) (a':=?_) #[true,true,true,true,false,true,false,false,false,false,false] rfl rfl (take_ofW HT_.out HW_.out (by kernel_rfl)) (fun _ _ _ h=>h) (Or.inl ⟨by rfl,?_⟩) hHeld ?_ ?_
  rotate_left
  ·rintro w' ⟨s0,s1,s2,s3⟩
   go_simp
   with_reducible rfl
  rotate_left
  ·(try simp only [á,ä,ü,é,i64_w,i32_w])
   rfl
  refine take_ (i:=4) (N:=some 55) (v:=?_) (a':=?_) #[true,true,true,true,true,true,false,false,false,false,false] rfl rfl (take_ofW HT_.out HW_.out (by kernel_rfl)) (fun _ _ _ h=>h) (Or.inl ⟨by rfl,?_⟩) hHeld ?_ ?_
  rotate_left
  ·rintro w' ⟨s0,s1,s2,s3⟩
   go_simp
   with_reducible rfl
  rotate_left
  ·(try simp only [á,ä,ü,é,i64_w,i32_w])
   rfl
  refine take_ (i:=6) (N:=some 57) (v:=?_) (a':=?_) #[true,true,true,true,true,true,true,false,false,false,false] rfl rfl (take_ofW HT_.out HW_.out (by kernel_rfl)) (fun _ _ _ h=>h) (Or.inl ⟨by rfl,?_⟩) hHeld ?_ ?_
  rotate_left
  ·rintro w' ⟨s0,s1,s2,s3⟩
   go_simp
   with_reducible rfl
  rotate_left
  ·(try simp only [á,ä,ü,é,i64_w,i32_w])
   rfl
  refine pure_ (i:=7) (N:=some 58) (v:=?_) (a':=?_) #[true,true,true,true,true,true,true,true,false,false,false] rfl rfl (any_of HT_.out (by kernel_rfl)) (fun _ _ _ h=>h) (Or.inl ⟨by rfl,?_⟩) ?_ ?_
  rotate_left
  ·intro w'
   go_simp
   with_reducible rfl
  rotate_left
  ·(try simp only [á,ä,ü,é,i64_w,i32_w])
   rfl
  refine take_ (i:=8) (N:=some 59) (v:=?_) (a':=?_) #[true,true,true,true,true,true,true,true,true,false,false] rfl rfl (take_ofW HT_.out HW_.out (by kernel_rfl)) (fun _ _ _ h=>h) (Or.inl ⟨by rfl,?_⟩) hHeld ?_ ?_
  rotate_left
  ·rintro w' ⟨s0,s1,s2,s3⟩
   go_simp
   with_reducible rfl
  rotate_left
  ·(try simp only [á,ä,ü,é,i64_w,i32_w])
   rfl
  refine pure_ (i:=9) (N:=some 60) (v:=?_) (a':=?_) #[true,true,true,true,true,true,true,true,true,true,false] rfl rfl (any_of HT_.out (by kernel_rfl)) (fun _ _ _ h=>h) (Or.inl ⟨by rfl,?_⟩) ?_ ?_
  rotate_left
  ·intro w'
   go_simp
   with_reducible rfl
  rotate_left
  ·(try simp only [á,ä,ü,é,i64_w,i32_w])
   rfl
  have hy0:=(m4.out.cell (è w _ hz0)).trans hz0
  have hfy0 : w8.frozen? ⟨gr,aa,none⟩ = false:=(m4.out.frozen (è w _ hz0)).trans hf0
  refine last_ (i:=10) (N:=none) #[true,true,true,true,true,true,true,true,true,true,true] rfl rfl (one_of HT_.out (by kernel_rfl)) (by decide) (fun K hK=>?_)
  refine skip_ (w1:=?_) (by rfl) rfl ?_ ?_
  rotate_left
  ·go_simp
   rfl
  refine hK.out _ _ ?_
  clear hK K
  refine done_ (done_of HT_.out (by kernel_rfl)) ?_
  clear HT_ HW_
  obtain ⟨hcz_0,hcz_1,hcz_2,hcz_3,hcz_4,hfz_0,hfz_1,hfz_2,hfz_3,hfz_4⟩:=bz5_ m1
  obtain ⟨hcx_0,hcx_1,hcx_2,hcx_3,hcx_4,hfx_0,hfx_1,hfx_2,hfx_3,hfx_4⟩:=bz5_ m3
  go_wp2
  refine bodyPost_ret (results_cell_row rfl _ _ br 33 #[.slice (some ⟨g0,0,none⟩) ps.length cap0,.slice (some ⟨g1,0,none⟩) 3 cap1,.slice (some ⟨g2,0,none⟩) 2 cap2,.slice (some ⟨g3,0,none⟩) qs.length cap3,.slice A ys.length c] (0,0) _ rfl (by apply bp5_4_;apply bp5_3_;apply bp5_2_;apply bp5_1_;apply bp5_0_;exact (blk_far (p:=⟨gr,aa,none⟩) m3.out hn0_4 _)) Try.underlying33 rfl (by kernel_rfl)) rfl ?_
  exact ⟨ow,_,ys,rfl,((HS.out.below m4.out).istore gr aa z1 hgr).setW5 (Nat.le_trans WS.out GR.out) (blk_far (p:=⟨gr,aa,none⟩) m3.out hn0_4 _) _ _ _ _ _,fun _ _=>rfl,(((Fr.refl ow w).below m4.out).set ⟨gr,aa,none⟩ _ (.inl (by rw [hgr];decide))).set5 GR.out _ _ _ _ _,.inl rfl⟩
 have f3 : (k == 3) = false:=by simpa using e3
 by_cases e4 : k = 4
 ·subst e4
  obtain ⟨a0,a1,b0,b1⟩:=HK.out.2.2.2.1 rfl
  obtain ⟨aa,rfl⟩:=Int.eq_ofNat_of_zero_le a0
  obtain ⟨bb,rfl⟩:=Int.eq_ofNat_of_zero_le b0
  replace p1:=eq_true p1
  replace q1:=eq_true q1
  have a2:=eq_true a0
  have a3:=eq_true a1
  have b2:=eq_true b0
  have b3:=eq_true b1
  go_enter Try.func45,Try.ntmps45
  go_wp2_with (first | ((with_reducible refine gate_dst (N:=3) rfl ?_);refine box_event ?hg (N:=3) ?hd (cs:=#[.slice (some ⟨g0,0,none⟩) ps.length cap0,.slice (some ⟨g1,0,none⟩) 3 cap1,.slice (some ⟨g2,0,none⟩) 2 cap2,.slice (some ⟨g3,0,none⟩) qs.length cap3,.slice A ys.length c]) (t:=33) ?hr ?_;(case hd=>rfl);(case hg=>rfl);(case hr=>first | (go_simp;done) | (go_simp;rfl));intro bw hg w5 hbox hb;replace HB:=ö (below_step HB.out hb);have GW:=ö (Nat.le_of_eq hg.symm);have BW:=ö hbox;clear hb hbox hg) | ((with_reducible refine gate_dst (N:=5) rfl ?_);refine box_event ?hg (N:=5) ?hd (cs:=#[.int .i64 4,.int .i64 (aa : Int),.int .i64 (bb : Int),.int .i64 n,.slice A4 n4 c4,.slice A5 n5 c5]) (t:=69) ?hr ?_;(case hd=>rfl);(case hg=>rfl);(case hr=>first | (go_simp;done) | (go_simp;rfl));intro bs hg w6 hbox hb;have n1_:=ö (blk_below BW.out hb);have NS:=ö (show bw ≠ bs by rw [hg];exact Nat.ne_of_lt (blk_lt BW.out));have GS:=ö (show w.heap.size ≤ bs by rw [hg];exact HB.out.size);replace HB:=ö (below_step HB.out hb);clear BW;have BW:=n1_;clear n1_;have BS:=ö hbox;clear hb hbox hg) | ((with_reducible refine gate_dst (N:=6) rfl ?_);refine box_event ?hg (N:=6) ?hd (cs:=#[.slice none 0 0,.slice none 0 0,.slice none 0 0,.slice none 0 0,.slice none 0 0]) (t:=33) ?hr ?_;(case hd=>rfl);(case hg=>rfl);(case hr=>first | (go_simp;done) | (go_simp;rfl));intro br hg w7 hbox hb;have n1_:=ö (blk_below BW.out hb);have n2_:=ö (blk_below BS.out hb);have NR:=ö (show bw ≠ br by rw [hg];exact Nat.ne_of_lt (blk_lt BW.out));have GR:=ö (show w.heap.size ≤ br by rw [hg];exact HB.out.size);replace HB:=ö (below_step HB.out hb);clear BW BS;have BW:=n1_;have BS:=n2_;clear n1_ n2_;have BR:=ö hbox;obtain ⟨hcz_0,hcz_1,hcz_2,hcz_3,hcz_4,hfz_0,hfz_1,hfz_2,hfz_3,hfz_4⟩:=bz5_ BW;obtain ⟨hcy_0,hcy_1,hcy_2,hcy_3,hcy_4,hcy_5,hfy_0,hfy_1,hfy_2,hfy_3,hfy_4,hfy_5⟩:=bz6_ BS;obtain ⟨hcx_0,hcx_1,hcx_2,hcx_3,hcx_4,hfx_0,hfx_1,hfx_2,hfx_3,hfx_4⟩:=bz5_ BR;have hcr:=(HB.out.cell (è w _ HCR.out)).trans HCR.out;have hn1:=NR.out;have hn2:=hn1.symm;obtain ⟨z0,hz0,hf0⟩:=HC.out aa (by omega);have hx0:=(HB.out.cell (è w _ hz0)).trans hz0;have hfx0 : w7.frozen? ⟨g1,aa,none⟩ = false:=(HB.out.frozen (è w _ hz0)).trans hf0;have hn0_1 : g1 ≠ bw:=(by have h1:=GW.out;have h3 : g1 < w.heap.size:=è w _ hz0;omega);have hn0_2 : g1 ≠ br:=(by have h1:=GR.out;have h3 : g1 < w.heap.size:=è w _ hz0;omega);have hn0_3:=hn0_1.symm;have hn0_4:=hn0_2.symm;obtain ⟨z1,hz1,hf1⟩:=HG.out bb (by omega);have hx1:=(HB.out.cell (è w _ hz1)).trans hz1;have hfx1 : w7.frozen? ⟨gr,bb,none⟩ = false:=(HB.out.frozen (è w _ hz1)).trans hf1;have hn1_1 : gr ≠ bw:=(by have h1:=GW.out;have h3 : gr < w.heap.size:=è w _ hz1;omega);have hn1_2 : gr ≠ br:=(by have h1:=GR.out;have h3 : gr < w.heap.size:=è w _ hz1;omega);have hn1_3:=hn1_1.symm;have hn1_4:=hn1_2.symm;clear hb hbox hg))
  have m1:=ö (blk_drew BW.out)
  have m2:=ö (blk_drew BS.out)
  have m3:=ö (blk_drew BR.out)
  have m4:=ö (below_drew1 HB.out)
  clear hcz_0 hcz_1 hcz_2 hcz_3 hcz_4 hfz_0 hfz_1 hfz_2 hfz_3 hfz_4 hcx_0 hcx_1 hcx_2 hcx_3 hcx_4 hfx_0 hfx_1 hfx_2 hfx_3 hfx_4 hcy_0 hcy_1 hcy_2 hcy_3 hcy_4 hcy_5 hfy_0 hfy_1 hfy_2 hfy_3 hfy_4 hfy_5
  refine start_ (n:=11) (S:=fun w'=>w'.cell? ⟨bw,1,none⟩ = some (.slice (some ⟨g1,0,none⟩) 3 cap1) ∧ w'.cell? ⟨bs,1,none⟩ = some (.int .i64 (aa : Int)) ∧ w'.cell? ⟨bs,2,none⟩ = some (.int .i64 (bb : Int)) ∧ w'.cell? ⟨gr,bb,none⟩ = some (.int .i64 z1)) (ds:=[10]) #[false,false,false,false,false,false,false,false,false,false,false] (by kernel_rfl) rfl rfl ⟨(blk_cell m1.out 1).trans rfl,(blk_cell m2.out 1).trans rfl,(blk_cell m2.out 2).trans rfl,hx1⟩ (fun hHeld=>?_)
  refine with_tabW leaf11_tab leaf11_bits (fun HT_ HW_=>?_)
  generalize w7.drew = w8 at m1 m2 m3 m4 hHeld ⊢
  refine pure_ (i:=0) (N:=some 63) (v:=?_) (a':=?_) #[true,false,false,false,false,false,false,false,false,false,false] rfl rfl (any_of HT_.out (by kernel_rfl)) (fun _ _ _ h=>h) (Or.inl ⟨by rfl,?_⟩) ?_ ?_
  rotate_left
  ·intro w'
   go_simp
   with_reducible rfl
  rotate_left
  ·(try simp only [á,ä,ü,é,i64_w,i32_w])
   rfl
  refine pure_ (i:=2) (N:=some 65) (v:=?_) (a':=?_) #[true,false,true,false,false,false,false,false,false,false,false] rfl rfl (any_of HT_.out (by kernel_rfl)) (fun _ _ _ h=>h) (Or.inl ⟨by rfl,?_⟩) ?_ ?_
  rotate_left
  ·intro w'
   go_simp
   with_reducible rfl
  rotate_left
  ·(try simp only [á,ä,ü,é,i64_w,i32_w])
   rfl
  refine pure_ (i:=4) (N:=some 67) (v:=?_) (a':=?_) #[true,false,true,false,true,false,false,false,false,false,false] rfl rfl (any_of HT_.out (by kernel_rfl)) (fun _ _ _ h=>h) (Or.inl ⟨by rfl,?_⟩) ?_ ?_
  rotate_left
  ·intro w'
   go_simp
   with_reducible rfl
  rotate_left
  ·(try simp only [á,ä,ü,é,i64_w,i32_w])
   rfl
  refine pure_ (i:=5) (N:=some 68) (v:=?_) (a':=?_) #[true,false,true,false,true,true,false,false,false,false,false] rfl rfl (any_of HT_.out (by kernel_rfl)) (fun _ _ _ h=>h) (Or.inl ⟨by rfl,?_⟩) ?_ ?_
  rotate_left
  ·intro w'
   go_simp
   with_reducible rfl
  rotate_left
  ·(try simp only [á,ä,ü,é,i64_w,i32_w])
   rfl
  refine take_ (i:=1) (N:=some 64) (v:=?_) (a':=?_) #[true,true,true,false,true,true,false,false,false,false,false] rfl rfl (take_ofW HT_.out HW_.out (by kernel_rfl)) (fun _ _ _ h=>h) (Or.inl ⟨by rfl,?_⟩) hHeld ?_ ?_
  rotate_left
  ·rintro w' ⟨s0,s1,s2,s3⟩
   go_simp
   with_reducible rfl
  rotate_left
  ·(try simp only [á,ä,ü,é,i64_w,i32_w])
   rfl
  refine take_ (i:=3) (N:=some 66) (v:=?_) (a':=?_) #[true,true,true,true,true,true,false,false,false,false,false] rfl rfl (take_ofW HT_.out HW_.out (by kernel_rfl)) (fun _ _ _ h=>h) (Or.inl ⟨by rfl,?_⟩) hHeld ?_ ?_
  rotate_left
  ·rintro w' ⟨s0,s1,s2,s3⟩
   go_simp
   with_reducible rfl
  rotate_left
  ·(try simp only [á,ä,ü,é,i64_w,i32_w])
   rfl
  refine take_ (i:=6) (N:=some 69) (v:=?_) (a':=?_) #[true,true,true,true,true,true,true,false,false,false,false] rfl rfl (take_ofW HT_.out HW_.out (by kernel_rfl)) (fun _ _ _ h=>h) (Or.inl ⟨by rfl,?_⟩) hHeld ?_ ?_
  rotate_left
  ·rintro w' ⟨s0,s1,s2,s3⟩
   go_simp
   with_reducible rfl
  rotate_left
  ·(try simp only [á,ä,ü,é,i64_w,i32_w])
   rfl
  refine pure_ (i:=7) (N:=some 70) (v:=?_) (a':=?_) #[true,true,true,true,true,true,true,true,false,false,false] rfl rfl (any_of HT_.out (by kernel_rfl)) (fun _ _ _ h=>h) (Or.inl ⟨by rfl,?_⟩) ?_ ?_
  rotate_left
  ·intro w'
   go_simp
   with_reducible rfl
  rotate_left
  ·(try simp only [á,ä,ü,é,i64_w,i32_w])
   rfl
  refine take_ (i:=8) (N:=some 71) (v:=?_) (a':=?_) #[true,true,true,true,true,true,true,true,true,false,false] rfl rfl (take_ofW HT_.out HW_.out (by kernel_rfl)) (fun _ _ _ h=>h) (Or.inl ⟨by rfl,?_⟩) hHeld ?_ ?_
  rotate_left
  ·rintro w' ⟨s0,s1,s2,s3⟩
   go_simp
   with_reducible rfl
  rotate_left
  ·(try simp only [á,ä,ü,é,i64_w,i32_w])
   rfl
  refine pure_ (i:=9) (N:=some 72) (v:=?_) (a':=?_) #[true,true,true,true,true,true,true,true,true,true,false] rfl rfl (any_of HT_.out (by kernel_rfl)) (fun _ _ _ h=>h) (Or.inl ⟨by rfl,?_⟩) ?_ ?_
  rotate_left
  ·intro w'
   go_simp
   with_reducible rfl
  rotate_left
  ·(try simp only [á,ä,ü,é,i64_w,i32_w])
   rfl
  have hy0:=(m4.out.cell (è w _ hz0)).trans hz0
  have hfy0 : w8.frozen? ⟨g1,aa,none⟩ = false:=(m4.out.frozen (è w _ hz0)).trans hf0
  refine last_ (i:=10) (N:=none) #[true,true,true,true,true,true,true,true,true,true,true] rfl rfl (one_of HT_.out (by kernel_rfl)) (by decide) (fun K hK=>?_)
  refine skip_ (w1:=?_) (by rfl) rfl ?_ ?_
  rotate_left
  ·go_simp
   rfl
  refine hK.out _ _ ?_
  clear hK K
  refine done_ (done_of HT_.out (by kernel_rfl)) ?_
  clear HT_ HW_
  obtain ⟨hcz_0,hcz_1,hcz_2,hcz_3,hcz_4,hfz_0,hfz_1,hfz_2,hfz_3,hfz_4⟩:=bz5_ m1
  obtain ⟨hcx_0,hcx_1,hcx_2,hcx_3,hcx_4,hfx_0,hfx_1,hfx_2,hfx_3,hfx_4⟩:=bz5_ m3
  go_wp2
  refine bodyPost_ret (results_cell_row rfl _ _ br 33 #[.slice (some ⟨g0,0,none⟩) ps.length cap0,.slice (some ⟨g1,0,none⟩) 3 cap1,.slice (some ⟨g2,0,none⟩) 2 cap2,.slice (some ⟨g3,0,none⟩) qs.length cap3,.slice A ys.length c] (0,0) _ rfl (by apply bp5_4_;apply bp5_3_;apply bp5_2_;apply bp5_1_;apply bp5_0_;exact (blk_far (p:=⟨g1,aa,none⟩) m3.out hn0_4 _)) Try.underlying33 rfl (by kernel_rfl)) rfl ?_
  exact ⟨ow,_,ys,rfl,((HS.out.below m4.out).istore g1 aa z1 hg1).setW5 (Nat.le_trans WS.out GR.out) (blk_far (p:=⟨g1,aa,none⟩) m3.out hn0_4 _) _ _ _ _ _,fun _ _=>rfl,(((Fr.refl ow w).below m4.out).set ⟨g1,aa,none⟩ _ (.inl (by rw [hg1];decide))).set5 GR.out _ _ _ _ _,.inl rfl⟩
 have f4 : (k == 4) = false:=by simpa using e4
 by_cases e5 : k = 5
 ·subst e5
  obtain ⟨a0,a1⟩:=HK.out.2.2.2.2 rfl
  obtain ⟨aa,rfl⟩:=Int.eq_ofNat_of_zero_le a0
  replace p1:=eq_true p1
  replace q1:=eq_true q1
  have a2:=eq_true a0
  have a3:=eq_true a1
  go_enter Try.func45,Try.ntmps45
  go_wp2_with (first | ((with_reducible refine gate_dst (N:=3) rfl ?_);refine box_event ?hg (N:=3) ?hd (cs:=#[.slice (some ⟨g0,0,none⟩) ps.length cap0,.slice (some ⟨g1,0,none⟩) 3 cap1,.slice (some ⟨g2,0,none⟩) 2 cap2,.slice (some ⟨g3,0,none⟩) qs.length cap3,.slice A ys.length c]) (t:=33) ?hr ?_;(case hd=>rfl);(case hg=>rfl);(case hr=>first | (go_simp;done) | (go_simp;rfl));intro bw hg w5 hbox hb;replace HB:=ö (below_step HB.out hb);have GW:=ö (Nat.le_of_eq hg.symm);have BW:=ö hbox;clear hb hbox hg) | ((with_reducible refine gate_dst (N:=5) rfl ?_);refine box_event ?hg (N:=5) ?hd (cs:=#[.int .i64 5,.int .i64 (aa : Int),.int .i64 b,.int .i64 n,.slice A4 n4 c4,.slice A5 n5 c5]) (t:=69) ?hr ?_;(case hd=>rfl);(case hg=>rfl);(case hr=>first | (go_simp;done) | (go_simp;rfl));intro bs hg w6 hbox hb;have n1_:=ö (blk_below BW.out hb);have NS:=ö (show bw ≠ bs by rw [hg];exact Nat.ne_of_lt (blk_lt BW.out));have GS:=ö (show w.heap.size ≤ bs by rw [hg];exact HB.out.size);replace HB:=ö (below_step HB.out hb);clear BW;have BW:=n1_;clear n1_;have BS:=ö hbox;clear hb hbox hg) | ((with_reducible refine gate_dst (N:=6) rfl ?_);refine box_event ?hg (N:=6) ?hd (cs:=#[.slice none 0 0,.slice none 0 0,.slice none 0 0,.slice none 0 0,.slice none 0 0]) (t:=33) ?hr ?_;(case hd=>rfl);(case hg=>rfl);(case hr=>first | (go_simp;done) | (go_simp;rfl));intro br hg w7 hbox hb;have n1_:=ö (blk_below BW.out hb);have n2_:=ö (blk_below BS.out hb);have NR:=ö (show bw ≠ br by rw [hg];exact Nat.ne_of_lt (blk_lt BW.out));have GR:=ö (show w.heap.size ≤ br by rw [hg];exact HB.out.size);replace HB:=ö (below_step HB.out hb);clear BW BS;have BW:=n1_;have BS:=n2_;clear n1_ n2_;have BR:=ö hbox;obtain ⟨hcz_0,hcz_1,hcz_2,hcz_3,hcz_4,hfz_0,hfz_1,hfz_2,hfz_3,hfz_4⟩:=bz5_ BW;obtain ⟨hcy_0,hcy_1,hcy_2,hcy_3,hcy_4,hcy_5,hfy_0,hfy_1,hfy_2,hfy_3,hfy_4,hfy_5⟩:=bz6_ BS;obtain ⟨hcx_0,hcx_1,hcx_2,hcx_3,hcx_4,hfx_0,hfx_1,hfx_2,hfx_3,hfx_4⟩:=bz5_ BR;have hcr:=(HB.out.cell (è w _ HCR.out)).trans HCR.out;have hn1:=NR.out;have hn2:=hn1.symm;obtain ⟨z0,hz0,hf0⟩:=HG.out aa (by omega);have hx0:=(HB.out.cell (è w _ hz0)).trans hz0;have hfx0 : w7.frozen? ⟨gr,aa,none⟩ = false:=(HB.out.frozen (è w _ hz0)).trans hf0;have hn0_1 : gr ≠ bw:=(by have h1:=GW.out;have h3 : gr < w.heap.size:=è w _ hz0;omega);have hn0_2 : gr ≠ br:=(by have h1:=GR.out;have h3 : gr < w.heap.size:=è w _ hz0;omega);have hn0_3:=hn0_1.symm;have hn0_4:=hn0_2.symm;clear hb hbox hg))
  have m1:=ö (blk_drew BW.out)
  have m2:=ö (blk_drew BS.out)
  have m3:=ö (blk_drew BR.out)
  have m4:=ö (below_drew1 HB.out)
  clear hcz_0 hcz_1 hcz_2 hcz_3 hcz_4 hfz_0 hfz_1 hfz_2 hfz_3 hfz_4 hcx_0 hcx_1 hcx_2 hcx_3 hcx_4 hfx_0 hfx_1 hfx_2 hfx_3 hfx_4 hcy_0 hcy_1 hcy_2 hcy_3 hcy_4 hcy_5 hfy_0 hfy_1 hfy_2 hfy_3 hfy_4 hfy_5
  refine start_ (n:=13) (S:=fun w'=>w'.cell? ⟨bw,4,none⟩ = some (.slice A ys.length c) ∧ w'.cell? ⟨bs,1,none⟩ = some (.int .i64 (aa : Int)) ∧ w'.cell? ⟨gr,aa,none⟩ = some (.int .i64 z0)) (ds:=[12]) #[false,false,false,false,false,false,false,false,false,false,false,false,false] (by kernel_rfl) rfl rfl ⟨(blk_cell m1.out 4).trans rfl,(blk_cell m2.out 1).trans rfl,hx0⟩ (fun hHeld=>?_)
  refine with_tabW leaf13_tab leaf13_bits (fun HT_ HW_=>?_)
  generalize w7.drew = w8 at m1 m2 m3 m4 hHeld ⊢
  refine pure_ (i:=0) (N:=some 75) (v:=?_) (a':=?_) #[true,false,false,false,false,false,false,false,false,false,false,false,false] rfl rfl (any_of HT_.out (by kernel_rfl)) (fun _ _ _ h=>h) (Or.inl ⟨by rfl,?_⟩) ?_ ?_
  rotate_left
  ·intro w'
   go_simp
   with_reducible rfl
  rotate_left
  ·(try simp only [á,ä,ü,é,i64_w,i32_w])
   rfl
  refine pure_ (i:=2) (N:=some 77) (v:=?_) (a':=?_) #[true,false,true,false,false,false,false,false,false,false,false,false,false] rfl rfl (any_of HT_.out (by kernel_rfl)) (fun _ _ _ h=>h) (Or.inl ⟨by rfl,?_⟩) ?_ ?_
  rotate_left
  ·intro w'
   go_simp
   with_reducible rfl
  rotate_left
  ·(try simp only [á,ä,ü,é,i64_w,i32_w])
   rfl
  refine pure_ (i:=3) (N:=some 78) (v:=?_) (a':=?_) #[true,false,true,true,false,false,false,false,false,false,false,false,false] rfl rfl (any_of HT_.out (by kernel_rfl)) (fun _ _ _ h=>h) (Or.inl ⟨by rfl,?_⟩) ?_ ?_
  rotate_left
  ·intro w'
   go_simp
   with_reducible rfl
  rotate_left
  ·(try simp only [á,ä,ü,é,i64_w,i32_w])
   rfl
  refine pure_ (i:=4) (N:=some 79) (v:=?_) (a':=?_) #[true,false,true,true,true,false,false,false,false,false,false,false,false] rfl rfl (any_of HT_.out (by kernel_rfl)) (fun _ _ _ h=>h) (Or.inl ⟨by rfl,?_⟩) ?_ ?_
  rotate_left
  ·intro w'
   go_simp
   with_reducible rfl
  rotate_left
  ·(try simp only [á,ä,ü,é,i64_w,i32_w])
   rfl
  refine take_ (i:=1) (N:=some 76) (v:=?_) (a':=?_) #[true,true,true,true,true,false,false,false,false,false,false,false,false] rfl rfl (take_ofW HT_.out HW_.out (by kernel_rfl)) (fun _ _ _ h=>h) (Or.inl ⟨by rfl,?_⟩) hHeld ?_ ?_
  rotate_left
  ·rintro w' ⟨s0,s1,s2⟩
   go_simp
   with_reducible rfl
  rotate_left
  ·(try simp only [á,ä,ü,é,i64_w,i32_w])
   rfl
  refine take_ (i:=5) (N:=some 80) (v:=?_) (a':=?_) #[true,true,true,true,true,true,false,false,false,false,false,false,false] rfl rfl (take_ofW HT_.out HW_.out (by kernel_rfl)) (fun _ _ _ h=>h) (Or.inl ⟨by rfl,?_⟩) hHeld ?_ ?_
  rotate_left
  ·rintro w' ⟨s0,s1,s2⟩
   go_simp
   with_reducible rfl
  rotate_left
  ·(try simp only [á,ä,ü,é,i64_w,i32_w])
   rfl
  refine pure_ (i:=6) (N:=some 81) (v:=?_) (a':=?_) #[true,true,true,true,true,true,true,false,false,false,false,false,false] rfl rfl (any_of HT_.out (by kernel_rfl)) (fun _ _ _ h=>h) (Or.inl ⟨by rfl,?_⟩) ?_ ?_
  rotate_left
  ·intro w'
   go_simp
   with_reducible rfl
  rotate_left
  ·(try simp only [á,ä,ü,é,i64_w,i32_w])
   rfl
  refine take_ (i:=7) (N:=some 82) (v:=?_) (a':=?_) #[true,true,true,true,true,true,true,true,false,false,false,false,false] rfl rfl (take_ofW HT_.out HW_.out (by kernel_rfl)) (fun _ _ _ h=>h) (Or.inl ⟨by rfl,?_⟩) hHeld ?_ ?_
  rotate_left
  ·rintro w' ⟨s0,s1,s2⟩
   go_simp
   with_reducible rfl
  rotate_left
  ·(try simp only [á,ä,ü,é,i64_w,i32_w])
   rfl
  refine pure_ (i:=8) (N:=some 83) (v:=?_) (a':=?_) #[true,true,true,true,true,true,true,true,true,false,false,false,false] rfl rfl (any_of HT_.out (by kernel_rfl)) (fun _ _ _ h=>h) (Or.inl ⟨by rfl,?_⟩) ?_ ?_
  rotate_left
  ·intro w'
   go_simp
   with_reducible rfl
  rotate_left
  ·(try simp only [á,ä,ü,é,i64_w,i32_w])
   rfl
  have HO:=ö (show k38.R 38 w8 0 (fun k=>ow k = 4 ∨ w8.heap.size ≤ k) (.slice A ys.length c) ys from Kd.R_mono (Kd.R_below HS.out.sa m4.out) (fun _ hk=>.inl hk))
  have hx9:=(m4.out.cell (è w _ hz0)).trans hz0
  refine one_ (i:=9) (N:=some 84) #[true,true,true,true,true,true,true,true,true,true,false,false,false] rfl rfl (one_of HT_.out (by kernel_rfl)) (by decide) (fun K hK=>?_)
  refine value_ (w1:=?_) (v:=?_) (by rfl) rfl ?_ ?_
  rotate_left 2
  ·go_simp
   constructor
   ·rfl
   ·rfl
  refine hK.out _ _ ⟨(blk_cell (blk_alloc m1.out _) 4).trans rfl,(blk_cell (blk_alloc m2.out _) 1).trans rfl,((below_alloc (Below.refl w8.heap.size w8) _).cell (è w8 _ hx9)).trans hx9⟩ (fun hHeld=>?_)
  clear hK K
  refine norm_ (a':=?_) ?_ ?_
  rotate_left
  ·show á _ (some 84) _ = _
   simp only [á,ä,ü,é,i64_w,i32_w]
   rfl
  refine one_ (i:=10) (N:=some 85) #[true,true,true,true,true,true,true,true,true,true,true,false,false] rfl rfl (one_of HT_.out (by kernel_rfl)) (by decide) (fun K hK=>?_)
  refine Kd.R_append_step k38 (w0:=w) 0 (by rfl) (.tmp 76) (.tmp 84) 23 38 (.agg #[(.int .i64 0),(.int .i64 0)]) 16 rfl Try.underlying23 info38 rfl (by decide) (by omega) (.slice A ys.length c) ys (⟨(who : Int),z0⟩ : S38) [.int .i64 (who : Int),.int .i64 z0] (fun k=>ow k = 4 ∨ w8.heap.size ≤ k) (fun _=>False) rfl rfl ⟨[.int .i64 (who : Int)],[.int .i64 z0],rfl,rfl,rfl⟩ (fun _ h=>h.elim) (fun _ h=>.inr h) HO.out (Below.zero m4.out) (Nat.zero_le _) (by omega) ?_
  intro v9 w9 ho hb hg hat
  obtain ⟨ow',hsv,hext⟩:=(HS.out.below m4.out).said (Nat.le_trans hlo m4.out.size) ho hg
  have n1:=ö (blk_grown m1.out hg (Kd.R_ne HO.out m1.out (by decide)))
  have n3:=ö (blk_grown m3.out hg (Kd.R_ne HO.out m3.out (by decide)))
  have n2:=ö (blk_grown m2.out hg (fun e=>by have h1:=HS.out.sa.1 bs e.symm;have h2:=(HS.out.bd bs (by omega)).2;have h3:=GS.out;omega))
  have hx8 : w9.cell? ⟨gr,aa,none⟩ = some (.int .i64 z0):=by
   have hh : w9.heap[gr]? = w8.heap[gr]?:=hg.block gr (è w8 _ hx9) (fun e=>by have h1:=HS.out.sa.1 gr e.symm;omega)
   rw [← hx9]
   simp only [World.cell?,hh]
  have fr:=ö (show Fr ow w w9 from ⟨hb,fun k hk h0=>(hg.block k (Nat.lt_of_lt_of_le hk m4.out.size) (fun e=>by have h1:=HS.out.sa.1 k e.symm;omega)).trans (m4.out.block k hk)⟩)
  obtain ⟨A9,c9,e9⟩:=Kd.R_slice ho
  subst e9
  have hs9:=m4.out.size
  have HV:=ö hsv
  have HE:=ö hext
  clear ho hb hg hat hsv hext m1 m2 m3 hHeld hx9
  refine hK.out _ _ ⟨(blk_cell n1.out 4).trans rfl,(blk_cell n2.out 1).trans rfl,hx8⟩ (fun hHeld=>?_)
  clear hK K
  refine norm_ (a':=?_) ?_ ?_
  rotate_left
  ·show á _ (some 85) _ = _
   simp only [á,ä,ü,é,i64_w,i32_w]
   rfl
  refine pure_ (i:=11) (N:=some 86) (v:=?_) (a':=?_) #[true,true,true,true,true,true,true,true,true,true,true,true,false] rfl rfl (any_of HT_.out (by kernel_rfl)) (fun _ _ _ h=>h) (Or.inl ⟨by rfl,?_⟩) ?_ ?_
  rotate_left
  ·intro w'
   go_simp
   with_reducible rfl
  rotate_left
  ·(try simp only [á,ä,ü,é,i64_w,i32_w])
   rfl
  have hcw : w9.cell? ⟨bw,4,none⟩ = some (.slice A ys.length c):=(blk_cell n1.out 4).trans rfl
  have hfw:=blk_frozen n1.out 4
  refine last_ (i:=12) (N:=none) #[true,true,true,true,true,true,true,true,true,true,true,true,true] rfl rfl (one_of HT_.out (by kernel_rfl)) (by decide) (fun K hK=>?_)
  refine skip_ (w1:=?_) (by rfl) rfl ?_ ?_
  rotate_left
  ·go_simp
   rfl
  refine hK.out _ _ ?_
  clear hK K
  refine done_ (done_of HT_.out (by kernel_rfl)) ?_
  clear HT_ HW_
  have m1:=ö (show (w9.setCell ⟨bw,4,none⟩ (.slice A9 (ys.length + 1) c9)).heap[bw]? = some (.cells #[.slice (some ⟨g0,0,none⟩) ps.length cap0,.slice (some ⟨g1,0,none⟩) 3 cap1,.slice (some ⟨g2,0,none⟩) 2 cap2,.slice (some ⟨g3,0,none⟩) qs.length cap3,.slice A9 (ys.length + 1) c9] 33 (0,0)) from bp5_4_ n1.out)
  have m3:=ö (blk_far (p:=⟨bw,4,none⟩) n3.out hn2 (.slice A9 (ys.length + 1) c9))
  clear hHeld hcw hfw hx8
  obtain ⟨hcz_0,hcz_1,hcz_2,hcz_3,hcz_4,hfz_0,hfz_1,hfz_2,hfz_3,hfz_4⟩:=bz5_ m1
  obtain ⟨hcx_0,hcx_1,hcx_2,hcx_3,hcx_4,hfx_0,hfx_1,hfx_2,hfx_3,hfx_4⟩:=bz5_ m3
  go_wp2
  refine bodyPost_ret (results_cell_row rfl _ _ br 33 #[.slice (some ⟨g0,0,none⟩) ps.length cap0,.slice (some ⟨g1,0,none⟩) 3 cap1,.slice (some ⟨g2,0,none⟩) 2 cap2,.slice (some ⟨g3,0,none⟩) qs.length cap3,.slice A9 (ys.length + 1) c9] (0,0) _ rfl (by apply bp5_4_;apply bp5_3_;apply bp5_2_;apply bp5_1_;apply bp5_0_;exact m3.out) Try.underlying33 rfl (by kernel_rfl)) rfl ?_
  refine ⟨ow',_,ys ++ [⟨(who : Int),z0⟩],rfl,?_,fun k hk=>HE.out k (Nat.lt_of_lt_of_le hk hs9),(fr.out.set ⟨bw,4,none⟩ _ (.inr GW.out)).set5 GR.out _ _ _ _ _,.inr ⟨z0,rfl⟩⟩
  have z:=(HV.out.setW (Nat.le_trans WS.out GW.out) n1.out 4 (.slice A9 (ys.length + 1) c9)).setW5 (Nat.le_trans WS.out GR.out) m3.out (.slice (some ⟨g0,0,none⟩) ps.length cap0) (.slice (some ⟨g1,0,none⟩) 3 cap1) (.slice (some ⟨g2,0,none⟩) 2 cap2) (.slice (some ⟨g3,0,none⟩) qs.length cap3) (.slice A9 (ys.length + 1) c9)
  have el : (ys ++ [(⟨(who : Int),z0⟩ : S38)]).length = ys.length + 1:=by simp
  rw [el] at z
  exact z
 have f5 : (k == 5) = false:=by simpa using e5
 replace p1:=eq_true p1
 replace q1:=eq_true q1
 go_enter Try.func45,Try.ntmps45
 go_wp2_with (first | ((with_reducible refine gate_dst (N:=3) rfl ?_);refine box_event ?hg (N:=3) ?hd (cs:=#[.slice (some ⟨g0,0,none⟩) ps.length cap0,.slice (some ⟨g1,0,none⟩) 3 cap1,.slice (some ⟨g2,0,none⟩) 2 cap2,.slice (some ⟨g3,0,none⟩) qs.length cap3,.slice A ys.length c]) (t:=33) ?hr ?_;(case hd=>rfl);(case hg=>rfl);(case hr=>first | (go_simp;done) | (go_simp;rfl));intro bw hg w5 hbox hb;replace HB:=ö (below_step HB.out hb);have GW:=ö (Nat.le_of_eq hg.symm);have BW:=ö hbox;clear hb hbox hg) | ((with_reducible refine gate_dst (N:=5) rfl ?_);refine box_event ?hg (N:=5) ?hd (cs:=#[.int .i64 k,.int .i64 a,.int .i64 b,.int .i64 n,.slice A4 n4 c4,.slice A5 n5 c5]) (t:=69) ?hr ?_;(case hd=>rfl);(case hg=>rfl);(case hr=>first | (go_simp;done) | (go_simp;rfl));intro bs hg w6 hbox hb;have n1_:=ö (blk_below BW.out hb);have NS:=ö (show bw ≠ bs by rw [hg];exact Nat.ne_of_lt (blk_lt BW.out));have GS:=ö (show w.heap.size ≤ bs by rw [hg];exact HB.out.size);replace HB:=ö (below_step HB.out hb);clear BW;have BW:=n1_;clear n1_;have BS:=ö hbox;clear hb hbox hg) | ((with_reducible refine gate_dst (N:=6) rfl ?_);refine box_event ?hg (N:=6) ?hd (cs:=#[.slice none 0 0,.slice none 0 0,.slice none 0 0,.slice none 0 0,.slice none 0 0]) (t:=33) ?hr ?_;(case hd=>rfl);(case hg=>rfl);(case hr=>first | (go_simp;done) | (go_simp;rfl));intro br hg w7 hbox hb;have n1_:=ö (blk_below BW.out hb);have n2_:=ö (blk_below BS.out hb);have NR:=ö (show bw ≠ br by rw [hg];exact Nat.ne_of_lt (blk_lt BW.out));have GR:=ö (show w.heap.size ≤ br by rw [hg];exact HB.out.size);replace HB:=ö (below_step HB.out hb);clear BW BS;have BW:=n1_;have BS:=n2_;clear n1_ n2_;have BR:=ö hbox;obtain ⟨hcz_0,hcz_1,hcz_2,hcz_3,hcz_4,hfz_0,hfz_1,hfz_2,hfz_3,hfz_4⟩:=bz5_ BW;obtain ⟨hcy_0,hcy_1,hcy_2,hcy_3,hcy_4,hcy_5,hfy_0,hfy_1,hfy_2,hfy_3,hfy_4,hfy_5⟩:=bz6_ BS;obtain ⟨hcx_0,hcx_1,hcx_2,hcx_3,hcx_4,hfx_0,hfx_1,hfx_2,hfx_3,hfx_4⟩:=bz5_ BR;have hcr:=(HB.out.cell (è w _ HCR.out)).trans HCR.out;have hn1:=NR.out;have hn2:=hn1.symm;clear hb hbox hg))
 refine bodyPost_ret (results_cell_row rfl _ _ br 33 #[.slice (some ⟨g0,0,none⟩) ps.length cap0,.slice (some ⟨g1,0,none⟩) 3 cap1,.slice (some ⟨g2,0,none⟩) 2 cap2,.slice (some ⟨g3,0,none⟩) qs.length cap3,.slice A ys.length c] (0,0) _ rfl (by apply bp5_4_;apply bp5_3_;apply bp5_2_;apply bp5_1_;apply bp5_0_;exact BR.out) Try.underlying33 rfl (by kernel_rfl)) rfl ?_
 exact ⟨ow,_,ys,rfl,(HS.out.below HB.out).setW5 (Nat.le_trans WS.out GR.out) BR.out _ _ _ _ _,fun _ _=>rfl,((Fr.refl ow w).below HB.out).set5 GR.out _ _ _ _ _,.inl rfl⟩
end Go.Proofs.Ytfbocgagfodgnaa.P

namespace Go.Proofs.Ytfbocgagfodgnaa.P
open Go.RowKit Go.Proofs.YtfbocgagfodgnaaW.PrintWords Go.Proofs.YtfbocgagfodgnaaW.PrintLast Go.Proofs.YtfbocgagfodgnaaW.PrintMore
attribute [local go_sem] max2_int min2_int max_two min_two max_three min_three max_four min_four
set_option linter.unusedVariables false
set_option linter.unusedSimpArgs false
set_option maxHeartbeats 8000000 in
set_option maxRecDepth 100000 in
theorem l3ahead_says (lo : Gr) (w : World) (ok : Nat → Prop) (hok : ∀ k,w.heap.size ≤ k → ok k) (v1 v2 : Value) (xs ys : List S69) (h1 : Src lo w v1 xs) (h2 : Src lo w v2 ys) (l1 : xs.length ≤ 1000000000) (l2 : ys.length ≤ 1000000000) :
  Calls Try.prog 52 #[v1,v2] w fun e w'=>∃ v : Value,e = .returned v ∧ (kE lo).R 69 w' 0 ok v (xs ++ ys) ∧ Below w.heap.size w w':=by
 obtain ⟨A1,c1,rfl⟩:=h1.slice
 obtain ⟨A2,c2,rfl⟩:=h2.slice
 have H1:=Aside0.mk h1
 have H2:=Aside0.mk h2
 have OK:=Aside0.mk hok
 have HB:=Aside0.mk (Below.refl w.heap.size w)
 clear h1 h2 hok
 go_enter Try.func52,Try.ntmps52
 go_wp2_with (first | ((with_reducible refine gate_dst (N:=5) rfl ?_);refine plain_ ?hg (fun K hK=>?_);(case hg=>rfl);refine lit0_step (kE lo) 0 69 (by rfl) ?hr (Nat.zero_le _) ?_;(case hr=>first | (go_simp;done) | (go_simp;rfl));intro g w5 hg ho hb;refine hK _ _ ?_;clear hK K;have HG:=Aside0.mk hg;have HO:=Aside0.mk ho;replace HB:=Aside0.mk (below_step HB.out hb);clear hg ho hb) | ((with_reducible refine gate_dst (N:=7) rfl ?_);refine plain_ ?hg (fun K hK=>?_);(case hg=>rfl);obtain ⟨A_,c_,e_,_,hread⟩:=H1.out.below HB.out;replace hread : ReadsRow (fun x cs=>(kE lo).M w 0 ok x cs) 6 _ _ _ _:=hread;injection e_ with e_1 _ e_2;subst e_1;subst e_2;refine lit_append_stepY (kE lo) 0 (by rfl) (.tmp 5) (.tmp 6) 49 69 (.agg #[(.int .i64 0),(.int .i64 0),(.int .i64 0),(.int .i64 0),(.slice none 0 0),(.slice none 0 0)]) 80 rfl Try.underlying49 info69 rfl (show 0 < 6 by decide) g xs A1 xs.length c1 ok rfl rfl HO.out hread (fun _ _ h=>h) (Nat.zero_le _) (by omega) (by decide) ?_;intro v7 w7 ho hb _ hown;refine hK _ _ ?_;clear hK K hread;have HO7:=Aside0.mk (show (kE lo).R 69 w7 0 ok v7 xs from Kd.R_mono ho fun k hk=>by rcases hk with hk | hk | hk;exact hk;exact OK.out k (Nat.le_trans HB.out.size hk);exact OK.out k (by rw [hk];exact HG.out));have OWN:=Aside0.mk (show ∀ k,v7.ownBlock = some k → w.heap.size ≤ k from fun k hk=>by have h3:=HG.out;have h4:=HB.out.size;rcases hown k hk with h5 | h5 <;> omega);replace HB:=Aside0.mk (below_step HB.out hb);clear ho hb hown HO) | ((with_reducible refine gate_dst (N:=9) rfl ?_);obtain ⟨A_,c_,e_,_,hread⟩:=H2.out.below HB.out;replace hread : ReadsRow (fun x cs=>(kE lo).M w 0 (fun k=>ok k ∧ k < w.heap.size) x cs) 6 _ _ _ _:=hread;injection e_ with e_1 _ e_2;subst e_1;subst e_2;refine Kd.R_append_rows (kE lo) (w0:=w) 0 rfl (.tmp 7) (.tmp 8) 49 69 (.agg #[(.int .i64 0),(.int .i64 0),(.int .i64 0),(.int .i64 0),(.slice none 0 0),(.slice none 0 0)]) 80 rfl Try.underlying49 info69 rfl (show 0 < 6 by decide) (by omega) v7 xs ys A2 ys.length c2 ok (fun k=>ok k ∧ k < w.heap.size) rfl rfl HO7.out hread (fun _ _ h=>h) (fun k hk=>⟨hk.1,fun e=>by have h3:=OWN.out k e.symm;have h4:=hk.2;omega⟩) (fun k hk=>OK.out k (Nat.le_trans HB.out.size hk)) (Below.zero HB.out) (Nat.zero_le _) (by omega) ?_;intro v9 w9 ho hb hg hat;have HO9:=Aside0.mk ho;replace HB:=Aside0.mk (show Below w.heap.size w w9 from ⟨hb.os,hb.tape,hb.output,hb.size,fun k hk=>(hg.block k (Nat.lt_of_lt_of_le hk HB.out.size) (fun e=>by have h3:=OWN.out k e.symm;omega)).trans (HB.out.block k hk)⟩);clear ho hb hg hat hread))
 go_ret
 exact ⟨_,rfl,HO9.out,HB.out⟩
end Go.Proofs.Ytfbocgagfodgnaa.P
