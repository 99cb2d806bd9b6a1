/- Parts of the proof of FnMeanSame: plain Lean functions of Go functions, and that the calls come to what they say; no condition beyond those that each theorem names. -/
import Derived.Test.YtfbocgagfodgnaaZFnMeanSame4
import Derived.Test.YtfbocgagfodgnaaZFnMeanSame13
namespace Go.Proofs.Ytfbocgagfodgnaa.P
open Go.RowKit Go.Proofs.YtfbocgagfodgnaaW.PrintWords Go.Proofs.YtfbocgagfodgnaaW.PrintLast Go.Proofs.YtfbocgagfodgnaaW.PrintMore
attribute [local go_sem] max2_int min2_int max_two min_two max_three min_three max_four min_four
set_option linter.unusedVariables false
set_option linter.unusedSimpArgs false
def spec_l3Proc.f (k : Nat) (l0_0 : List Int) (l0_1 : List (S69)) (a0_2 : Int) (a0_3 : Int) (a0_4 : Int) (l1_0 : List Int) (l1_1 : List (S69)) (a1_2 : Int) (a1_3 : Int) (a1_4 : Int) : Option (Bool):=(spec_l3Ints.f k l0_0 l1_0).bind fun t483=>(if t483 = true then ((spec_l2Alike.f k l0_1 l1_1).bind fun t484=>(if t484 = true then (if a0_2 = a1_2 then (if a0_3 = a1_3 then (some (a0_4 == a1_4)) else (some false)) else (some false)) else (some false))) else (some false))
private theorem y42_ {A B Z : Prop} (a0 : Aside0 A) (a1 : Aside0 B) (h : A → B → Z:=by intro h0_ h1_;repeat (first | exact (Kd.C_below h0_ h1_) | (with_reducible refine Kd.C_alloc ?_ _) | (with_reducible refine Kd.C_drewN ?_ _) | (with_reducible refine Kd.C_drew ?_))) : Z:=h a0.out a1.out
private theorem y43_ {Z : Prop} (h : Z:=by first | rfl | (simp [errW_none,errW_some] <;> rfl) | (simp [*,errW_none,errW_some] <;> rfl)) : Z:=h
private theorem y44_ {A B C Z : Prop} (a0 : Aside0 A) (a1 : Aside0 B) (a2 : Aside0 C) (h : A → B → C → Z:=by intro h0_ h1_ h2_;repeat (first | (with_reducible first | exact h0_ | apply below_alloc | apply pw_below_drewN | apply below_drew1 | refine below_set ?_ h1_ | refine below_set ?_ h2_) | exact h0_)) : Z:=h a0.out a1.out a2.out
set_option maxHeartbeats 8000000 in
set_option maxRecDepth 100000 in
theorem spec_l3Proc.calls (k : Nat) (A0_0 : Option Addr) (c0_0 : Nat) (l0_0 : List Int) (A0_1 : Option Addr) (c0_1 : Nat) (l0_1 : List (S69)) (a0_2 : Int) (a0_3 : Int) (a0_4 : Int) (A1_0 : Option Addr) (c1_0 : Nat) (l1_0 : List Int) (A1_1 : Option Addr) (c1_1 : Nat) (l1_1 : List (S69)) (a1_2 : Int) (a1_3 : Int) (a1_4 : Int) (r : Bool) (w : World) (hr0_0 : Kd.C (Kd.int .i64) w A0_0 l0_0.length l0_0) (hc0_0 : l0_0.length ≤ c0_0) (hr0_1 : Kd.C k69 w A0_1 l0_1.length l0_1) (hc0_1 : l0_1.length ≤ c0_1) (hr1_0 : Kd.C (Kd.int .i64) w A1_0 l1_0.length l1_0) (hc1_0 : l1_0.length ≤ c1_0) (hr1_1 : Kd.C k69 w A1_1 l1_1.length l1_1) (hc1_1 : l1_1.length ≤ c1_1) (h : spec_l3Proc.f k l0_0 l0_1 a0_2 a0_3 a0_4 l1_0 l1_1 a1_2 a1_3 a1_4 = some r) :
  Calls Try.prog 20 #[.agg #[.slice A0_0 l0_0.length c0_0,.slice A0_1 l0_1.length c0_1,.int .i64 a0_2,.int .i64 a0_3,.int .i64 a0_4],.agg #[.slice A1_0 l1_0.length c1_0,.slice A1_1 l1_1.length c1_1,.int .i64 a1_2,.int .i64 a1_3,.int .i64 a1_4]] w fun e w'=>e = .returned (.bool r) ∧ Below w.heap.size w w':=by
 have hu51:=Try.underlying51;have HR0_0:=Aside0.mk hr0_0;have HC0_0:=Aside0.mk hc0_0;clear hr0_0 hc0_0;have HR0_1:=Aside0.mk hr0_1;have HC0_1:=Aside0.mk hc0_1;clear hr0_1 hc0_1;have HR1_0:=Aside0.mk hr1_0;have HC1_0:=Aside0.mk hc1_0;clear hr1_0 hc1_0;have HR1_1:=Aside0.mk hr1_1;have HC1_1:=Aside0.mk hc1_1;clear hr1_1 hc1_1;have HB:=Aside0.mk (Below.refl w.heap.size w);have H : ((spec_l3Ints.f k l0_0 l1_0).bind fun t483=>(if t483 = true then ((spec_l2Alike.f k l0_1 l1_1).bind fun t484=>(if t484 = true then (if a0_2 = a1_2 then (if a0_3 = a1_3 then (some (a0_4 == a1_4)) else (some false)) else (some false)) else (some false))) else (some false))) = some r:=h;clear h;obtain ⟨t483,A3,H⟩:=bnd H
 by_cases c4 : t483 = true
 ·subst c4
  rw [if_pos rfl] at H;obtain ⟨t484,A5,H⟩:=bnd H
  by_cases c6 : t484 = true
  ·subst c6
   rw [if_pos rfl] at H
   by_cases c7 : a0_2 = a1_2
   ·rw [if_pos c7] at H;obtain ⟨c7b0,c7b1⟩:=eqT c7;clear c7
    by_cases c8 : a0_3 = a1_3
    ·rw [if_pos c8] at H;obtain ⟨c8b0,c8b1⟩:=eqT c8;clear c8;obtain rfl:=Option.some.inj H;go_enter Try.func20,Try.ntmps20
     go_wp2_with (first | ((with_reducible refine gate_dst (N:=2) rfl ?_);refine box_event ?hg (N:=2) ?hd (cs:=#[.slice A0_0 l0_0.length c0_0,.slice A0_1 l0_1.length c0_1,.int .i64 a0_2,.int .i64 a0_3,.int .i64 a0_4]) (t:=51) ?hr ?_;(case hd=>rfl);(case hg=>rfl);(case hr=>first | (go_simp;done) | (go_simp;rfl));intro gb481 hg w9 hbox hb;have n0_:=bxA hb hg hbox (q0_ HB);clear HB;obtain ⟨HB,BK481,GW481,GE481⟩:=n0_;clear hb hbox hg) | ((with_reducible refine gate_dst (N:=3) rfl ?_);refine box_event ?hg (N:=3) ?hd (cs:=#[.slice A1_0 l1_0.length c1_0,.slice A1_1 l1_1.length c1_1,.int .i64 a1_2,.int .i64 a1_3,.int .i64 a1_4]) (t:=51) ?hr ?_;(case hd=>rfl);(case hg=>rfl);(case hr=>first | (go_simp;done) | (go_simp;rfl));intro gb482 hg w10 hbox hb;have n0_:=bxB (b:=gb481) (.cells #[.slice A0_0 l0_0.length c0_0,.slice A0_1 l0_1.length c0_1,.int .i64 a0_2,.int .i64 a0_3,.int .i64 a0_4] 51 (0,0)) hb hg hbox (q10_ HB GE481) (q6_ BK481);clear BK481 HB;obtain ⟨BK481,HB,BK482,GW482,GE482,NB481_482,NB482_481⟩:=n0_;clear hb hbox hg;have hnb11:=NB481_482.out;have hnc11:=NB482_481.out;obtain ⟨hcz12_0,hcz12_1,hcz12_2,hcz12_3,hcz12_4,hfz12_0,hfz12_1,hfz12_2,hfz12_3,hfz12_4⟩:=bz5_ BK481;obtain ⟨hcz13_0,hcz13_1,hcz13_2,hcz13_3,hcz13_4,hfz13_0,hfz13_1,hfz13_2,hfz13_3,hfz13_4⟩:=bz5_ BK482) | ((with_reducible refine gate_callee (f:=19) rfl ?_);refine goesM_ (some 9) Try.func19 #[.slice A0_0 l0_0.length c0_0,.slice A1_0 l1_0.length c1_0] ?_;(with_reducible refine (spec_l3Ints.calls k _ _ l0_0 _ _ l1_0 true _ ?side1 ?side2 ?side3 ?side4 A3.out).mono ?_);(case side1=>exact y42_ HR0_0 HB);(case side2=>exact HC0_0.out);(case side3=>exact y42_ HR1_0 HB);(case side4=>exact HC1_0.out);rintro e w' ⟨rfl,⟨nd,rfl⟩⟩;refine ⟨_,rfl,?_⟩) | (go_at_call 38;(with_reducible refine (spec_l2Alike.calls k _ _ l0_1 _ _ l1_1 true _ ?side1 ?side2 ?side3 ?side4 A5.out).mono ?_);(case side1=>repeat (first | exact (Kd.C_below HR0_1.out (q13_ HB GE481 GE482)) | (with_reducible refine Kd.C_alloc ?_ _) | (with_reducible refine Kd.C_drewN ?_ _) | (with_reducible refine Kd.C_drew ?_)));(case side2=>exact HC0_1.out);(case side3=>repeat (first | exact (Kd.C_below HR1_1.out (q13_ HB GE481 GE482)) | (with_reducible refine Kd.C_alloc ?_ _) | (with_reducible refine Kd.C_drewN ?_ _) | (with_reducible refine Kd.C_drew ?_)));(case side4=>exact HC1_1.out);rintro e w14 ⟨rfl,hb⟩;have n0_:=ap3 (blk_below (g:=gb481) (o:=.cells #[.slice A0_0 l0_0.length c0_0,.slice A0_1 l0_1.length c0_1,.int .i64 a0_2,.int .i64 a0_3,.int .i64 a0_4] 51 (0,0)) (q6_ BK481) hb) (blk_below (g:=gb482) (o:=.cells #[.slice A1_0 l1_0.length c1_0,.slice A1_1 l1_1.length c1_1,.int .i64 a1_2,.int .i64 a1_3,.int .i64 a1_4] 51 (0,0)) (q6_ BK482) hb) (below_step (q13_ HB GE481 GE482) hb);clear BK481 BK482 HB;obtain ⟨BK481,BK482,HB⟩:=n0_;(try clear hb);obtain ⟨hcz15_0,hcz15_1,hcz15_2,hcz15_3,hcz15_4,hfz15_0,hfz15_1,hfz15_2,hfz15_3,hfz15_4⟩:=bz5_ BK481;obtain ⟨hcz16_0,hcz16_1,hcz16_2,hcz16_3,hcz16_4,hfz16_0,hfz16_1,hfz16_2,hfz16_3,hfz16_4⟩:=bz5_ BK482))
     go_ret
     exact ⟨y43_,y44_ HB GE481 GE482⟩
    ·rw [if_neg c8] at H;obtain ⟨c8b0,c8b1⟩:=eqF c8;obtain rfl:=Option.some.inj H;go_enter Try.func20,Try.ntmps20
     go_wp2_with (first | ((with_reducible refine gate_dst (N:=2) rfl ?_);refine box_event ?hg (N:=2) ?hd (cs:=#[.slice A0_0 l0_0.length c0_0,.slice A0_1 l0_1.length c0_1,.int .i64 a0_2,.int .i64 a0_3,.int .i64 a0_4]) (t:=51) ?hr ?_;(case hd=>rfl);(case hg=>rfl);(case hr=>first | (go_simp;done) | (go_simp;rfl));intro gb481 hg w17 hbox hb;have n0_:=bxA hb hg hbox (q0_ HB);clear HB;obtain ⟨HB,BK481,GW481,GE481⟩:=n0_;clear hb hbox hg) | ((with_reducible refine gate_dst (N:=3) rfl ?_);refine box_event ?hg (N:=3) ?hd (cs:=#[.slice A1_0 l1_0.length c1_0,.slice A1_1 l1_1.length c1_1,.int .i64 a1_2,.int .i64 a1_3,.int .i64 a1_4]) (t:=51) ?hr ?_;(case hd=>rfl);(case hg=>rfl);(case hr=>first | (go_simp;done) | (go_simp;rfl));intro gb482 hg w18 hbox hb;have n0_:=bxB (b:=gb481) (.cells #[.slice A0_0 l0_0.length c0_0,.slice A0_1 l0_1.length c0_1,.int .i64 a0_2,.int .i64 a0_3,.int .i64 a0_4] 51 (0,0)) hb hg hbox (q10_ HB GE481) (q6_ BK481);clear BK481 HB;obtain ⟨BK481,HB,BK482,GW482,GE482,NB481_482,NB482_481⟩:=n0_;clear hb hbox hg;have hnb19:=NB481_482.out;have hnc19:=NB482_481.out;obtain ⟨hcz20_0,hcz20_1,hcz20_2,hcz20_3,hcz20_4,hfz20_0,hfz20_1,hfz20_2,hfz20_3,hfz20_4⟩:=bz5_ BK481;obtain ⟨hcz21_0,hcz21_1,hcz21_2,hcz21_3,hcz21_4,hfz21_0,hfz21_1,hfz21_2,hfz21_3,hfz21_4⟩:=bz5_ BK482) | ((with_reducible refine gate_callee (f:=19) rfl ?_);refine goesM_ (some 9) Try.func19 #[.slice A0_0 l0_0.length c0_0,.slice A1_0 l1_0.length c1_0] ?_;(with_reducible refine (spec_l3Ints.calls k _ _ l0_0 _ _ l1_0 true _ ?side1 ?side2 ?side3 ?side4 A3.out).mono ?_);(case side1=>exact y42_ HR0_0 HB);(case side2=>exact HC0_0.out);(case side3=>exact y42_ HR1_0 HB);(case side4=>exact HC1_0.out);rintro e w' ⟨rfl,⟨nd,rfl⟩⟩;refine ⟨_,rfl,?_⟩) | (go_at_call 38;(with_reducible refine (spec_l2Alike.calls k _ _ l0_1 _ _ l1_1 true _ ?side1 ?side2 ?side3 ?side4 A5.out).mono ?_);(case side1=>repeat (first | exact (Kd.C_below HR0_1.out (q13_ HB GE481 GE482)) | (with_reducible refine Kd.C_alloc ?_ _) | (with_reducible refine Kd.C_drewN ?_ _) | (with_reducible refine Kd.C_drew ?_)));(case side2=>exact HC0_1.out);(case side3=>repeat (first | exact (Kd.C_below HR1_1.out (q13_ HB GE481 GE482)) | (with_reducible refine Kd.C_alloc ?_ _) | (with_reducible refine Kd.C_drewN ?_ _) | (with_reducible refine Kd.C_drew ?_)));(case side4=>exact HC1_1.out);rintro e w22 ⟨rfl,hb⟩;have n0_:=ap3 (blk_below (g:=gb481) (o:=.cells #[.slice A0_0 l0_0.length c0_0,.slice A0_1 l0_1.length c0_1,.int .i64 a0_2,.int .i64 a0_3,.int .i64 a0_4] 51 (0,0)) (q6_ BK481) hb) (blk_below (g:=gb482) (o:=.cells #[.slice A1_0 l1_0.length c1_0,.slice A1_1 l1_1.length c1_1,.int .i64 a1_2,.int .i64 a1_3,.int .i64 a1_4] 51 (0,0)) (q6_ BK482) hb) (below_step (q13_ HB GE481 GE482) hb);clear BK481 BK482 HB;obtain ⟨BK481,BK482,HB⟩:=n0_;(try clear hb);obtain ⟨hcz23_0,hcz23_1,hcz23_2,hcz23_3,hcz23_4,hfz23_0,hfz23_1,hfz23_2,hfz23_3,hfz23_4⟩:=bz5_ BK481;obtain ⟨hcz24_0,hcz24_1,hcz24_2,hcz24_3,hcz24_4,hfz24_0,hfz24_1,hfz24_2,hfz24_3,hfz24_4⟩:=bz5_ BK482))
     go_ret
     exact ⟨y43_,y44_ HB GE481 GE482⟩
   ·rw [if_neg c7] at H;obtain ⟨c7b0,c7b1⟩:=eqF c7;obtain rfl:=Option.some.inj H;go_enter Try.func20,Try.ntmps20
    go_wp2_with (first | ((with_reducible refine gate_dst (N:=2) rfl ?_);refine box_event ?hg (N:=2) ?hd (cs:=#[.slice A0_0 l0_0.length c0_0,.slice A0_1 l0_1.length c0_1,.int .i64 a0_2,.int .i64 a0_3,.int .i64 a0_4]) (t:=51) ?hr ?_;(case hd=>rfl);(case hg=>rfl);(case hr=>first | (go_simp;done) | (go_simp;rfl));intro gb481 hg w25 hbox hb;have n0_:=bxA hb hg hbox (q0_ HB);clear HB;obtain ⟨HB,BK481,GW481,GE481⟩:=n0_;clear hb hbox hg) | ((with_reducible refine gate_dst (N:=3) rfl ?_);refine box_event ?hg (N:=3) ?hd (cs:=#[.slice A1_0 l1_0.length c1_0,.slice A1_1 l1_1.length c1_1,.int .i64 a1_2,.int .i64 a1_3,.int .i64 a1_4]) (t:=51) ?hr ?_;(case hd=>rfl);(case hg=>rfl);(case hr=>first | (go_simp;done) | (go_simp;rfl));intro gb482 hg w26 hbox hb;have n0_:=bxB (b:=gb481) (.cells #[.slice A0_0 l0_0.length c0_0,.slice A0_1 l0_1.length c0_1,.int .i64 a0_2,.int .i64 a0_3,.int .i64 a0_4] 51 (0,0)) hb hg hbox (q10_ HB GE481) (q6_ BK481);clear BK481 HB;obtain ⟨BK481,HB,BK482,GW482,GE482,NB481_482,NB482_481⟩:=n0_;clear hb hbox hg;have hnb27:=NB481_482.out;have hnc27:=NB482_481.out;obtain ⟨hcz28_0,hcz28_1,hcz28_2,hcz28_3,hcz28_4,hfz28_0,hfz28_1,hfz28_2,hfz28_3,hfz28_4⟩:=bz5_ BK481;obtain ⟨hcz29_0,hcz29_1,hcz29_2,hcz29_3,hcz29_4,hfz29_0,hfz29_1,hfz29_2,hfz29_3,hfz29_4⟩:=bz5_ BK482) | ((with_reducible refine gate_callee (f:=19) rfl ?_);refine goesM_ (some 9) Try.func19 #[.slice A0_0 l0_0.length c0_0,.slice A1_0 l1_0.length c1_0] ?_;(with_reducible refine (spec_l3Ints.calls k _ _ l0_0 _ _ l1_0 true _ ?side1 ?side2 ?side3 ?side4 A3.out).mono ?_);(case side1=>exact y42_ HR0_0 HB);(case side2=>exact HC0_0.out);(case side3=>exact y42_ HR1_0 HB);(case side4=>exact HC1_0.out);rintro e w' ⟨rfl,⟨nd,rfl⟩⟩;refine ⟨_,rfl,?_⟩) | (go_at_call 38;(with_reducible refine (spec_l2Alike.calls k _ _ l0_1 _ _ l1_1 true _ ?side1 ?side2 ?side3 ?side4 A5.out).mono ?_);(case side1=>repeat (first | exact (Kd.C_below HR0_1.out (q13_ HB GE481 GE482)) | (with_reducible refine Kd.C_alloc ?_ _) | (with_reducible refine Kd.C_drewN ?_ _) | (with_reducible refine Kd.C_drew ?_)));(case side2=>exact HC0_1.out);(case side3=>repeat (first | exact (Kd.C_below HR1_1.out (q13_ HB GE481 GE482)) | (with_reducible refine Kd.C_alloc ?_ _) | (with_reducible refine Kd.C_drewN ?_ _) | (with_reducible refine Kd.C_drew ?_)));(case side4=>exact HC1_1.out);rintro e w30 ⟨rfl,hb⟩;have n0_:=ap3 (blk_below (g:=gb481) (o:=.cells #[.slice A0_0 l0_0.length c0_0,.slice A0_1 l0_1.length c0_1,.int .i64 a0_2,.int .i64 a0_3,.int .i64 a0_4] 51 (0,0)) (q6_ BK481) hb) (blk_below (g:=gb482) (o:=.cells #[.slice A1_0 l1_0.length c1_0,.slice A1_1 l1_1.length c1_1,.int .i64 a1_2,.int .i64 a1_3,.int .i64 a1_4] 51 (0,0)) (q6_ BK482) hb) (below_step (q13_ HB GE481 GE482) hb);clear BK481 BK482 HB;obtain ⟨BK481,BK482,HB⟩:=n0_;(try clear hb);obtain ⟨hcz31_0,hcz31_1,hcz31_2,hcz31_3,hcz31_4,hfz31_0,hfz31_1,hfz31_2,hfz31_3,hfz31_4⟩:=bz5_ BK481;obtain ⟨hcz32_0,hcz32_1,hcz32_2,hcz32_3,hcz32_4,hfz32_0,hfz32_1,hfz32_2,hfz32_3,hfz32_4⟩:=bz5_ BK482))
    go_ret
    exact ⟨y43_,y44_ HB GE481 GE482⟩
  ·replace c6:=Bool.eq_false_iff.mpr c6;subst c6
   rw [if_neg (show ¬ (false = true) by decide)] at H;obtain rfl:=Option.some.inj H;go_enter Try.func20,Try.ntmps20
   go_wp2_with (first | ((with_reducible refine gate_dst (N:=2) rfl ?_);refine box_event ?hg (N:=2) ?hd (cs:=#[.slice A0_0 l0_0.length c0_0,.slice A0_1 l0_1.length c0_1,.int .i64 a0_2,.int .i64 a0_3,.int .i64 a0_4]) (t:=51) ?hr ?_;(case hd=>rfl);(case hg=>rfl);(case hr=>first | (go_simp;done) | (go_simp;rfl));intro gb481 hg w33 hbox hb;have n0_:=bxA hb hg hbox (q0_ HB);clear HB;obtain ⟨HB,BK481,GW481,GE481⟩:=n0_;clear hb hbox hg) | ((with_reducible refine gate_dst (N:=3) rfl ?_);refine box_event ?hg (N:=3) ?hd (cs:=#[.slice A1_0 l1_0.length c1_0,.slice A1_1 l1_1.length c1_1,.int .i64 a1_2,.int .i64 a1_3,.int .i64 a1_4]) (t:=51) ?hr ?_;(case hd=>rfl);(case hg=>rfl);(case hr=>first | (go_simp;done) | (go_simp;rfl));intro gb482 hg w34 hbox hb;have n0_:=bxB (b:=gb481) (.cells #[.slice A0_0 l0_0.length c0_0,.slice A0_1 l0_1.length c0_1,.int .i64 a0_2,.int .i64 a0_3,.int .i64 a0_4] 51 (0,0)) hb hg hbox (q10_ HB GE481) (q6_ BK481);clear BK481 HB;obtain ⟨BK481,HB,BK482,GW482,GE482,NB481_482,NB482_481⟩:=n0_;clear hb hbox hg;have hnb35:=NB481_482.out;have hnc35:=NB482_481.out;obtain ⟨hcz36_0,hcz36_1,hcz36_2,hcz36_3,hcz36_4,hfz36_0,hfz36_1,hfz36_2,hfz36_3,hfz36_4⟩:=bz5_ BK481;obtain ⟨hcz37_0,hcz37_1,hcz37_2,hcz37_3,hcz37_4,hfz37_0,hfz37_1,hfz37_2,hfz37_3,hfz37_4⟩:=bz5_ BK482) | ((with_reducible refine gate_callee (f:=19) rfl ?_);refine goesM_ (some 9) Try.func19 #[.slice A0_0 l0_0.length c0_0,.slice A1_0 l1_0.length c1_0] ?_;(with_reducible refine (spec_l3Ints.calls k _ _ l0_0 _ _ l1_0 true _ ?side1 ?side2 ?side3 ?side4 A3.out).mono ?_);(case side1=>exact y42_ HR0_0 HB);(case side2=>exact HC0_0.out);(case side3=>exact y42_ HR1_0 HB);(case side4=>exact HC1_0.out);rintro e w' ⟨rfl,⟨nd,rfl⟩⟩;refine ⟨_,rfl,?_⟩) | (go_at_call 38;(with_reducible refine (spec_l2Alike.calls k _ _ l0_1 _ _ l1_1 false _ ?side1 ?side2 ?side3 ?side4 A5.out).mono ?_);(case side1=>repeat (first | exact (Kd.C_below HR0_1.out (q13_ HB GE481 GE482)) | (with_reducible refine Kd.C_alloc ?_ _) | (with_reducible refine Kd.C_drewN ?_ _) | (with_reducible refine Kd.C_drew ?_)));(case side2=>exact HC0_1.out);(case side3=>repeat (first | exact (Kd.C_below HR1_1.out (q13_ HB GE481 GE482)) | (with_reducible refine Kd.C_alloc ?_ _) | (with_reducible refine Kd.C_drewN ?_ _) | (with_reducible refine Kd.C_drew ?_)));(case side4=>exact HC1_1.out);rintro e w38 ⟨rfl,hb⟩;have n0_:=ap3 (blk_below (g:=gb481) (o:=.cells #[.slice A0_0 l0_0.length c0_0,.slice A0_1 l0_1.length c0_1,.int .i64 a0_2,.int .i64 a0_3,.int .i64 a0_4] 51 (0,0)) (q6_ BK481) hb) (blk_below (g:=gb482) (o:=.cells #[.slice A1_0 l1_0.length c1_0,.slice A1_1 l1_1.length c1_1,.int .i64 a1_2,.int .i64 a1_3,.int .i64 a1_4] 51 (0,0)) (q6_ BK482) hb) (below_step (q13_ HB GE481 GE482) hb);clear BK481 BK482 HB;obtain ⟨BK481,BK482,HB⟩:=n0_;(try clear hb)))
   go_ret
   exact ⟨y43_,y44_ HB GE481 GE482⟩
 ·replace c4:=Bool.eq_false_iff.mpr c4;subst c4
  rw [if_neg (show ¬ (false = true) by decide)] at H;obtain rfl:=Option.some.inj H;go_enter Try.func20,Try.ntmps20
  go_wp2_with (first | ((with_reducible refine gate_dst (N:=2) rfl ?_);refine box_event ?hg (N:=2) ?hd (cs:=#[.slice A0_0 l0_0.length c0_0,.slice A0_1 l0_1.length c0_1,.int .i64 a0_2,.int .i64 a0_3,.int .i64 a0_4]) (t:=51) ?hr ?_;(case hd=>rfl);(case hg=>rfl);(case hr=>first | (go_simp;done) | (go_simp;rfl));intro gb481 hg w39 hbox hb;have n0_:=bxA hb hg hbox (q0_ HB);clear HB;obtain ⟨HB,BK481,GW481,GE481⟩:=n0_;clear hb hbox hg) | ((with_reducible refine gate_dst (N:=3) rfl ?_);refine box_event ?hg (N:=3) ?hd (cs:=#[.slice A1_0 l1_0.length c1_0,.slice A1_1 l1_1.length c1_1,.int .i64 a1_2,.int .i64 a1_3,.int .i64 a1_4]) (t:=51) ?hr ?_;(case hd=>rfl);(case hg=>rfl);(case hr=>first | (go_simp;done) | (go_simp;rfl));intro gb482 hg w40 hbox hb;have n0_:=bxB (b:=gb481) (.cells #[.slice A0_0 l0_0.length c0_0,.slice A0_1 l0_1.length c0_1,.int .i64 a0_2,.int .i64 a0_3,.int .i64 a0_4] 51 (0,0)) hb hg hbox (q10_ HB GE481) (q6_ BK481);clear BK481 HB;obtain ⟨BK481,HB,BK482,GW482,GE482,NB481_482,NB482_481⟩:=n0_;clear hb hbox hg;have hnb41:=NB481_482.out;have hnc41:=NB482_481.out;obtain ⟨hcz42_0,hcz42_1,hcz42_2,hcz42_3,hcz42_4,hfz42_0,hfz42_1,hfz42_2,hfz42_3,hfz42_4⟩:=bz5_ BK481;obtain ⟨hcz43_0,hcz43_1,hcz43_2,hcz43_3,hcz43_4,hfz43_0,hfz43_1,hfz43_2,hfz43_3,hfz43_4⟩:=bz5_ BK482) | ((with_reducible refine gate_callee (f:=19) rfl ?_);refine goesM_ (some 9) Try.func19 #[.slice A0_0 l0_0.length c0_0,.slice A1_0 l1_0.length c1_0] ?_;(with_reducible refine (spec_l3Ints.calls k _ _ l0_0 _ _ l1_0 false _ ?side1 ?side2 ?side3 ?side4 A3.out).mono ?_);(case side1=>exact y42_ HR0_0 HB);(case side2=>exact HC0_0.out);(case side3=>exact y42_ HR1_0 HB);(case side4=>exact HC1_0.out);rintro e w' ⟨rfl,⟨nd,rfl⟩⟩;refine ⟨_,rfl,?_⟩))
  go_ret
  exact ⟨y43_,y44_ HB GE481 GE482⟩
end Go.Proofs.Ytfbocgagfodgnaa.P

namespace Go.Proofs.Ytfbocgagfodgnaa.P
open Go.RowKit Go.Proofs.YtfbocgagfodgnaaW.PrintWords Go.Proofs.YtfbocgagfodgnaaW.PrintLast Go.Proofs.YtfbocgagfodgnaaW.PrintMore
open Bool renaming true → O, false → J
open Go.Proofs.YtfbocgagfodgnaaW.PrintWords renaming Aside0.mk → Y, blk_cell → E
open List renaming setIfInBounds_toArray → U, set_cons_zero → G, set_cons_succ → X
open Go renaming World.block_lt_of_cell? → Q, Act.put → W
attribute [local go_sem] max2_int min2_int max_two min_two max_three min_three max_four min_four
set_option linter.unusedVariables false
set_option linter.unusedSimpArgs false
attribute [local go_sem high] eqA38
mutual
def spec_WorldSame.j0 : Nat → Bool → List (S51) → List Int → List Int → List (List Int) → List (S38) → List (S51) → List Int → List Int → List (List Int) → List (S38) → Option (Bool)
 | 0,_,_,_,_,_,_,_,_,_,_,_=>none
 | k + 1,x48,x486000,x486001,x486002,x486003,x486004,x487000,x487001,x487002,x487003,x487004=>if x48 = true then (some false) else (spec_WorldSame.l0 k 0 x486000 x486001 x486002 x486003 x486004 x487000 x487001 x487002 x487003 x487004)
def spec_WorldSame.l0 : Nat → Int → List (S51) → List Int → List Int → List (List Int) → List (S38) → List (S51) → List Int → List Int → List (List Int) → List (S38) → Option (Bool)
 | 0,_,_,_,_,_,_,_,_,_,_,_=>none
 | k + 1,x5,x486000,x486001,x486002,x486003,x486004,x487000,x487001,x487002,x487003,x487004=>if x5 < (x486000.length : Int) then (if 0 ≤ x5 then (if x5 < (x487000.length : Int) then ((spec_l3Proc.f k ((rd_T51 x486000 x5).f0) ((rd_T51 x486000 x5).f1) ((rd_T51 x486000 x5).f2) ((rd_T51 x486000 x5).f3) ((rd_T51 x486000 x5).f4) ((rd_T51 x487000 x5).f0) ((rd_T51 x487000 x5).f1) ((rd_T51 x487000 x5).f2) ((rd_T51 x487000 x5).f3) ((rd_T51 x487000 x5).f4)).bind fun t491=>(if t491 = true then (spec_WorldSame.l0 k (wrap64 (x5 + 1)) x486000 x486001 x486002 x486003 x486004 x487000 x487001 x487002 x487003 x487004) else (some false))) else (none)) else (none)) else (spec_WorldSame.l1 k 0 x486000 x486001 x486002 x486003 x486004 x487000 x487001 x487002 x487003 x487004)
def spec_WorldSame.l1 : Nat → Int → List (S51) → List Int → List Int → List (List Int) → List (S38) → List (S51) → List Int → List Int → List (List Int) → List (S38) → Option (Bool)
 | 0,_,_,_,_,_,_,_,_,_,_,_=>none
 | k + 1,x6,x486000,x486001,x486002,x486003,x486004,x487000,x487001,x487002,x487003,x487004=>if x6 < (x486003.length : Int) then (if 0 ≤ x6 then (if x6 < (x487003.length : Int) then ((spec_l3Ints.f k (rd_L4 x486003 x6) (rd_L4 x487003 x6)).bind fun t494=>(if t494 = true then (spec_WorldSame.l1 k (wrap64 (x6 + 1)) x486000 x486001 x486002 x486003 x486004 x487000 x487001 x487002 x487003 x487004) else (some false))) else (none)) else (none)) else (spec_WorldSame.l2 k 0 x486000 x486001 x486002 x486003 x486004 x487000 x487001 x487002 x487003 x487004)
def spec_WorldSame.l2 : Nat → Int → List (S51) → List Int → List Int → List (List Int) → List (S38) → List (S51) → List Int → List Int → List (List Int) → List (S38) → Option (Bool)
 | 0,_,_,_,_,_,_,_,_,_,_,_=>none
 | k + 1,x7,x486000,x486001,x486002,x486003,x486004,x487000,x487001,x487002,x487003,x487004=>if x7 < (x486004.length : Int) then (if 0 ≤ x7 then (if x7 < (x487004.length : Int) then (if (!(((rd_T38 x486004 x7).f0) == ((rd_T38 x487004 x7).f0)) || (!(((rd_T38 x486004 x7).f1) == ((rd_T38 x487004 x7).f1)))) = true then (some false) else (spec_WorldSame.l2 k (wrap64 (x7 + 1)) x486000 x486001 x486002 x486003 x486004 x487000 x487001 x487002 x487003 x487004)) else (none)) else (none)) else (some true)
end
def spec_WorldSame.f (k : Nat) (l0_0 : List (S51)) (l0_1 : List Int) (l0_2 : List Int) (l0_3 : List (List Int)) (l0_4 : List (S38)) (l1_0 : List (S51)) (l1_1 : List Int) (l1_2 : List Int) (l1_3 : List (List Int)) (l1_4 : List (S38)) : Option (Bool):=if (l0_0.length : Int) = (l1_0.length : Int) then (if (l0_3.length : Int) = (l1_3.length : Int) then (if (l0_4.length : Int) = (l1_4.length : Int) then ((spec_l3Ints.f k l0_1 l1_1).bind fun t487=>(if t487 = true then ((spec_l3Ints.f k l0_2 l1_2).bind fun t488=>(spec_WorldSame.j0 k (!t488) l0_0 l0_1 l0_2 l0_3 l0_4 l1_0 l1_1 l1_2 l1_3 l1_4)) else (spec_WorldSame.j0 k true l0_0 l0_1 l0_2 l0_3 l0_4 l1_0 l1_1 l1_2 l1_3 l1_4))) else (spec_WorldSame.j0 k true l0_0 l0_1 l0_2 l0_3 l0_4 l1_0 l1_1 l1_2 l1_3 l1_4)) else (spec_WorldSame.j0 k true l0_0 l0_1 l0_2 l0_3 l0_4 l1_0 l1_1 l1_2 l1_3 l1_4)) else (spec_WorldSame.j0 k true l0_0 l0_1 l0_2 l0_3 l0_4 l1_0 l1_1 l1_2 l1_3 l1_4)
def spec_WorldSame.T6 : Bool × List (List Nat × List Nat):=(true,[([],[]),([0],[0]),([],[]),([1,2],[1,2]),([3],[3]),([],[]),([5],[5]),([],[]),([6,7],[6,7]),([8],[8]),([4,9],[4,9]),([10],[10])])
def spec_WorldSame.B6 : List Nat:=[0,1,0,7,15,0,32,0,224,480,1023,2047]
theorem spec_WorldSame.tab6 : rtab .any (opsOf Try.f11 6) = spec_WorldSame.T6:=by kernel_rfl
theorem spec_WorldSame.bits6 : waitsOk spec_WorldSame.T6.2 spec_WorldSame.B6 = true:=by kernel_rfl
def spec_WorldSame.T11 : Bool × List (List Nat × List Nat):=(true,[([],[]),([0],[0]),([],[]),([1,2],[1,2]),([3],[3]),([],[]),([5],[5]),([],[]),([6,7],[6,7]),([8],[8]),([4,9],[4,9]),([10],[10])])
def spec_WorldSame.B11 : List Nat:=[0,1,0,7,15,0,32,0,224,480,1023,2047]
theorem spec_WorldSame.tab11 : rtab .any (opsOf Try.f11 11) = spec_WorldSame.T11:=by kernel_rfl
theorem spec_WorldSame.bits11 : waitsOk spec_WorldSame.T11.2 spec_WorldSame.B11 = true:=by kernel_rfl
def spec_WorldSame.T16 : Bool × List (List Nat × List Nat):=(true,[([],[]),([0],[0]),([],[]),([1,2],[1,2]),([3],[3]),([],[]),([5],[5]),([],[]),([6,7],[6,7]),([8],[8]),([4,9],[4,9])])
def spec_WorldSame.B16 : List Nat:=[0,1,0,7,15,0,32,0,224,480,1023]
theorem spec_WorldSame.tab16 : rtab .any (opsOf Try.f11 16) = spec_WorldSame.T16:=by kernel_rfl
theorem spec_WorldSame.bits16 : waitsOk spec_WorldSame.T16.2 spec_WorldSame.B16 = true:=by kernel_rfl
private theorem y62_ {A B Z : Prop} (a0 : Aside0 A) (a1 : Aside0 B) (h : A → B → Z:=by intro h0_ h1_;repeat (first | exact (Kd.C_below h0_ h1_) | (with_reducible refine Kd.C_alloc ?_ _) | (with_reducible refine Kd.C_drewN ?_ _) | (with_reducible refine Kd.C_drew ?_))) : Z:=h a0.out a1.out
private theorem y63_ {Z : Prop} (h : Z:=by first | rfl | (simp;done) | (simp [*];done)) : Z:=h
private theorem y64_ {A Z : Prop} (a0 : Aside0 A) (h : A → Z:=by intro h0_;(with_reducible repeat (first | refine blk_drewN ?_ _ | refine blk_drew ?_ | refine blk_alloc ?_ _));exact h0_) : Z:=h a0.out
private theorem y65_ {A B C Z : Prop} (a0 : Aside0 A) (a1 : Aside0 B) (a2 : Aside0 C) (h : A → B → C → Z:=by intro h0_ h1_ h2_;repeat (first | (with_reducible first | exact h0_ | apply below_alloc | apply pw_below_drewN | apply below_drew1 | refine below_set ?_ h1_ | refine below_set ?_ h2_) | exact h0_)) : Z:=h a0.out a1.out a2.out
private theorem y66_ {Z : Prop} (h : Z:=by first | rfl | (simp [errW_none,errW_some] <;> rfl) | (simp [*,errW_none,errW_some] <;> rfl)) : Z:=h
private theorem y67_ {Z : Prop} (h : Z:=by first | (with_reducible assumption) | assumption) : Z:=h
set_option maxHeartbeats 8000000 in
set_option maxRecDepth 100000 in
theorem spec_WorldSame.calls (k : Nat) (A0_0 : Option Addr) (c0_0 : Nat) (l0_0 : List (S51)) (A0_1 : Option Addr) (c0_1 : Nat) (l0_1 : List Int) (A0_2 : Option Addr) (c0_2 : Nat) (l0_2 : List Int) (A0_3 : Option Addr) (c0_3 : Nat) (l0_3 : List (List Int)) (A0_4 : Option Addr) (c0_4 : Nat) (l0_4 : List (S38)) (A1_0 : Option Addr) (c1_0 : Nat) (l1_0 : List (S51)) (A1_1 : Option Addr) (c1_1 : Nat) (l1_1 : List Int) (A1_2 : Option Addr) (c1_2 : Nat) (l1_2 : List Int) (A1_3 : Option Addr) (c1_3 : Nat) (l1_3 : List (List Int)) (A1_4 : Option Addr) (c1_4 : Nat) (l1_4 : List (S38)) (r : Bool) (w : World) (hr0_0 : Kd.C k51 w A0_0 l0_0.length l0_0) (hc0_0 : l0_0.length ≤ c0_0) (hr0_1 : Kd.C (Kd.int .i64) w A0_1 l0_1.length l0_1) (hc0_1 : l0_1.length ≤ c0_1) (hr0_2 : Kd.C (Kd.int .i64) w A0_2 l0_2.length l0_2) (hc0_2 : l0_2.length ≤ c0_2) (hr0_3 : Kd.C (Kd.slice 3 (Kd.int .i64)) w A0_3 l0_3.length l0_3) (hc0_3 : l0_3.length ≤ c0_3) (hr0_4 : Kd.C k38 w A0_4 l0_4.length l0_4) (hc0_4 : l0_4.length ≤ c0_4) (hr1_0 : Kd.C k51 w A1_0 l1_0.length l1_0) (hc1_0 : l1_0.length ≤ c1_0) (hr1_1 : Kd.C (Kd.int .i64) w A1_1 l1_1.length l1_1) (hc1_1 : l1_1.length ≤ c1_1) (hr1_2 : Kd.C (Kd.int .i64) w A1_2 l1_2.length l1_2) (hc1_2 : l1_2.length ≤ c1_2) (hr1_3 : Kd.C (Kd.slice 3 (Kd.int .i64)) w A1_3 l1_3.length l1_3) (hc1_3 : l1_3.length ≤ c1_3) (hr1_4 : Kd.C k38 w A1_4 l1_4.length l1_4) (hc1_4 : l1_4.length ≤ c1_4) (h : spec_WorldSame.f k l0_0 l0_1 l0_2 l0_3 l0_4 l1_0 l1_1 l1_2 l1_3 l1_4 = some r) :
  Calls Try.prog 11 #[.agg #[.slice A0_0 l0_0.length c0_0,.slice A0_1 l0_1.length c0_1,.slice A0_2 l0_2.length c0_2,.slice A0_3 l0_3.length c0_3,.slice A0_4 l0_4.length c0_4],.agg #[.slice A1_0 l1_0.length c1_0,.slice A1_1 l1_1.length c1_1,.slice A1_2 l1_2.length c1_2,.slice A1_3 l1_3.length c1_3,.slice A1_4 l1_4.length c1_4]] w fun e w'=>e = .returned (.bool r) ∧ Below w.heap.size w w':=by
 have hu33:=Try.underlying33;have hu51:=Try.underlying51;have hu38:=Try.underlying38;have HR0_0:=Y hr0_0;have HC0_0:=Y hc0_0;clear hr0_0 hc0_0;have HR0_1:=Y hr0_1;have HC0_1:=Y hc0_1;clear hr0_1 hc0_1;have HR0_2:=Y hr0_2;have HC0_2:=Y hc0_2;clear hr0_2 hc0_2;have HR0_3:=Y hr0_3;have HC0_3:=Y hc0_3;clear hr0_3 hc0_3;have HR0_4:=Y hr0_4;have HC0_4:=Y hc0_4;clear hr0_4 hc0_4;have HR1_0:=Y hr1_0;have HC1_0:=Y hc1_0;clear hr1_0 hc1_0;have HR1_1:=Y hr1_1;have HC1_1:=Y hc1_1;clear hr1_1 hc1_1;have HR1_2:=Y hr1_2;have HC1_2:=Y hc1_2;clear hr1_2 hc1_2;have HR1_3:=Y hr1_3;have HC1_3:=Y hc1_3;clear hr1_3 hc1_3;have HR1_4:=Y hr1_4;have HC1_4:=Y hc1_4;clear hr1_4 hc1_4;have HB:=Y (Below.refl w.heap.size w)
 have H : (if (l0_0.length : Int) = (l1_0.length : Int) then (if (l0_3.length : Int) = (l1_3.length : Int) then (if (l0_4.length : Int) = (l1_4.length : Int) then ((spec_l3Ints.f k l0_1 l1_1).bind fun t487=>(if t487 = true then ((spec_l3Ints.f k l0_2 l1_2).bind fun t488=>(spec_WorldSame.j0 k (!t488) l0_0 l0_1 l0_2 l0_3 l0_4 l1_0 l1_1 l1_2 l1_3 l1_4)) else (spec_WorldSame.j0 k true l0_0 l0_1 l0_2 l0_3 l0_4 l1_0 l1_1 l1_2 l1_3 l1_4))) else (spec_WorldSame.j0 k true l0_0 l0_1 l0_2 l0_3 l0_4 l1_0 l1_1 l1_2 l1_3 l1_4)) else (spec_WorldSame.j0 k true l0_0 l0_1 l0_2 l0_3 l0_4 l1_0 l1_1 l1_2 l1_3 l1_4)) else (spec_WorldSame.j0 k true l0_0 l0_1 l0_2 l0_3 l0_4 l1_0 l1_1 l1_2 l1_3 l1_4)) = some r:=h
 clear h;have HC3:=Y H;clear H;go_enter Try.func11,Try.ntmps11
 go_upto_region 1 with (first | ((with_reducible refine gate_dst (N:=2) rfl ?_);(try (refine gate_guard (by rfl) ?_;dsimp only));refine box_event ?hg (N:=2) ?hd (cs:=#[.slice A0_0 l0_0.length c0_0,.slice A0_1 l0_1.length c0_1,.slice A0_2 l0_2.length c0_2,.slice A0_3 l0_3.length c0_3,.slice A0_4 l0_4.length c0_4]) (t:=33) ?hr ?_;(case hd=>rfl);(case hg=>rfl);(case hr=>first | (go_simp;done) | (go_simp;rfl));intro gb485 hg w4 hbox hb;have n0_:=bxA hb hg hbox (q0_ HB);clear HB;obtain ⟨HB,BK485,GW485,GE485⟩:=n0_;clear hb hbox hg) | ((with_reducible refine gate_dst (N:=3) rfl ?_);(try (refine gate_guard (by rfl) ?_;dsimp only));refine box_event ?hg (N:=3) ?hd (cs:=#[.slice A1_0 l1_0.length c1_0,.slice A1_1 l1_1.length c1_1,.slice A1_2 l1_2.length c1_2,.slice A1_3 l1_3.length c1_3,.slice A1_4 l1_4.length c1_4]) (t:=33) ?hr ?_;(case hd=>rfl);(case hg=>rfl);(case hr=>first | (go_simp;done) | (go_simp;rfl));intro gb486 hg w5 hbox hb;have n0_:=bxB (b:=gb485) (.cells #[.slice A0_0 l0_0.length c0_0,.slice A0_1 l0_1.length c0_1,.slice A0_2 l0_2.length c0_2,.slice A0_3 l0_3.length c0_3,.slice A0_4 l0_4.length c0_4] 33 (0,0)) hb hg hbox (q10_ HB GE485) (q6_ BK485);clear BK485 HB;obtain ⟨BK485,HB,BK486,GW486,GE486,NB485_486,NB486_485⟩:=n0_;clear hb hbox hg))
 (try simp only [W,U,G,X])
 go_cut [48] (fun v48 wc=>∃ (kq : Nat) (x48_2 : Bool),v48 = .bool x48_2 ∧ Aside0 (spec_WorldSame.j0 kq x48_2 l0_0 l0_1 l0_2 l0_3 l0_4 l1_0 l1_1 l1_2 l1_3 l1_4 = some r) ∧ Aside0 (kq ≤ k) ∧ Aside0 (wc.heap[gb485]? = some (.cells #[(.slice A0_0 l0_0.length c0_0),(.slice A0_1 l0_1.length c0_1),(.slice A0_2 l0_2.length c0_2),(.slice A0_3 l0_3.length c0_3),(.slice A0_4 l0_4.length c0_4)] 33 (0,0))) ∧ Aside0 (wc.heap[gb486]? = some (.cells #[(.slice A1_0 l1_0.length c1_0),(.slice A1_1 l1_1.length c1_1),(.slice A1_2 l1_2.length c1_2),(.slice A1_3 l1_3.length c1_3),(.slice A1_4 l1_4.length c1_4)] 33 (0,0))) ∧ Aside0 (Below w.heap.size w wc))
 case first =>
  have H:=HC3.out;clear HC3
  by_cases c6 : (l0_0.length : Int) = (l1_0.length : Int)
  ·rw [if_pos c6] at H;obtain ⟨c6b0,c6b1⟩:=eqT c6
   have c6b2 : (l0_0.length == l1_0.length) = true:=by first | simpa using c6 | (simp at c6 ⊢;omega)
   clear c6
   (first | rw [c6b0] | (simp only [i64_w,i32_w];rw [c6b0]) | skip)
   by_cases c7 : (l0_3.length : Int) = (l1_3.length : Int)
   ·rw [if_pos c7] at H;obtain ⟨c7b0,c7b1⟩:=eqT c7
    have c7b2 : (l0_3.length == l1_3.length) = true:=by first | simpa using c7 | (simp at c7 ⊢;omega)
    clear c7
    by_cases c8 : (l0_4.length : Int) = (l1_4.length : Int)
    ·rw [if_pos c8] at H;obtain ⟨c8b0,c8b1⟩:=eqT c8
     have c8b2 : (l0_4.length == l1_4.length) = true:=by first | simpa using c8 | (simp at c8 ⊢;omega)
     clear c8;obtain ⟨t487,A9,H⟩:=bnd H
     by_cases c10 : t487 = true
     ·subst c10
      rw [if_pos rfl] at H;obtain ⟨t488,A11,H⟩:=bnd H;have H':=Y H;clear H;have hnb12:=NB485_486.out;have hnc12:=NB486_485.out;obtain ⟨hcz13_0,hcz13_1,hcz13_2,hcz13_3,hcz13_4,hfz13_0,hfz13_1,hfz13_2,hfz13_3,hfz13_4⟩:=bz5_ BK485;obtain ⟨hcz14_0,hcz14_1,hcz14_2,hcz14_3,hcz14_4,hfz14_0,hfz14_1,hfz14_2,hfz14_3,hfz14_4⟩:=bz5_ BK486
      go_wp2_with (first | (go_at_call 19;(with_reducible refine (spec_l3Ints.calls k _ _ l0_1 _ _ l1_1 true _ ?side1 ?side2 ?side3 ?side4 A9.out).mono ?_);(case side1=>exact y62_ HR0_1 HB);(case side2=>exact HC0_1.out);(case side3=>exact y62_ HR1_1 HB);(case side4=>exact HC1_1.out);rintro e w' ⟨rfl,⟨nd,rfl⟩⟩) | (go_at_call 19;(with_reducible refine (spec_l3Ints.calls k _ _ l0_2 _ _ l1_2 t488 _ ?side1 ?side2 ?side3 ?side4 A11.out).mono ?_);(case side1=>repeat (first | exact (Kd.C_below HR0_2.out (q13_ HB GE485 GE486)) | (with_reducible refine Kd.C_alloc ?_ _) | (with_reducible refine Kd.C_drewN ?_ _) | (with_reducible refine Kd.C_drew ?_)));(case side2=>exact HC0_2.out);(case side3=>repeat (first | exact (Kd.C_below HR1_2.out (q13_ HB GE485 GE486)) | (with_reducible refine Kd.C_alloc ?_ _) | (with_reducible refine Kd.C_drewN ?_ _) | (with_reducible refine Kd.C_drew ?_)));(case side4=>exact HC1_2.out);rintro e w' ⟨rfl,⟨nd,rfl⟩⟩))
      go_meet
      case rel=>exact ⟨_,(!t488),(y63_),H',⟨by first | omega | exact Nat.le_refl _⟩,⟨y64_ BK485⟩,⟨y64_ BK486⟩,⟨y65_ HB GE485 GE486⟩⟩
     ·replace c10:=Bool.eq_false_iff.mpr c10;subst c10
      rw [if_neg (show ¬ (false = true) by decide)] at H;have H':=Y H;clear H;have hnb15:=NB485_486.out;have hnc15:=NB486_485.out;obtain ⟨hcz16_0,hcz16_1,hcz16_2,hcz16_3,hcz16_4,hfz16_0,hfz16_1,hfz16_2,hfz16_3,hfz16_4⟩:=bz5_ BK485;obtain ⟨hcz17_0,hcz17_1,hcz17_2,hcz17_3,hcz17_4,hfz17_0,hfz17_1,hfz17_2,hfz17_3,hfz17_4⟩:=bz5_ BK486
      go_wp2_with (first | (go_at_call 19;(with_reducible refine (spec_l3Ints.calls k _ _ l0_1 _ _ l1_1 false _ ?side1 ?side2 ?side3 ?side4 A9.out).mono ?_);(case side1=>exact y62_ HR0_1 HB);(case side2=>exact HC0_1.out);(case side3=>exact y62_ HR1_1 HB);(case side4=>exact HC1_1.out);rintro e w' ⟨rfl,⟨nd,rfl⟩⟩))
      go_meet
      case rel=>exact ⟨_,(true),(y63_),H',⟨by first | omega | exact Nat.le_refl _⟩,⟨y64_ BK485⟩,⟨y64_ BK486⟩,⟨y65_ HB GE485 GE486⟩⟩
    ·rw [if_neg c8] at H;obtain ⟨c8b0,c8b1⟩:=eqF c8
     have c8b2 : (l0_4.length == l1_4.length) = false:=by first | simpa using c8 | (simp at c8 ⊢;omega)
     have H':=Y H;clear H;have hnb18:=NB485_486.out;have hnc18:=NB486_485.out;obtain ⟨hcz19_0,hcz19_1,hcz19_2,hcz19_3,hcz19_4,hfz19_0,hfz19_1,hfz19_2,hfz19_3,hfz19_4⟩:=bz5_ BK485;obtain ⟨hcz20_0,hcz20_1,hcz20_2,hcz20_3,hcz20_4,hfz20_0,hfz20_1,hfz20_2,hfz20_3,hfz20_4⟩:=bz5_ BK486
     go_wp2
     go_meet
     case rel=>exact ⟨_,(true),(y63_),H',⟨by first | omega | exact Nat.le_refl _⟩,⟨y64_ BK485⟩,⟨y64_ BK486⟩,⟨y65_ HB GE485 GE486⟩⟩
   ·rw [if_neg c7] at H;obtain ⟨c7b0,c7b1⟩:=eqF c7
    have c7b2 : (l0_3.length == l1_3.length) = false:=by first | simpa using c7 | (simp at c7 ⊢;omega)
    have H':=Y H;clear H;have hnb21:=NB485_486.out;have hnc21:=NB486_485.out;obtain ⟨hcz22_0,hcz22_1,hcz22_2,hcz22_3,hcz22_4,hfz22_0,hfz22_1,hfz22_2,hfz22_3,hfz22_4⟩:=bz5_ BK485;obtain ⟨hcz23_0,hcz23_1,hcz23_2,hcz23_3,hcz23_4,hfz23_0,hfz23_1,hfz23_2,hfz23_3,hfz23_4⟩:=bz5_ BK486
    go_wp2
    go_meet
    case rel=>exact ⟨_,(true),(y63_),H',⟨by first | omega | exact Nat.le_refl _⟩,⟨y64_ BK485⟩,⟨y64_ BK486⟩,⟨y65_ HB GE485 GE486⟩⟩
  ·rw [if_neg c6] at H;obtain ⟨c6b0,c6b1⟩:=eqF c6
   have c6b2 : (l0_0.length == l1_0.length) = false:=by first | simpa using c6 | (simp at c6 ⊢;omega)
   (first | rw [c6b0] | (simp only [i64_w,i32_w];rw [c6b0]) | skip)
   have H':=Y H;clear H;have hnb24:=NB485_486.out;have hnc24:=NB486_485.out;obtain ⟨hcz25_0,hcz25_1,hcz25_2,hcz25_3,hcz25_4,hfz25_0,hfz25_1,hfz25_2,hfz25_3,hfz25_4⟩:=bz5_ BK485;obtain ⟨hcz26_0,hcz26_1,hcz26_2,hcz26_3,hcz26_4,hfz26_0,hfz26_1,hfz26_2,hfz26_3,hfz26_4⟩:=bz5_ BK486
   go_wp2
   go_meet
   case rel=>exact ⟨_,(true),(y63_),H',⟨by first | omega | exact Nat.le_refl _⟩,⟨y64_ BK485⟩,⟨y64_ BK486⟩,⟨y65_ HB GE485 GE486⟩⟩
 case rest =>
  clear HC3;obtain ⟨kq,x48_2,rfl,HA,HJ2,BK485,BK486,HB⟩:=hcut
  cases kq with
  | zero=>exact absurd HA.out (by simp [spec_WorldSame.j0])
  | succ kj2 =>
   have H:=HA.out;clear HA;simp only [spec_WorldSame.j0] at H
   by_cases c27 : x48_2 = true
   ·subst c27
    rw [if_pos rfl] at H;obtain rfl:=Option.some.inj H
    go_wp2
    go_ret
    exact ⟨y66_,y65_ HB GE485 GE486⟩
   ·replace c27:=Bool.eq_false_iff.mpr c27;subst c27
    rw [if_neg (show ¬ (false = true) by decide)] at H;have H':=Y H;clear H
    go_wp2
    go_loopg [5] kj2 (fun kq v5 w'=>∃ (x5_2 : Int),v5 = .int .i64 x5_2 ∧ Aside0 (spec_WorldSame.l0 kq x5_2 l0_0 l0_1 l0_2 l0_3 l0_4 l1_0 l1_1 l1_2 l1_3 l1_4 = some r) ∧ Aside0 (kq ≤ kj2) ∧ Aside0 (w'.heap[gb485]? = some (.cells #[(.slice A0_0 l0_0.length c0_0),(.slice A0_1 l0_1.length c0_1),(.slice A0_2 l0_2.length c0_2),(.slice A0_3 l0_3.length c0_3),(.slice A0_4 l0_4.length c0_4)] 33 (0,0))) ∧ Aside0 (w'.heap[gb486]? = some (.cells #[(.slice A1_0 l1_0.length c1_0),(.slice A1_1 l1_1.length c1_1),(.slice A1_2 l1_2.length c1_2),(.slice A1_3 l1_3.length c1_3),(.slice A1_4 l1_4.length c1_4)] 33 (0,0))) ∧ Aside0 (Below w.heap.size w w'))
    case atStart=>exact ⟨(0),(y63_),H',⟨Nat.le_refl _⟩,⟨y64_ BK485⟩,⟨y64_ BK486⟩,⟨y65_ HB GE485 GE486⟩⟩
    case round =>
     clear H';(try clear c27);obtain ⟨x5_2,rfl,HA,HK2,BK485,BK486,HB⟩:=hrel
     cases gk with
     | zero=>exact absurd HA.out (by simp [spec_WorldSame.l0])
     | succ k2 =>
      have H:=HA.out;clear HA;simp only [spec_WorldSame.l0] at H
      by_cases c28 : x5_2 < (l0_0.length : Int)
      ·rw [if_pos c28] at H;have c28b0 : decide (x5_2 < (l0_0.length : Int)) = true:=decide_eq_true c28;clear c28
       by_cases c29 : 0 ≤ x5_2
       ·rw [if_pos c29] at H;have c29b0 : decide (0 ≤ x5_2) = true:=decide_eq_true c29;clear c29
        by_cases c30 : x5_2 < (l1_0.length : Int)
        ·rw [if_pos c30] at H;have c30b0 : decide (x5_2 < (l1_0.length : Int)) = true:=decide_eq_true c30;clear c30;obtain ⟨t491,A31,H⟩:=bnd H
         by_cases c32 : t491 = true
         ·subst c32
          rw [if_pos rfl] at H;have H':=Y H;clear H;have hnb33:=NB485_486.out;have hnc33:=NB486_485.out;obtain ⟨hcz34_0,hcz34_1,hcz34_2,hcz34_3,hcz34_4,hfz34_0,hfz34_1,hfz34_2,hfz34_3,hfz34_4⟩:=bz5_ BK485
          try go_wp2
          have n0_:=ap3 (blk_drew BK485.out) (blk_drew BK486.out) (below_drew1 HB.out);clear BK485 BK486 HB;obtain ⟨BK485,BK486,HB⟩:=n0_
          have p489 : 0 ≤ (x5_2 : Int):=of_decide_eq_true (y67_)
          have q489 : x5_2 < (l0_0.length : Int):=of_decide_eq_true (y67_)
          obtain ⟨ad489,A489_0,c489_0,A489_1,c489_1,e489,hx489_0,hx489_1,hx489_2,hx489_3,hx489_4,hl489_0,hi489_0,hl489_1,hi489_1⟩:=at_T51 HR0_0.out x5_2 p489 q489;have hw489_4:=hx489_4;have hw489_3:=hx489_3;have hw489_2:=hx489_2;have hw489_1:=hx489_1;have hw489_0:=hx489_0
          cases e489
          replace hx489_0:=clB HB hx489_0;replace hx489_1:=clB HB hx489_1;replace hx489_2:=clB HB hx489_2;replace hx489_3:=clB HB hx489_3;replace hx489_4:=clB HB hx489_4;have HR489_0:=Y hi489_0;have HC489_0:=Y hl489_0;clear hi489_0 hl489_0;have HR489_1:=Y hi489_1;have HC489_1:=Y hl489_1;clear hi489_1 hl489_1;replace p489:=eq_true p489;replace q489:=eq_true q489
          have p490 : 0 ≤ (x5_2 : Int):=of_decide_eq_true (y67_)
          have q490 : x5_2 < (l1_0.length : Int):=of_decide_eq_true (y67_)
          obtain ⟨ad490,A490_0,c490_0,A490_1,c490_1,e490,hx490_0,hx490_1,hx490_2,hx490_3,hx490_4,hl490_0,hi490_0,hl490_1,hi490_1⟩:=at_T51 HR1_0.out x5_2 p490 q490;have hw490_4:=hx490_4;have hw490_3:=hx490_3;have hw490_2:=hx490_2;have hw490_1:=hx490_1;have hw490_0:=hx490_0
          cases e490
          replace hx490_0:=clB HB hx490_0;replace hx490_1:=clB HB hx490_1;replace hx490_2:=clB HB hx490_2;replace hx490_3:=clB HB hx490_3;replace hx490_4:=clB HB hx490_4;have HR490_0:=Y hi490_0;have HC490_0:=Y hl490_0;clear hi490_0 hl490_0;have HR490_1:=Y hi490_1;have HC490_1:=Y hl490_1;clear hi490_1 hl490_1;replace p490:=eq_true p490;replace q490:=eq_true q490
          refine start_ (n:=12) (S:=fun w'=>w'.cell? ⟨gb485,0,none⟩ = some (.slice (some ad489) l0_0.length c0_0) ∧ w'.cell? ⟨gb485,1,none⟩ = some (.slice A0_1 l0_1.length c0_1) ∧ w'.cell? ⟨gb485,2,none⟩ = some (.slice A0_2 l0_2.length c0_2) ∧ w'.cell? ⟨gb485,3,none⟩ = some (.slice A0_3 l0_3.length c0_3) ∧ w'.cell? ⟨gb485,4,none⟩ = some (.slice A0_4 l0_4.length c0_4) ∧ w'.cell? ⟨gb486,0,none⟩ = some (.slice (some ad490) l1_0.length c1_0) ∧ w'.cell? ⟨gb486,1,none⟩ = some (.slice A1_1 l1_1.length c1_1) ∧ w'.cell? ⟨gb486,2,none⟩ = some (.slice A1_2 l1_2.length c1_2) ∧ w'.cell? ⟨gb486,3,none⟩ = some (.slice A1_3 l1_3.length c1_3) ∧ w'.cell? ⟨gb486,4,none⟩ = some (.slice A1_4 l1_4.length c1_4) ∧ w'.cell? (ad489.add ((x5_2).toNat * 5)) = some (.slice A489_0 ((rd_T51 l0_0 x5_2).f0).length c489_0) ∧ w'.cell? ⟨(ad489.add ((x5_2).toNat * 5)).block,(ad489.add ((x5_2).toNat * 5)).off + 1,none⟩ = some (.slice A489_1 ((rd_T51 l0_0 x5_2).f1).length c489_1) ∧ w'.cell? ⟨(ad489.add ((x5_2).toNat * 5)).block,(ad489.add ((x5_2).toNat * 5)).off + 2,none⟩ = some (.int .i64 ((rd_T51 l0_0 x5_2).f2)) ∧ w'.cell? ⟨(ad489.add ((x5_2).toNat * 5)).block,(ad489.add ((x5_2).toNat * 5)).off + 3,none⟩ = some (.int .i64 ((rd_T51 l0_0 x5_2).f3)) ∧ w'.cell? ⟨(ad489.add ((x5_2).toNat * 5)).block,(ad489.add ((x5_2).toNat * 5)).off + 4,none⟩ = some (.int .i64 ((rd_T51 l0_0 x5_2).f4)) ∧ w'.cell? (ad490.add ((x5_2).toNat * 5)) = some (.slice A490_0 ((rd_T51 l1_0 x5_2).f0).length c490_0) ∧ w'.cell? ⟨(ad490.add ((x5_2).toNat * 5)).block,(ad490.add ((x5_2).toNat * 5)).off + 1,none⟩ = some (.slice A490_1 ((rd_T51 l1_0 x5_2).f1).length c490_1) ∧ w'.cell? ⟨(ad490.add ((x5_2).toNat * 5)).block,(ad490.add ((x5_2).toNat * 5)).off + 2,none⟩ = some (.int .i64 ((rd_T51 l1_0 x5_2).f2)) ∧ w'.cell? ⟨(ad490.add ((x5_2).toNat * 5)).block,(ad490.add ((x5_2).toNat * 5)).off + 3,none⟩ = some (.int .i64 ((rd_T51 l1_0 x5_2).f3)) ∧ w'.cell? ⟨(ad490.add ((x5_2).toNat * 5)).block,(ad490.add ((x5_2).toNat * 5)).off + 4,none⟩ = some (.int .i64 ((rd_T51 l1_0 x5_2).f4))) (ds:=[]) #[J,J,J,J,J,J,J,J,J,J,J,J] (by kernel_rfl) rfl rfl ⟨(E BK485.out 0).trans rfl,(E BK485.out 1).trans rfl,(E BK485.out 2).trans rfl,(E BK485.out 3).trans rfl,(E BK485.out 4).trans rfl,(E BK486.out 0).trans rfl,(E BK486.out 1).trans rfl,(E BK486.out 2).trans rfl,(E BK486.out 3).trans rfl,(E BK486.out 4).trans rfl,((HB.out.cell (Q w _ hw489_0)).trans hw489_0),((HB.out.cell (Q w _ hw489_1)).trans hw489_1),((HB.out.cell (Q w _ hw489_2)).trans hw489_2),((HB.out.cell (Q w _ hw489_3)).trans hw489_3),((HB.out.cell (Q w _ hw489_4)).trans hw489_4),((HB.out.cell (Q w _ hw490_0)).trans hw490_0),((HB.out.cell (Q w _ hw490_1)).trans hw490_1),((HB.out.cell (Q w _ hw490_2)).trans hw490_2),((HB.out.cell (Q w _ hw490_3)).trans hw490_3),((HB.out.cell (Q w _ hw490_4)).trans hw490_4)⟩ (fun hHeld=>?_);refine with_tabW spec_WorldSame.tab6 spec_WorldSame.bits6 (fun HT_ HW_=>?_)
          generalize wr.drew = w35 at BK485 BK486 HB HR489_0 HR489_1 HR490_0 HR490_1 hx489_0 hx489_1 hx489_2 hx489_3 hx489_4 hx490_0 hx490_1 hx490_2 hx490_3 hx490_4 hHeld ⊢
          refine pure_ (i:=0) (N:=some 56) (v:=?_) (a':=?_) #[O,J,J,J,J,J,J,J,J,J,J,J] rfl rfl (any_of HT_.out (by kernel_rfl)) (fun _ _ _ h=>h) (Or.inl ⟨by rfl,?_⟩) ?_ ?_;rotate_left;(intro w';go_simp;with_reducible rfl);rotate_left;((try simp only [W,U,G,X,i64_w,i32_w]);rfl)
          refine pure_ (i:=2) (N:=some 58) (v:=?_) (a':=?_) #[O,J,O,J,J,J,J,J,J,J,J,J] rfl rfl (any_of HT_.out (by kernel_rfl)) (fun _ _ _ h=>h) (Or.inl ⟨by rfl,?_⟩) ?_ ?_;rotate_left;(intro w';go_simp;with_reducible rfl);rotate_left;((try simp only [W,U,G,X,i64_w,i32_w]);rfl)
          refine pure_ (i:=5) (N:=some 61) (v:=?_) (a':=?_) #[O,J,O,J,J,O,J,J,J,J,J,J] rfl rfl (any_of HT_.out (by kernel_rfl)) (fun _ _ _ h=>h) (Or.inl ⟨by rfl,?_⟩) ?_ ?_;rotate_left;(intro w';go_simp;with_reducible rfl);rotate_left;((try simp only [W,U,G,X,i64_w,i32_w]);rfl)
          refine pure_ (i:=7) (N:=some 63) (v:=?_) (a':=?_) #[O,J,O,J,J,O,J,O,J,J,J,J] rfl rfl (any_of HT_.out (by kernel_rfl)) (fun _ _ _ h=>h) (Or.inl ⟨by rfl,?_⟩) ?_ ?_;rotate_left;(intro w';go_simp;with_reducible rfl);rotate_left;((try simp only [W,U,G,X,i64_w,i32_w]);rfl)
          refine take_ (i:=1) (N:=some 57) (v:=?_) (a':=?_) #[O,O,O,J,J,O,J,O,J,J,J,J] rfl rfl (take_ofW HT_.out HW_.out (by kernel_rfl)) (fun _ _ _ h=>h) (Or.inl ⟨by rfl,?_⟩) hHeld ?_ ?_;rotate_left;(rintro w' ⟨s0,s1,s2,s3,s4,s5,s6,s7,s8,s9,s10,s11,s12,s13,s14,s15,s16,s17,s18,s19⟩;go_simp;with_reducible rfl);rotate_left;((try simp only [W,U,G,X,i64_w,i32_w]);rfl)
          refine pure_ (i:=3) (N:=some 59) (v:=?_) (a':=?_) #[O,O,O,O,J,O,J,O,J,J,J,J] rfl rfl (any_of HT_.out (by kernel_rfl)) (fun _ _ _ h=>h) (Or.inl ⟨by rfl,?_⟩) ?_ ?_;rotate_left;(intro w';go_simp;with_reducible rfl);rotate_left;((try simp only [W,U,G,X,i64_w,i32_w]);rfl)
          refine take_ (i:=4) (N:=some 60) (v:=?_) (a':=?_) #[O,O,O,O,O,O,J,O,J,J,J,J] rfl rfl (take_ofW HT_.out HW_.out (by kernel_rfl)) (fun _ _ _ h=>h) (Or.inl ⟨by rfl,?_⟩) hHeld ?_ ?_;rotate_left;(rintro w' ⟨s0,s1,s2,s3,s4,s5,s6,s7,s8,s9,s10,s11,s12,s13,s14,s15,s16,s17,s18,s19⟩;go_simp;with_reducible rfl);rotate_left;((try simp only [W,U,G,X,i64_w,i32_w]);rfl)
          refine take_ (i:=6) (N:=some 62) (v:=?_) (a':=?_) #[O,O,O,O,O,O,O,O,J,J,J,J] rfl rfl (take_ofW HT_.out HW_.out (by kernel_rfl)) (fun _ _ _ h=>h) (Or.inl ⟨by rfl,?_⟩) hHeld ?_ ?_;rotate_left;(rintro w' ⟨s0,s1,s2,s3,s4,s5,s6,s7,s8,s9,s10,s11,s12,s13,s14,s15,s16,s17,s18,s19⟩;go_simp;with_reducible rfl);rotate_left;((try simp only [W,U,G,X,i64_w,i32_w]);rfl)
          refine pure_ (i:=8) (N:=some 64) (v:=?_) (a':=?_) #[O,O,O,O,O,O,O,O,O,J,J,J] rfl rfl (any_of HT_.out (by kernel_rfl)) (fun _ _ _ h=>h) (Or.inl ⟨by rfl,?_⟩) ?_ ?_;rotate_left;(intro w';go_simp;with_reducible rfl);rotate_left;((try simp only [W,U,G,X,i64_w,i32_w]);rfl)
          refine take_ (i:=9) (N:=some 65) (v:=?_) (a':=?_) #[O,O,O,O,O,O,O,O,O,O,J,J] rfl rfl (take_ofW HT_.out HW_.out (by kernel_rfl)) (fun _ _ _ h=>h) (Or.inl ⟨by rfl,?_⟩) hHeld ?_ ?_;rotate_left;(rintro w' ⟨s0,s1,s2,s3,s4,s5,s6,s7,s8,s9,s10,s11,s12,s13,s14,s15,s16,s17,s18,s19⟩;go_simp;with_reducible rfl);rotate_left;((try simp only [W,U,G,X,i64_w,i32_w]);rfl)
          refine one_ (i:=10) (N:=some 66) #[O,O,O,O,O,O,O,O,O,O,O,J] rfl rfl (one_of HT_.out (by kernel_rfl)) (by decide) (fun K hK=>?_)
          refine goes_ Try.func20 (by kernel_rfl) rfl #[.agg #[.slice A489_0 ((rd_T51 l0_0 x5_2).f0).length c489_0,.slice A489_1 ((rd_T51 l0_0 x5_2).f1).length c489_1,.int .i64 ((rd_T51 l0_0 x5_2).f2),.int .i64 ((rd_T51 l0_0 x5_2).f3),.int .i64 ((rd_T51 l0_0 x5_2).f4)],.agg #[.slice A490_0 ((rd_T51 l1_0 x5_2).f0).length c490_0,.slice A490_1 ((rd_T51 l1_0 x5_2).f1).length c490_1,.int .i64 ((rd_T51 l1_0 x5_2).f2),.int .i64 ((rd_T51 l1_0 x5_2).f3),.int .i64 ((rd_T51 l1_0 x5_2).f4)]] (by rfl) rfl rfl (by (try simp only [List.map_toArray,List.map_cons,List.map_nil]);first | done | rfl | (simp only [List.length_drop,List.length_take];rfl)) ?_
          with_reducible refine (spec_l3Proc.calls k2 _ _ ((rd_T51 l0_0 x5_2).f0) _ _ ((rd_T51 l0_0 x5_2).f1) ((rd_T51 l0_0 x5_2).f2) ((rd_T51 l0_0 x5_2).f3) ((rd_T51 l0_0 x5_2).f4) _ _ ((rd_T51 l1_0 x5_2).f0) _ _ ((rd_T51 l1_0 x5_2).f1) ((rd_T51 l1_0 x5_2).f2) ((rd_T51 l1_0 x5_2).f3) ((rd_T51 l1_0 x5_2).f4) true _ ?side1 ?side2 ?side3 ?side4 ?side5 ?side6 ?side7 ?side8 A31.out).mono ?_
          (case side1=>exact y62_ HR489_0 HB)
          (case side2=>exact HC489_0.out)
          (case side3=>exact y62_ HR489_1 HB)
          (case side4=>exact HC489_1.out)
          (case side5=>exact y62_ HR490_0 HB)
          (case side6=>exact HC490_0.out)
          (case side7=>exact y62_ HR490_1 HB)
          (case side8=>exact HC490_1.out)
          rintro e w36 ⟨rfl,hb⟩
          refine ⟨_,rfl,?_⟩
          have n0_:=Y (blk_below (g:=gb485) (o:=.cells #[.slice (some ad489) l0_0.length c0_0,.slice A0_1 l0_1.length c0_1,.slice A0_2 l0_2.length c0_2,.slice A0_3 l0_3.length c0_3,.slice A0_4 l0_4.length c0_4] 33 (0,0)) (q6_ BK485) hb)
          have n1_:=Y (blk_below (g:=gb486) (o:=.cells #[.slice (some ad490) l1_0.length c1_0,.slice A1_1 l1_1.length c1_1,.slice A1_2 l1_2.length c1_2,.slice A1_3 l1_3.length c1_3,.slice A1_4 l1_4.length c1_4] 33 (0,0)) (q6_ BK486) hb)
          have n2_:=Y (below_step (q13_ HB GE485 GE486) hb)
          clear BK485 BK486 HB;have BK485:=n0_;have BK486:=n1_;have HB:=n2_;clear n0_ n1_ n2_
          refine hK.out _ _ ⟨(E BK485.out 0).trans rfl,(E BK485.out 1).trans rfl,(E BK485.out 2).trans rfl,(E BK485.out 3).trans rfl,(E BK485.out 4).trans rfl,(E BK486.out 0).trans rfl,(E BK486.out 1).trans rfl,(E BK486.out 2).trans rfl,(E BK486.out 3).trans rfl,(E BK486.out 4).trans rfl,((HB.out.cell (Q w _ hw489_0)).trans hw489_0),((HB.out.cell (Q w _ hw489_1)).trans hw489_1),((HB.out.cell (Q w _ hw489_2)).trans hw489_2),((HB.out.cell (Q w _ hw489_3)).trans hw489_3),((HB.out.cell (Q w _ hw489_4)).trans hw489_4),((HB.out.cell (Q w _ hw490_0)).trans hw490_0),((HB.out.cell (Q w _ hw490_1)).trans hw490_1),((HB.out.cell (Q w _ hw490_2)).trans hw490_2),((HB.out.cell (Q w _ hw490_3)).trans hw490_3),((HB.out.cell (Q w _ hw490_4)).trans hw490_4)⟩ (fun hHeld=>?_)
          clear hK K
          refine norm_ (a':=?_) ?_ ?_
          rotate_left
          ·show W _ (some 66) _ = _
           simp only [W,U,G,X,i64_w,i32_w]
           rfl
          refine pure_ (i:=11) (N:=some 67) (v:=?_) (a':=?_) #[O,O,O,O,O,O,O,O,O,O,O,O] rfl rfl (any_of HT_.out (by kernel_rfl)) (fun _ _ _ h=>h) (Or.inl ⟨by rfl,?_⟩) ?_ ?_;rotate_left;(intro w';go_simp;with_reducible rfl);rotate_left;((try simp only [W,U,G,X,i64_w,i32_w]);rfl)
          refine done_ (done_of HT_.out (by kernel_rfl)) ?_
          try go_wp2
          go_roundg k2
          case measure=>have:=HJ2.out;have:=HK2.out;omega
          case rel=>exact ⟨(wrap64 (x5_2 + 1)),(y63_),H',⟨by have:=HJ2.out;have:=HK2.out;omega⟩,⟨y64_ BK485⟩,⟨y64_ BK486⟩,⟨y65_ HB GE485 GE486⟩⟩
         ·replace c32:=Bool.eq_false_iff.mpr c32;subst c32
          rw [if_neg (show ¬ (false = true) by decide)] at H;obtain rfl:=Option.some.inj H;have hnb37:=NB485_486.out;have hnc37:=NB486_485.out;obtain ⟨hcz38_0,hcz38_1,hcz38_2,hcz38_3,hcz38_4,hfz38_0,hfz38_1,hfz38_2,hfz38_3,hfz38_4⟩:=bz5_ BK485
          try go_wp2
          have n0_:=ap3 (blk_drew BK485.out) (blk_drew BK486.out) (below_drew1 HB.out);clear BK485 BK486 HB;obtain ⟨BK485,BK486,HB⟩:=n0_
          have p489 : 0 ≤ (x5_2 : Int):=of_decide_eq_true (y67_)
          have q489 : x5_2 < (l0_0.length : Int):=of_decide_eq_true (y67_)
          obtain ⟨ad489,A489_0,c489_0,A489_1,c489_1,e489,hx489_0,hx489_1,hx489_2,hx489_3,hx489_4,hl489_0,hi489_0,hl489_1,hi489_1⟩:=at_T51 HR0_0.out x5_2 p489 q489;have hw489_4:=hx489_4;have hw489_3:=hx489_3;have hw489_2:=hx489_2;have hw489_1:=hx489_1;have hw489_0:=hx489_0
          cases e489
          replace hx489_0:=clB HB hx489_0;replace hx489_1:=clB HB hx489_1;replace hx489_2:=clB HB hx489_2;replace hx489_3:=clB HB hx489_3;replace hx489_4:=clB HB hx489_4;have HR489_0:=Y hi489_0;have HC489_0:=Y hl489_0;clear hi489_0 hl489_0;have HR489_1:=Y hi489_1;have HC489_1:=Y hl489_1;clear hi489_1 hl489_1;replace p489:=eq_true p489;replace q489:=eq_true q489
          have p490 : 0 ≤ (x5_2 : Int):=of_decide_eq_true (y67_)
          have q490 : x5_2 < (l1_0.length : Int):=of_decide_eq_true (y67_)
          obtain ⟨ad490,A490_0,c490_0,A490_1,c490_1,e490,hx490_0,hx490_1,hx490_2,hx490_3,hx490_4,hl490_0,hi490_0,hl490_1,hi490_1⟩:=at_T51 HR1_0.out x5_2 p490 q490;have hw490_4:=hx490_4;have hw490_3:=hx490_3;have hw490_2:=hx490_2;have hw490_1:=hx490_1;have hw490_0:=hx490_0
          cases e490
          replace hx490_0:=clB HB hx490_0;replace hx490_1:=clB HB hx490_1;replace hx490_2:=clB HB hx490_2;replace hx490_3:=clB HB hx490_3;replace hx490_4:=clB HB hx490_4;have HR490_0:=Y hi490_0;have HC490_0:=Y hl490_0;clear hi490_0 hl490_0;have HR490_1:=Y hi490_1;have HC490_1:=Y hl490_1;clear hi490_1 hl490_1;replace p490:=eq_true p490;replace q490:=eq_true q490
          refine start_ (n:=12) (S:=fun w'=>w'.cell? ⟨gb485,0,none⟩ = some (.slice (some ad489) l0_0.length c0_0) ∧ w'.cell? ⟨gb485,1,none⟩ = some (.slice A0_1 l0_1.length c0_1) ∧ w'.cell? ⟨gb485,2,none⟩ = some (.slice A0_2 l0_2.length c0_2) ∧ w'.cell? ⟨gb485,3,none⟩ = some (.slice A0_3 l0_3.length c0_3) ∧ w'.cell? ⟨gb485,4,none⟩ = some (.slice A0_4 l0_4.length c0_4) ∧ w'.cell? ⟨gb486,0,none⟩ = some (.slice (some ad490) l1_0.length c1_0) ∧ w'.cell? ⟨gb486,1,none⟩ = some (.slice A1_1 l1_1.length c1_1) ∧ w'.cell? ⟨gb486,2,none⟩ = some (.slice A1_2 l1_2.length c1_2) ∧ w'.cell? ⟨gb486,3,none⟩ = some (.slice A1_3 l1_3.length c1_3) ∧ w'.cell? ⟨gb486,4,none⟩ = some (.slice A1_4 l1_4.length c1_4) ∧ w'.cell? (ad489.add ((x5_2).toNat * 5)) = some (.slice A489_0 ((rd_T51 l0_0 x5_2).f0).length c489_0) ∧ w'.cell? ⟨(ad489.add ((x5_2).toNat * 5)).block,(ad489.add ((x5_2).toNat * 5)).off + 1,none⟩ = some (.slice A489_1 ((rd_T51 l0_0 x5_2).f1).length c489_1) ∧ w'.cell? ⟨(ad489.add ((x5_2).toNat * 5)).block,(ad489.add ((x5_2).toNat * 5)).off + 2,none⟩ = some (.int .i64 ((rd_T51 l0_0 x5_2).f2)) ∧ w'.cell? ⟨(ad489.add ((x5_2).toNat * 5)).block,(ad489.add ((x5_2).toNat * 5)).off + 3,none⟩ = some (.int .i64 ((rd_T51 l0_0 x5_2).f3)) ∧ w'.cell? ⟨(ad489.add ((x5_2).toNat * 5)).block,(ad489.add ((x5_2).toNat * 5)).off + 4,none⟩ = some (.int .i64 ((rd_T51 l0_0 x5_2).f4)) ∧ w'.cell? (ad490.add ((x5_2).toNat * 5)) = some (.slice A490_0 ((rd_T51 l1_0 x5_2).f0).length c490_0) ∧ w'.cell? ⟨(ad490.add ((x5_2).toNat * 5)).block,(ad490.add ((x5_2).toNat * 5)).off + 1,none⟩ = some (.slice A490_1 ((rd_T51 l1_0 x5_2).f1).length c490_1) ∧ w'.cell? ⟨(ad490.add ((x5_2).toNat * 5)).block,(ad490.add ((x5_2).toNat * 5)).off + 2,none⟩ = some (.int .i64 ((rd_T51 l1_0 x5_2).f2)) ∧ w'.cell? ⟨(ad490.add ((x5_2).toNat * 5)).block,(ad490.add ((x5_2).toNat * 5)).off + 3,none⟩ = some (.int .i64 ((rd_T51 l1_0 x5_2).f3)) ∧ w'.cell? ⟨(ad490.add ((x5_2).toNat * 5)).block,(ad490.add ((x5_2).toNat * 5)).off + 4,none⟩ = some (.int .i64 ((rd_T51 l1_0 x5_2).f4))) (ds:=[]) #[J,J,J,J,J,J,J,J,J,J,J,J] (by kernel_rfl) rfl rfl ⟨(E BK485.out 0).trans rfl,(E BK485.out 1).trans rfl,(E BK485.out 2).trans rfl,(E BK485.out 3).trans rfl,(E BK485.out 4).trans rfl,(E BK486.out 0).trans rfl,(E BK486.out 1).trans rfl,(E BK486.out 2).trans rfl,(E BK486.out 3).trans rfl,(E BK486.out 4).trans rfl,((HB.out.cell (Q w _ hw489_0)).trans hw489_0),((HB.out.cell (Q w _ hw489_1)).trans hw489_1),((HB.out.cell (Q w _ hw489_2)).trans hw489_2),((HB.out.cell (Q w _ hw489_3)).trans hw489_3),((HB.out.cell (Q w _ hw489_4)).trans hw489_4),((HB.out.cell (Q w _ hw490_0)).trans hw490_0),((HB.out.cell (Q w _ hw490_1)).trans hw490_1),((HB.out.cell (Q w _ hw490_2)).trans hw490_2),((HB.out.cell (Q w _ hw490_3)).trans hw490_3),((HB.out.cell (Q w _ hw490_4)).trans hw490_4)⟩ (fun hHeld=>?_);refine with_tabW spec_WorldSame.tab6 spec_WorldSame.bits6 (fun HT_ HW_=>?_)
          generalize wr.drew = w39 at BK485 BK486 HB HR489_0 HR489_1 HR490_0 HR490_1 hx489_0 hx489_1 hx489_2 hx489_3 hx489_4 hx490_0 hx490_1 hx490_2 hx490_3 hx490_4 hHeld ⊢
          refine pure_ (i:=0) (N:=some 56) (v:=?_) (a':=?_) #[O,J,J,J,J,J,J,J,J,J,J,J] rfl rfl (any_of HT_.out (by kernel_rfl)) (fun _ _ _ h=>h) (Or.inl ⟨by rfl,?_⟩) ?_ ?_;rotate_left;(intro w';go_simp;with_reducible rfl);rotate_left;((try simp only [W,U,G,X,i64_w,i32_w]);rfl)
          refine pure_ (i:=2) (N:=some 58) (v:=?_) (a':=?_) #[O,J,O,J,J,J,J,J,J,J,J,J] rfl rfl (any_of HT_.out (by kernel_rfl)) (fun _ _ _ h=>h) (Or.inl ⟨by rfl,?_⟩) ?_ ?_;rotate_left;(intro w';go_simp;with_reducible rfl);rotate_left;((try simp only [W,U,G,X,i64_w,i32_w]);rfl)
          refine pure_ (i:=5) (N:=some 61) (v:=?_) (a':=?_) #[O,J,O,J,J,O,J,J,J,J,J,J] rfl rfl (any_of HT_.out (by kernel_rfl)) (fun _ _ _ h=>h) (Or.inl ⟨by rfl,?_⟩) ?_ ?_;rotate_left;(intro w';go_simp;with_reducible rfl);rotate_left;((try simp only [W,U,G,X,i64_w,i32_w]);rfl)
          refine pure_ (i:=7) (N:=some 63) (v:=?_) (a':=?_) #[O,J,O,J,J,O,J,O,J,J,J,J] rfl rfl (any_of HT_.out (by kernel_rfl)) (fun _ _ _ h=>h) (Or.inl ⟨by rfl,?_⟩) ?_ ?_;rotate_left;(intro w';go_simp;with_reducible rfl);rotate_left;((try simp only [W,U,G,X,i64_w,i32_w]);rfl)
          refine take_ (i:=1) (N:=some 57) (v:=?_) (a':=?_) #[O,O,O,J,J,O,J,O,J,J,J,J] rfl rfl (take_ofW HT_.out HW_.out (by kernel_rfl)) (fun _ _ _ h=>h) (Or.inl ⟨by rfl,?_⟩) hHeld ?_ ?_;rotate_left;(rintro w' ⟨s0,s1,s2,s3,s4,s5,s6,s7,s8,s9,s10,s11,s12,s13,s14,s15,s16,s17,s18,s19⟩;go_simp;with_reducible rfl);rotate_left;((try simp only [W,U,G,X,i64_w,i32_w]);rfl)
          refine pure_ (i:=3) (N:=some 59) (v:=?_) (a':=?_) #[O,O,O,O,J,O,J,O,J,J,J,J] rfl rfl (any_of HT_.out (by kernel_rfl)) (fun _ _ _ h=>h) (Or.inl ⟨by rfl,?_⟩) ?_ ?_;rotate_left;(intro w';go_simp;with_reducible rfl);rotate_left;((try simp only [W,U,G,X,i64_w,i32_w]);rfl)
          refine take_ (i:=4) (N:=some 60) (v:=?_) (a':=?_) #[O,O,O,O,O,O,J,O,J,J,J,J] rfl rfl (take_ofW HT_.out HW_.out (by kernel_rfl)) (fun _ _ _ h=>h) (Or.inl ⟨by rfl,?_⟩) hHeld ?_ ?_;rotate_left;(rintro w' ⟨s0,s1,s2,s3,s4,s5,s6,s7,s8,s9,s10,s11,s12,s13,s14,s15,s16,s17,s18,s19⟩;go_simp;with_reducible rfl);rotate_left;((try simp only [W,U,G,X,i64_w,i32_w]);rfl)
          refine take_ (i:=6) (N:=some 62) (v:=?_) (a':=?_) #[O,O,O,O,O,O,O,O,J,J,J,J] rfl rfl (take_ofW HT_.out HW_.out (by kernel_rfl)) (fun _ _ _ h=>h) (Or.inl ⟨by rfl,?_⟩) hHeld ?_ ?_;rotate_left;(rintro w' ⟨s0,s1,s2,s3,s4,s5,s6,s7,s8,s9,s10,s11,s12,s13,s14,s15,s16,s17,s18,s19⟩;go_simp;with_reducible rfl);rotate_left;((try simp only [W,U,G,X,i64_w,i32_w]);rfl)
          refine pure_ (i:=8) (N:=some 64) (v:=?_) (a':=?_) #[O,O,O,O,O,O,O,O,O,J,J,J] rfl rfl (any_of HT_.out (by kernel_rfl)) (fun _ _ _ h=>h) (Or.inl ⟨by rfl,?_⟩) ?_ ?_;rotate_left;(intro w';go_simp;with_reducible rfl);rotate_left;((try simp only [W,U,G,X,i64_w,i32_w]);rfl)
          refine take_ (i:=9) (N:=some 65) (v:=?_) (a':=?_) #[O,O,O,O,O,O,O,O,O,O,J,J] rfl rfl (take_ofW HT_.out HW_.out (by kernel_rfl)) (fun _ _ _ h=>h) (Or.inl ⟨by rfl,?_⟩) hHeld ?_ ?_;rotate_left;(rintro w' ⟨s0,s1,s2,s3,s4,s5,s6,s7,s8,s9,s10,s11,s12,s13,s14,s15,s16,s17,s18,s19⟩;go_simp;with_reducible rfl);rotate_left;((try simp only [W,U,G,X,i64_w,i32_w]);rfl)
          refine one_ (i:=10) (N:=some 66) #[O,O,O,O,O,O,O,O,O,O,O,J] rfl rfl (one_of HT_.out (by kernel_rfl)) (by decide) (fun K hK=>?_)
          refine goes_ Try.func20 (by kernel_rfl) rfl #[.agg #[.slice A489_0 ((rd_T51 l0_0 x5_2).f0).length c489_0,.slice A489_1 ((rd_T51 l0_0 x5_2).f1).length c489_1,.int .i64 ((rd_T51 l0_0 x5_2).f2),.int .i64 ((rd_T51 l0_0 x5_2).f3),.int .i64 ((rd_T51 l0_0 x5_2).f4)],.agg #[.slice A490_0 ((rd_T51 l1_0 x5_2).f0).length c490_0,.slice A490_1 ((rd_T51 l1_0 x5_2).f1).length c490_1,.int .i64 ((rd_T51 l1_0 x5_2).f2),.int .i64 ((rd_T51 l1_0 x5_2).f3),.int .i64 ((rd_T51 l1_0 x5_2).f4)]] (by rfl) rfl rfl (by (try simp only [List.map_toArray,List.map_cons,List.map_nil]);first | done | rfl | (simp only [List.length_drop,List.length_take];rfl)) ?_
          with_reducible refine (spec_l3Proc.calls k2 _ _ ((rd_T51 l0_0 x5_2).f0) _ _ ((rd_T51 l0_0 x5_2).f1) ((rd_T51 l0_0 x5_2).f2) ((rd_T51 l0_0 x5_2).f3) ((rd_T51 l0_0 x5_2).f4) _ _ ((rd_T51 l1_0 x5_2).f0) _ _ ((rd_T51 l1_0 x5_2).f1) ((rd_T51 l1_0 x5_2).f2) ((rd_T51 l1_0 x5_2).f3) ((rd_T51 l1_0 x5_2).f4) false _ ?side1 ?side2 ?side3 ?side4 ?side5 ?side6 ?side7 ?side8 A31.out).mono ?_
          (case side1=>exact y62_ HR489_0 HB)
          (case side2=>exact HC489_0.out)
          (case side3=>exact y62_ HR489_1 HB)
          (case side4=>exact HC489_1.out)
          (case side5=>exact y62_ HR490_0 HB)
          (case side6=>exact HC490_0.out)
          (case side7=>exact y62_ HR490_1 HB)
          (case side8=>exact HC490_1.out)
          rintro e w40 ⟨rfl,hb⟩
          refine ⟨_,rfl,?_⟩
          have n0_:=Y (blk_below (g:=gb485) (o:=.cells #[.slice (some ad489) l0_0.length c0_0,.slice A0_1 l0_1.length c0_1,.slice A0_2 l0_2.length c0_2,.slice A0_3 l0_3.length c0_3,.slice A0_4 l0_4.length c0_4] 33 (0,0)) (q6_ BK485) hb)
          have n1_:=Y (blk_below (g:=gb486) (o:=.cells #[.slice (some ad490) l1_0.length c1_0,.slice A1_1 l1_1.length c1_1,.slice A1_2 l1_2.length c1_2,.slice A1_3 l1_3.length c1_3,.slice A1_4 l1_4.length c1_4] 33 (0,0)) (q6_ BK486) hb)
          have n2_:=Y (below_step (q13_ HB GE485 GE486) hb)
          clear BK485 BK486 HB;have BK485:=n0_;have BK486:=n1_;have HB:=n2_;clear n0_ n1_ n2_
          refine hK.out _ _ ⟨(E BK485.out 0).trans rfl,(E BK485.out 1).trans rfl,(E BK485.out 2).trans rfl,(E BK485.out 3).trans rfl,(E BK485.out 4).trans rfl,(E BK486.out 0).trans rfl,(E BK486.out 1).trans rfl,(E BK486.out 2).trans rfl,(E BK486.out 3).trans rfl,(E BK486.out 4).trans rfl,((HB.out.cell (Q w _ hw489_0)).trans hw489_0),((HB.out.cell (Q w _ hw489_1)).trans hw489_1),((HB.out.cell (Q w _ hw489_2)).trans hw489_2),((HB.out.cell (Q w _ hw489_3)).trans hw489_3),((HB.out.cell (Q w _ hw489_4)).trans hw489_4),((HB.out.cell (Q w _ hw490_0)).trans hw490_0),((HB.out.cell (Q w _ hw490_1)).trans hw490_1),((HB.out.cell (Q w _ hw490_2)).trans hw490_2),((HB.out.cell (Q w _ hw490_3)).trans hw490_3),((HB.out.cell (Q w _ hw490_4)).trans hw490_4)⟩ (fun hHeld=>?_)
          clear hK K
          refine norm_ (a':=?_) ?_ ?_
          rotate_left
          ·show W _ (some 66) _ = _
           simp only [W,U,G,X,i64_w,i32_w]
           rfl
          refine pure_ (i:=11) (N:=some 67) (v:=?_) (a':=?_) #[O,O,O,O,O,O,O,O,O,O,O,O] rfl rfl (any_of HT_.out (by kernel_rfl)) (fun _ _ _ h=>h) (Or.inl ⟨by rfl,?_⟩) ?_ ?_;rotate_left;(intro w';go_simp;with_reducible rfl);rotate_left;((try simp only [W,U,G,X,i64_w,i32_w]);rfl)
          refine done_ (done_of HT_.out (by kernel_rfl)) ?_
          try go_wp2
          go_ret
          exact ⟨y66_,y65_ HB GE485 GE486⟩
        ·rw [if_neg c30] at H
         exact absurd H (by simp)
       ·rw [if_neg c29] at H
        exact absurd H (by simp)
      ·rw [if_neg c28] at H;have c28b0 : decide (x5_2 < (l0_0.length : Int)) = false:=decide_eq_false c28;clear c28;have H':=Y H;clear H;have hnb41:=NB485_486.out;have hnc41:=NB486_485.out;obtain ⟨hcz42_0,hcz42_1,hcz42_2,hcz42_3,hcz42_4,hfz42_0,hfz42_1,hfz42_2,hfz42_3,hfz42_4⟩:=bz5_ BK485
       go_wp2
       go_loopg [6] k2 (fun kq v6 w'=>∃ (x6_3 : Int),v6 = .int .i64 x6_3 ∧ Aside0 (spec_WorldSame.l1 kq x6_3 l0_0 l0_1 l0_2 l0_3 l0_4 l1_0 l1_1 l1_2 l1_3 l1_4 = some r) ∧ Aside0 (kq ≤ k2) ∧ Aside0 (w'.heap[gb485]? = some (.cells #[(.slice A0_0 l0_0.length c0_0),(.slice A0_1 l0_1.length c0_1),(.slice A0_2 l0_2.length c0_2),(.slice A0_3 l0_3.length c0_3),(.slice A0_4 l0_4.length c0_4)] 33 (0,0))) ∧ Aside0 (w'.heap[gb486]? = some (.cells #[(.slice A1_0 l1_0.length c1_0),(.slice A1_1 l1_1.length c1_1),(.slice A1_2 l1_2.length c1_2),(.slice A1_3 l1_3.length c1_3),(.slice A1_4 l1_4.length c1_4)] 33 (0,0))) ∧ Aside0 (Below w.heap.size w w'))
       case atStart=>exact ⟨(0),(y63_),H',⟨Nat.le_refl _⟩,⟨y64_ BK485⟩,⟨y64_ BK486⟩,⟨y65_ HB GE485 GE486⟩⟩
       case round =>
        clear H';(try clear c27);(try clear c28);(try clear c28b0);(try clear hcz42_0);(try clear hcz42_1);(try clear hcz42_2);(try clear hcz42_3);(try clear hcz42_4)
        (try clear hfz42_0);(try clear hfz42_1);(try clear hfz42_2);(try clear hfz42_3);(try clear hfz42_4);obtain ⟨x6_3,rfl,HA,HK3,BK485,BK486,HB⟩:=hrel
        cases gk with
        | zero=>exact absurd HA.out (by simp [spec_WorldSame.l1])
        | succ k3 =>
         have H:=HA.out;clear HA;simp only [spec_WorldSame.l1] at H
         by_cases c43 : x6_3 < (l0_3.length : Int)
         ·rw [if_pos c43] at H;have c43b0 : decide (x6_3 < (l0_3.length : Int)) = true:=decide_eq_true c43;clear c43
          by_cases c44 : 0 ≤ x6_3
          ·rw [if_pos c44] at H;have c44b0 : decide (0 ≤ x6_3) = true:=decide_eq_true c44;clear c44
           by_cases c45 : x6_3 < (l1_3.length : Int)
           ·rw [if_pos c45] at H;have c45b0 : decide (x6_3 < (l1_3.length : Int)) = true:=decide_eq_true c45;clear c45;obtain ⟨t494,A46,H⟩:=bnd H
            by_cases c47 : t494 = true
            ·subst c47
             rw [if_pos rfl] at H;have H':=Y H;clear H;have hnb48:=NB485_486.out;have hnc48:=NB486_485.out;obtain ⟨hcz49_0,hcz49_1,hcz49_2,hcz49_3,hcz49_4,hfz49_0,hfz49_1,hfz49_2,hfz49_3,hfz49_4⟩:=bz5_ BK485
             try go_wp2
             have n0_:=ap3 (blk_drew BK485.out) (blk_drew BK486.out) (below_drew1 HB.out);clear BK485 BK486 HB;obtain ⟨BK485,BK486,HB⟩:=n0_
             have p492 : 0 ≤ (x6_3 : Int):=of_decide_eq_true (y67_)
             have q492 : x6_3 < (l0_3.length : Int):=of_decide_eq_true (y67_)
             obtain ⟨ad492,A492_0,c492_0,e492,hx492_0,hl492_0,hi492_0⟩:=at_L4 HR0_3.out x6_3 p492 q492;have hw492_0:=hx492_0
             cases e492
             replace hx492_0:=clB HB hx492_0;have HR492_0:=Y hi492_0;have HC492_0:=Y hl492_0;clear hi492_0 hl492_0;replace p492:=eq_true p492;replace q492:=eq_true q492
             have p493 : 0 ≤ (x6_3 : Int):=of_decide_eq_true (y67_)
             have q493 : x6_3 < (l1_3.length : Int):=of_decide_eq_true (y67_)
             obtain ⟨ad493,A493_0,c493_0,e493,hx493_0,hl493_0,hi493_0⟩:=at_L4 HR1_3.out x6_3 p493 q493;have hw493_0:=hx493_0
             cases e493
             replace hx493_0:=clB HB hx493_0;have HR493_0:=Y hi493_0;have HC493_0:=Y hl493_0;clear hi493_0 hl493_0;replace p493:=eq_true p493;replace q493:=eq_true q493
             refine start_ (n:=12) (S:=fun w'=>w'.cell? ⟨gb485,0,none⟩ = some (.slice A0_0 l0_0.length c0_0) ∧ w'.cell? ⟨gb485,1,none⟩ = some (.slice A0_1 l0_1.length c0_1) ∧ w'.cell? ⟨gb485,2,none⟩ = some (.slice A0_2 l0_2.length c0_2) ∧ w'.cell? ⟨gb485,3,none⟩ = some (.slice (some ad492) l0_3.length c0_3) ∧ w'.cell? ⟨gb485,4,none⟩ = some (.slice A0_4 l0_4.length c0_4) ∧ w'.cell? ⟨gb486,0,none⟩ = some (.slice A1_0 l1_0.length c1_0) ∧ w'.cell? ⟨gb486,1,none⟩ = some (.slice A1_1 l1_1.length c1_1) ∧ w'.cell? ⟨gb486,2,none⟩ = some (.slice A1_2 l1_2.length c1_2) ∧ w'.cell? ⟨gb486,3,none⟩ = some (.slice (some ad493) l1_3.length c1_3) ∧ w'.cell? ⟨gb486,4,none⟩ = some (.slice A1_4 l1_4.length c1_4) ∧ w'.cell? (ad492.add (x6_3).toNat) = some (.slice A492_0 (rd_L4 l0_3 x6_3).length c492_0) ∧ w'.cell? (ad493.add (x6_3).toNat) = some (.slice A493_0 (rd_L4 l1_3 x6_3).length c493_0)) (ds:=[]) #[J,J,J,J,J,J,J,J,J,J,J,J] (by kernel_rfl) rfl rfl ⟨(E BK485.out 0).trans rfl,(E BK485.out 1).trans rfl,(E BK485.out 2).trans rfl,(E BK485.out 3).trans rfl,(E BK485.out 4).trans rfl,(E BK486.out 0).trans rfl,(E BK486.out 1).trans rfl,(E BK486.out 2).trans rfl,(E BK486.out 3).trans rfl,(E BK486.out 4).trans rfl,((HB.out.cell (Q w _ hw492_0)).trans hw492_0),((HB.out.cell (Q w _ hw493_0)).trans hw493_0)⟩ (fun hHeld=>?_);refine with_tabW spec_WorldSame.tab11 spec_WorldSame.bits11 (fun HT_ HW_=>?_)
             generalize wr.drew = w50 at BK485 BK486 HB HR492_0 HR493_0 hx492_0 hx493_0 hHeld ⊢
             refine pure_ (i:=0) (N:=some 75) (v:=?_) (a':=?_) #[O,J,J,J,J,J,J,J,J,J,J,J] rfl rfl (any_of HT_.out (by kernel_rfl)) (fun _ _ _ h=>h) (Or.inl ⟨by rfl,?_⟩) ?_ ?_;rotate_left;(intro w';go_simp;with_reducible rfl);rotate_left;((try simp only [W,U,G,X,i64_w,i32_w]);rfl)
             refine pure_ (i:=2) (N:=some 77) (v:=?_) (a':=?_) #[O,J,O,J,J,J,J,J,J,J,J,J] rfl rfl (any_of HT_.out (by kernel_rfl)) (fun _ _ _ h=>h) (Or.inl ⟨by rfl,?_⟩) ?_ ?_;rotate_left;(intro w';go_simp;with_reducible rfl);rotate_left;((try simp only [W,U,G,X,i64_w,i32_w]);rfl)
             refine pure_ (i:=5) (N:=some 80) (v:=?_) (a':=?_) #[O,J,O,J,J,O,J,J,J,J,J,J] rfl rfl (any_of HT_.out (by kernel_rfl)) (fun _ _ _ h=>h) (Or.inl ⟨by rfl,?_⟩) ?_ ?_;rotate_left;(intro w';go_simp;with_reducible rfl);rotate_left;((try simp only [W,U,G,X,i64_w,i32_w]);rfl)
             refine pure_ (i:=7) (N:=some 82) (v:=?_) (a':=?_) #[O,J,O,J,J,O,J,O,J,J,J,J] rfl rfl (any_of HT_.out (by kernel_rfl)) (fun _ _ _ h=>h) (Or.inl ⟨by rfl,?_⟩) ?_ ?_;rotate_left;(intro w';go_simp;with_reducible rfl);rotate_left;((try simp only [W,U,G,X,i64_w,i32_w]);rfl)
             refine take_ (i:=1) (N:=some 76) (v:=?_) (a':=?_) #[O,O,O,J,J,O,J,O,J,J,J,J] rfl rfl (take_ofW HT_.out HW_.out (by kernel_rfl)) (fun _ _ _ h=>h) (Or.inl ⟨by rfl,?_⟩) hHeld ?_ ?_;rotate_left;(rintro w' ⟨s0,s1,s2,s3,s4,s5,s6,s7,s8,s9,s10,s11⟩;go_simp;with_reducible rfl);rotate_left;((try simp only [W,U,G,X,i64_w,i32_w]);rfl)
             refine pure_ (i:=3) (N:=some 78) (v:=?_) (a':=?_) #[O,O,O,O,J,O,J,O,J,J,J,J] rfl rfl (any_of HT_.out (by kernel_rfl)) (fun _ _ _ h=>h) (Or.inl ⟨by rfl,?_⟩) ?_ ?_;rotate_left;(intro w';go_simp;with_reducible rfl);rotate_left;((try simp only [W,U,G,X,i64_w,i32_w]);rfl)
             refine take_ (i:=4) (N:=some 79) (v:=?_) (a':=?_) #[O,O,O,O,O,O,J,O,J,J,J,J] rfl rfl (take_ofW HT_.out HW_.out (by kernel_rfl)) (fun _ _ _ h=>h) (Or.inl ⟨by rfl,?_⟩) hHeld ?_ ?_;rotate_left;(rintro w' ⟨s0,s1,s2,s3,s4,s5,s6,s7,s8,s9,s10,s11⟩;go_simp;with_reducible rfl);rotate_left;((try simp only [W,U,G,X,i64_w,i32_w]);rfl)
             refine take_ (i:=6) (N:=some 81) (v:=?_) (a':=?_) #[O,O,O,O,O,O,O,O,J,J,J,J] rfl rfl (take_ofW HT_.out HW_.out (by kernel_rfl)) (fun _ _ _ h=>h) (Or.inl ⟨by rfl,?_⟩) hHeld ?_ ?_;rotate_left;(rintro w' ⟨s0,s1,s2,s3,s4,s5,s6,s7,s8,s9,s10,s11⟩;go_simp;with_reducible rfl);rotate_left;((try simp only [W,U,G,X,i64_w,i32_w]);rfl)
             refine pure_ (i:=8) (N:=some 83) (v:=?_) (a':=?_) #[O,O,O,O,O,O,O,O,O,J,J,J] rfl rfl (any_of HT_.out (by kernel_rfl)) (fun _ _ _ h=>h) (Or.inl ⟨by rfl,?_⟩) ?_ ?_;rotate_left;(intro w';go_simp;with_reducible rfl);rotate_left;((try simp only [W,U,G,X,i64_w,i32_w]);rfl)
             refine take_ (i:=9) (N:=some 84) (v:=?_) (a':=?_) #[O,O,O,O,O,O,O,O,O,O,J,J] rfl rfl (take_ofW HT_.out HW_.out (by kernel_rfl)) (fun _ _ _ h=>h) (Or.inl ⟨by rfl,?_⟩) hHeld ?_ ?_;rotate_left;(rintro w' ⟨s0,s1,s2,s3,s4,s5,s6,s7,s8,s9,s10,s11⟩;go_simp;with_reducible rfl);rotate_left;((try simp only [W,U,G,X,i64_w,i32_w]);rfl)
             refine one_ (i:=10) (N:=some 85) #[O,O,O,O,O,O,O,O,O,O,O,J] rfl rfl (one_of HT_.out (by kernel_rfl)) (by decide) (fun K hK=>?_)
             refine goes_ Try.func19 (by kernel_rfl) rfl #[.slice A492_0 (rd_L4 l0_3 x6_3).length c492_0,.slice A493_0 (rd_L4 l1_3 x6_3).length c493_0] (by rfl) rfl rfl (by (try simp only [List.map_toArray,List.map_cons,List.map_nil]);first | done | rfl | (simp only [List.length_drop,List.length_take];rfl)) ?_
             with_reducible refine (spec_l3Ints.calls k3 _ _ (rd_L4 l0_3 x6_3) _ _ (rd_L4 l1_3 x6_3) true _ ?side1 ?side2 ?side3 ?side4 A46.out).mono ?_
             (case side1=>exact y62_ HR492_0 HB)
             (case side2=>exact HC492_0.out)
             (case side3=>exact y62_ HR493_0 HB)
             (case side4=>exact HC493_0.out)
             rintro e w' ⟨rfl,⟨nd,rfl⟩⟩
             refine ⟨_,rfl,?_⟩
             refine hK.out _ _ ⟨(E BK485.out 0).trans rfl,(E BK485.out 1).trans rfl,(E BK485.out 2).trans rfl,(E BK485.out 3).trans rfl,(E BK485.out 4).trans rfl,(E BK486.out 0).trans rfl,(E BK486.out 1).trans rfl,(E BK486.out 2).trans rfl,(E BK486.out 3).trans rfl,(E BK486.out 4).trans rfl,((HB.out.cell (Q w _ hw492_0)).trans hw492_0),((HB.out.cell (Q w _ hw493_0)).trans hw493_0)⟩ (fun hHeld=>?_)
             clear hK K
             refine norm_ (a':=?_) ?_ ?_
             rotate_left
             ·show W _ (some 85) _ = _
              simp only [W,U,G,X,i64_w,i32_w]
              rfl
             refine pure_ (i:=11) (N:=some 86) (v:=?_) (a':=?_) #[O,O,O,O,O,O,O,O,O,O,O,O] rfl rfl (any_of HT_.out (by kernel_rfl)) (fun _ _ _ h=>h) (Or.inl ⟨by rfl,?_⟩) ?_ ?_;rotate_left;(intro w';go_simp;with_reducible rfl);rotate_left;((try simp only [W,U,G,X,i64_w,i32_w]);rfl)
             refine done_ (done_of HT_.out (by kernel_rfl)) ?_
             try go_wp2
             go_roundg k3
             case measure=>have:=HJ2.out;have:=HK2.out;have:=HK3.out;omega
             case rel=>exact ⟨(wrap64 (x6_3 + 1)),(y63_),H',⟨by have:=HJ2.out;have:=HK2.out;have:=HK3.out;omega⟩,⟨y64_ BK485⟩,⟨y64_ BK486⟩,⟨y65_ HB GE485 GE486⟩⟩
            ·replace c47:=Bool.eq_false_iff.mpr c47;subst c47
             rw [if_neg (show ¬ (false = true) by decide)] at H;obtain rfl:=Option.some.inj H;have hnb51:=NB485_486.out;have hnc51:=NB486_485.out;obtain ⟨hcz52_0,hcz52_1,hcz52_2,hcz52_3,hcz52_4,hfz52_0,hfz52_1,hfz52_2,hfz52_3,hfz52_4⟩:=bz5_ BK485
             try go_wp2
             have n0_:=ap3 (blk_drew BK485.out) (blk_drew BK486.out) (below_drew1 HB.out);clear BK485 BK486 HB;obtain ⟨BK485,BK486,HB⟩:=n0_
             have p492 : 0 ≤ (x6_3 : Int):=of_decide_eq_true (y67_)
             have q492 : x6_3 < (l0_3.length : Int):=of_decide_eq_true (y67_)
             obtain ⟨ad492,A492_0,c492_0,e492,hx492_0,hl492_0,hi492_0⟩:=at_L4 HR0_3.out x6_3 p492 q492;have hw492_0:=hx492_0
             cases e492
             replace hx492_0:=clB HB hx492_0;have HR492_0:=Y hi492_0;have HC492_0:=Y hl492_0;clear hi492_0 hl492_0;replace p492:=eq_true p492;replace q492:=eq_true q492
             have p493 : 0 ≤ (x6_3 : Int):=of_decide_eq_true (y67_)
             have q493 : x6_3 < (l1_3.length : Int):=of_decide_eq_true (y67_)
             obtain ⟨ad493,A493_0,c493_0,e493,hx493_0,hl493_0,hi493_0⟩:=at_L4 HR1_3.out x6_3 p493 q493;have hw493_0:=hx493_0
             cases e493
             replace hx493_0:=clB HB hx493_0;have HR493_0:=Y hi493_0;have HC493_0:=Y hl493_0;clear hi493_0 hl493_0;replace p493:=eq_true p493;replace q493:=eq_true q493
             refine start_ (n:=12) (S:=fun w'=>w'.cell? ⟨gb485,0,none⟩ = some (.slice A0_0 l0_0.length c0_0) ∧ w'.cell? ⟨gb485,1,none⟩ = some (.slice A0_1 l0_1.length c0_1) ∧ w'.cell? ⟨gb485,2,none⟩ = some (.slice A0_2 l0_2.length c0_2) ∧ w'.cell? ⟨gb485,3,none⟩ = some (.slice (some ad492) l0_3.length c0_3) ∧ w'.cell? ⟨gb485,4,none⟩ = some (.slice A0_4 l0_4.length c0_4) ∧ w'.cell? ⟨gb486,0,none⟩ = some (.slice A1_0 l1_0.length c1_0) ∧ w'.cell? ⟨gb486,1,none⟩ = some (.slice A1_1 l1_1.length c1_1) ∧ w'.cell? ⟨gb486,2,none⟩ = some (.slice A1_2 l1_2.length c1_2) ∧ w'.cell? ⟨gb486,3,none⟩ = some (.slice (some ad493) l1_3.length c1_3) ∧ w'.cell? ⟨gb486,4,none⟩ = some (.slice A1_4 l1_4.length c1_4) ∧ w'.cell? (ad492.add (x6_3).toNat) = some (.slice A492_0 (rd_L4 l0_3 x6_3).length c492_0) ∧ w'.cell? (ad493.add (x6_3).toNat) = some (.slice A493_0 (rd_L4 l1_3 x6_3).length c493_0)) (ds:=[]) #[J,J,J,J,J,J,J,J,J,J,J,J] (by kernel_rfl) rfl rfl ⟨(E BK485.out 0).trans rfl,(E BK485.out 1).trans rfl,(E BK485.out 2).trans rfl,(E BK485.out 3).trans rfl,(E BK485.out 4).trans rfl,(E BK486.out 0).trans rfl,(E BK486.out 1).trans rfl,(E BK486.out 2).trans rfl,(E BK486.out 3).trans rfl,(E BK486.out 4).trans rfl,((HB.out.cell (Q w _ hw492_0)).trans hw492_0),((HB.out.cell (Q w _ hw493_0)).trans hw493_0)⟩ (fun hHeld=>?_);refine with_tabW spec_WorldSame.tab11 spec_WorldSame.bits11 (fun HT_ HW_=>?_)
             generalize wr.drew = w53 at BK485 BK486 HB HR492_0 HR493_0 hx492_0 hx493_0 hHeld ⊢
             refine pure_ (i:=0) (N:=some 75) (v:=?_) (a':=?_) #[O,J,J,J,J,J,J,J,J,J,J,J] rfl rfl (any_of HT_.out (by kernel_rfl)) (fun _ _ _ h=>h) (Or.inl ⟨by rfl,?_⟩) ?_ ?_;rotate_left;(intro w';go_simp;with_reducible rfl);rotate_left;((try simp only [W,U,G,X,i64_w,i32_w]);rfl)
             refine pure_ (i:=2) (N:=some 77) (v:=?_) (a':=?_) #[O,J,O,J,J,J,J,J,J,J,J,J] rfl rfl (any_of HT_.out (by kernel_rfl)) (fun _ _ _ h=>h) (Or.inl ⟨by rfl,?_⟩) ?_ ?_;rotate_left;(intro w';go_simp;with_reducible rfl);rotate_left;((try simp only [W,U,G,X,i64_w,i32_w]);rfl)
             refine pure_ (i:=5) (N:=some 80) (v:=?_) (a':=?_) #[O,J,O,J,J,O,J,J,J,J,J,J] rfl rfl (any_of HT_.out (by kernel_rfl)) (fun _ _ _ h=>h) (Or.inl ⟨by rfl,?_⟩) ?_ ?_;rotate_left;(intro w';go_simp;with_reducible rfl);rotate_left;((try simp only [W,U,G,X,i64_w,i32_w]);rfl)
             refine pure_ (i:=7) (N:=some 82) (v:=?_) (a':=?_) #[O,J,O,J,J,O,J,O,J,J,J,J] rfl rfl (any_of HT_.out (by kernel_rfl)) (fun _ _ _ h=>h) (Or.inl ⟨by rfl,?_⟩) ?_ ?_;rotate_left;(intro w';go_simp;with_reducible rfl);rotate_left;((try simp only [W,U,G,X,i64_w,i32_w]);rfl)
             refine take_ (i:=1) (N:=some 76) (v:=?_) (a':=?_) #[O,O,O,J,J,O,J,O,J,J,J,J] rfl rfl (take_ofW HT_.out HW_.out (by kernel_rfl)) (fun _ _ _ h=>h) (Or.inl ⟨by rfl,?_⟩) hHeld ?_ ?_;rotate_left;(rintro w' ⟨s0,s1,s2,s3,s4,s5,s6,s7,s8,s9,s10,s11⟩;go_simp;with_reducible rfl);rotate_left;((try simp only [W,U,G,X,i64_w,i32_w]);rfl)
             refine pure_ (i:=3) (N:=some 78) (v:=?_) (a':=?_) #[O,O,O,O,J,O,J,O,J,J,J,J] rfl rfl (any_of HT_.out (by kernel_rfl)) (fun _ _ _ h=>h) (Or.inl ⟨by rfl,?_⟩) ?_ ?_;rotate_left;(intro w';go_simp;with_reducible rfl);rotate_left;((try simp only [W,U,G,X,i64_w,i32_w]);rfl)
             refine take_ (i:=4) (N:=some 79) (v:=?_) (a':=?_) #[O,O,O,O,O,O,J,O,J,J,J,J] rfl rfl (take_ofW HT_.out HW_.out (by kernel_rfl)) (fun _ _ _ h=>h) (Or.inl ⟨by rfl,?_⟩) hHeld ?_ ?_;rotate_left;(rintro w' ⟨s0,s1,s2,s3,s4,s5,s6,s7,s8,s9,s10,s11⟩;go_simp;with_reducible rfl);rotate_left;((try simp only [W,U,G,X,i64_w,i32_w]);rfl)
             refine take_ (i:=6) (N:=some 81) (v:=?_) (a':=?_) #[O,O,O,O,O,O,O,O,J,J,J,J] rfl rfl (take_ofW HT_.out HW_.out (by kernel_rfl)) (fun _ _ _ h=>h) (Or.inl ⟨by rfl,?_⟩) hHeld ?_ ?_;rotate_left;(rintro w' ⟨s0,s1,s2,s3,s4,s5,s6,s7,s8,s9,s10,s11⟩;go_simp;with_reducible rfl);rotate_left;((try simp only [W,U,G,X,i64_w,i32_w]);rfl)
             refine pure_ (i:=8) (N:=some 83) (v:=?_) (a':=?_) #[O,O,O,O,O,O,O,O,O,J,J,J] rfl rfl (any_of HT_.out (by kernel_rfl)) (fun _ _ _ h=>h) (Or.inl ⟨by rfl,?_⟩) ?_ ?_;rotate_left;(intro w';go_simp;with_reducible rfl);rotate_left;((try simp only [W,U,G,X,i64_w,i32_w]);rfl)
             refine take_ (i:=9) (N:=some 84) (v:=?_) (a':=?_) #[O,O,O,O,O,O,O,O,O,O,J,J] rfl rfl (take_ofW HT_.out HW_.out (by kernel_rfl)) (fun _ _ _ h=>h) (Or.inl ⟨by rfl,?_⟩) hHeld ?_ ?_;rotate_left;(rintro w' ⟨s0,s1,s2,s3,s4,s5,s6,s7,s8,s9,s10,s11⟩;go_simp;with_reducible rfl);rotate_left;((try simp only [W,U,G,X,i64_w,i32_w]);rfl)
             refine one_ (i:=10) (N:=some 85) #[O,O,O,O,O,O,O,O,O,O,O,J] rfl rfl (one_of HT_.out (by kernel_rfl)) (by decide) (fun K hK=>?_)
             refine goes_ Try.func19 (by kernel_rfl) rfl #[.slice A492_0 (rd_L4 l0_3 x6_3).length c492_0,.slice A493_0 (rd_L4 l1_3 x6_3).length c493_0] (by rfl) rfl rfl (by (try simp only [List.map_toArray,List.map_cons,List.map_nil]);first | done | rfl | (simp only [List.length_drop,List.length_take];rfl)) ?_
             with_reducible refine (spec_l3Ints.calls k3 _ _ (rd_L4 l0_3 x6_3) _ _ (rd_L4 l1_3 x6_3) false _ ?side1 ?side2 ?side3 ?side4 A46.out).mono ?_
             (case side1=>exact y62_ HR492_0 HB)
             (case side2=>exact HC492_0.out)
             (case side3=>exact y62_ HR493_0 HB)
             (case side4=>exact HC493_0.out)
             rintro e w' ⟨rfl,⟨nd,rfl⟩⟩
             refine ⟨_,rfl,?_⟩
             refine hK.out _ _ ⟨(E BK485.out 0).trans rfl,(E BK485.out 1).trans rfl,(E BK485.out 2).trans rfl,(E BK485.out 3).trans rfl,(E BK485.out 4).trans rfl,(E BK486.out 0).trans rfl,(E BK486.out 1).trans rfl,(E BK486.out 2).trans rfl,(E BK486.out 3).trans rfl,(E BK486.out 4).trans rfl,((HB.out.cell (Q w _ hw492_0)).trans hw492_0),((HB.out.cell (Q w _ hw493_0)).trans hw493_0)⟩ (fun hHeld=>?_)
             clear hK K
             refine norm_ (a':=?_) ?_ ?_
             rotate_left
             ·show W _ (some 85) _ = _
              simp only [W,U,G,X,i64_w,i32_w]
              rfl
             refine pure_ (i:=11) (N:=some 86) (v:=?_) (a':=?_) #[O,O,O,O,O,O,O,O,O,O,O,O] rfl rfl (any_of HT_.out (by kernel_rfl)) (fun _ _ _ h=>h) (Or.inl ⟨by rfl,?_⟩) ?_ ?_;rotate_left;(intro w';go_simp;with_reducible rfl);rotate_left;((try simp only [W,U,G,X,i64_w,i32_w]);rfl)
             refine done_ (done_of HT_.out (by kernel_rfl)) ?_
             try go_wp2
             go_ret
             exact ⟨y66_,y65_ HB GE485 GE486⟩
           ·rw [if_neg c45] at H
            exact absurd H (by simp)
          ·rw [if_neg c44] at H
           exact absurd H (by simp)
         ·rw [if_neg c43] at H;have c43b0 : decide (x6_3 < (l0_3.length : Int)) = false:=decide_eq_false c43;clear c43;have H':=Y H;clear H;have hnb54:=NB485_486.out;have hnc54:=NB486_485.out;obtain ⟨hcz55_0,hcz55_1,hcz55_2,hcz55_3,hcz55_4,hfz55_0,hfz55_1,hfz55_2,hfz55_3,hfz55_4⟩:=bz5_ BK485
          go_wp2
          go_loopg [7] k3 (fun kq v7 w'=>∃ (x7_4 : Int),v7 = .int .i64 x7_4 ∧ Aside0 (spec_WorldSame.l2 kq x7_4 l0_0 l0_1 l0_2 l0_3 l0_4 l1_0 l1_1 l1_2 l1_3 l1_4 = some r) ∧ Aside0 (kq ≤ k3) ∧ Aside0 (w'.heap[gb485]? = some (.cells #[(.slice A0_0 l0_0.length c0_0),(.slice A0_1 l0_1.length c0_1),(.slice A0_2 l0_2.length c0_2),(.slice A0_3 l0_3.length c0_3),(.slice A0_4 l0_4.length c0_4)] 33 (0,0))) ∧ Aside0 (w'.heap[gb486]? = some (.cells #[(.slice A1_0 l1_0.length c1_0),(.slice A1_1 l1_1.length c1_1),(.slice A1_2 l1_2.length c1_2),(.slice A1_3 l1_3.length c1_3),(.slice A1_4 l1_4.length c1_4)] 33 (0,0))) ∧ Aside0 (Below w.heap.size w w'))
          case atStart=>exact ⟨(0),(y63_),H',⟨Nat.le_refl _⟩,⟨y64_ BK485⟩,⟨y64_ BK486⟩,⟨y65_ HB GE485 GE486⟩⟩
          case round =>
           clear H';(try clear c27);(try clear c28);(try clear c28b0);(try clear c43);(try clear c43b0);(try clear hcz42_0);(try clear hcz42_1);(try clear hcz42_2);(try clear hcz42_3);(try clear hcz42_4);(try clear hcz55_0);(try clear hcz55_1);(try clear hcz55_2);(try clear hcz55_3);(try clear hcz55_4)
           (try clear hfz23_0);(try clear hfz42_0);(try clear hfz42_1);(try clear hfz42_2);(try clear hfz42_3);(try clear hfz42_4);(try clear hfz55_0);(try clear hfz55_1);(try clear hfz55_2);(try clear hfz55_3);(try clear hfz55_4);obtain ⟨x7_4,rfl,HA,HK4,BK485,BK486,HB⟩:=hrel
           cases gk with
           | zero=>exact absurd HA.out (by simp [spec_WorldSame.l2])
           | succ k4 =>
            have H:=HA.out;clear HA;simp only [spec_WorldSame.l2] at H
            by_cases c56 : x7_4 < (l0_4.length : Int)
            ·rw [if_pos c56] at H;have c56b0 : decide (x7_4 < (l0_4.length : Int)) = true:=decide_eq_true c56;clear c56
             by_cases c57 : 0 ≤ x7_4
             ·rw [if_pos c57] at H;have c57b0 : decide (0 ≤ x7_4) = true:=decide_eq_true c57;clear c57
              by_cases c58 : x7_4 < (l1_4.length : Int)
              ·rw [if_pos c58] at H;have c58b0 : decide (x7_4 < (l1_4.length : Int)) = true:=decide_eq_true c58;clear c58
               by_cases c59 : (!(((rd_T38 l0_4 x7_4).f0) == ((rd_T38 l1_4 x7_4).f0)) || (!(((rd_T38 l0_4 x7_4).f1) == ((rd_T38 l1_4 x7_4).f1)))) = true
               ·rw [if_pos c59] at H;have c59b0 : (!(((rd_T38 l0_4 x7_4).f0) == ((rd_T38 l1_4 x7_4).f0)) || (!(((rd_T38 l0_4 x7_4).f1) == ((rd_T38 l1_4 x7_4).f1)))) = true:=c59;clear c59;obtain rfl:=Option.some.inj H;have hnb60:=NB485_486.out;have hnc60:=NB486_485.out;obtain ⟨hcz61_0,hcz61_1,hcz61_2,hcz61_3,hcz61_4,hfz61_0,hfz61_1,hfz61_2,hfz61_3,hfz61_4⟩:=bz5_ BK485
                try go_wp2
                have n0_:=ap3 (blk_drew BK485.out) (blk_drew BK486.out) (below_drew1 HB.out);clear BK485 BK486 HB;obtain ⟨BK485,BK486,HB⟩:=n0_
                have p495 : 0 ≤ (x7_4 : Int):=of_decide_eq_true (y67_)
                have q495 : x7_4 < (l0_4.length : Int):=of_decide_eq_true (y67_)
                obtain ⟨ad495,e495,hx495_0,hx495_1⟩:=at_T38 HR0_4.out x7_4 p495 q495;have hw495_1:=hx495_1;have hw495_0:=hx495_0
                cases e495
                replace hx495_0:=clB HB hx495_0;replace hx495_1:=clB HB hx495_1;replace p495:=eq_true p495;replace q495:=eq_true q495
                have p496 : 0 ≤ (x7_4 : Int):=of_decide_eq_true (y67_)
                have q496 : x7_4 < (l1_4.length : Int):=of_decide_eq_true (y67_)
                obtain ⟨ad496,e496,hx496_0,hx496_1⟩:=at_T38 HR1_4.out x7_4 p496 q496;have hw496_1:=hx496_1;have hw496_0:=hx496_0
                cases e496
                replace hx496_0:=clB HB hx496_0;replace hx496_1:=clB HB hx496_1;replace p496:=eq_true p496;replace q496:=eq_true q496
                refine start_ (n:=11) (S:=fun w'=>w'.cell? ⟨gb485,0,none⟩ = some (.slice A0_0 l0_0.length c0_0) ∧ w'.cell? ⟨gb485,1,none⟩ = some (.slice A0_1 l0_1.length c0_1) ∧ w'.cell? ⟨gb485,2,none⟩ = some (.slice A0_2 l0_2.length c0_2) ∧ w'.cell? ⟨gb485,3,none⟩ = some (.slice A0_3 l0_3.length c0_3) ∧ w'.cell? ⟨gb485,4,none⟩ = some (.slice (some ad495) l0_4.length c0_4) ∧ w'.cell? ⟨gb486,0,none⟩ = some (.slice A1_0 l1_0.length c1_0) ∧ w'.cell? ⟨gb486,1,none⟩ = some (.slice A1_1 l1_1.length c1_1) ∧ w'.cell? ⟨gb486,2,none⟩ = some (.slice A1_2 l1_2.length c1_2) ∧ w'.cell? ⟨gb486,3,none⟩ = some (.slice A1_3 l1_3.length c1_3) ∧ w'.cell? ⟨gb486,4,none⟩ = some (.slice (some ad496) l1_4.length c1_4) ∧ w'.cell? (ad495.add ((x7_4).toNat * 2)) = some (.int .i64 ((rd_T38 l0_4 x7_4).f0)) ∧ w'.cell? ⟨(ad495.add ((x7_4).toNat * 2)).block,(ad495.add ((x7_4).toNat * 2)).off + 1,none⟩ = some (.int .i64 ((rd_T38 l0_4 x7_4).f1)) ∧ w'.cell? (ad496.add ((x7_4).toNat * 2)) = some (.int .i64 ((rd_T38 l1_4 x7_4).f0)) ∧ w'.cell? ⟨(ad496.add ((x7_4).toNat * 2)).block,(ad496.add ((x7_4).toNat * 2)).off + 1,none⟩ = some (.int .i64 ((rd_T38 l1_4 x7_4).f1))) (ds:=[]) #[J,J,J,J,J,J,J,J,J,J,J] (by kernel_rfl) rfl rfl ⟨(E BK485.out 0).trans rfl,(E BK485.out 1).trans rfl,(E BK485.out 2).trans rfl,(E BK485.out 3).trans rfl,(E BK485.out 4).trans rfl,(E BK486.out 0).trans rfl,(E BK486.out 1).trans rfl,(E BK486.out 2).trans rfl,(E BK486.out 3).trans rfl,(E BK486.out 4).trans rfl,((HB.out.cell (Q w _ hw495_0)).trans hw495_0),((HB.out.cell (Q w _ hw495_1)).trans hw495_1),((HB.out.cell (Q w _ hw496_0)).trans hw496_0),((HB.out.cell (Q w _ hw496_1)).trans hw496_1)⟩ (fun hHeld=>?_);refine with_tabW spec_WorldSame.tab16 spec_WorldSame.bits16 (fun HT_ HW_=>?_)
                generalize wr.drew = w62 at BK485 BK486 HB hx495_0 hx495_1 hx496_0 hx496_1 hHeld ⊢
                refine pure_ (i:=0) (N:=some 94) (v:=?_) (a':=?_) #[O,J,J,J,J,J,J,J,J,J,J] rfl rfl (any_of HT_.out (by kernel_rfl)) (fun _ _ _ h=>h) (Or.inl ⟨by rfl,?_⟩) ?_ ?_;rotate_left;(intro w';go_simp;with_reducible rfl);rotate_left;((try simp only [W,U,G,X,i64_w,i32_w]);rfl)
                refine pure_ (i:=2) (N:=some 96) (v:=?_) (a':=?_) #[O,J,O,J,J,J,J,J,J,J,J] rfl rfl (any_of HT_.out (by kernel_rfl)) (fun _ _ _ h=>h) (Or.inl ⟨by rfl,?_⟩) ?_ ?_;rotate_left;(intro w';go_simp;with_reducible rfl);rotate_left;((try simp only [W,U,G,X,i64_w,i32_w]);rfl)
                refine pure_ (i:=5) (N:=some 99) (v:=?_) (a':=?_) #[O,J,O,J,J,O,J,J,J,J,J] rfl rfl (any_of HT_.out (by kernel_rfl)) (fun _ _ _ h=>h) (Or.inl ⟨by rfl,?_⟩) ?_ ?_;rotate_left;(intro w';go_simp;with_reducible rfl);rotate_left;((try simp only [W,U,G,X,i64_w,i32_w]);rfl)
                refine pure_ (i:=7) (N:=some 101) (v:=?_) (a':=?_) #[O,J,O,J,J,O,J,O,J,J,J] rfl rfl (any_of HT_.out (by kernel_rfl)) (fun _ _ _ h=>h) (Or.inl ⟨by rfl,?_⟩) ?_ ?_;rotate_left;(intro w';go_simp;with_reducible rfl);rotate_left;((try simp only [W,U,G,X,i64_w,i32_w]);rfl)
                refine take_ (i:=1) (N:=some 95) (v:=?_) (a':=?_) #[O,O,O,J,J,O,J,O,J,J,J] rfl rfl (take_ofW HT_.out HW_.out (by kernel_rfl)) (fun _ _ _ h=>h) (Or.inl ⟨by rfl,?_⟩) hHeld ?_ ?_;rotate_left;(rintro w' ⟨s0,s1,s2,s3,s4,s5,s6,s7,s8,s9,s10,s11,s12,s13⟩;go_simp;with_reducible rfl);rotate_left;((try simp only [W,U,G,X,i64_w,i32_w]);rfl)
                refine pure_ (i:=3) (N:=some 97) (v:=?_) (a':=?_) #[O,O,O,O,J,O,J,O,J,J,J] rfl rfl (any_of HT_.out (by kernel_rfl)) (fun _ _ _ h=>h) (Or.inl ⟨by rfl,?_⟩) ?_ ?_;rotate_left;(intro w';go_simp;with_reducible rfl);rotate_left;((try simp only [W,U,G,X,i64_w,i32_w]);rfl)
                refine take_ (i:=4) (N:=some 98) (v:=?_) (a':=?_) #[O,O,O,O,O,O,J,O,J,J,J] rfl rfl (take_ofW HT_.out HW_.out (by kernel_rfl)) (fun _ _ _ h=>h) (Or.inl ⟨by rfl,?_⟩) hHeld ?_ ?_;rotate_left;(rintro w' ⟨s0,s1,s2,s3,s4,s5,s6,s7,s8,s9,s10,s11,s12,s13⟩;go_simp;with_reducible rfl);rotate_left;((try simp only [W,U,G,X,i64_w,i32_w]);rfl)
                refine take_ (i:=6) (N:=some 100) (v:=?_) (a':=?_) #[O,O,O,O,O,O,O,O,J,J,J] rfl rfl (take_ofW HT_.out HW_.out (by kernel_rfl)) (fun _ _ _ h=>h) (Or.inl ⟨by rfl,?_⟩) hHeld ?_ ?_;rotate_left;(rintro w' ⟨s0,s1,s2,s3,s4,s5,s6,s7,s8,s9,s10,s11,s12,s13⟩;go_simp;with_reducible rfl);rotate_left;((try simp only [W,U,G,X,i64_w,i32_w]);rfl)
                refine pure_ (i:=8) (N:=some 102) (v:=?_) (a':=?_) #[O,O,O,O,O,O,O,O,O,J,J] rfl rfl (any_of HT_.out (by kernel_rfl)) (fun _ _ _ h=>h) (Or.inl ⟨by rfl,?_⟩) ?_ ?_;rotate_left;(intro w';go_simp;with_reducible rfl);rotate_left;((try simp only [W,U,G,X,i64_w,i32_w]);rfl)
                refine take_ (i:=9) (N:=some 103) (v:=?_) (a':=?_) #[O,O,O,O,O,O,O,O,O,O,J] rfl rfl (take_ofW HT_.out HW_.out (by kernel_rfl)) (fun _ _ _ h=>h) (Or.inl ⟨by rfl,?_⟩) hHeld ?_ ?_;rotate_left;(rintro w' ⟨s0,s1,s2,s3,s4,s5,s6,s7,s8,s9,s10,s11,s12,s13⟩;go_simp;with_reducible rfl);rotate_left;((try simp only [W,U,G,X,i64_w,i32_w]);rfl)
                refine pure_ (i:=10) (N:=some 104) (v:=?_) (a':=?_) #[O,O,O,O,O,O,O,O,O,O,O] rfl rfl (any_of HT_.out (by kernel_rfl)) (fun _ _ _ h=>h) (Or.inl ⟨by rfl,?_⟩) ?_ ?_;rotate_left;(intro w';go_simp;with_reducible rfl);rotate_left;((try simp only [W,U,G,X,i64_w,i32_w]);rfl)
                refine done_ (done_of HT_.out (by kernel_rfl)) ?_
                try go_wp2
                go_ret
                exact ⟨y66_,y65_ HB GE485 GE486⟩
               ·rw [if_neg c59] at H
                have c59b0 : (!(((rd_T38 l0_4 x7_4).f0) == ((rd_T38 l1_4 x7_4).f0)) || (!(((rd_T38 l0_4 x7_4).f1) == ((rd_T38 l1_4 x7_4).f1)))) = false:=by simpa using c59
                clear c59;have H':=Y H;clear H;have hnb63:=NB485_486.out;have hnc63:=NB486_485.out;obtain ⟨hcz64_0,hcz64_1,hcz64_2,hcz64_3,hcz64_4,hfz64_0,hfz64_1,hfz64_2,hfz64_3,hfz64_4⟩:=bz5_ BK485
                try go_wp2
                have n0_:=ap3 (blk_drew BK485.out) (blk_drew BK486.out) (below_drew1 HB.out);clear BK485 BK486 HB;obtain ⟨BK485,BK486,HB⟩:=n0_
                have p495 : 0 ≤ (x7_4 : Int):=of_decide_eq_true (y67_)
                have q495 : x7_4 < (l0_4.length : Int):=of_decide_eq_true (y67_)
                obtain ⟨ad495,e495,hx495_0,hx495_1⟩:=at_T38 HR0_4.out x7_4 p495 q495;have hw495_1:=hx495_1;have hw495_0:=hx495_0
                cases e495
                replace hx495_0:=clB HB hx495_0;replace hx495_1:=clB HB hx495_1;replace p495:=eq_true p495;replace q495:=eq_true q495
                have p496 : 0 ≤ (x7_4 : Int):=of_decide_eq_true (y67_)
                have q496 : x7_4 < (l1_4.length : Int):=of_decide_eq_true (y67_)
                obtain ⟨ad496,e496,hx496_0,hx496_1⟩:=at_T38 HR1_4.out x7_4 p496 q496;have hw496_1:=hx496_1;have hw496_0:=hx496_0
                cases e496
                replace hx496_0:=clB HB hx496_0;replace hx496_1:=clB HB hx496_1;replace p496:=eq_true p496;replace q496:=eq_true q496
                refine start_ (n:=11) (S:=fun w'=>w'.cell? ⟨gb485,0,none⟩ = some (.slice A0_0 l0_0.length c0_0) ∧ w'.cell? ⟨gb485,1,none⟩ = some (.slice A0_1 l0_1.length c0_1) ∧ w'.cell? ⟨gb485,2,none⟩ = some (.slice A0_2 l0_2.length c0_2) ∧ w'.cell? ⟨gb485,3,none⟩ = some (.slice A0_3 l0_3.length c0_3) ∧ w'.cell? ⟨gb485,4,none⟩ = some (.slice (some ad495) l0_4.length c0_4) ∧ w'.cell? ⟨gb486,0,none⟩ = some (.slice A1_0 l1_0.length c1_0) ∧ w'.cell? ⟨gb486,1,none⟩ = some (.slice A1_1 l1_1.length c1_1) ∧ w'.cell? ⟨gb486,2,none⟩ = some (.slice A1_2 l1_2.length c1_2) ∧ w'.cell? ⟨gb486,3,none⟩ = some (.slice A1_3 l1_3.length c1_3) ∧ w'.cell? ⟨gb486,4,none⟩ = some (.slice (some ad496) l1_4.length c1_4) ∧ w'.cell? (ad495.add ((x7_4).toNat * 2)) = some (.int .i64 ((rd_T38 l0_4 x7_4).f0)) ∧ w'.cell? ⟨(ad495.add ((x7_4).toNat * 2)).block,(ad495.add ((x7_4).toNat * 2)).off + 1,none⟩ = some (.int .i64 ((rd_T38 l0_4 x7_4).f1)) ∧ w'.cell? (ad496.add ((x7_4).toNat * 2)) = some (.int .i64 ((rd_T38 l1_4 x7_4).f0)) ∧ w'.cell? ⟨(ad496.add ((x7_4).toNat * 2)).block,(ad496.add ((x7_4).toNat * 2)).off + 1,none⟩ = some (.int .i64 ((rd_T38 l1_4 x7_4).f1))) (ds:=[]) #[J,J,J,J,J,J,J,J,J,J,J] (by kernel_rfl) rfl rfl ⟨(E BK485.out 0).trans rfl,(E BK485.out 1).trans rfl,(E BK485.out 2).trans rfl,(E BK485.out 3).trans rfl,(E BK485.out 4).trans rfl,(E BK486.out 0).trans rfl,(E BK486.out 1).trans rfl,(E BK486.out 2).trans rfl,(E BK486.out 3).trans rfl,(E BK486.out 4).trans rfl,((HB.out.cell (Q w _ hw495_0)).trans hw495_0),((HB.out.cell (Q w _ hw495_1)).trans hw495_1),((HB.out.cell (Q w _ hw496_0)).trans hw496_0),((HB.out.cell (Q w _ hw496_1)).trans hw496_1)⟩ (fun hHeld=>?_);refine with_tabW spec_WorldSame.tab16 spec_WorldSame.bits16 (fun HT_ HW_=>?_)
                generalize wr.drew = w65 at BK485 BK486 HB hx495_0 hx495_1 hx496_0 hx496_1 hHeld ⊢
                refine pure_ (i:=0) (N:=some 94) (v:=?_) (a':=?_) #[O,J,J,J,J,J,J,J,J,J,J] rfl rfl (any_of HT_.out (by kernel_rfl)) (fun _ _ _ h=>h) (Or.inl ⟨by rfl,?_⟩) ?_ ?_;rotate_left;(intro w';go_simp;with_reducible rfl);rotate_left;((try simp only [W,U,G,X,i64_w,i32_w]);rfl)
                refine pure_ (i:=2) (N:=some 96) (v:=?_) (a':=?_) #[O,J,O,J,J,J,J,J,J,J,J] rfl rfl (any_of HT_.out (by kernel_rfl)) (fun _ _ _ h=>h) (Or.inl ⟨by rfl,?_⟩) ?_ ?_;rotate_left;(intro w';go_simp;with_reducible rfl);rotate_left;((try simp only [W,U,G,X,i64_w,i32_w]);rfl)
                refine pure_ (i:=5) (N:=some 99) (v:=?_) (a':=?_) #[O,J,O,J,J,O,J,J,J,J,J] rfl rfl (any_of HT_.out (by kernel_rfl)) (fun _ _ _ h=>h) (Or.inl ⟨by rfl,?_⟩) ?_ ?_;rotate_left;(intro w';go_simp;with_reducible rfl);rotate_left;((try simp only [W,U,G,X,i64_w,i32_w]);rfl)
                refine pure_ (i:=7) (N:=some 101) (v:=?_) (a':=?_) #[O,J,O,J,J,O,J,O,J,J,J] rfl rfl (any_of HT_.out (by kernel_rfl)) (fun _ _ _ h=>h) (Or.inl ⟨by rfl,?_⟩) ?_ ?_;rotate_left;(intro w';go_simp;with_reducible rfl);rotate_left;((try simp only [W,U,G,X,i64_w,i32_w]);rfl)
                refine take_ (i:=1) (N:=some 95) (v:=?_) (a':=?_) #[O,O,O,J,J,O,J,O,J,J,J] rfl rfl (take_ofW HT_.out HW_.out (by kernel_rfl)) (fun _ _ _ h=>h) (Or.inl ⟨by rfl,?_⟩) hHeld ?_ ?_;rotate_left;(rintro w' ⟨s0,s1,s2,s3,s4,s5,s6,s7,s8,s9,s10,s11,s12,s13⟩;go_simp;with_reducible rfl);rotate_left;((try simp only [W,U,G,X,i64_w,i32_w]);rfl)
                refine pure_ (i:=3) (N:=some 97) (v:=?_) (a':=?_) #[O,O,O,O,J,O,J,O,J,J,J] rfl rfl (any_of HT_.out (by kernel_rfl)) (fun _ _ _ h=>h) (Or.inl ⟨by rfl,?_⟩) ?_ ?_;rotate_left;(intro w';go_simp;with_reducible rfl);rotate_left;((try simp only [W,U,G,X,i64_w,i32_w]);rfl)
                refine take_ (i:=4) (N:=some 98) (v:=?_) (a':=?_) #[O,O,O,O,O,O,J,O,J,J,J] rfl rfl (take_ofW HT_.out HW_.out (by kernel_rfl)) (fun _ _ _ h=>h) (Or.inl ⟨by rfl,?_⟩) hHeld ?_ ?_;rotate_left;(rintro w' ⟨s0,s1,s2,s3,s4,s5,s6,s7,s8,s9,s10,s11,s12,s13⟩;go_simp;with_reducible rfl);rotate_left;((try simp only [W,U,G,X,i64_w,i32_w]);rfl)
                refine take_ (i:=6) (N:=some 100) (v:=?_) (a':=?_) #[O,O,O,O,O,O,O,O,J,J,J] rfl rfl (take_ofW HT_.out HW_.out (by kernel_rfl)) (fun _ _ _ h=>h) (Or.inl ⟨by rfl,?_⟩) hHeld ?_ ?_;rotate_left;(rintro w' ⟨s0,s1,s2,s3,s4,s5,s6,s7,s8,s9,s10,s11,s12,s13⟩;go_simp;with_reducible rfl);rotate_left;((try simp only [W,U,G,X,i64_w,i32_w]);rfl)
                refine pure_ (i:=8) (N:=some 102) (v:=?_) (a':=?_) #[O,O,O,O,O,O,O,O,O,J,J] rfl rfl (any_of HT_.out (by kernel_rfl)) (fun _ _ _ h=>h) (Or.inl ⟨by rfl,?_⟩) ?_ ?_;rotate_left;(intro w';go_simp;with_reducible rfl);rotate_left;((try simp only [W,U,G,X,i64_w,i32_w]);rfl)
                refine take_ (i:=9) (N:=some 103) (v:=?_) (a':=?_) #[O,O,O,O,O,O,O,O,O,O,J] rfl rfl (take_ofW HT_.out HW_.out (by kernel_rfl)) (fun _ _ _ h=>h) (Or.inl ⟨by rfl,?_⟩) hHeld ?_ ?_;rotate_left;(rintro w' ⟨s0,s1,s2,s3,s4,s5,s6,s7,s8,s9,s10,s11,s12,s13⟩;go_simp;with_reducible rfl);rotate_left;((try simp only [W,U,G,X,i64_w,i32_w]);rfl)
                refine pure_ (i:=10) (N:=some 104) (v:=?_) (a':=?_) #[O,O,O,O,O,O,O,O,O,O,O] rfl rfl (any_of HT_.out (by kernel_rfl)) (fun _ _ _ h=>h) (Or.inl ⟨by rfl,?_⟩) ?_ ?_;rotate_left;(intro w';go_simp;with_reducible rfl);rotate_left;((try simp only [W,U,G,X,i64_w,i32_w]);rfl)
                refine done_ (done_of HT_.out (by kernel_rfl)) ?_
                try go_wp2
                go_roundg k4
                case measure=>have:=HJ2.out;have:=HK2.out;have:=HK3.out;have:=HK4.out;omega
                case rel=>exact ⟨(wrap64 (x7_4 + 1)),(y63_),H',⟨by have:=HJ2.out;have:=HK2.out;have:=HK3.out;have:=HK4.out;omega⟩,⟨y64_ BK485⟩,⟨y64_ BK486⟩,⟨y65_ HB GE485 GE486⟩⟩
              ·rw [if_neg c58] at H
               exact absurd H (by simp)
             ·rw [if_neg c57] at H
              exact absurd H (by simp)
            ·rw [if_neg c56] at H;have c56b0 : decide (x7_4 < (l0_4.length : Int)) = false:=decide_eq_false c56;clear c56;obtain rfl:=Option.some.inj H;have hnb66:=NB485_486.out;have hnc66:=NB486_485.out;obtain ⟨hcz67_0,hcz67_1,hcz67_2,hcz67_3,hcz67_4,hfz67_0,hfz67_1,hfz67_2,hfz67_3,hfz67_4⟩:=bz5_ BK485
             go_wp2
             go_ret
             exact ⟨y66_,y65_ HB GE485 GE486⟩
end Go.Proofs.Ytfbocgagfodgnaa.P
