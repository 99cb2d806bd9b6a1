/- Parts of the proof of FnCodeEnd: plain Lean functions of Go functions, and that the calls come to what they say; no condition beyond those that each theorem names. -/
import Derived.Test.YtphbdoljkpdflaaZFnCodeEnd5
import Derived.Test.YtphbdoljkpdflaaZFnCodeEnd10
import Derived.Test.YtphbdoljkpdflaaZFnCodeEnd11
import Derived.Test.YtphbdoljkpdflaaZFnCodeEnd14
import Derived.Test.YtphbdoljkpdflaaZFnCodeEnd18
import Derived.Test.YtphbdoljkpdflaaZFnCodeEnd23
import Derived.Test.YtphbdoljkpdflaaZFnCodeEnd24
namespace Go.Proofs.Ytphbdoljkpdflaa.P
open Go.RowKit Go.Proofs.YtphbdoljkpdflaaW.PrintWords Go.Proofs.YtphbdoljkpdflaaW.PrintLast Go.Proofs.YtphbdoljkpdflaaW.PrintMore
open Go.Proofs.YtphbdoljkpdflaaW.PrintWords renaming Aside0.mk → O
open Option renaming bind_eq_some_iff → Z
attribute [local go_sem] max2_int min2_int max_two min_two max_three min_three max_four min_four
set_option linter.unusedVariables false
set_option linter.unusedSimpArgs false
mutual
def laws_FnCodeEnd.j0 : Nat → List (S42) → Bool → Bool → Option (Bool)
 | 0,_,_,_=>none
 | k + 1,x3,x4,x27=>if x27 = true then ((spec_CodeOk.f k x3).bind fun t790=>(if (x4 == t790) = true then ((impl_CodeOf.f k ([] : List (S46))).bind fun t791=>((impl_CodeSame.f k t791 (([(⟨13,0,0,0⟩ : S42)] : List (S42)))).bind fun t797=>(some t797))) else (some false))) else (laws_FnCodeEnd.l0 k x3 0)
def laws_FnCodeEnd.l0 : Nat → List (S42) → Int → Option (Bool)
 | 0,_,_=>none
 | k + 1,x3,x5=>if x5 < (x3.length : Int) then (if 0 ≤ x5 then (if ((((rd_T42 x3 x5).f0) == 13) != (x5 == (wrap64 ((x3.length : Int) - 1)))) = true then (some false) else (laws_FnCodeEnd.l0 k x3 (wrap64 (x5 + 1)))) else (none)) else (some true)
end
def laws_FnCodeEnd.f (k : Nat) (l0 : List Int) : Option (Bool):=if (l0.length : Int) > 1048576 then (some true) else ((spec_DrawCodeOk.f k l0).bind fun t778=>((impl_CodeOk.f k t778).bind fun t781=>((spec_CodeOk.f k t778).bind fun t782=>(if (t781 != t782) = true then (laws_FnCodeEnd.j0 k t778 t781 true) else ((impl_CodeOf.f k ([] : List (S46))).bind fun t783=>((impl_CodeSame.f k t783 (([(⟨13,0,0,0⟩ : S42)] : List (S42)))).bind fun t789=>(if t789 = true then (laws_FnCodeEnd.j0 k t778 t781 (!t781)) else (laws_FnCodeEnd.j0 k t778 t781 true))))))))
set_option maxHeartbeats 8000000 in
set_option maxRecDepth 100000 in
theorem laws_FnCodeEnd.calls (k : Nat) (A0 : Option Addr) (c0 : Nat) (l0 : List Int) (r : Bool) (w : World) (hr0 : Kd.C (Kd.int .u8) w A0 l0.length l0) (hc0 : l0.length ≤ c0) (h : laws_FnCodeEnd.f k l0 = some r) :
  Calls Try.prog 10 #[.slice A0 l0.length c0] w fun e w'=>e = .returned (.bool r) ∧ Below w.heap.size w w':=by
 have hu42:=Try.underlying42;have HR0:=O hr0;have HC0:=O hc0;clear hr0 hc0;have HB:=O (Below.refl w.heap.size w);have H : (if (l0.length : Int) > 1048576 then (some true) else ((spec_DrawCodeOk.f k l0).bind fun t778=>((impl_CodeOk.f k t778).bind fun t781=>((spec_CodeOk.f k t778).bind fun t782=>(if (t781 != t782) = true then (laws_FnCodeEnd.j0 k t778 t781 true) else ((impl_CodeOf.f k ([] : List (S46))).bind fun t783=>((impl_CodeSame.f k t783 (([(⟨13,0,0,0⟩ : S42)] : List (S42)))).bind fun t789=>(if t789 = true then (laws_FnCodeEnd.j0 k t778 t781 (!t781)) else (laws_FnCodeEnd.j0 k t778 t781 true))))))))) = some r:=h;clear h
 by_cases c2 : (l0.length : Int) > 1048576
 ·rw [if_pos c2] at H;have c2b0 : decide (1048576 < (l0.length : Int)) = true:=decide_eq_true c2
  have c2b1 : decide (1048576 < l0.length) = true:=decide_eq_true (by omega)
  clear c2;obtain rfl:=Option.some.inj H;go_enter Try.func10,Try.ntmps10
  go_wp2
  go_ret
  exact ⟨by first | rfl | (simp [errW_none,errW_some] <;> rfl) | (simp [*,errW_none,errW_some] <;> rfl),by repeat (first | (with_reducible first | exact HB.out | apply below_alloc | apply pw_below_drewN | apply below_drew1) | exact HB.out)⟩
 ·rw [if_neg c2] at H;have c2b0 : decide (1048576 < (l0.length : Int)) = false:=decide_eq_false c2
  have c2b1 : decide (1048576 < l0.length) = false:=decide_eq_false (by omega)
  clear c2;replace H:=Z.mp H;obtain ⟨t778,A30,H⟩:=H;replace H : ((impl_CodeOk.f k t778).bind fun t781=>((spec_CodeOk.f k t778).bind fun t782=>(if (t781 != t782) = true then (laws_FnCodeEnd.j0 k t778 t781 true) else ((impl_CodeOf.f k ([] : List (S46))).bind fun t783=>((impl_CodeSame.f k t783 (([(⟨13,0,0,0⟩ : S42)] : List (S42)))).bind fun t789=>(if t789 = true then (laws_FnCodeEnd.j0 k t778 t781 (!t781)) else (laws_FnCodeEnd.j0 k t778 t781 true))))))) = some r:=H;have A3:=O A30;clear A30;replace H:=Z.mp H;obtain ⟨t781,A40,H⟩:=H;replace H : ((spec_CodeOk.f k t778).bind fun t782=>(if (t781 != t782) = true then (laws_FnCodeEnd.j0 k t778 t781 true) else ((impl_CodeOf.f k ([] : List (S46))).bind fun t783=>((impl_CodeSame.f k t783 (([(⟨13,0,0,0⟩ : S42)] : List (S42)))).bind fun t789=>(if t789 = true then (laws_FnCodeEnd.j0 k t778 t781 (!t781)) else (laws_FnCodeEnd.j0 k t778 t781 true)))))) = some r:=H;have A4:=O A40;clear A40;have HC5:=O H;clear H;go_enter Try.func10,Try.ntmps10
  go_upto_region 5 with (first | ((with_reducible refine gate_callee (f:=30) rfl ?_);refine goesM_ (some 10) Try.func30 #[.slice A0 l0.length c0] ?_;(with_reducible refine (spec_DrawCodeOk.calls k _ _ l0 t778 _ ?side1 ?side2 A3.out).mono ?_);(case side1=>repeat (first | exact HR0.out | (with_reducible refine Kd.C_alloc ?_ _) | (with_reducible refine Kd.C_drewN ?_ _) | (with_reducible refine Kd.C_drew ?_)));(case side2=>exact HC0.out);rintro e w6 ⟨v779,rfl,ho0,hb⟩;refine ⟨_,rfl,?_⟩;have n0_:=O (Kd.R_lower ho0 (below_size (q0_ HB)));have n1_:=O (below_step (q0_ HB) hb);clear HB;have HO780:=n0_;have HB:=n1_;clear n0_ n1_;(try clear hb);(try clear ho0);obtain ⟨Ao7,co7,eo7⟩:=Kd.R_slice HO780.out;subst eo7) | ((with_reducible refine gate_callee (f:=15) rfl ?_);refine goesM_ (some 12) Try.func15 #[.slice Ao7 t778.length co7] ?_;(with_reducible refine (impl_CodeOk.calls k _ _ t778 t781 _ ?side1 ?side2 A4.out).mono ?_);(case side1=>repeat (first | exact (Kd.R_reads' HO780.out).2.2 | (with_reducible refine Kd.C_alloc ?_ _) | (with_reducible refine Kd.C_drewN ?_ _) | (with_reducible refine Kd.C_drew ?_)));(case side2=>exact (Kd.R_reads' HO780.out).2.1);rintro e w8 ⟨rfl,hb⟩;refine ⟨_,rfl,?_⟩;have n0_:=O (Kd.R_below (q3_ HO780) hb);have n1_:=O (below_step (q0_ HB) hb);clear HO780 HB;have HO780:=n0_;have HB:=n1_;clear n0_ n1_;(try clear hb)))
  (try simp only [Act.put,List.setIfInBounds_toArray,List.set_cons_zero,List.set_cons_succ])
  go_cut [27] (fun v27 wc=>∃ (kq : Nat) (x27_4 : Bool),v27 = .bool x27_4 ∧ Aside0 (laws_FnCodeEnd.j0 kq t778 t781 x27_4 = some r) ∧ Aside0 (kq ≤ k) ∧ Aside0 (Kd.R k42 42 wc w.heap.size (fun _=>True) (.slice Ao7 t778.length co7) t778) ∧ Aside0 (Below w.heap.size w wc))
  case first =>
   have H:=HC5.out;clear HC5;replace H:=Z.mp H;obtain ⟨t782,A90,H⟩:=H;replace H : (if (t781 != t782) = true then (laws_FnCodeEnd.j0 k t778 t781 true) else ((impl_CodeOf.f k ([] : List (S46))).bind fun t783=>((impl_CodeSame.f k t783 (([(⟨13,0,0,0⟩ : S42)] : List (S42)))).bind fun t789=>(if t789 = true then (laws_FnCodeEnd.j0 k t778 t781 (!t781)) else (laws_FnCodeEnd.j0 k t778 t781 true))))) = some r:=H;have A9:=O A90;clear A90
   by_cases c10 : (t781 != t782) = true
   ·rw [if_pos c10] at H;have c10b0 : (t781 != t782) = true:=c10
    (try (have c10b1 : decide (t781 = t782) = false:=by simpa using c10))
    (try (have c10b2 : (t781 == t782) = false:=by simpa using c10))
    (try (have c10b3 : ¬ (t781 = t782):=by simpa using c10))
    clear c10
    (first | rw [c10b0] | (simp only [i64_w,i32_w];rw [c10b0]) | skip)
    have H':=O H;clear H
    go_wp2_with (first | ((with_reducible refine gate_callee (f:=13) rfl ?_);refine goesM_ (some 15) Try.func13 #[.slice Ao7 t778.length co7] ?_;(with_reducible refine (spec_CodeOk.calls k _ _ t778 t782 _ ?side1 ?side2 A9.out).mono ?_);(case side1=>repeat (first | exact (Kd.R_reads' HO780.out).2.2 | (with_reducible refine Kd.C_alloc ?_ _) | (with_reducible refine Kd.C_drewN ?_ _) | (with_reducible refine Kd.C_drew ?_)));(case side2=>exact (Kd.R_reads' HO780.out).2.1);rintro e w11 ⟨rfl,hb⟩;refine ⟨_,rfl,?_⟩;have n0_:=O (Kd.R_below (q3_ HO780) hb);have n1_:=O (below_step (q0_ HB) hb);clear HO780 HB;have HO780:=n0_;have HB:=n1_;clear n0_ n1_;(try clear hb)))
    go_meet
    case rel=>exact ⟨_,(true),(by first | rfl | (simp;done) | (simp [*];done)),H',⟨by first | omega | exact Nat.le_refl _⟩,⟨by (with_reducible repeat (first | apply Kd.R_alloc | apply Kd.R_drewN | apply Kd.R_drew));exact HO780.out⟩,⟨by repeat (first | (with_reducible first | exact HB.out | apply below_alloc | apply pw_below_drewN | apply below_drew1) | exact HB.out)⟩⟩
   ·rw [if_neg c10] at H
    have c10b0 : (t781 != t782) = false:=by simpa using c10
    (try (have c10b1 : decide (t781 = t782) = true:=by simpa using c10))
    (try (have c10b2 : (t781 == t782) = true:=by simpa using c10))
    clear c10
    (first | rw [c10b0] | (simp only [i64_w,i32_w];rw [c10b0]) | skip)
    replace H:=Z.mp H;obtain ⟨t783,A120,H⟩:=H;replace H : ((impl_CodeSame.f k t783 (([(⟨13,0,0,0⟩ : S42)] : List (S42)))).bind fun t789=>(if t789 = true then (laws_FnCodeEnd.j0 k t778 t781 (!t781)) else (laws_FnCodeEnd.j0 k t778 t781 true))) = some r:=H;have A12:=O A120;clear A120;obtain ⟨y786,hy786⟩ : ∃ y_ : List (S42),y_ = (([(⟨13,0,0,0⟩ : S42)] : List (S42))):=⟨_,rfl⟩
    replace H : ((impl_CodeSame.f k t783 y786).bind fun t789=>(if t789 = true then (laws_FnCodeEnd.j0 k t778 t781 (!t781)) else (laws_FnCodeEnd.j0 k t778 t781 true))) = some r:=by first | (rw [hy786];with_reducible exact H) | (have H2_:=(Option.bind_some _ _).symm.trans H;rw [hy786];with_reducible exact H2_) | (have H2_:=(Option.bind_some _ _).symm.trans H;with_reducible exact H2_) | with_reducible exact H | (rw [hy786];exact H) | exact H
    have Ny786:=O hy786;clear hy786;replace H:=Z.mp H;obtain ⟨t789,A130,H⟩:=H;replace H : (if t789 = true then (laws_FnCodeEnd.j0 k t778 t781 (!t781)) else (laws_FnCodeEnd.j0 k t778 t781 true)) = some r:=H;have A13:=O A130;clear A130
    by_cases c14 : t789 = true
    ·subst c14
     have H1 : (laws_FnCodeEnd.j0 k t778 t781 (!t781)) = some r:=by rw [if_pos rfl] at H;exact H
     clear H;have H:=H1;clear H1;have H':=O H;clear H
     go_wp2_with (first | ((with_reducible refine gate_callee (f:=13) rfl ?_);refine goesM_ (some 15) Try.func13 #[.slice Ao7 t778.length co7] ?_;(with_reducible refine (spec_CodeOk.calls k _ _ t778 t782 _ ?side1 ?side2 A9.out).mono ?_);(case side1=>repeat (first | exact (Kd.R_reads' HO780.out).2.2 | (with_reducible refine Kd.C_alloc ?_ _) | (with_reducible refine Kd.C_drewN ?_ _) | (with_reducible refine Kd.C_drew ?_)));(case side2=>exact (Kd.R_reads' HO780.out).2.1);rintro e w15 ⟨rfl,hb⟩;refine ⟨_,rfl,?_⟩;have n0_:=O (Kd.R_below (q3_ HO780) hb);have n1_:=O (below_step (q0_ HB) hb);clear HO780 HB;have HO780:=n0_;have HB:=n1_;clear n0_ n1_;(try clear hb);(try clear hk)) | (go_at_call 20;(refine (impl_CodeOf.calls k _ _ ([] : List (S46)) t783 _ ?side1 ?side2 A12.out).mono ?_);(case side1=>exact Kd.C_nil _ _);(case side2=>exact Nat.le_refl _);rintro e w16 ⟨v784,rfl,ho0,hb⟩;have n0_:=O (Kd.R_elder' (q3_ HO780) (Kd.R_base ho0) hb);have n1_:=O (Kd.R_lower (Kd.R_new' ho0 (Kd.R_lt (q3_ HO780))) (below_size (q0_ HB)));have n2_:=O (below_step (q0_ HB) hb);clear HO780 HB;have HO780:=n0_;have HO785:=n1_;have HB:=n2_;clear n0_ n1_ n2_;(try clear hb);(try clear hk);(try clear ho0)) | ((with_reducible refine gate_dst (N:=20) rfl ?_);(try (refine gate_guard (by rfl) ?_;dsimp only));refine Kd.R_lit k42 _ 42 ?hg (N:=20) ?hd (xs:=([(⟨13,0,0,0⟩ : S42)] : List (S42))) (inner:=[.int .i64 13,.int .i64 0,.int .i64 0,.int .i64 0]) (ok:=fun _=>True) (okp:=fun _=>True) ?hr ?hp (fun _ hk=>hk) trivial (Below.refl _ _) (Nat.le_refl _) (by simp) ?_;(case hd=>rfl);(case hg=>rfl);(case hr=>first | (go_simp;done) | (go_simp;rfl));(case hp=>exact (Reps.c4 (show Kd.M k42 _ _ _ (⟨13,0,0,0⟩ : S42) [.int .i64 13,.int .i64 0,.int .i64 0,.int .i64 0] from (k42_mkM _ _ _ (⟨13,0,0,0⟩ : S42) )) (Reps.none _ _)));intro v787 w17 ho18 hb hg_ hnew_;clear hg_ hnew_;(first | rw [← Ny786.out] at ho18 | (simp only [Int.reduceToNat] at ho18;rw [← Ny786.out] at ho18));have n0_:=O (Kd.R_elder' (q3_ HO780) (Kd.R_base ho18) hb);have n1_:=O (Kd.R_elder' (q3_ HO785) (Kd.R_base ho18) hb);have n2_:=O (Kd.R_lower (Kd.R_new' (Kd.R_new' ho18 (Kd.R_lt (q3_ HO780))) (Kd.R_lt (q3_ HO785))) (below_size (q0_ HB)));have n3_:=O (below_step (q0_ HB) hb);clear HO780 HO785 HB;have HO780:=n0_;have HO785:=n1_;have HO788:=n2_;have HB:=n3_;clear n0_ n1_ n2_ n3_ hb ho18;obtain ⟨Ao19,co19,eo19⟩:=Kd.R_slice HO785.out;subst eo19;obtain ⟨Ao20,co20,eo20⟩:=Kd.R_slice HO788.out;subst eo20) | (go_at_call 26;(with_reducible refine (impl_CodeSame.calls k _ _ t783 _ _ y786 true _ ?side1 ?side2 ?side3 ?side4 A13.out).mono ?_);(case side1=>repeat (first | exact (Kd.R_reads' HO785.out).2.2 | (with_reducible refine Kd.C_alloc ?_ _) | (with_reducible refine Kd.C_drewN ?_ _) | (with_reducible refine Kd.C_drew ?_)));(case side2=>exact (Kd.R_reads' HO785.out).2.1);(case side3=>repeat (first | exact (Kd.R_reads' HO788.out).2.2 | (with_reducible refine Kd.C_alloc ?_ _) | (with_reducible refine Kd.C_drewN ?_ _) | (with_reducible refine Kd.C_drew ?_)));(case side4=>exact (Kd.R_reads' HO788.out).2.1);rintro e w' ⟨rfl,⟨nd,rfl⟩⟩))
     go_meet
     case rel=>exact ⟨_,(!t781),(by first | rfl | (simp;done) | (simp [*];done)),H',⟨by first | omega | exact Nat.le_refl _⟩,⟨by (with_reducible repeat (first | apply Kd.R_alloc | apply Kd.R_drewN | apply Kd.R_drew));exact Kd.R_mono HO780.out (fun _ hk=>trivial)⟩,⟨by repeat (first | (with_reducible first | exact HB.out | apply below_alloc | apply pw_below_drewN | apply below_drew1) | exact HB.out)⟩⟩
    ·replace c14:=Bool.eq_false_iff.mpr c14;subst c14
     have H1 : (laws_FnCodeEnd.j0 k t778 t781 true) = some r:=by rw [if_neg (show ¬ (false = true) by decide)] at H;exact H
     clear H;have H:=H1;clear H1;have H':=O H;clear H
     go_wp2_with (first | ((with_reducible refine gate_callee (f:=13) rfl ?_);refine goesM_ (some 15) Try.func13 #[.slice Ao7 t778.length co7] ?_;(with_reducible refine (spec_CodeOk.calls k _ _ t778 t782 _ ?side1 ?side2 A9.out).mono ?_);(case side1=>repeat (first | exact (Kd.R_reads' HO780.out).2.2 | (with_reducible refine Kd.C_alloc ?_ _) | (with_reducible refine Kd.C_drewN ?_ _) | (with_reducible refine Kd.C_drew ?_)));(case side2=>exact (Kd.R_reads' HO780.out).2.1);rintro e w21 ⟨rfl,hb⟩;refine ⟨_,rfl,?_⟩;have n0_:=O (Kd.R_below (q3_ HO780) hb);have n1_:=O (below_step (q0_ HB) hb);clear HO780 HB;have HO780:=n0_;have HB:=n1_;clear n0_ n1_;(try clear hb);(try clear hk)) | (go_at_call 20;(refine (impl_CodeOf.calls k _ _ ([] : List (S46)) t783 _ ?side1 ?side2 A12.out).mono ?_);(case side1=>exact Kd.C_nil _ _);(case side2=>exact Nat.le_refl _);rintro e w22 ⟨v784,rfl,ho0,hb⟩;have n0_:=O (Kd.R_elder' (q3_ HO780) (Kd.R_base ho0) hb);have n1_:=O (Kd.R_lower (Kd.R_new' ho0 (Kd.R_lt (q3_ HO780))) (below_size (q0_ HB)));have n2_:=O (below_step (q0_ HB) hb);clear HO780 HB;have HO780:=n0_;have HO785:=n1_;have HB:=n2_;clear n0_ n1_ n2_;(try clear hb);(try clear hk);(try clear ho0)) | ((with_reducible refine gate_dst (N:=20) rfl ?_);(try (refine gate_guard (by rfl) ?_;dsimp only));refine Kd.R_lit k42 _ 42 ?hg (N:=20) ?hd (xs:=([(⟨13,0,0,0⟩ : S42)] : List (S42))) (inner:=[.int .i64 13,.int .i64 0,.int .i64 0,.int .i64 0]) (ok:=fun _=>True) (okp:=fun _=>True) ?hr ?hp (fun _ hk=>hk) trivial (Below.refl _ _) (Nat.le_refl _) (by simp) ?_;(case hd=>rfl);(case hg=>rfl);(case hr=>first | (go_simp;done) | (go_simp;rfl));(case hp=>exact (Reps.c4 (show Kd.M k42 _ _ _ (⟨13,0,0,0⟩ : S42) [.int .i64 13,.int .i64 0,.int .i64 0,.int .i64 0] from (k42_mkM _ _ _ (⟨13,0,0,0⟩ : S42) )) (Reps.none _ _)));intro v787 w23 ho24 hb hg_ hnew_;clear hg_ hnew_;(first | rw [← Ny786.out] at ho24 | (simp only [Int.reduceToNat] at ho24;rw [← Ny786.out] at ho24));have n0_:=O (Kd.R_elder' (q3_ HO780) (Kd.R_base ho24) hb);have n1_:=O (Kd.R_elder' (q3_ HO785) (Kd.R_base ho24) hb);have n2_:=O (Kd.R_lower (Kd.R_new' (Kd.R_new' ho24 (Kd.R_lt (q3_ HO780))) (Kd.R_lt (q3_ HO785))) (below_size (q0_ HB)));have n3_:=O (below_step (q0_ HB) hb);clear HO780 HO785 HB;have HO780:=n0_;have HO785:=n1_;have HO788:=n2_;have HB:=n3_;clear n0_ n1_ n2_ n3_ hb ho24;obtain ⟨Ao25,co25,eo25⟩:=Kd.R_slice HO785.out;subst eo25;obtain ⟨Ao26,co26,eo26⟩:=Kd.R_slice HO788.out;subst eo26) | (go_at_call 26;(with_reducible refine (impl_CodeSame.calls k _ _ t783 _ _ y786 false _ ?side1 ?side2 ?side3 ?side4 A13.out).mono ?_);(case side1=>repeat (first | exact (Kd.R_reads' HO785.out).2.2 | (with_reducible refine Kd.C_alloc ?_ _) | (with_reducible refine Kd.C_drewN ?_ _) | (with_reducible refine Kd.C_drew ?_)));(case side2=>exact (Kd.R_reads' HO785.out).2.1);(case side3=>repeat (first | exact (Kd.R_reads' HO788.out).2.2 | (with_reducible refine Kd.C_alloc ?_ _) | (with_reducible refine Kd.C_drewN ?_ _) | (with_reducible refine Kd.C_drew ?_)));(case side4=>exact (Kd.R_reads' HO788.out).2.1);rintro e w' ⟨rfl,⟨nd,rfl⟩⟩))
     go_meet
     case rel=>exact ⟨_,(true),(by first | rfl | (simp;done) | (simp [*];done)),H',⟨by first | omega | exact Nat.le_refl _⟩,⟨by (with_reducible repeat (first | apply Kd.R_alloc | apply Kd.R_drewN | apply Kd.R_drew));exact Kd.R_mono HO780.out (fun _ hk=>trivial)⟩,⟨by repeat (first | (with_reducible first | exact HB.out | apply below_alloc | apply pw_below_drewN | apply below_drew1) | exact HB.out)⟩⟩
  case rest =>
   clear HC5;(try clear c1);(try clear c2);(try clear c2b0);(try clear c2b1);(try clear p2);(try clear c3);(try clear c4);(try clear c10);(try clear c10b0);(try clear c10b1);(try clear c10b2);(try clear c13);(try clear c14);(try clear c15);obtain ⟨kq,x27_4,rfl,HA,HJ4,HO_3,HB⟩:=hcut
   cases kq with
   | zero=>exact absurd HA.out (by simp [laws_FnCodeEnd.j0])
   | succ kj4 =>
    have H:=HA.out;clear HA;simp only [laws_FnCodeEnd.j0] at H
    by_cases c27 : x27_4 = true
    ·subst c27
     have H1 : ((spec_CodeOk.f kj4 t778).bind fun t790=>(if (t781 == t790) = true then ((impl_CodeOf.f kj4 ([] : List (S46))).bind fun t791=>((impl_CodeSame.f kj4 t791 (([(⟨13,0,0,0⟩ : S42)] : List (S42)))).bind fun t797=>(some t797))) else (some false))) = some r:=by rw [if_pos rfl] at H;exact H
     clear H;have H:=H1;clear H1;replace H:=Z.mp H;obtain ⟨t790,A280,H⟩:=H;replace H : (if (t781 == t790) = true then ((impl_CodeOf.f kj4 ([] : List (S46))).bind fun t791=>((impl_CodeSame.f kj4 t791 (([(⟨13,0,0,0⟩ : S42)] : List (S42)))).bind fun t797=>(some t797))) else (some false)) = some r:=H;have A28:=O A280;clear A280
     by_cases c29 : (t781 == t790) = true
     ·rw [if_pos c29] at H;have c29b0 : (t781 == t790) = true:=c29
      (try (have c29b1 : decide (t781 = t790) = true:=by simpa using c29))
      (try (have c29b2 : (t781 == t790) = true:=by simpa using c29))
      clear c29;replace H:=Z.mp H;obtain ⟨t791,A300,H⟩:=H;replace H : ((impl_CodeSame.f kj4 t791 (([(⟨13,0,0,0⟩ : S42)] : List (S42)))).bind fun t797=>(some t797)) = some r:=H;have A30:=O A300;clear A300;obtain ⟨y794,hy794⟩ : ∃ y_ : List (S42),y_ = (([(⟨13,0,0,0⟩ : S42)] : List (S42))):=⟨_,rfl⟩
      replace H : ((impl_CodeSame.f kj4 t791 y794).bind fun t797=>(some t797)) = some r:=by first | (rw [hy794];with_reducible exact H) | (have H2_:=(Option.bind_some _ _).symm.trans H;rw [hy794];with_reducible exact H2_) | (have H2_:=(Option.bind_some _ _).symm.trans H;with_reducible exact H2_) | with_reducible exact H | (rw [hy794];exact H) | exact H
      have Ny794:=O hy794;clear hy794;replace H:=Z.mp H;obtain ⟨t797,A310,H⟩:=H;replace H : (some t797) = some r:=H;have A31:=O A310;clear A310;obtain rfl:=Option.some.inj H
      go_wp2_with (first | ((with_reducible refine gate_callee (f:=13) rfl ?_);refine goesM_ (some 30) Try.func13 #[.slice Ao7 t778.length co7] ?_;(with_reducible refine (spec_CodeOk.calls kj4 _ _ t778 t790 _ ?side1 ?side2 A28.out).mono ?_);(case side1=>repeat (first | exact (Kd.R_reads' HO_3.out).2.2 | (with_reducible refine Kd.C_alloc ?_ _) | (with_reducible refine Kd.C_drewN ?_ _) | (with_reducible refine Kd.C_drew ?_)));(case side2=>exact (Kd.R_reads' HO_3.out).2.1);rintro e w32 ⟨rfl,hb⟩;refine ⟨_,rfl,?_⟩;have n0_:=O (Kd.R_below (q3_ HO_3) hb);have n1_:=O (below_step (q0_ HB) hb);clear HO_3 HB;have HO_3:=n0_;have HB:=n1_;clear n0_ n1_;(try clear hb);(try clear hk)) | (go_at_call 20;(refine (impl_CodeOf.calls kj4 _ _ ([] : List (S46)) t791 _ ?side1 ?side2 A30.out).mono ?_);(case side1=>exact Kd.C_nil _ _);(case side2=>exact Nat.le_refl _);rintro e w33 ⟨v792,rfl,ho0,hb⟩;have n0_:=O (Kd.R_elder' (q3_ HO_3) (Kd.R_base ho0) hb);have n1_:=O (Kd.R_lower (Kd.R_new' ho0 (Kd.R_lt (q3_ HO_3))) (below_size (q0_ HB)));have n2_:=O (below_step (q0_ HB) hb);clear HO_3 HB;have HO_3:=n0_;have HO793:=n1_;have HB:=n2_;clear n0_ n1_ n2_;(try clear hb);(try clear hk);(try clear ho0)) | ((with_reducible refine gate_dst (N:=35) rfl ?_);(try (refine gate_guard (by rfl) ?_;dsimp only));refine Kd.R_lit k42 _ 42 ?hg (N:=35) ?hd (xs:=([(⟨13,0,0,0⟩ : S42)] : List (S42))) (inner:=[.int .i64 13,.int .i64 0,.int .i64 0,.int .i64 0]) (ok:=fun _=>True) (okp:=fun _=>True) ?hr ?hp (fun _ hk=>hk) trivial (Below.refl _ _) (Nat.le_refl _) (by simp) ?_;(case hd=>rfl);(case hg=>rfl);(case hr=>first | (go_simp;done) | (go_simp;rfl));(case hp=>exact (Reps.c4 (show Kd.M k42 _ _ _ (⟨13,0,0,0⟩ : S42) [.int .i64 13,.int .i64 0,.int .i64 0,.int .i64 0] from (k42_mkM _ _ _ (⟨13,0,0,0⟩ : S42) )) (Reps.none _ _)));intro v795 w34 ho35 hb hg_ hnew_;clear hg_ hnew_;(first | rw [← Ny794.out] at ho35 | (simp only [Int.reduceToNat] at ho35;rw [← Ny794.out] at ho35));have n0_:=O (Kd.R_elder' (q3_ HO_3) (Kd.R_base ho35) hb);have n1_:=O (Kd.R_elder' (q3_ HO793) (Kd.R_base ho35) hb);have n2_:=O (Kd.R_lower (Kd.R_new' (Kd.R_new' ho35 (Kd.R_lt (q3_ HO_3))) (Kd.R_lt (q3_ HO793))) (below_size (q0_ HB)));have n3_:=O (below_step (q0_ HB) hb);clear HO_3 HO793 HB;have HO_3:=n0_;have HO793:=n1_;have HO796:=n2_;have HB:=n3_;clear n0_ n1_ n2_ n3_ hb ho35;obtain ⟨Ao36,co36,eo36⟩:=Kd.R_slice HO793.out;subst eo36;obtain ⟨Ao37,co37,eo37⟩:=Kd.R_slice HO796.out;subst eo37) | (go_at_call 26;(with_reducible refine (impl_CodeSame.calls kj4 _ _ t791 _ _ y794 t797 _ ?side1 ?side2 ?side3 ?side4 A31.out).mono ?_);(case side1=>repeat (first | exact (Kd.R_reads' HO793.out).2.2 | (with_reducible refine Kd.C_alloc ?_ _) | (with_reducible refine Kd.C_drewN ?_ _) | (with_reducible refine Kd.C_drew ?_)));(case side2=>exact (Kd.R_reads' HO793.out).2.1);(case side3=>repeat (first | exact (Kd.R_reads' HO796.out).2.2 | (with_reducible refine Kd.C_alloc ?_ _) | (with_reducible refine Kd.C_drewN ?_ _) | (with_reducible refine Kd.C_drew ?_)));(case side4=>exact (Kd.R_reads' HO796.out).2.1);rintro e w' ⟨rfl,⟨nd,rfl⟩⟩))
      go_ret
      exact ⟨by first | rfl | (simp [errW_none,errW_some] <;> rfl) | (simp [*,errW_none,errW_some] <;> rfl),by repeat (first | (with_reducible first | exact HB.out | apply below_alloc | apply pw_below_drewN | apply below_drew1) | exact HB.out)⟩
     ·rw [if_neg c29] at H
      have c29b0 : (t781 == t790) = false:=by simpa using c29
      (try (have c29b1 : decide (t781 = t790) = false:=by simpa using c29))
      (try (have c29b2 : (t781 == t790) = false:=by simpa using c29))
      (try (have c29b3 : ¬ (t781 = t790):=by simpa using c29))
      clear c29;obtain rfl:=Option.some.inj H
      go_wp2_with (first | ((with_reducible refine gate_callee (f:=13) rfl ?_);refine goesM_ (some 30) Try.func13 #[.slice Ao7 t778.length co7] ?_;(with_reducible refine (spec_CodeOk.calls kj4 _ _ t778 t790 _ ?side1 ?side2 A28.out).mono ?_);(case side1=>repeat (first | exact (Kd.R_reads' HO_3.out).2.2 | (with_reducible refine Kd.C_alloc ?_ _) | (with_reducible refine Kd.C_drewN ?_ _) | (with_reducible refine Kd.C_drew ?_)));(case side2=>exact (Kd.R_reads' HO_3.out).2.1);rintro e w38 ⟨rfl,hb⟩;refine ⟨_,rfl,?_⟩;have n0_:=O (Kd.R_below (q3_ HO_3) hb);have n1_:=O (below_step (q0_ HB) hb);clear HO_3 HB;have HO_3:=n0_;have HB:=n1_;clear n0_ n1_;(try clear hb)))
      go_ret
      exact ⟨by first | rfl | (simp [errW_none,errW_some] <;> rfl) | (simp [*,errW_none,errW_some] <;> rfl),by repeat (first | (with_reducible first | exact HB.out | apply below_alloc | apply pw_below_drewN | apply below_drew1) | exact HB.out)⟩
    ·replace c27:=Bool.eq_false_iff.mpr c27;subst c27
     have H1 : (laws_FnCodeEnd.l0 kj4 t778 0) = some r:=by rw [if_neg (show ¬ (false = true) by decide)] at H;exact H
     clear H;have H:=H1;clear H1;have H':=O H;clear H
     go_wp2
     go_loopg [5] kj4 (fun kq v5 w'=>∃ (x5_2 : Int),v5 = .int .i64 x5_2 ∧ Aside0 (laws_FnCodeEnd.l0 kq t778 x5_2 = some r) ∧ Aside0 (kq ≤ kj4) ∧ Aside0 (Kd.R k42 42 w' w.heap.size (fun _=>True) (.slice Ao7 t778.length co7) t778) ∧ Aside0 (Below w.heap.size w w'))
     case atStart=>exact ⟨(0),(by first | rfl | (simp;done) | (simp [*];done)),H',⟨Nat.le_refl _⟩,⟨by (with_reducible repeat (first | apply Kd.R_alloc | apply Kd.R_drewN | apply Kd.R_drew));exact HO_3.out⟩,⟨by repeat (first | (with_reducible first | exact HB.out | apply below_alloc | apply pw_below_drewN | apply below_drew1) | exact HB.out)⟩⟩
     case round =>
      clear H';(try clear c1);(try clear c2);(try clear c2b0);(try clear c2b1);(try clear p2);(try clear c3);(try clear c4);(try clear c10);(try clear c10b0);(try clear c10b1);(try clear c10b2);(try clear c13);(try clear c14);(try clear c15);(try clear c27);(try clear c29);(try clear c29b0);(try clear c29b1);(try clear c29b2);(try clear c30);(try clear p2);obtain ⟨x5_2,rfl,HA,HK2,HO_3,HB⟩:=hrel
      cases gk with
      | zero=>exact absurd HA.out (by simp [laws_FnCodeEnd.l0])
      | succ k2 =>
       have H:=HA.out;clear HA;simp only [laws_FnCodeEnd.l0] at H
       by_cases c39 : x5_2 < (t778.length : Int)
       ·rw [if_pos c39] at H;have c39b0 : decide (x5_2 < (t778.length : Int)) = true:=decide_eq_true c39;clear c39
        by_cases c40 : 0 ≤ x5_2
        ·rw [if_pos c40] at H;have c40b0 : decide (0 ≤ x5_2) = true:=decide_eq_true c40;clear c40
         by_cases c41 : ((((rd_T42 t778 x5_2).f0) == 13) != (x5_2 == (wrap64 ((t778.length : Int) - 1)))) = true
         ·rw [if_pos c41] at H;have c41b0 : ((((rd_T42 t778 x5_2).f0) == 13) != (x5_2 == (wrap64 ((t778.length : Int) - 1)))) = true:=c41
          (try (have c41b1 : decide ((((rd_T42 t778 x5_2).f0) == 13) = (x5_2 == (wrap64 ((t778.length : Int) - 1)))) = false:=by simpa using c41))
          (try (have c41b2 : ((((rd_T42 t778 x5_2).f0) == 13) == (x5_2 == (wrap64 ((t778.length : Int) - 1)))) = false:=by simpa using c41))
          (try (have c41b3 : ¬ ((((rd_T42 t778 x5_2).f0) == 13) = (x5_2 == (wrap64 ((t778.length : Int) - 1)))):=by simpa using c41))
          clear c41;obtain rfl:=Option.some.inj H
          have p798 : 0 ≤ (x5_2 : Int):=of_decide_eq_true (by first | (with_reducible assumption) | assumption)
          have q798 : x5_2 < (t778.length : Int):=of_decide_eq_true (by first | (with_reducible assumption) | assumption)
          obtain ⟨ad798,e798,hx798_0,hx798_1,hx798_2,hx798_3⟩:=at_T42 (Kd.R_reads' HO_3.out).2.2 x5_2 p798 q798
          cases e798
          replace p798:=eq_true p798;replace q798:=eq_true q798
          go_wp2
          go_ret
          exact ⟨by first | rfl | (simp [errW_none,errW_some] <;> rfl) | (simp [*,errW_none,errW_some] <;> rfl),by repeat (first | (with_reducible first | exact HB.out | apply below_alloc | apply pw_below_drewN | apply below_drew1) | exact HB.out)⟩
         ·rw [if_neg c41] at H
          have c41b0 : ((((rd_T42 t778 x5_2).f0) == 13) != (x5_2 == (wrap64 ((t778.length : Int) - 1)))) = false:=by simpa using c41
          (try (have c41b1 : decide ((((rd_T42 t778 x5_2).f0) == 13) = (x5_2 == (wrap64 ((t778.length : Int) - 1)))) = true:=by simpa using c41))
          (try (have c41b2 : ((((rd_T42 t778 x5_2).f0) == 13) == (x5_2 == (wrap64 ((t778.length : Int) - 1)))) = true:=by simpa using c41))
          clear c41;have H':=O H;clear H
          have p798 : 0 ≤ (x5_2 : Int):=of_decide_eq_true (by first | (with_reducible assumption) | assumption)
          have q798 : x5_2 < (t778.length : Int):=of_decide_eq_true (by first | (with_reducible assumption) | assumption)
          obtain ⟨ad798,e798,hx798_0,hx798_1,hx798_2,hx798_3⟩:=at_T42 (Kd.R_reads' HO_3.out).2.2 x5_2 p798 q798
          cases e798
          replace p798:=eq_true p798;replace q798:=eq_true q798
          go_wp2
          go_roundg k2
          case measure=>have:=HJ4.out;have:=HK2.out;omega
          case rel=>exact ⟨(wrap64 (x5_2 + 1)),(by first | rfl | (simp;done) | (simp [*];done)),H',⟨by have:=HJ4.out;have:=HK2.out;omega⟩,⟨by (with_reducible repeat (first | apply Kd.R_alloc | apply Kd.R_drewN | apply Kd.R_drew));exact HO_3.out⟩,⟨by repeat (first | (with_reducible first | exact HB.out | apply below_alloc | apply pw_below_drewN | apply below_drew1) | exact HB.out)⟩⟩
        ·rw [if_neg c40] at H
         exact absurd H (by simp)
       ·rw [if_neg c39] at H;have c39b0 : decide (x5_2 < (t778.length : Int)) = false:=decide_eq_false c39;clear c39;obtain rfl:=Option.some.inj H
        go_wp2
        go_ret
        exact ⟨by first | rfl | (simp [errW_none,errW_some] <;> rfl) | (simp [*,errW_none,errW_some] <;> rfl),by repeat (first | (with_reducible first | exact HB.out | apply below_alloc | apply pw_below_drewN | apply below_drew1) | exact HB.out)⟩
def laws_FnCodeEnd.Pure : Prop:=∀ (l0 : List Int),l0.length ≤ maxLen → l0.length * 1 ≤ 140737488351232 → (∀ x ∈ l0,(Lit.int .u8 x).wf = true) → ∃ k,laws_FnCodeEnd.f k l0 = some true
theorem laws_FnCodeEnd.walk (P : laws_FnCodeEnd.Pure) (a0 : Option Addr) (len0 cap0 : Nat) (z0 : List Int) (w : World) (w0 : (a0 = none ∧ len0 = 0 ∧ cap0 = 0 ∧ z0 = []) ∨ ∃ x,a0 = some x ∧ len0 ≤ cap0 ∧ cap0 ≤ maxLen ∧ z0.length = cap0 ∧ (∀ i,i < z0.length → w.cell? (x.add i) = some (.int .u8 (z0.getD i 0))) ∧ ∀ n ∈ z0,(Lit.int .u8 n).wf = true) (y0 : len0 * 1 ≤ 140737488351232) :
  Calls Try.prog 10 #[.slice a0 len0 cap0] w fun e w'=>e = .returned (.bool true) ∧ Below w.heap.size w w':=by
 obtain ⟨l0,rfl,hr0,hm0,hw0,hc0⟩:=ReadsInt.ofRowC w0;obtain ⟨k,h⟩:=P l0 hm0 y0 hw0
 refine (laws_FnCodeEnd.calls k _ _ l0 true w (Kd.C_of_reads (d:=(0 : Int)) (h1:=fun _=>rfl) hr0) hc0 h).mono ?_
 rintro e w' ⟨rfl,hd⟩
 exact ⟨rfl,hd⟩
end Go.Proofs.Ytphbdoljkpdflaa.P

namespace Go.Proofs.Ytphbdoljkpdflaa.P
open Go.RowKit Go.Proofs.YtphbdoljkpdflaaW.PrintWords Go.Proofs.YtphbdoljkpdflaaW.PrintMore
set_option linter.unusedVariables false
set_option linter.unusedSimpArgs false
def AllI (c : List S42) : Prop:=1 ≤ c.length ∧ c.length ≤ 60 ∧ ∀ j,j < c.length → OkI c j
theorem rooms_both (c : List S42) (h : AllI c) : ∃ b : Bool,Ev (fun k=>impl_roomsOk.f k c) b ∧ (∃ rs,Ev (fun k=>spec_l4Rooms.f k c) (rs,b)) ∧ ((∀ j,j < c.length → FitI c 0 c.length j) → b = true):=by
 obtain ⟨h1,h2,hok⟩:=h
 have hlen : (List.replicate c.length (-2 : Int)).length = c.length:=by simp
 have hI : BInv c ((List.replicate c.length (-2 : Int)).set 0 (-1)) (([0] : List Int).drop 0):=by
  refine ⟨by simp,fun v hv=>?_,fun p hp=>?_⟩
  ·rcases List.mem_or_eq_of_mem_set hv with hv | rfl
   ·have:=(List.mem_replicate.1 hv).2
    omega
   ·omega
  ·obtain rfl : p = 0:=by simpa using hp
   refine ⟨by omega,by omega,?_⟩
   have:=rd_set_same (xs:=List.replicate c.length (-2 : Int)) (i:=0) (by simp;omega) (-1)
   rw [show ((0 : Nat) : Int) = 0 from rfl] at this
   rw [this]
   omega
 have hcnt : ((List.replicate c.length (-2 : Int)).set 0 (-1)).count (-2) ≤ 60:=by
  have:=List.count_le_length (a:=(-2 : Int)) (l:=(List.replicate c.length (-2 : Int)).set 0 (-1))
  simp at this
  omega
 obtain ⟨b,e1,⟨rs,e2⟩,e3⟩:=outer_loop c h2 hok 1000 0 _ [0] (by simp) hI (by simp;omega) (by simp;omega)
 refine ⟨b,?_,⟨rs,?_⟩,fun hf=>e3 hf ?_⟩
 ·unfold impl_roomsOk.f
  have er : slices_Repeat_int_int.f ([-2] : List Int) (c.length : Int) = some (List.replicate c.length (-2)):=by
   unfold slices_Repeat_int_int.f
   rw [if_pos ⟨rfl,by omega,by omega⟩,Int.toNat_natCast]
   rfl
  refine Evs.bind0 er (Evs.ite_pos (by rw [hlen];omega) ?_)
  exact e1
 ·unfold spec_l4Rooms.f
  have key : ∀ (e i : Nat),i + e = c.length → Ev (fun k=>spec_l4Rooms.l0 k c (List.replicate i (-1)) (i : Int)) (rs,b):=by
   intro e
   induction e with
   | zero =>
    intro i hi
    obtain rfl : i = c.length:=by omega
    refine Evs.succ (fun k=>by simp only [spec_l4Rooms.l0];rfl) (Evs.ite_neg (by omega) (Evs.ite_pos (by simp;omega) ?_))
    have em : ((List.replicate c.length (-2 : Int)).set 0 (-1)).map (· + 1) = (List.replicate c.length (-1 : Int)).set (0 : Int).toNat 0:=by
     rw [List.map_set,List.map_replicate]
     rfl
    rw [em] at e2
    exact e2
   | succ e ih =>
    intro i hi
    refine Evs.succ (fun k=>by simp only [spec_l4Rooms.l0];rfl) (Evs.ite_pos (by omega) (Evs.ite_pos (by simp;omega) ?_))
    rw [wrap_succ (by omega),← List.replicate_succ']
    exact ih (i + 1) (by omega)
  exact key c.length 0 (by omega)
 ·intro j hj
  by_cases hz : j = 0
  ·subst hz
   right
   have:=rd_set_same (xs:=List.replicate c.length (-2 : Int)) (i:=0) (by simp;omega) (-1)
   rw [this]
   rfl
  ·left
   rw [rd_set_ne (by omega),rd_get (by simpa using hj)]
   simp
theorem specIns_ev (a0 a1 a2 a3 : Int) (n : Nat) : Ev (fun k=>spec_l4Ins.f k a0 a1 a2 a3 (n : Int)) (insB a0 a1 a2 a3 (n : Int)):=by
 have main : ∀ x5 : Bool,x5 = inR a1 3 → Ev (fun k=>spec_l4Ins.j0 k (n : Int) x5 a0 a1 a2 a3) (insB a0 a1 a2 a3 (n : Int)):=by
  intro x5 hx
  refine Evs.succ (fun k=>by simp only [spec_l4Ins.j0];rfl) ?_
  by_cases h1 : a0 = 1
  ·have hv : leafOk a0 a1 a2 a3 (-1) = insB a0 a1 a2 a3 (n : Int):=by rw [h1];rw [Bool.eq_iff_iff];simp [leafOk,insB,insN,gmOk,gmA,gmB,gmX,fit,inR,numR];omega
   rw [← hv]
   exact Evs.ite_pos h1 (Evs.succ (fun k=>by simp only [spec_l4Ins.j1];rfl) (Evs.ite_pos (by simp [h1]) (Evs.bind (leaf_ev a0 a1 a2 a3 (-1) [] []) (Evs.some_ _))))
  refine Evs.ite_neg h1 ?_
  by_cases h2 : a0 = 2
  ·have hv : leafOk a0 a1 a2 a3 (-1) = insB a0 a1 a2 a3 (n : Int):=by rw [h2];rw [Bool.eq_iff_iff];simp [leafOk,insB,insN,gmOk,gmA,gmB,gmX,fit,inR,numR];omega
   rw [← hv]
   exact Evs.ite_pos h2 (Evs.succ (fun k=>by simp only [spec_l4Ins.j1];rfl) (Evs.ite_pos (by simp [h2]) (Evs.bind (leaf_ev a0 a1 a2 a3 (-1) [] []) (Evs.some_ _))))
  refine Evs.ite_neg h2 ?_
  by_cases h3 : a0 = 3
  ·have hv : leafOk a0 a1 a2 a3 (-1) = insB a0 a1 a2 a3 (n : Int):=by rw [h3];rw [Bool.eq_iff_iff];simp [leafOk,insB,insN,gmOk,gmA,gmB,gmX,fit,inR,numR];omega
   rw [← hv]
   exact Evs.ite_pos h3 (Evs.succ (fun k=>by simp only [spec_l4Ins.j1];rfl) (Evs.ite_pos (by simp [h3]) (Evs.bind (leaf_ev a0 a1 a2 a3 (-1) [] []) (Evs.some_ _))))
  refine Evs.ite_neg h3 ?_
  by_cases h4 : a0 = 4
  ·have hv : leafOk a0 a1 a2 a3 (-1) = insB a0 a1 a2 a3 (n : Int):=by rw [h4];rw [Bool.eq_iff_iff];simp [leafOk,insB,insN,gmOk,gmA,gmB,gmX,fit,inR,numR];omega
   rw [← hv]
   exact Evs.ite_pos h4 (Evs.succ (fun k=>by simp only [spec_l4Ins.j1];rfl) (Evs.ite_pos (by simp [h4]) (Evs.bind (leaf_ev a0 a1 a2 a3 (-1) [] []) (Evs.some_ _))))
  refine Evs.ite_neg h4 ?_
  by_cases h5 : a0 = 5
  ·have hv : leafOk a0 a1 a2 a3 (-1) = insB a0 a1 a2 a3 (n : Int):=by rw [h5];rw [Bool.eq_iff_iff];simp [leafOk,insB,insN,gmOk,gmA,gmB,gmX,fit,inR,numR];omega
   rw [← hv]
   exact (Evs.succ (fun k=>by simp only [spec_l4Ins.j1];rfl) (Evs.ite_pos (by simp [h5]) (Evs.bind (leaf_ev a0 a1 a2 a3 (-1) [] []) (Evs.some_ _))))
  refine Evs.succ (fun k=>by simp only [spec_l4Ins.j1];rfl) (Evs.ite_neg (by simpa using h5) ?_)
  by_cases h6 : a0 = 6
  ·have hv : (x5 && (decide (a2 = 0) && (decide (a3 ≥ 0) && decide (a3 < (n : Int))))) = insB a0 a1 a2 a3 (n : Int):=by rw [hx,h6];rw [Bool.eq_iff_iff];simp [leafOk,insB,insN,gmOk,gmA,gmB,gmX,fit,inR,numR];omega
   rw [← hv]
   exact Evs.ite_pos h6 (ev_band fun _=>ev_and fun _=>ev_and fun _=>Evs.some_ _)
  refine Evs.ite_neg h6 ?_
  by_cases h7 : a0 = 7
  ·have hv : (decide (a1 = 0) && (decide (a2 = 0) && (decide (a3 ≥ 0) && decide (a3 < (n : Int))))) = insB a0 a1 a2 a3 (n : Int):=by rw [h7];rw [Bool.eq_iff_iff];simp [leafOk,insB,insN,gmOk,gmA,gmB,gmX,fit,inR,numR];omega
   rw [← hv]
   exact Evs.ite_pos h7 (ev_and fun _=>ev_and fun _=>ev_and fun _=>Evs.some_ _)
  refine Evs.ite_neg h7 ?_
  by_cases h8 : a0 = 8
  ·have hv : (decide (a1 ≥ 0) && (decide (a1 < 2) && (decide (a2 = 0) && (a3 == 0)))) = insB a0 a1 a2 a3 (n : Int):=by rw [h8];rw [Bool.eq_iff_iff];simp [leafOk,insB,insN,gmOk,gmA,gmB,gmX,fit,inR,numR];omega
   rw [← hv]
   exact Evs.ite_pos h8 (Evs.succ (fun k=>by simp only [spec_l4Ins.j2];rfl) (Evs.ite_pos (by simp [h8]) (ev_and fun _=>ev_and fun _=>ev_and fun _=>Evs.some_ _)))
  refine Evs.ite_neg h8 ?_
  by_cases h9 : a0 = 9
  ·have hv : (decide (a1 ≥ 0) && (decide (a1 < 2) && (decide (a2 = 0) && (a3 == 0)))) = insB a0 a1 a2 a3 (n : Int):=by rw [h9];rw [Bool.eq_iff_iff];simp [leafOk,insB,insN,gmOk,gmA,gmB,gmX,fit,inR,numR];omega
   rw [← hv]
   exact (Evs.succ (fun k=>by simp only [spec_l4Ins.j2];rfl) (Evs.ite_pos (by simp [h9]) (ev_and fun _=>ev_and fun _=>ev_and fun _=>Evs.some_ _)))
  refine Evs.succ (fun k=>by simp only [spec_l4Ins.j2];rfl) (Evs.ite_neg (by simpa using h9) ?_)
  by_cases h10 : a0 = 10
  ·have hv : (decide (a1 ≥ 0) && (decide (a1 < 2) && (decide (a2 = 0) && (a3 == 0)))) = insB a0 a1 a2 a3 (n : Int):=by rw [h10];rw [Bool.eq_iff_iff];simp [leafOk,insB,insN,gmOk,gmA,gmB,gmX,fit,inR,numR];omega
   rw [← hv]
   exact Evs.ite_pos h10 (Evs.succ (fun k=>by simp only [spec_l4Ins.j3];rfl) (Evs.ite_pos (by simp [h10]) (ev_and fun _=>ev_and fun _=>ev_and fun _=>Evs.some_ _)))
  refine Evs.ite_neg h10 ?_
  by_cases h11 : a0 = 11
  ·have hv : (decide (a1 ≥ 0) && (decide (a1 < 2) && (decide (a2 = 0) && (a3 == 0)))) = insB a0 a1 a2 a3 (n : Int):=by rw [h11];rw [Bool.eq_iff_iff];simp [leafOk,insB,insN,gmOk,gmA,gmB,gmX,fit,inR,numR];omega
   rw [← hv]
   exact (Evs.succ (fun k=>by simp only [spec_l4Ins.j3];rfl) (Evs.ite_pos (by simp [h11]) (ev_and fun _=>ev_and fun _=>ev_and fun _=>Evs.some_ _)))
  refine Evs.succ (fun k=>by simp only [spec_l4Ins.j3];rfl) (Evs.ite_neg (by simpa using h11) ?_)
  by_cases h12 : a0 = 12
  ·have hv : (decide (a1 = 0) && (decide (a2 = 0) && (a3 == 0))) = insB a0 a1 a2 a3 (n : Int):=by rw [h12];rw [Bool.eq_iff_iff];simp [leafOk,insB,insN,gmOk,gmA,gmB,gmX,fit,inR,numR];omega
   rw [← hv]
   exact Evs.ite_pos h12 (ev_and fun _=>ev_and fun _=>Evs.some_ _)
  refine Evs.ite_neg h12 ?_
  by_cases h13 : a0 = 13
  ·have hv : (decide (a1 = 0) && (decide (a2 = 0) && (a3 == 0))) = insB a0 a1 a2 a3 (n : Int):=by rw [h13];rw [Bool.eq_iff_iff];simp [leafOk,insB,insN,gmOk,gmA,gmB,gmX,fit,inR,numR];omega
   rw [← hv]
   exact Evs.ite_pos h13 (ev_and fun _=>ev_and fun _=>Evs.some_ _)
  refine Evs.ite_neg h13 ?_
  have hv : insB a0 a1 a2 a3 (n : Int) = false:=by
   have : gmOk a0 = false:=by unfold gmOk;rw [decide_eq_false (by omega)]
   unfold insB;rw [this];rfl
  rw [hv]
  exact Evs.some_ _
 unfold spec_l4Ins.f
 by_cases h : a1 ≥ 0
 ·exact Evs.ite_pos h (main _ (by unfold inR;rw [decide_eq_true (show 0 ≤ a1 from h),Bool.true_and]))
 ·exact Evs.ite_neg h (main _ (by unfold inR;rw [decide_eq_false (show ¬ 0 ≤ a1 from h),Bool.false_and]))
def okJ (c : List S42) (j : Nat) : Bool:=insB (rd_T42 c j).f0 (rd_T42 c j).f1 (rd_T42 c j).f2 (rd_T42 c j).f3 (c.length : Int) && (decide ((rd_T42 c j).f0 = 13) == decide (j + 1 = c.length))
theorem okJ_iff (c : List S42) (j : Nat) : okJ c j = true ↔ OkI c j:=by
 unfold okJ OkI
 rw [Bool.and_eq_true,beq_iff_eq,decide_eq_decide]
theorem impl_lin (c : List S42) (hc : c.length ≤ 60) (b : Bool) (hb : (∀ j,j < c.length → okJ c j = true) → Ev (fun k=>impl_roomsOk.f k c) b) :
  ∀ (e i : Nat),i + e = c.length → (∀ j,j < i → okJ c j = true) → Ev (fun k=>impl_CodeOk.l0 k c c (c.length : Int) (i : Int)) (((List.range' i e).all (okJ c)) && b):=by
 intro e
 induction e with
 | zero =>
  intro i hi hp
  obtain rfl : i = c.length:=by omega
  refine Evs.succ (fun k=>by simp only [impl_CodeOk.l0];rfl) (Evs.ite_neg (by omega) ?_)
  exact Evs.bind (hb hp) (Evs.some_ _)
 | succ e ih =>
  intro i hi hp
  have ew : wrap64 ((c.length : Int) - 1) = ((c.length - 1 : Nat) : Int):=by rw [wrap_id (by omega) (by omega)];omega
  have hj : ((((rd_T42 c (i : Int)).f0) == 13) != ((i : Int) == wrap64 ((c.length : Int) - 1))) = !(decide ((rd_T42 c (i : Int)).f0 = 13) == decide (i + 1 = c.length)):=by
   rw [ew]
   have : ((i : Int) == ((c.length - 1 : Nat) : Int)) = decide (i + 1 = c.length):=by rw [Bool.eq_iff_iff];simp;omega
   rw [this]
   rfl
  clear ew
  refine Evs.succ (fun k=>by simp only [impl_CodeOk.l0];rfl) (Evs.ite_pos (by omega) (Evs.ite_pos (by omega) (Evs.ite_pos (by omega) (Evs.bind0 rfl ?_))))
  rw [List.range'_succ,List.all_cons]
  cases h1 : insB (rd_T42 c (i : Int)).f0 (rd_T42 c (i : Int)).f1 (rd_T42 c (i : Int)).f2 (rd_T42 c (i : Int)).f3 (c.length : Int) with
  | false =>
   have : okJ c i = false:=by unfold okJ;rw [h1];rfl
   rw [this]
   exact Evs.ite_neg (by simp) (Evs.some_ _)
  | true =>
   refine Evs.ite_pos rfl ?_
   rw [hj]
   cases h2 : (decide ((rd_T42 c (i : Int)).f0 = 13) == decide (i + 1 = c.length)) with
   | false =>
    have : okJ c i = false:=by unfold okJ;rw [h1,h2];rfl
    rw [this]
    exact Evs.ite_pos rfl (Evs.some_ _)
   | true =>
    have : okJ c i = true:=by unfold okJ;rw [h1,h2];rfl
    rw [this,Bool.true_and]
    refine Evs.ite_neg (by simp) ?_
    rw [wrap_succ (by omega)]
    exact ih (i + 1) (by omega) fun j hj=>by
     by_cases hji : j = i
     ·rw [hji];exact this
     ·exact hp j (by omega)
theorem spec_lin (c : List S42) (hc : c.length ≤ 60) (hlast : (rd_T42 c ((c.length - 1 : Nat) : Int)).f0 = 13) (b : Bool) (hb : (∀ j,j < c.length → okJ c j = true) → ∃ rs,Ev (fun k=>spec_l4Rooms.f k c) (rs,b)) :
  ∀ (e i : Nat),i + e = c.length → (∀ j,j < i → okJ c j = true) → Ev (fun k=>spec_CodeOk.l0 k c (c.length : Int) (i : Int)) (((List.range' i e).all (okJ c)) && b):=by
 intro e
 induction e with
 | zero =>
  intro i hi hp
  obtain rfl : i = c.length:=by omega
  obtain ⟨rs,hr⟩:=hb hp
  refine Evs.succ (fun k=>by simp only [spec_CodeOk.l0];rfl) (Evs.ite_neg (by omega) ?_)
  exact Evs.bind hr (Evs.some_ _)
 | succ e ih =>
  intro i hi hp
  refine Evs.succ (fun k=>by simp only [spec_CodeOk.l0];rfl) (Evs.ite_pos (by omega) (Evs.ite_pos (by omega) (Evs.ite_pos (by omega) (Evs.bind (specIns_ev _ _ _ _ c.length) ?_))))
  rw [List.range'_succ,List.all_cons]
  have ew : wrap64 ((c.length : Int) - 1) = ((c.length - 1 : Nat) : Int):=by rw [wrap_id (by omega) (by omega)];omega
  rw [ew]
  clear ew
  cases h1 : insB (rd_T42 c (i : Int)).f0 (rd_T42 c (i : Int)).f1 (rd_T42 c (i : Int)).f2 (rd_T42 c (i : Int)).f3 (c.length : Int) with
  | false =>
   have : okJ c i = false:=by unfold okJ;rw [h1];rfl
   rw [this]
   exact Evs.ite_neg (by simp) (Evs.some_ _)
  | true =>
   refine Evs.ite_pos rfl ?_
   have nx : okJ c i = true → Ev (fun k=>spec_CodeOk.l0 k c (c.length : Int) (wrap64 ((i : Int) + 1))) (((List.range' (i + 1) e).all (okJ c)) && b):=fun h=>by
    rw [wrap_succ (by omega)]
    exact ih (i + 1) (by omega) fun j hj=>by
     by_cases hji : j = i
     ·rw [hji];exact h
     ·exact hp j (by omega)
   by_cases h13 : (rd_T42 c (i : Int)).f0 = 13
   ·refine Evs.ite_pos h13 ?_
    by_cases hl : i + 1 = c.length
    ·have : okJ c i = true:=by unfold okJ;rw [h1,decide_eq_true h13,decide_eq_true hl];rfl
     rw [this,Bool.true_and]
     exact Evs.ite_neg (by omega) (nx this)
    ·have : okJ c i = false:=by unfold okJ;rw [h1,decide_eq_true h13,decide_eq_false hl];rfl
     rw [this]
     exact Evs.ite_pos (by omega) (Evs.some_ _)
   ·refine Evs.ite_neg h13 ?_
    have hl : ¬ i + 1 = c.length:=fun e=>h13 (by rw [show i = c.length - 1 by omega];exact hlast)
    have : okJ c i = true:=by unfold okJ;rw [h1,decide_eq_false h13,decide_eq_false hl];rfl
    rw [this,Bool.true_and]
    exact nx this
theorem code_both (c : List S42) : ∃ b : Bool,Ev (fun k=>impl_CodeOk.f k c) b ∧ Ev (fun k=>spec_CodeOk.f k c) b ∧ (b = true → AllI c) ∧ (AllI c → (∀ j,j < c.length → FitI c 0 c.length j) → b = true):=by
 have bad1 : Ev (fun k=>impl_CodeOk.j0 k c true) false:=Evs.succ (fun k=>by simp only [impl_CodeOk.j0];rfl) (Evs.ite_pos (by trivial) (Evs.some_ _))
 have bad2 : Ev (fun k=>spec_CodeOk.j0 k c (c.length : Int) true) false:=Evs.succ (fun k=>by simp only [spec_CodeOk.j0];rfl) (Evs.ite_pos (by trivial) (Evs.some_ _))
 unfold impl_CodeOk.f spec_CodeOk.f
 by_cases h1 : (c.length : Int) < 1
 ·exact ⟨false,Evs.ite_pos h1 bad1,Evs.ite_pos h1 bad2,fun h=>(by cases h),fun h=>by have:=h.1;omega⟩
 by_cases h2 : (c.length : Int) > 60
 ·refine ⟨false,Evs.ite_neg h1 ?_,Evs.ite_neg h1 (Evs.ite_pos h2 bad2),fun h=>(by cases h),fun h=>by have:=h.2.1;omega⟩
  rw [decide_eq_true h2]
  exact bad1
 have hc : c.length ≤ 60:=by omega
 have hn : 1 ≤ c.length:=by omega
 have ew : wrap64 ((c.length : Int) - 1) = ((c.length - 1 : Nat) : Int):=by rw [wrap_id (by omega) (by omega)];omega
 by_cases hall : ∀ j,j < c.length → okJ c j = true
 ·have hA : AllI c:=⟨hn,hc,fun j hj=>(okJ_iff c j).1 (hall j hj)⟩
  obtain ⟨b,e1,⟨rs,e2⟩,e3⟩:=rooms_both c hA
  have hl13 : (rd_T42 c ((c.length - 1 : Nat) : Int)).f0 = 13:=(hA.2.2 (c.length - 1) (by omega)).2.2 (by omega)
  have hr : (List.range' 0 c.length).all (okJ c) = true:=by rw [← List.range_eq_range'];exact all_range_true hall
  have i1:=impl_lin c hc b (fun _=>e1) c.length 0 (by omega) (fun _ h=>by omega)
  have s1:=spec_lin c hc hl13 b (fun _=>⟨rs,e2⟩) c.length 0 (by omega) (fun _ h=>by omega)
  rw [hr,Bool.true_and] at i1 s1
  refine ⟨b,?_,?_,fun _=>hA,fun _ hf=>e3 hf⟩
  ·refine Evs.ite_neg h1 ?_
   rw [decide_eq_false h2]
   exact Evs.succ (fun k=>by simp only [impl_CodeOk.j0];rfl) (Evs.ite_neg (by simp) i1)
  ·refine Evs.ite_neg h1 (Evs.ite_neg h2 ?_)
   rw [ew,hl13]
   clear ew
   refine Evs.ite_pos (by omega) (Evs.ite_pos (by omega) ?_)
   exact Evs.succ (fun k=>by simp only [spec_CodeOk.j0];rfl) (Evs.ite_neg (by simp) s1)
 ·have hr : (List.range' 0 c.length).all (okJ c) = false:=by
   rw [← List.range_eq_range',Bool.eq_false_iff]
   intro h
   rw [List.all_eq_true] at h
   exact hall fun j hj=>h j (List.mem_range.2 hj)
  have i1:=impl_lin c hc true (fun h=>absurd h hall) c.length 0 (by omega) (fun _ h=>by omega)
  rw [hr,Bool.false_and] at i1
  refine ⟨false,?_,?_,fun h=>(by cases h),fun h=>absurd (fun j hj=>(okJ_iff c j).2 (h.2.2 j hj)) hall⟩
  ·refine Evs.ite_neg h1 ?_
   rw [decide_eq_false h2]
   exact Evs.succ (fun k=>by simp only [impl_CodeOk.j0];rfl) (Evs.ite_neg (by simp) i1)
  ·refine Evs.ite_neg h1 (Evs.ite_neg h2 ?_)
   rw [ew]
   clear ew
   refine Evs.ite_pos (by omega) (Evs.ite_pos (by omega) ?_)
   by_cases hl13 : (rd_T42 c ((c.length - 1 : Nat) : Int)).f0 = 13
   ·rw [hl13]
    have s1:=spec_lin c hc hl13 true (fun h=>absurd h hall) c.length 0 (by omega) (fun _ h=>by omega)
    rw [hr,Bool.false_and] at s1
    exact Evs.succ (fun k=>by simp only [spec_CodeOk.j0];rfl) (Evs.ite_neg (by simp) s1)
   ·have : ((rd_T42 c ((c.length - 1 : Nat) : Int)).f0 != 13) = true:=by simpa using hl13
    rw [this]
    exact bad2
end Go.Proofs.Ytphbdoljkpdflaa.P

namespace Go.Proofs.Ytphbdoljkpdflaa.Pure
open Go.RowKit Go.Proofs.Ytphbdoljkpdflaa.P Go.Proofs.YtphbdoljkpdflaaW.PrintWords Go.Proofs.YtphbdoljkpdflaaW.PrintLast
open Go.Proofs.Ytphbdoljkpdflaa.P Go.Proofs.YtphbdoljkpdflaaW.PrintMore
theorem nil_code : Ev (fun k=>impl_CodeOf.f k ([] : List S46)) [(⟨13,0,0,0⟩ : S42)]:=by
 have h:=implCode_ev (l:=[]) (by simp [cntL])
 rw [codeV_ok okLst_nil] at h
 exact h
theorem nil_same : Ev (fun k=>impl_CodeSame.f k [(⟨13,0,0,0⟩ : S42)] [(⟨13,0,0,0⟩ : S42)]) true:=implSame_refl _ (by simp)
theorem end_one {c : List S42} (h : AllI c) {i : Nat} (hi : i < c.length) : (((rd_T42 c (i : Int)).f0) == 13) = ((i : Int) == wrap64 ((c.length : Int) - 1)):=by
 obtain ⟨h1,h60,hok⟩:=h
 have hj:=(hok i hi).2
 have ew : wrap64 ((c.length : Int) - 1) = (c.length : Int) - 1:=wrap_id (by omega) (by omega)
 rw [ew,Bool.eq_iff_iff,beq_iff_eq,beq_iff_eq]
 constructor
 ·intro h
  have:=hj.1 h
  omega
 ·intro h
  exact hj.2 (by omega)
theorem FnCodeEnd : laws_FnCodeEnd.Pure:=by
 intro l _ _ hw
 refine Ev.rounds (g:=fun k=>laws_FnCodeEnd.f k l) ?_
 unfold laws_FnCodeEnd.f
 by_cases c0 : (l.length : Int) > 1048576
 ·exact Evs.ite_pos c0 (Evs.some_ _)
 obtain ⟨c,hc,hd⟩:=drawOk_ev hw
 obtain ⟨b,hi,hs,ha,_⟩:=code_both c
 refine Evs.ite_neg c0 (Evs.bind hd (Evs.bind hi (Evs.bind hs (Evs.ite_neg (by simp) (Evs.bind nil_code (Evs.bind nil_same (Evs.ite_pos rfl ?_)))))))
 cases b with
 | false =>
  refine Evs.succ (fun k=>by simp only [laws_FnCodeEnd.j0];rfl) (Evs.ite_pos (by first | trivial | simp) ?_)
  exact Evs.bind hs (Evs.ite_pos (by first | rfl | trivial | simp) (Evs.bind nil_code (Evs.bind nil_same (Evs.some_ _))))
 | true =>
  have hall:=ha rfl
  refine Evs.succ (fun k=>by simp only [laws_FnCodeEnd.j0];rfl) (Evs.ite_neg (by simp) ?_)
  have key : ∀ (e i : Nat),i + e = c.length → Ev (fun k=>laws_FnCodeEnd.l0 k c (i : Int)) true:=by
   intro e
   induction e with
   | zero =>
    intro i hi
    exact Evs.succ (fun k=>by simp only [laws_FnCodeEnd.l0];rfl) (Evs.ite_neg (by omega) (Evs.some_ _))
   | succ e ih =>
    intro i hi
    have hlt : i < c.length:=by omega
    have nx:=ih (i + 1) (by omega)
    rw [← wrap_succ (by omega)] at nx
    have ho:=end_one hall hlt
    refine Evs.succ (fun k=>by simp only [laws_FnCodeEnd.l0];rfl) (Evs.ite_pos (by omega) (Evs.ite_pos (by omega) ?_))
    exact Evs.ite_neg (by rw [ho];simp) nx
  exact key c.length 0 (by omega)
end Go.Proofs.Ytphbdoljkpdflaa.Pure
