/- Parts of the proof of FnExactCpuTwin: plain Lean functions of Go functions, and that the calls come to what they say; no condition beyond those that each theorem names. -/
import Derived.Test.YthbflhimmmfonaaZFnExactCpuTwin4
import Derived.Test.YthbflhimmmfonaaZFnExactCpuTwin7
namespace Go.Proofs.Ythbflhimmmfonaa.P
open Go.RowKit Go.Proofs.YthbflhimmmfonaaW.PrintWords Go.Proofs.YthbflhimmmfonaaW.PrintLast Go.Proofs.YthbflhimmmfonaaW.PrintMore
open Bool renaming true → O, false → Z
open Go.Proofs.YthbflhimmmfonaaW.PrintWords renaming Aside0.mk → J, Kd.C_alloc → Y, Kd.C_drewN → E, Kd.C_drew → U, gate_callee → G
open List renaming setIfInBounds_toArray → X, set_cons_zero → Q, set_cons_succ → W
open Option renaming some.inj → V, bind_eq_some_iff → D
open Go renaming World.block_lt_of_cell? → L
attribute [local go_sem] max2_int min2_int max_two min_two max_three min_three max_four min_four
set_option linter.unusedVariables false
set_option linter.unusedSimpArgs false
def laws_eqCtx.f (k : Nat) (l0_0 : List Int) (a0_1 : Int) (a0_2 : Int) (a0_3 : Int) (a0_4 : Int) (l1_0 : List Int) (a1_1 : Int) (a1_2 : Int) (a1_3 : Int) (a1_4 : Int) : Option (Bool):=(laws_eqIntS.f k l0_0 l1_0).bind fun t214=>(if t214 = true then (if a0_1 = a1_1 then (if a0_2 = a1_2 then (if a0_3 = a1_3 then (if a0_4 = a1_4 then (some true) else (some false)) else (some false)) else (some false)) else (some false)) else (some false))
set_option maxHeartbeats 8000000 in
set_option maxRecDepth 100000 in
theorem laws_eqCtx.calls (k : Nat) (A0_0 : Option Addr) (c0_0 : Nat) (l0_0 : List Int) (a0_1 : Int) (a0_2 : Int) (a0_3 : Int) (a0_4 : Int) (A1_0 : Option Addr) (c1_0 : Nat) (l1_0 : List Int) (a1_1 : Int) (a1_2 : Int) (a1_3 : Int) (a1_4 : Int) (r : Bool) (w : World) (hr0_0 : Kd.C (Kd.int .i64) w A0_0 l0_0.length l0_0) (hc0_0 : l0_0.length ≤ c0_0) (hr1_0 : Kd.C (Kd.int .i64) w A1_0 l1_0.length l1_0) (hc1_0 : l1_0.length ≤ c1_0) (h : laws_eqCtx.f k l0_0 a0_1 a0_2 a0_3 a0_4 l1_0 a1_1 a1_2 a1_3 a1_4 = some r) :
  Calls Try.prog 88 #[.agg #[.slice A0_0 l0_0.length c0_0,.int .i64 a0_1,.int .i64 a0_2,.int .i64 a0_3,.int .i64 a0_4],.agg #[.slice A1_0 l1_0.length c1_0,.int .i64 a1_1,.int .i64 a1_2,.int .i64 a1_3,.int .i64 a1_4]] w fun e w'=>e = .returned (.bool r) ∧ Below w.heap.size w w':=by
 have hu67:=Try.underlying67;have HR0_0:=J hr0_0;have HC0_0:=J hc0_0;clear hr0_0 hc0_0;have HR1_0:=J hr1_0;have HC1_0:=J hc1_0;clear hr1_0 hc1_0;have HB:=J (Below.refl w.heap.size w);have H : ((laws_eqIntS.f k l0_0 l1_0).bind fun t214=>(if t214 = true then (if a0_1 = a1_1 then (if a0_2 = a1_2 then (if a0_3 = a1_3 then (if a0_4 = a1_4 then (some true) else (some false)) else (some false)) else (some false)) else (some false)) else (some false))) = some r:=h;clear h;replace H:=D.mp H;obtain ⟨t214,A30,H⟩:=H;replace H : (if t214 = true then (if a0_1 = a1_1 then (if a0_2 = a1_2 then (if a0_3 = a1_3 then (if a0_4 = a1_4 then (some true) else (some false)) else (some false)) else (some false)) else (some false)) else (some false)) = some r:=H;have A3:=J A30;clear A30
 by_cases c_1 : t214 = true
 subst c_1
 have H_1 : (if a0_1 = a1_1 then (if a0_2 = a1_2 then (if a0_3 = a1_3 then (if a0_4 = a1_4 then (some true) else (some false)) else (some false)) else (some false)) else (some false)) = some r:=by rw [if_pos rfl] at H;exact H
 clear H;have H:=H_1;clear H_1
 by_cases c_2 : a0_1 = a1_1
 rw [if_pos c_2] at H;have c_1b_2 : (a0_1 == a1_1) = true:=beq_iff_eq.mpr c_2;have c_1b_3 : (a0_1 != a1_1) = false:=bne_eq_false_iff_eq.mpr c_2;clear c_2
 by_cases c_3 : a0_2 = a1_2
 rw [if_pos c_3] at H;have c_4b_2 : (a0_2 == a1_2) = true:=beq_iff_eq.mpr c_3;have c_4b_3 : (a0_2 != a1_2) = false:=bne_eq_false_iff_eq.mpr c_3;clear c_3
 by_cases c_4 : a0_3 = a1_3
 rw [if_pos c_4] at H;have c_5b_2 : (a0_3 == a1_3) = true:=beq_iff_eq.mpr c_4;have c_5b_3 : (a0_3 != a1_3) = false:=bne_eq_false_iff_eq.mpr c_4;clear c_4
 by_cases c_5 : a0_4 = a1_4
 rw [if_pos c_5] at H;have c_6b_2 : (a0_4 == a1_4) = true:=beq_iff_eq.mpr c_5;have c_6b_3 : (a0_4 != a1_4) = false:=bne_eq_false_iff_eq.mpr c_5;clear c_5;obtain rfl:=V H;go_enter Try.func88,Try.ntmps88
 rotate_left
 rw [if_neg c_5] at H;have c_6b_2 : (a0_4 == a1_4) = false:=beq_eq_false_iff_ne.mpr c_5;have c_6b_3 : (a0_4 != a1_4) = true:=bne_iff_ne.mpr c_5;obtain rfl:=V H;go_enter Try.func88,Try.ntmps88
 rotate_left
 rw [if_neg c_4] at H;have c_5b_2 : (a0_3 == a1_3) = false:=beq_eq_false_iff_ne.mpr c_4;have c_5b_3 : (a0_3 != a1_3) = true:=bne_iff_ne.mpr c_4;obtain rfl:=V H;go_enter Try.func88,Try.ntmps88
 rotate_left
 rw [if_neg c_3] at H;have c_4b_2 : (a0_2 == a1_2) = false:=beq_eq_false_iff_ne.mpr c_3;have c_4b_3 : (a0_2 != a1_2) = true:=bne_iff_ne.mpr c_3;obtain rfl:=V H;go_enter Try.func88,Try.ntmps88
 rotate_left
 rw [if_neg c_2] at H;have c_1b_2 : (a0_1 == a1_1) = false:=beq_eq_false_iff_ne.mpr c_2;have c_1b_3 : (a0_1 != a1_1) = true:=bne_iff_ne.mpr c_2;obtain rfl:=V H;go_enter Try.func88,Try.ntmps88
 rotate_left
 replace c_1:=Bool.eq_false_iff.mpr c_1;subst c_1
 have H_1 : (some false) = some r:=by rw [if_neg (show ¬ (false = true) by decide)] at H;exact H
 clear H;have H:=H_1;clear H_1;obtain rfl:=V H;go_enter Try.func88,Try.ntmps88
 rotate_left
 all_goals
  go_wp2_with (first | ((with_reducible refine gate_dst (N:=2) rfl ?_);refine box_event ?hg (N:=2) ?hd (cs:=#[.slice A0_0 l0_0.length c0_0,.int .i64 a0_1,.int .i64 a0_2,.int .i64 a0_3,.int .i64 a0_4]) (t:=67) ?hr ?_;(case hd=>rfl);(case hg=>rfl);(case hr=>first | (go_simp;done) | (go_simp;rfl));intro gb_1 hg w_1 hbox hb;have n_1_:=J (below_step (q0_ HB) hb);have n_2_:=J (hbox);have n_3_:=J ((by rw [hg];exact (below_size (q0_ HB)) : w.heap.size ≤ gb_1));have n_4_:=J ((by rw [hg];exact (below_size (q0_ HB)) : w.heap.size ≤ gb_1));clear HB;have HB:=n_1_;have BK_1:=n_2_;have GW_1:=n_3_;have GE_1:=n_4_;clear n_1_ n_2_ n_3_ n_4_ hb hbox hg) | ((with_reducible refine gate_dst (N:=3) rfl ?_);refine box_event ?hg (N:=3) ?hd (cs:=#[.slice A1_0 l1_0.length c1_0,.int .i64 a1_1,.int .i64 a1_2,.int .i64 a1_3,.int .i64 a1_4]) (t:=67) ?hr ?_;(case hd=>rfl);(case hg=>rfl);(case hr=>first | (go_simp;done) | (go_simp;rfl));intro gb_2 hg w_2 hbox hb;have n_1_:=J (blk_below (g:=gb_1) (o:=.cells #[.slice A0_0 l0_0.length c0_0,.int .i64 a0_1,.int .i64 a0_2,.int .i64 a0_3,.int .i64 a0_4] 67 (0,0)) (q1_ BK_1) hb);have n_2_:=J (below_step (q2_ HB GE_1) hb);have n_3_:=J (hbox);have n_4_:=J ((by rw [hg];exact (below_size (q2_ HB GE_1)) : w.heap.size ≤ gb_2));have n_5_:=J ((by rw [hg];exact (below_size (q2_ HB GE_1)) : w.heap.size ≤ gb_2));have n_6_:=J ((by rw [hg];exact Nat.ne_of_lt (blk_lt (g:=gb_1) (o:=.cells #[.slice A0_0 l0_0.length c0_0,.int .i64 a0_1,.int .i64 a0_2,.int .i64 a0_3,.int .i64 a0_4] 67 (0,0)) (q1_ BK_1)) : gb_1 ≠ gb_2));have n_7_:=J ((by rw [hg];exact Nat.ne_of_gt (blk_lt (g:=gb_1) (o:=.cells #[.slice A0_0 l0_0.length c0_0,.int .i64 a0_1,.int .i64 a0_2,.int .i64 a0_3,.int .i64 a0_4] 67 (0,0)) (q1_ BK_1)) : gb_2 ≠ gb_1));clear BK_1 HB;have BK_1:=n_1_;have HB:=n_2_;have BK_2:=n_3_;have GW_2:=n_4_;have GE_2:=n_5_;have NB_1__2:=n_6_;have NB_2__1:=n_7_;clear n_1_ n_2_ n_3_ n_4_ n_5_ n_6_ n_7_ hb hbox hg;have hnb_1:=NB_1__2.out;have hnc_1:=NB_2__1.out;obtain ⟨hcz_1__2,hcz_1__3,hcz_1__4,hcz_1__5,hcz_1__6,hfz_1__2,hfz_1__3,hfz_1__4,hfz_1__5,hfz_1__6⟩:=bz5_ BK_1;obtain ⟨hcz_7__2,hcz_7__3,hcz_7__4,hcz_7__5,hcz_7__6,hfz_7__2,hfz_7__3,hfz_7__4,hfz_7__5,hfz_7__6⟩:=bz5_ BK_2) | ((with_reducible refine G (f:=34) rfl ?_);refine goesM_ (some 9) Try.func34 #[.slice A0_0 l0_0.length c0_0,.slice A1_0 l1_0.length c1_0] ?_;(with_reducible refine (laws_eqIntS.calls k _ _ l0_0 _ _ l1_0 _ _ ?side_1 ?side_2 ?side_3 ?side_4 A3.out).mono ?_);(case side_1=>repeat (first | exact (Kd.C_below HR0_0.out HB.out) | (with_reducible refine Y ?_ _) | (with_reducible refine E ?_ _) | (with_reducible refine U ?_)));(case side_2=>exact HC0_0.out);(case side_3=>repeat (first | exact (Kd.C_below HR1_0.out HB.out) | (with_reducible refine Y ?_ _) | (with_reducible refine E ?_ _) | (with_reducible refine U ?_)));(case side_4=>exact HC1_0.out);rintro e w' ⟨rfl,⟨nd,rfl⟩⟩;refine ⟨_,rfl,?_⟩))
 all_goals
  go_ret
  exact ⟨by first | rfl | (simp [errW_none,errW_some] <;> rfl) | (simp [*,errW_none,errW_some] <;> rfl),by repeat (first | (with_reducible first | exact HB.out | apply below_alloc | apply pw_below_drewN | apply below_drew1 | refine below_set ?_ GE_1.out | refine below_set ?_ GE_2.out) | exact HB.out)⟩
def laws_eqCtxS.l0 : Nat → List (S67) → List (S67) → Int → Option (Bool)
 | 0,_,_,_=>none
 | k + 1,x0,x1,x5=>if x5 < (x0.length : Int) then (if 0 ≤ x5 then (if x5 < (x1.length : Int) then ((laws_eqCtx.f k ((rd_T67 x0 x5).f0) ((rd_T67 x0 x5).f1) ((rd_T67 x0 x5).f2) ((rd_T67 x0 x5).f3) ((rd_T67 x0 x5).f4) ((rd_T67 x1 x5).f0) ((rd_T67 x1 x5).f1) ((rd_T67 x1 x5).f2) ((rd_T67 x1 x5).f3) ((rd_T67 x1 x5).f4)).bind fun t217=>(if t217 = true then (laws_eqCtxS.l0 k x0 x1 (wrap64 (x5 + 1))) else (some false))) else (none)) else (none)) else (some true)
def laws_eqCtxS.f (k : Nat) (l0 : List (S67)) (l1 : List (S67)) : Option (Bool):=if (l0.length : Int) = (l1.length : Int) then (laws_eqCtxS.l0 k l0 l1 0) else (some false)
def laws_eqCtxS.T6 : Bool × List (List Nat × List Nat):=(true,[([],[]),([],[]),([0,1],[0,1]),([2],[2]),([],[]),([],[]),([4,5],[4,5]),([6],[6]),([3,7],[3,7]),([8],[8])])
def laws_eqCtxS.B6 : List Nat:=[0,0,3,7,0,0,48,112,255,511]
theorem laws_eqCtxS.tab6 : rtab .any (opsOf Try.f50 6) = laws_eqCtxS.T6:=by kernel_rfl
theorem laws_eqCtxS.bits6 : waitsOk laws_eqCtxS.T6.2 laws_eqCtxS.B6 = true:=by kernel_rfl
set_option maxHeartbeats 8000000 in
set_option maxRecDepth 100000 in
theorem laws_eqCtxS.calls (k : Nat) (A0 : Option Addr) (c0 : Nat) (l0 : List (S67)) (A1 : Option Addr) (c1 : Nat) (l1 : List (S67)) (r : Bool) (w : World) (hr0 : Kd.C k67 w A0 l0.length l0) (hc0 : l0.length ≤ c0) (hr1 : Kd.C k67 w A1 l1.length l1) (hc1 : l1.length ≤ c1) (h : laws_eqCtxS.f k l0 l1 = some r) :
  Calls Try.prog 50 #[.slice A0 l0.length c0,.slice A1 l1.length c1] w fun e w'=>e = .returned (.bool r) ∧ Below w.heap.size w w':=by
 have hu67:=Try.underlying67;have HR0:=J hr0;have HC0:=J hc0;clear hr0 hc0;have HR1:=J hr1;have HC1:=J hc1;clear hr1 hc1;have HB:=J (Below.refl w.heap.size w);have H : (if (l0.length : Int) = (l1.length : Int) then (laws_eqCtxS.l0 k l0 l1 0) else (some false)) = some r:=h;clear h
 by_cases c3 : (l0.length : Int) = (l1.length : Int)
 ·rw [if_pos c3] at H;have c3b0 : ((l0.length : Int) == (l1.length : Int)) = true:=beq_iff_eq.mpr c3;have c3b1 : ((l0.length : Int) != (l1.length : Int)) = false:=bne_eq_false_iff_eq.mpr c3
  have c3b2 : (l0.length == l1.length) = true:=by first | simpa using c3 | (simp at c3 ⊢;omega)
  clear c3;have H':=J H;clear H;go_enter Try.func50,Try.ntmps50
  go_wp2
  go_loopg [5] k (fun kq v5 w'=>∃ (x5_1 : Int),v5 = .int .i64 x5_1 ∧ Aside0 (laws_eqCtxS.l0 kq l0 l1 x5_1 = some r) ∧ Aside0 (kq ≤ k) ∧ Aside0 (Below w.heap.size w w'))
  case atStart=>exact ⟨(0),(by first | rfl | (simp;done) | (simp [*];done)),H',⟨Nat.le_refl _⟩,⟨by repeat (first | (with_reducible first | exact HB.out | apply below_alloc | apply pw_below_drewN | apply below_drew1) | exact HB.out)⟩⟩
  case round =>
   clear H';(try clear c1);(try clear p2);(try clear c3);(try clear c3b0);(try clear c3b1);(try clear c3b2);obtain ⟨x5_1,rfl,HA,HK1,HB⟩:=hrel
   cases gk with
   | zero=>exact absurd HA.out (by simp [laws_eqCtxS.l0])
   | succ k1 =>
    have H:=HA.out;clear HA;simp only [laws_eqCtxS.l0] at H
    by_cases c4 : x5_1 < (l0.length : Int)
    ·rw [if_pos c4] at H;have c4b0 : decide (x5_1 < (l0.length : Int)) = true:=decide_eq_true c4;clear c4
     by_cases c5 : 0 ≤ x5_1
     ·rw [if_pos c5] at H;have c5b0 : decide (0 ≤ x5_1) = true:=decide_eq_true c5;clear c5
      by_cases c6 : x5_1 < (l1.length : Int)
      ·rw [if_pos c6] at H;have c6b0 : decide (x5_1 < (l1.length : Int)) = true:=decide_eq_true c6;clear c6;replace H:=D.mp H;obtain ⟨t217,A70,H⟩:=H;replace H : (if t217 = true then (laws_eqCtxS.l0 k1 l0 l1 (wrap64 (x5_1 + 1))) else (some false)) = some r:=H;have A7:=J A70;clear A70
       by_cases c8 : t217 = true
       ·subst c8
        have H1 : (laws_eqCtxS.l0 k1 l0 l1 (wrap64 (x5_1 + 1))) = some r:=by rw [if_pos rfl] at H;exact H
        clear H;have H:=H1;clear H1;have H':=J H;clear H
        try go_wp2
        have n0_:=J (below_drew1 HB.out);clear HB;have HB:=n0_;clear n0_
        have p215 : 0 ≤ (x5_1 : Int):=of_decide_eq_true (by first | (with_reducible assumption) | assumption)
        have q215 : x5_1 < (l0.length : Int):=of_decide_eq_true (by first | (with_reducible assumption) | assumption)
        obtain ⟨ad215,A215_0,c215_0,e215,hx215_0,hx215_1,hx215_2,hx215_3,hx215_4,hl215_0,hi215_0⟩:=at_T67 HR0.out x5_1 p215 q215;have hw215_4:=hx215_4;have hw215_3:=hx215_3;have hw215_2:=hx215_2;have hw215_1:=hx215_1;have hw215_0:=hx215_0
        cases e215
        replace hx215_0:=(HB.out.cell (L w _ hx215_0)).trans hx215_0;replace hx215_1:=(HB.out.cell (L w _ hx215_1)).trans hx215_1;replace hx215_2:=(HB.out.cell (L w _ hx215_2)).trans hx215_2;replace hx215_3:=(HB.out.cell (L w _ hx215_3)).trans hx215_3;replace hx215_4:=(HB.out.cell (L w _ hx215_4)).trans hx215_4;have HR215_0:=J hi215_0;have HC215_0:=J hl215_0;clear hi215_0 hl215_0;replace p215:=eq_true p215;replace q215:=eq_true q215
        have p216 : 0 ≤ (x5_1 : Int):=of_decide_eq_true (by first | (with_reducible assumption) | assumption)
        have q216 : x5_1 < (l1.length : Int):=of_decide_eq_true (by first | (with_reducible assumption) | assumption)
        obtain ⟨ad216,A216_0,c216_0,e216,hx216_0,hx216_1,hx216_2,hx216_3,hx216_4,hl216_0,hi216_0⟩:=at_T67 HR1.out x5_1 p216 q216;have hw216_4:=hx216_4;have hw216_3:=hx216_3;have hw216_2:=hx216_2;have hw216_1:=hx216_1;have hw216_0:=hx216_0
        cases e216
        replace hx216_0:=(HB.out.cell (L w _ hx216_0)).trans hx216_0;replace hx216_1:=(HB.out.cell (L w _ hx216_1)).trans hx216_1;replace hx216_2:=(HB.out.cell (L w _ hx216_2)).trans hx216_2;replace hx216_3:=(HB.out.cell (L w _ hx216_3)).trans hx216_3;replace hx216_4:=(HB.out.cell (L w _ hx216_4)).trans hx216_4;have HR216_0:=J hi216_0;have HC216_0:=J hl216_0;clear hi216_0 hl216_0;replace p216:=eq_true p216;replace q216:=eq_true q216
        refine start_ (n:=10) (S:=fun w'=>w'.cell? (ad215.add ((x5_1).toNat * 5)) = some (.slice A215_0 ((rd_T67 l0 x5_1).f0).length c215_0) ∧ w'.cell? ⟨(ad215.add ((x5_1).toNat * 5)).block,(ad215.add ((x5_1).toNat * 5)).off + 1,none⟩ = some (.int .i64 ((rd_T67 l0 x5_1).f1)) ∧ w'.cell? ⟨(ad215.add ((x5_1).toNat * 5)).block,(ad215.add ((x5_1).toNat * 5)).off + 2,none⟩ = some (.int .i64 ((rd_T67 l0 x5_1).f2)) ∧ w'.cell? ⟨(ad215.add ((x5_1).toNat * 5)).block,(ad215.add ((x5_1).toNat * 5)).off + 3,none⟩ = some (.int .i64 ((rd_T67 l0 x5_1).f3)) ∧ w'.cell? ⟨(ad215.add ((x5_1).toNat * 5)).block,(ad215.add ((x5_1).toNat * 5)).off + 4,none⟩ = some (.int .i64 ((rd_T67 l0 x5_1).f4)) ∧ w'.cell? (ad216.add ((x5_1).toNat * 5)) = some (.slice A216_0 ((rd_T67 l1 x5_1).f0).length c216_0) ∧ w'.cell? ⟨(ad216.add ((x5_1).toNat * 5)).block,(ad216.add ((x5_1).toNat * 5)).off + 1,none⟩ = some (.int .i64 ((rd_T67 l1 x5_1).f1)) ∧ w'.cell? ⟨(ad216.add ((x5_1).toNat * 5)).block,(ad216.add ((x5_1).toNat * 5)).off + 2,none⟩ = some (.int .i64 ((rd_T67 l1 x5_1).f2)) ∧ w'.cell? ⟨(ad216.add ((x5_1).toNat * 5)).block,(ad216.add ((x5_1).toNat * 5)).off + 3,none⟩ = some (.int .i64 ((rd_T67 l1 x5_1).f3)) ∧ w'.cell? ⟨(ad216.add ((x5_1).toNat * 5)).block,(ad216.add ((x5_1).toNat * 5)).off + 4,none⟩ = some (.int .i64 ((rd_T67 l1 x5_1).f4))) (ds:=[]) #[Z,Z,Z,Z,Z,Z,Z,Z,Z,Z] (by kernel_rfl) rfl rfl ⟨((HB.out.cell (L w _ hw215_0)).trans hw215_0),((HB.out.cell (L w _ hw215_1)).trans hw215_1),((HB.out.cell (L w _ hw215_2)).trans hw215_2),((HB.out.cell (L w _ hw215_3)).trans hw215_3),((HB.out.cell (L w _ hw215_4)).trans hw215_4),((HB.out.cell (L w _ hw216_0)).trans hw216_0),((HB.out.cell (L w _ hw216_1)).trans hw216_1),((HB.out.cell (L w _ hw216_2)).trans hw216_2),((HB.out.cell (L w _ hw216_3)).trans hw216_3),((HB.out.cell (L w _ hw216_4)).trans hw216_4)⟩ (fun hHeld=>?_);refine with_tabW laws_eqCtxS.tab6 laws_eqCtxS.bits6 (fun HT_ HW_=>?_)
        generalize wr.drew = w9 at HB HR215_0 HR216_0 hx215_0 hx215_1 hx215_2 hx215_3 hx215_4 hx216_0 hx216_1 hx216_2 hx216_3 hx216_4 hHeld ⊢
        refine pure_ (i:=0) (N:=some 17) (v:=?_) (a':=?_) #[O,Z,Z,Z,Z,Z,Z,Z,Z,Z] rfl rfl (any_of HT_.out (by kernel_rfl)) (fun _ _ _ h=>h) (Or.inl ⟨by rfl,?_⟩) ?_ ?_;rotate_left;(intro w';go_simp;with_reducible rfl);rotate_left;((try simp only [Act.put,X,Q,W,i64_w,i32_w]);rfl)
        refine pure_ (i:=1) (N:=some 18) (v:=?_) (a':=?_) #[O,O,Z,Z,Z,Z,Z,Z,Z,Z] rfl rfl (any_of HT_.out (by kernel_rfl)) (fun _ _ _ h=>h) (Or.inl ⟨by rfl,?_⟩) ?_ ?_;rotate_left;(intro w';go_simp;with_reducible rfl);rotate_left;((try simp only [Act.put,X,Q,W,i64_w,i32_w]);rfl)
        refine pure_ (i:=2) (N:=some 19) (v:=?_) (a':=?_) #[O,O,O,Z,Z,Z,Z,Z,Z,Z] rfl rfl (any_of HT_.out (by kernel_rfl)) (fun _ _ _ h=>h) (Or.inl ⟨by rfl,?_⟩) ?_ ?_;rotate_left;(intro w';go_simp;with_reducible rfl);rotate_left;((try simp only [Act.put,X,Q,W,i64_w,i32_w]);rfl)
        refine pure_ (i:=4) (N:=some 21) (v:=?_) (a':=?_) #[O,O,O,Z,O,Z,Z,Z,Z,Z] rfl rfl (any_of HT_.out (by kernel_rfl)) (fun _ _ _ h=>h) (Or.inl ⟨by rfl,?_⟩) ?_ ?_;rotate_left;(intro w';go_simp;with_reducible rfl);rotate_left;((try simp only [Act.put,X,Q,W,i64_w,i32_w]);rfl)
        refine pure_ (i:=5) (N:=some 22) (v:=?_) (a':=?_) #[O,O,O,Z,O,O,Z,Z,Z,Z] rfl rfl (any_of HT_.out (by kernel_rfl)) (fun _ _ _ h=>h) (Or.inl ⟨by rfl,?_⟩) ?_ ?_;rotate_left;(intro w';go_simp;with_reducible rfl);rotate_left;((try simp only [Act.put,X,Q,W,i64_w,i32_w]);rfl)
        refine pure_ (i:=6) (N:=some 23) (v:=?_) (a':=?_) #[O,O,O,Z,O,O,O,Z,Z,Z] rfl rfl (any_of HT_.out (by kernel_rfl)) (fun _ _ _ h=>h) (Or.inl ⟨by rfl,?_⟩) ?_ ?_;rotate_left;(intro w';go_simp;with_reducible rfl);rotate_left;((try simp only [Act.put,X,Q,W,i64_w,i32_w]);rfl)
        refine take_ (i:=3) (N:=some 20) (v:=?_) (a':=?_) #[O,O,O,O,O,O,O,Z,Z,Z] rfl rfl (take_ofW HT_.out HW_.out (by kernel_rfl)) (fun _ _ _ h=>h) (Or.inl ⟨by rfl,?_⟩) hHeld ?_ ?_;rotate_left;(rintro w' ⟨s0,s1,s2,s3,s4,s5,s6,s7,s8,s9⟩;go_simp;with_reducible rfl);rotate_left;((try simp only [Act.put,X,Q,W,i64_w,i32_w]);rfl)
        refine take_ (i:=7) (N:=some 24) (v:=?_) (a':=?_) #[O,O,O,O,O,O,O,O,Z,Z] rfl rfl (take_ofW HT_.out HW_.out (by kernel_rfl)) (fun _ _ _ h=>h) (Or.inl ⟨by rfl,?_⟩) hHeld ?_ ?_;rotate_left;(rintro w' ⟨s0,s1,s2,s3,s4,s5,s6,s7,s8,s9⟩;go_simp;with_reducible rfl);rotate_left;((try simp only [Act.put,X,Q,W,i64_w,i32_w]);rfl)
        refine one_ (i:=8) (N:=some 25) #[O,O,O,O,O,O,O,O,O,Z] rfl rfl (one_of HT_.out (by kernel_rfl)) (by decide) (fun K hK=>?_)
        refine goes_ Try.func88 (by kernel_rfl) rfl #[.agg #[.slice A215_0 ((rd_T67 l0 x5_1).f0).length c215_0,.int .i64 ((rd_T67 l0 x5_1).f1),.int .i64 ((rd_T67 l0 x5_1).f2),.int .i64 ((rd_T67 l0 x5_1).f3),.int .i64 ((rd_T67 l0 x5_1).f4)],.agg #[.slice A216_0 ((rd_T67 l1 x5_1).f0).length c216_0,.int .i64 ((rd_T67 l1 x5_1).f1),.int .i64 ((rd_T67 l1 x5_1).f2),.int .i64 ((rd_T67 l1 x5_1).f3),.int .i64 ((rd_T67 l1 x5_1).f4)]] (by rfl) rfl rfl (by (try simp only [List.map_toArray,List.map_cons,List.map_nil]);first | done | rfl | (simp only [List.length_drop,List.length_take];rfl)) ?_
        with_reducible refine (laws_eqCtx.calls k1 _ _ ((rd_T67 l0 x5_1).f0) ((rd_T67 l0 x5_1).f1) ((rd_T67 l0 x5_1).f2) ((rd_T67 l0 x5_1).f3) ((rd_T67 l0 x5_1).f4) _ _ ((rd_T67 l1 x5_1).f0) ((rd_T67 l1 x5_1).f1) ((rd_T67 l1 x5_1).f2) ((rd_T67 l1 x5_1).f3) ((rd_T67 l1 x5_1).f4) true _ ?side1 ?side2 ?side3 ?side4 A7.out).mono ?_
        (case side1=>repeat (first | exact (Kd.C_below HR215_0.out HB.out) | (with_reducible refine Y ?_ _) | (with_reducible refine E ?_ _) | (with_reducible refine U ?_)))
        (case side2=>exact HC215_0.out)
        (case side3=>repeat (first | exact (Kd.C_below HR216_0.out HB.out) | (with_reducible refine Y ?_ _) | (with_reducible refine E ?_ _) | (with_reducible refine U ?_)))
        (case side4=>exact HC216_0.out)
        rintro e w10 ⟨rfl,hb⟩
        refine ⟨_,rfl,?_⟩
        have n0_:=J (below_step (q0_ HB) hb)
        clear HB;have HB:=n0_;clear n0_
        refine hK.out _ _ ⟨((HB.out.cell (L w _ hw215_0)).trans hw215_0),((HB.out.cell (L w _ hw215_1)).trans hw215_1),((HB.out.cell (L w _ hw215_2)).trans hw215_2),((HB.out.cell (L w _ hw215_3)).trans hw215_3),((HB.out.cell (L w _ hw215_4)).trans hw215_4),((HB.out.cell (L w _ hw216_0)).trans hw216_0),((HB.out.cell (L w _ hw216_1)).trans hw216_1),((HB.out.cell (L w _ hw216_2)).trans hw216_2),((HB.out.cell (L w _ hw216_3)).trans hw216_3),((HB.out.cell (L w _ hw216_4)).trans hw216_4)⟩ (fun hHeld=>?_)
        clear hK K
        refine norm_ (a':=?_) ?_ ?_
        rotate_left
        ·show Act.put _ (some 25) _ = _
         simp only [Act.put,X,Q,W,i64_w,i32_w]
         rfl
        refine pure_ (i:=9) (N:=some 26) (v:=?_) (a':=?_) #[O,O,O,O,O,O,O,O,O,O] rfl rfl (any_of HT_.out (by kernel_rfl)) (fun _ _ _ h=>h) (Or.inl ⟨by rfl,?_⟩) ?_ ?_;rotate_left;(intro w';go_simp;with_reducible rfl);rotate_left;((try simp only [Act.put,X,Q,W,i64_w,i32_w]);rfl)
        refine done_ (done_of HT_.out (by kernel_rfl)) ?_
        try go_wp2
        go_roundg k1
        case measure=>have:=HK1.out;omega
        case rel=>exact ⟨(wrap64 (x5_1 + 1)),(by first | rfl | (simp;done) | (simp [*];done)),H',⟨by have:=HK1.out;omega⟩,⟨by repeat (first | (with_reducible first | exact HB.out | apply below_alloc | apply pw_below_drewN | apply below_drew1) | exact HB.out)⟩⟩
       ·replace c8:=Bool.eq_false_iff.mpr c8;subst c8
        have H1 : (some false) = some r:=by rw [if_neg (show ¬ (false = true) by decide)] at H;exact H
        clear H;have H:=H1;clear H1;obtain rfl:=V H
        try go_wp2
        have n0_:=J (below_drew1 HB.out);clear HB;have HB:=n0_;clear n0_
        have p215 : 0 ≤ (x5_1 : Int):=of_decide_eq_true (by first | (with_reducible assumption) | assumption)
        have q215 : x5_1 < (l0.length : Int):=of_decide_eq_true (by first | (with_reducible assumption) | assumption)
        obtain ⟨ad215,A215_0,c215_0,e215,hx215_0,hx215_1,hx215_2,hx215_3,hx215_4,hl215_0,hi215_0⟩:=at_T67 HR0.out x5_1 p215 q215;have hw215_4:=hx215_4;have hw215_3:=hx215_3;have hw215_2:=hx215_2;have hw215_1:=hx215_1;have hw215_0:=hx215_0
        cases e215
        replace hx215_0:=(HB.out.cell (L w _ hx215_0)).trans hx215_0;replace hx215_1:=(HB.out.cell (L w _ hx215_1)).trans hx215_1;replace hx215_2:=(HB.out.cell (L w _ hx215_2)).trans hx215_2;replace hx215_3:=(HB.out.cell (L w _ hx215_3)).trans hx215_3;replace hx215_4:=(HB.out.cell (L w _ hx215_4)).trans hx215_4;have HR215_0:=J hi215_0;have HC215_0:=J hl215_0;clear hi215_0 hl215_0;replace p215:=eq_true p215;replace q215:=eq_true q215
        have p216 : 0 ≤ (x5_1 : Int):=of_decide_eq_true (by first | (with_reducible assumption) | assumption)
        have q216 : x5_1 < (l1.length : Int):=of_decide_eq_true (by first | (with_reducible assumption) | assumption)
        obtain ⟨ad216,A216_0,c216_0,e216,hx216_0,hx216_1,hx216_2,hx216_3,hx216_4,hl216_0,hi216_0⟩:=at_T67 HR1.out x5_1 p216 q216;have hw216_4:=hx216_4;have hw216_3:=hx216_3;have hw216_2:=hx216_2;have hw216_1:=hx216_1;have hw216_0:=hx216_0
        cases e216
        replace hx216_0:=(HB.out.cell (L w _ hx216_0)).trans hx216_0;replace hx216_1:=(HB.out.cell (L w _ hx216_1)).trans hx216_1;replace hx216_2:=(HB.out.cell (L w _ hx216_2)).trans hx216_2;replace hx216_3:=(HB.out.cell (L w _ hx216_3)).trans hx216_3;replace hx216_4:=(HB.out.cell (L w _ hx216_4)).trans hx216_4;have HR216_0:=J hi216_0;have HC216_0:=J hl216_0;clear hi216_0 hl216_0;replace p216:=eq_true p216;replace q216:=eq_true q216
        refine start_ (n:=10) (S:=fun w'=>w'.cell? (ad215.add ((x5_1).toNat * 5)) = some (.slice A215_0 ((rd_T67 l0 x5_1).f0).length c215_0) ∧ w'.cell? ⟨(ad215.add ((x5_1).toNat * 5)).block,(ad215.add ((x5_1).toNat * 5)).off + 1,none⟩ = some (.int .i64 ((rd_T67 l0 x5_1).f1)) ∧ w'.cell? ⟨(ad215.add ((x5_1).toNat * 5)).block,(ad215.add ((x5_1).toNat * 5)).off + 2,none⟩ = some (.int .i64 ((rd_T67 l0 x5_1).f2)) ∧ w'.cell? ⟨(ad215.add ((x5_1).toNat * 5)).block,(ad215.add ((x5_1).toNat * 5)).off + 3,none⟩ = some (.int .i64 ((rd_T67 l0 x5_1).f3)) ∧ w'.cell? ⟨(ad215.add ((x5_1).toNat * 5)).block,(ad215.add ((x5_1).toNat * 5)).off + 4,none⟩ = some (.int .i64 ((rd_T67 l0 x5_1).f4)) ∧ w'.cell? (ad216.add ((x5_1).toNat * 5)) = some (.slice A216_0 ((rd_T67 l1 x5_1).f0).length c216_0) ∧ w'.cell? ⟨(ad216.add ((x5_1).toNat * 5)).block,(ad216.add ((x5_1).toNat * 5)).off + 1,none⟩ = some (.int .i64 ((rd_T67 l1 x5_1).f1)) ∧ w'.cell? ⟨(ad216.add ((x5_1).toNat * 5)).block,(ad216.add ((x5_1).toNat * 5)).off + 2,none⟩ = some (.int .i64 ((rd_T67 l1 x5_1).f2)) ∧ w'.cell? ⟨(ad216.add ((x5_1).toNat * 5)).block,(ad216.add ((x5_1).toNat * 5)).off + 3,none⟩ = some (.int .i64 ((rd_T67 l1 x5_1).f3)) ∧ w'.cell? ⟨(ad216.add ((x5_1).toNat * 5)).block,(ad216.add ((x5_1).toNat * 5)).off + 4,none⟩ = some (.int .i64 ((rd_T67 l1 x5_1).f4))) (ds:=[]) #[Z,Z,Z,Z,Z,Z,Z,Z,Z,Z] (by kernel_rfl) rfl rfl ⟨((HB.out.cell (L w _ hw215_0)).trans hw215_0),((HB.out.cell (L w _ hw215_1)).trans hw215_1),((HB.out.cell (L w _ hw215_2)).trans hw215_2),((HB.out.cell (L w _ hw215_3)).trans hw215_3),((HB.out.cell (L w _ hw215_4)).trans hw215_4),((HB.out.cell (L w _ hw216_0)).trans hw216_0),((HB.out.cell (L w _ hw216_1)).trans hw216_1),((HB.out.cell (L w _ hw216_2)).trans hw216_2),((HB.out.cell (L w _ hw216_3)).trans hw216_3),((HB.out.cell (L w _ hw216_4)).trans hw216_4)⟩ (fun hHeld=>?_);refine with_tabW laws_eqCtxS.tab6 laws_eqCtxS.bits6 (fun HT_ HW_=>?_)
        generalize wr.drew = w11 at HB HR215_0 HR216_0 hx215_0 hx215_1 hx215_2 hx215_3 hx215_4 hx216_0 hx216_1 hx216_2 hx216_3 hx216_4 hHeld ⊢
        refine pure_ (i:=0) (N:=some 17) (v:=?_) (a':=?_) #[O,Z,Z,Z,Z,Z,Z,Z,Z,Z] rfl rfl (any_of HT_.out (by kernel_rfl)) (fun _ _ _ h=>h) (Or.inl ⟨by rfl,?_⟩) ?_ ?_;rotate_left;(intro w';go_simp;with_reducible rfl);rotate_left;((try simp only [Act.put,X,Q,W,i64_w,i32_w]);rfl)
        refine pure_ (i:=1) (N:=some 18) (v:=?_) (a':=?_) #[O,O,Z,Z,Z,Z,Z,Z,Z,Z] rfl rfl (any_of HT_.out (by kernel_rfl)) (fun _ _ _ h=>h) (Or.inl ⟨by rfl,?_⟩) ?_ ?_;rotate_left;(intro w';go_simp;with_reducible rfl);rotate_left;((try simp only [Act.put,X,Q,W,i64_w,i32_w]);rfl)
        refine pure_ (i:=2) (N:=some 19) (v:=?_) (a':=?_) #[O,O,O,Z,Z,Z,Z,Z,Z,Z] rfl rfl (any_of HT_.out (by kernel_rfl)) (fun _ _ _ h=>h) (Or.inl ⟨by rfl,?_⟩) ?_ ?_;rotate_left;(intro w';go_simp;with_reducible rfl);rotate_left;((try simp only [Act.put,X,Q,W,i64_w,i32_w]);rfl)
        refine pure_ (i:=4) (N:=some 21) (v:=?_) (a':=?_) #[O,O,O,Z,O,Z,Z,Z,Z,Z] rfl rfl (any_of HT_.out (by kernel_rfl)) (fun _ _ _ h=>h) (Or.inl ⟨by rfl,?_⟩) ?_ ?_;rotate_left;(intro w';go_simp;with_reducible rfl);rotate_left;((try simp only [Act.put,X,Q,W,i64_w,i32_w]);rfl)
        refine pure_ (i:=5) (N:=some 22) (v:=?_) (a':=?_) #[O,O,O,Z,O,O,Z,Z,Z,Z] rfl rfl (any_of HT_.out (by kernel_rfl)) (fun _ _ _ h=>h) (Or.inl ⟨by rfl,?_⟩) ?_ ?_;rotate_left;(intro w';go_simp;with_reducible rfl);rotate_left;((try simp only [Act.put,X,Q,W,i64_w,i32_w]);rfl)
        refine pure_ (i:=6) (N:=some 23) (v:=?_) (a':=?_) #[O,O,O,Z,O,O,O,Z,Z,Z] rfl rfl (any_of HT_.out (by kernel_rfl)) (fun _ _ _ h=>h) (Or.inl ⟨by rfl,?_⟩) ?_ ?_;rotate_left;(intro w';go_simp;with_reducible rfl);rotate_left;((try simp only [Act.put,X,Q,W,i64_w,i32_w]);rfl)
        refine take_ (i:=3) (N:=some 20) (v:=?_) (a':=?_) #[O,O,O,O,O,O,O,Z,Z,Z] rfl rfl (take_ofW HT_.out HW_.out (by kernel_rfl)) (fun _ _ _ h=>h) (Or.inl ⟨by rfl,?_⟩) hHeld ?_ ?_;rotate_left;(rintro w' ⟨s0,s1,s2,s3,s4,s5,s6,s7,s8,s9⟩;go_simp;with_reducible rfl);rotate_left;((try simp only [Act.put,X,Q,W,i64_w,i32_w]);rfl)
        refine take_ (i:=7) (N:=some 24) (v:=?_) (a':=?_) #[O,O,O,O,O,O,O,O,Z,Z] rfl rfl (take_ofW HT_.out HW_.out (by kernel_rfl)) (fun _ _ _ h=>h) (Or.inl ⟨by rfl,?_⟩) hHeld ?_ ?_;rotate_left;(rintro w' ⟨s0,s1,s2,s3,s4,s5,s6,s7,s8,s9⟩;go_simp;with_reducible rfl);rotate_left;((try simp only [Act.put,X,Q,W,i64_w,i32_w]);rfl)
        refine one_ (i:=8) (N:=some 25) #[O,O,O,O,O,O,O,O,O,Z] rfl rfl (one_of HT_.out (by kernel_rfl)) (by decide) (fun K hK=>?_)
        refine goes_ Try.func88 (by kernel_rfl) rfl #[.agg #[.slice A215_0 ((rd_T67 l0 x5_1).f0).length c215_0,.int .i64 ((rd_T67 l0 x5_1).f1),.int .i64 ((rd_T67 l0 x5_1).f2),.int .i64 ((rd_T67 l0 x5_1).f3),.int .i64 ((rd_T67 l0 x5_1).f4)],.agg #[.slice A216_0 ((rd_T67 l1 x5_1).f0).length c216_0,.int .i64 ((rd_T67 l1 x5_1).f1),.int .i64 ((rd_T67 l1 x5_1).f2),.int .i64 ((rd_T67 l1 x5_1).f3),.int .i64 ((rd_T67 l1 x5_1).f4)]] (by rfl) rfl rfl (by (try simp only [List.map_toArray,List.map_cons,List.map_nil]);first | done | rfl | (simp only [List.length_drop,List.length_take];rfl)) ?_
        with_reducible refine (laws_eqCtx.calls k1 _ _ ((rd_T67 l0 x5_1).f0) ((rd_T67 l0 x5_1).f1) ((rd_T67 l0 x5_1).f2) ((rd_T67 l0 x5_1).f3) ((rd_T67 l0 x5_1).f4) _ _ ((rd_T67 l1 x5_1).f0) ((rd_T67 l1 x5_1).f1) ((rd_T67 l1 x5_1).f2) ((rd_T67 l1 x5_1).f3) ((rd_T67 l1 x5_1).f4) false _ ?side1 ?side2 ?side3 ?side4 A7.out).mono ?_
        (case side1=>repeat (first | exact (Kd.C_below HR215_0.out HB.out) | (with_reducible refine Y ?_ _) | (with_reducible refine E ?_ _) | (with_reducible refine U ?_)))
        (case side2=>exact HC215_0.out)
        (case side3=>repeat (first | exact (Kd.C_below HR216_0.out HB.out) | (with_reducible refine Y ?_ _) | (with_reducible refine E ?_ _) | (with_reducible refine U ?_)))
        (case side4=>exact HC216_0.out)
        rintro e w12 ⟨rfl,hb⟩
        refine ⟨_,rfl,?_⟩
        have n0_:=J (below_step (q0_ HB) hb)
        clear HB;have HB:=n0_;clear n0_
        refine hK.out _ _ ⟨((HB.out.cell (L w _ hw215_0)).trans hw215_0),((HB.out.cell (L w _ hw215_1)).trans hw215_1),((HB.out.cell (L w _ hw215_2)).trans hw215_2),((HB.out.cell (L w _ hw215_3)).trans hw215_3),((HB.out.cell (L w _ hw215_4)).trans hw215_4),((HB.out.cell (L w _ hw216_0)).trans hw216_0),((HB.out.cell (L w _ hw216_1)).trans hw216_1),((HB.out.cell (L w _ hw216_2)).trans hw216_2),((HB.out.cell (L w _ hw216_3)).trans hw216_3),((HB.out.cell (L w _ hw216_4)).trans hw216_4)⟩ (fun hHeld=>?_)
        clear hK K
        refine norm_ (a':=?_) ?_ ?_
        rotate_left
        ·show Act.put _ (some 25) _ = _
         simp only [Act.put,X,Q,W,i64_w,i32_w]
         rfl
        refine pure_ (i:=9) (N:=some 26) (v:=?_) (a':=?_) #[O,O,O,O,O,O,O,O,O,O] rfl rfl (any_of HT_.out (by kernel_rfl)) (fun _ _ _ h=>h) (Or.inl ⟨by rfl,?_⟩) ?_ ?_;rotate_left;(intro w';go_simp;with_reducible rfl);rotate_left;((try simp only [Act.put,X,Q,W,i64_w,i32_w]);rfl)
        refine done_ (done_of HT_.out (by kernel_rfl)) ?_
        try go_wp2
        go_ret
        exact ⟨by first | rfl | (simp [errW_none,errW_some] <;> rfl) | (simp [*,errW_none,errW_some] <;> rfl),by repeat (first | (with_reducible first | exact HB.out | apply below_alloc | apply pw_below_drewN | apply below_drew1) | exact HB.out)⟩
      ·rw [if_neg c6] at H
       exact absurd H (by simp)
     ·rw [if_neg c5] at H
      exact absurd H (by simp)
    ·rw [if_neg c4] at H;have c4b0 : decide (x5_1 < (l0.length : Int)) = false:=decide_eq_false c4;clear c4;obtain rfl:=V H
     go_wp2
     go_ret
     exact ⟨by first | rfl | (simp [errW_none,errW_some] <;> rfl) | (simp [*,errW_none,errW_some] <;> rfl),by repeat (first | (with_reducible first | exact HB.out | apply below_alloc | apply pw_below_drewN | apply below_drew1) | exact HB.out)⟩
 ·rw [if_neg c3] at H;have c3b0 : ((l0.length : Int) == (l1.length : Int)) = false:=beq_eq_false_iff_ne.mpr c3;have c3b1 : ((l0.length : Int) != (l1.length : Int)) = true:=bne_iff_ne.mpr c3
  have c3b2 : (l0.length == l1.length) = false:=by first | simpa using c3 | (simp at c3 ⊢;omega)
  obtain rfl:=V H;go_enter Try.func50,Try.ntmps50
  go_wp2
  go_ret
  exact ⟨by first | rfl | (simp [errW_none,errW_some] <;> rfl) | (simp [*,errW_none,errW_some] <;> rfl),by repeat (first | (with_reducible first | exact HB.out | apply below_alloc | apply pw_below_drewN | apply below_drew1) | exact HB.out)⟩
def laws_eqCpu.f (k : Nat) (l0_0 : List (S67)) (l0_1 : List Int) (l0_2 : List Int) (l0_3 : List (List Int)) (l0_4 : List (List Int)) (l0_5 : List Int) (a0_6 : Int) (a0_7 : Int) (l0_8 : List (S74)) (l0_9 : List Int) (l0_10 : List Int) (l1_0 : List (S67)) (l1_1 : List Int) (l1_2 : List Int) (l1_3 : List (List Int)) (l1_4 : List (List Int)) (l1_5 : List Int) (a1_6 : Int) (a1_7 : Int) (l1_8 : List (S74)) (l1_9 : List Int) (l1_10 : List Int) : Option (Bool):=(laws_eqCtxS.f k l0_0 l1_0).bind fun t228=>(if t228 = true then ((laws_eqIntS.f k l0_1 l1_1).bind fun t229=>(if t229 = true then ((laws_eqIntS.f k l0_2 l1_2).bind fun t230=>(if t230 = true then ((laws_eqIntSS.f k l0_3 l1_3).bind fun t231=>(if t231 = true then ((laws_eqIntSS.f k l0_4 l1_4).bind fun t232=>(if t232 = true then ((laws_eqIntS.f k l0_5 l1_5).bind fun t233=>(if t233 = true then (if a0_6 = a1_6 then (if a0_7 = a1_7 then ((laws_eqSayS.f k l0_8 l1_8).bind fun t234=>(if t234 = true then ((laws_eqIntS.f k l0_9 l1_9).bind fun t235=>(if t235 = true then ((laws_eqIntS.f k l0_10 l1_10).bind fun t236=>(if t236 = true then (some true) else (some false))) else (some false))) else (some false))) else (some false)) else (some false)) else (some false))) else (some false))) else (some false))) else (some false))) else (some false))) else (some false))
set_option maxHeartbeats 8000000 in
set_option maxRecDepth 100000 in
theorem laws_eqCpu.calls (k : Nat) (A0_0 : Option Addr) (c0_0 : Nat) (l0_0 : List (S67)) (A0_1 : Option Addr) (c0_1 : Nat) (l0_1 : List Int) (A0_2 : Option Addr) (c0_2 : Nat) (l0_2 : List Int) (A0_3 : Option Addr) (c0_3 : Nat) (l0_3 : List (List Int)) (A0_4 : Option Addr) (c0_4 : Nat) (l0_4 : List (List Int)) (A0_5 : Option Addr) (c0_5 : Nat) (l0_5 : List Int) (a0_6 : Int) (a0_7 : Int) (A0_8 : Option Addr) (c0_8 : Nat) (l0_8 : List (S74)) (A0_9 : Option Addr) (c0_9 : Nat) (l0_9 : List Int) (A0_10 : Option Addr) (c0_10 : Nat) (l0_10 : List Int) (A1_0 : Option Addr) (c1_0 : Nat) (l1_0 : List (S67)) (A1_1 : Option Addr) (c1_1 : Nat) (l1_1 : List Int) (A1_2 : Option Addr) (c1_2 : Nat) (l1_2 : List Int) (A1_3 : Option Addr) (c1_3 : Nat) (l1_3 : List (List Int)) (A1_4 : Option Addr) (c1_4 : Nat) (l1_4 : List (List Int)) (A1_5 : Option Addr) (c1_5 : Nat) (l1_5 : List Int) (a1_6 : Int) (a1_7 : Int) (A1_8 : Option Addr) (c1_8 : Nat) (l1_8 : List (S74)) (A1_9 : Option Addr) (c1_9 : Nat) (l1_9 : List Int) (A1_10 : Option Addr) (c1_10 : Nat) (l1_10 : List Int) (r : Bool) (w : World) (hr0_0 : Kd.C k67 w A0_0 l0_0.length l0_0) (hc0_0 : l0_0.length ≤ c0_0) (hr0_1 : Kd.C (Kd.int .i64) w A0_1 l0_1.length l0_1) (hc0_1 : l0_1.length ≤ c0_1) (hr0_2 : Kd.C (Kd.int .i64) w A0_2 l0_2.length l0_2) (hc0_2 : l0_2.length ≤ c0_2) (hr0_3 : Kd.C (Kd.slice 3 (Kd.int .i64)) w A0_3 l0_3.length l0_3) (hc0_3 : l0_3.length ≤ c0_3) (hr0_4 : Kd.C (Kd.slice 3 (Kd.int .i64)) w A0_4 l0_4.length l0_4) (hc0_4 : l0_4.length ≤ c0_4) (hr0_5 : Kd.C (Kd.int .i64) w A0_5 l0_5.length l0_5) (hc0_5 : l0_5.length ≤ c0_5) (hr0_8 : Kd.C k74 w A0_8 l0_8.length l0_8) (hc0_8 : l0_8.length ≤ c0_8) (hr0_9 : Kd.C (Kd.int .i64) w A0_9 l0_9.length l0_9) (hc0_9 : l0_9.length ≤ c0_9) (hr0_10 : Kd.C (Kd.int .i64) w A0_10 l0_10.length l0_10) (hc0_10 : l0_10.length ≤ c0_10) (hr1_0 : Kd.C k67 w A1_0 l1_0.length l1_0) (hc1_0 : l1_0.length ≤ c1_0) (hr1_1 : Kd.C (Kd.int .i64) w A1_1 l1_1.length l1_1) (hc1_1 : l1_1.length ≤ c1_1) (hr1_2 : Kd.C (Kd.int .i64) w A1_2 l1_2.length l1_2) (hc1_2 : l1_2.length ≤ c1_2) (hr1_3 : Kd.C (Kd.slice 3 (Kd.int .i64)) w A1_3 l1_3.length l1_3) (hc1_3 : l1_3.length ≤ c1_3) (hr1_4 : Kd.C (Kd.slice 3 (Kd.int .i64)) w A1_4 l1_4.length l1_4) (hc1_4 : l1_4.length ≤ c1_4) (hr1_5 : Kd.C (Kd.int .i64) w A1_5 l1_5.length l1_5) (hc1_5 : l1_5.length ≤ c1_5) (hr1_8 : Kd.C k74 w A1_8 l1_8.length l1_8) (hc1_8 : l1_8.length ≤ c1_8) (hr1_9 : Kd.C (Kd.int .i64) w A1_9 l1_9.length l1_9) (hc1_9 : l1_9.length ≤ c1_9) (hr1_10 : Kd.C (Kd.int .i64) w A1_10 l1_10.length l1_10) (hc1_10 : l1_10.length ≤ c1_10) (h : laws_eqCpu.f k l0_0 l0_1 l0_2 l0_3 l0_4 l0_5 a0_6 a0_7 l0_8 l0_9 l0_10 l1_0 l1_1 l1_2 l1_3 l1_4 l1_5 a1_6 a1_7 l1_8 l1_9 l1_10 = some r) :
  Calls Try.prog 13 #[.agg #[.slice A0_0 l0_0.length c0_0,.slice A0_1 l0_1.length c0_1,.slice A0_2 l0_2.length c0_2,.slice A0_3 l0_3.length c0_3,.slice A0_4 l0_4.length c0_4,.slice A0_5 l0_5.length c0_5,.int .i64 a0_6,.int .i64 a0_7,.slice A0_8 l0_8.length c0_8,.slice A0_9 l0_9.length c0_9,.slice A0_10 l0_10.length c0_10],.agg #[.slice A1_0 l1_0.length c1_0,.slice A1_1 l1_1.length c1_1,.slice A1_2 l1_2.length c1_2,.slice A1_3 l1_3.length c1_3,.slice A1_4 l1_4.length c1_4,.slice A1_5 l1_5.length c1_5,.int .i64 a1_6,.int .i64 a1_7,.slice A1_8 l1_8.length c1_8,.slice A1_9 l1_9.length c1_9,.slice A1_10 l1_10.length c1_10]] w fun e w'=>e = .returned (.bool r) ∧ Below w.heap.size w w':=by
 have hu33:=Try.underlying33;have HR0_0:=J hr0_0;have HC0_0:=J hc0_0;clear hr0_0 hc0_0;have HR0_1:=J hr0_1;have HC0_1:=J hc0_1;clear hr0_1 hc0_1;have HR0_2:=J hr0_2;have HC0_2:=J hc0_2;clear hr0_2 hc0_2;have HR0_3:=J hr0_3;have HC0_3:=J hc0_3;clear hr0_3 hc0_3;have HR0_4:=J hr0_4;have HC0_4:=J hc0_4;clear hr0_4 hc0_4;have HR0_5:=J hr0_5;have HC0_5:=J hc0_5;clear hr0_5 hc0_5;have HR0_8:=J hr0_8;have HC0_8:=J hc0_8;clear hr0_8 hc0_8;have HR0_9:=J hr0_9;have HC0_9:=J hc0_9;clear hr0_9 hc0_9;have HR0_10:=J hr0_10;have HC0_10:=J hc0_10;clear hr0_10 hc0_10;have HR1_0:=J hr1_0;have HC1_0:=J hc1_0;clear hr1_0 hc1_0;have HR1_1:=J hr1_1;have HC1_1:=J hc1_1;clear hr1_1 hc1_1;have HR1_2:=J hr1_2;have HC1_2:=J hc1_2;clear hr1_2 hc1_2;have HR1_3:=J hr1_3;have HC1_3:=J hc1_3;clear hr1_3 hc1_3;have HR1_4:=J hr1_4;have HC1_4:=J hc1_4;clear hr1_4 hc1_4;have HR1_5:=J hr1_5;have HC1_5:=J hc1_5;clear hr1_5 hc1_5;have HR1_8:=J hr1_8;have HC1_8:=J hc1_8;clear hr1_8 hc1_8;have HR1_9:=J hr1_9;have HC1_9:=J hc1_9;clear hr1_9 hc1_9;have HR1_10:=J hr1_10;have HC1_10:=J hc1_10;clear hr1_10 hc1_10;have HB:=J (Below.refl w.heap.size w)
 have H : ((laws_eqCtxS.f k l0_0 l1_0).bind fun t228=>(if t228 = true then ((laws_eqIntS.f k l0_1 l1_1).bind fun t229=>(if t229 = true then ((laws_eqIntS.f k l0_2 l1_2).bind fun t230=>(if t230 = true then ((laws_eqIntSS.f k l0_3 l1_3).bind fun t231=>(if t231 = true then ((laws_eqIntSS.f k l0_4 l1_4).bind fun t232=>(if t232 = true then ((laws_eqIntS.f k l0_5 l1_5).bind fun t233=>(if t233 = true then (if a0_6 = a1_6 then (if a0_7 = a1_7 then ((laws_eqSayS.f k l0_8 l1_8).bind fun t234=>(if t234 = true then ((laws_eqIntS.f k l0_9 l1_9).bind fun t235=>(if t235 = true then ((laws_eqIntS.f k l0_10 l1_10).bind fun t236=>(if t236 = true then (some true) else (some false))) else (some false))) else (some false))) else (some false)) else (some false)) else (some false))) else (some false))) else (some false))) else (some false))) else (some false))) else (some false))) = some r:=h
 clear h;replace H:=D.mp H;obtain ⟨t228,A30,H⟩:=H
 replace H : (if t228 = true then ((laws_eqIntS.f k l0_1 l1_1).bind fun t229=>(if t229 = true then ((laws_eqIntS.f k l0_2 l1_2).bind fun t230=>(if t230 = true then ((laws_eqIntSS.f k l0_3 l1_3).bind fun t231=>(if t231 = true then ((laws_eqIntSS.f k l0_4 l1_4).bind fun t232=>(if t232 = true then ((laws_eqIntS.f k l0_5 l1_5).bind fun t233=>(if t233 = true then (if a0_6 = a1_6 then (if a0_7 = a1_7 then ((laws_eqSayS.f k l0_8 l1_8).bind fun t234=>(if t234 = true then ((laws_eqIntS.f k l0_9 l1_9).bind fun t235=>(if t235 = true then ((laws_eqIntS.f k l0_10 l1_10).bind fun t236=>(if t236 = true then (some true) else (some false))) else (some false))) else (some false))) else (some false)) else (some false)) else (some false))) else (some false))) else (some false))) else (some false))) else (some false))) else (some false)) = some r:=H
 have A3:=J A30;clear A30
 by_cases c_1 : t228 = true
 subst c_1
 have H_1 : ((laws_eqIntS.f k l0_1 l1_1).bind fun t229=>(if t229 = true then ((laws_eqIntS.f k l0_2 l1_2).bind fun t230=>(if t230 = true then ((laws_eqIntSS.f k l0_3 l1_3).bind fun t231=>(if t231 = true then ((laws_eqIntSS.f k l0_4 l1_4).bind fun t232=>(if t232 = true then ((laws_eqIntS.f k l0_5 l1_5).bind fun t233=>(if t233 = true then (if a0_6 = a1_6 then (if a0_7 = a1_7 then ((laws_eqSayS.f k l0_8 l1_8).bind fun t234=>(if t234 = true then ((laws_eqIntS.f k l0_9 l1_9).bind fun t235=>(if t235 = true then ((laws_eqIntS.f k l0_10 l1_10).bind fun t236=>(if t236 = true then (some true) else (some false))) else (some false))) else (some false))) else (some false)) else (some false)) else (some false))) else (some false))) else (some false))) else (some false))) else (some false))) = some r:=by rw [if_pos rfl] at H;exact H
 clear H;have H:=H_1;clear H_1;replace H:=D.mp H;obtain ⟨t229,A_1,H⟩:=H
 replace H : (if t229 = true then ((laws_eqIntS.f k l0_2 l1_2).bind fun t230=>(if t230 = true then ((laws_eqIntSS.f k l0_3 l1_3).bind fun t231=>(if t231 = true then ((laws_eqIntSS.f k l0_4 l1_4).bind fun t232=>(if t232 = true then ((laws_eqIntS.f k l0_5 l1_5).bind fun t233=>(if t233 = true then (if a0_6 = a1_6 then (if a0_7 = a1_7 then ((laws_eqSayS.f k l0_8 l1_8).bind fun t234=>(if t234 = true then ((laws_eqIntS.f k l0_9 l1_9).bind fun t235=>(if t235 = true then ((laws_eqIntS.f k l0_10 l1_10).bind fun t236=>(if t236 = true then (some true) else (some false))) else (some false))) else (some false))) else (some false)) else (some false)) else (some false))) else (some false))) else (some false))) else (some false))) else (some false)) = some r:=H
 have A_2:=J A_1;clear A_1
 by_cases c_2 : t229 = true
 subst c_2
 have H_1 : ((laws_eqIntS.f k l0_2 l1_2).bind fun t230=>(if t230 = true then ((laws_eqIntSS.f k l0_3 l1_3).bind fun t231=>(if t231 = true then ((laws_eqIntSS.f k l0_4 l1_4).bind fun t232=>(if t232 = true then ((laws_eqIntS.f k l0_5 l1_5).bind fun t233=>(if t233 = true then (if a0_6 = a1_6 then (if a0_7 = a1_7 then ((laws_eqSayS.f k l0_8 l1_8).bind fun t234=>(if t234 = true then ((laws_eqIntS.f k l0_9 l1_9).bind fun t235=>(if t235 = true then ((laws_eqIntS.f k l0_10 l1_10).bind fun t236=>(if t236 = true then (some true) else (some false))) else (some false))) else (some false))) else (some false)) else (some false)) else (some false))) else (some false))) else (some false))) else (some false))) = some r:=by rw [if_pos rfl] at H;exact H
 clear H;have H:=H_1;clear H_1;replace H:=D.mp H;obtain ⟨t230,A_3,H⟩:=H
 replace H : (if t230 = true then ((laws_eqIntSS.f k l0_3 l1_3).bind fun t231=>(if t231 = true then ((laws_eqIntSS.f k l0_4 l1_4).bind fun t232=>(if t232 = true then ((laws_eqIntS.f k l0_5 l1_5).bind fun t233=>(if t233 = true then (if a0_6 = a1_6 then (if a0_7 = a1_7 then ((laws_eqSayS.f k l0_8 l1_8).bind fun t234=>(if t234 = true then ((laws_eqIntS.f k l0_9 l1_9).bind fun t235=>(if t235 = true then ((laws_eqIntS.f k l0_10 l1_10).bind fun t236=>(if t236 = true then (some true) else (some false))) else (some false))) else (some false))) else (some false)) else (some false)) else (some false))) else (some false))) else (some false))) else (some false)) = some r:=H
 have A_4:=J A_3;clear A_3
 by_cases c_3 : t230 = true
 subst c_3
 have H_1 : ((laws_eqIntSS.f k l0_3 l1_3).bind fun t231=>(if t231 = true then ((laws_eqIntSS.f k l0_4 l1_4).bind fun t232=>(if t232 = true then ((laws_eqIntS.f k l0_5 l1_5).bind fun t233=>(if t233 = true then (if a0_6 = a1_6 then (if a0_7 = a1_7 then ((laws_eqSayS.f k l0_8 l1_8).bind fun t234=>(if t234 = true then ((laws_eqIntS.f k l0_9 l1_9).bind fun t235=>(if t235 = true then ((laws_eqIntS.f k l0_10 l1_10).bind fun t236=>(if t236 = true then (some true) else (some false))) else (some false))) else (some false))) else (some false)) else (some false)) else (some false))) else (some false))) else (some false))) = some r:=by rw [if_pos rfl] at H;exact H
 clear H;have H:=H_1;clear H_1;replace H:=D.mp H;obtain ⟨t231,A_5,H⟩:=H;replace H : (if t231 = true then ((laws_eqIntSS.f k l0_4 l1_4).bind fun t232=>(if t232 = true then ((laws_eqIntS.f k l0_5 l1_5).bind fun t233=>(if t233 = true then (if a0_6 = a1_6 then (if a0_7 = a1_7 then ((laws_eqSayS.f k l0_8 l1_8).bind fun t234=>(if t234 = true then ((laws_eqIntS.f k l0_9 l1_9).bind fun t235=>(if t235 = true then ((laws_eqIntS.f k l0_10 l1_10).bind fun t236=>(if t236 = true then (some true) else (some false))) else (some false))) else (some false))) else (some false)) else (some false)) else (some false))) else (some false))) else (some false)) = some r:=H;have A_6:=J A_5;clear A_5
 by_cases c_4 : t231 = true
 subst c_4
 have H_1 : ((laws_eqIntSS.f k l0_4 l1_4).bind fun t232=>(if t232 = true then ((laws_eqIntS.f k l0_5 l1_5).bind fun t233=>(if t233 = true then (if a0_6 = a1_6 then (if a0_7 = a1_7 then ((laws_eqSayS.f k l0_8 l1_8).bind fun t234=>(if t234 = true then ((laws_eqIntS.f k l0_9 l1_9).bind fun t235=>(if t235 = true then ((laws_eqIntS.f k l0_10 l1_10).bind fun t236=>(if t236 = true then (some true) else (some false))) else (some false))) else (some false))) else (some false)) else (some false)) else (some false))) else (some false))) = some r:=by rw [if_pos rfl] at H;exact H
 clear H;have H:=H_1;clear H_1;replace H:=D.mp H;obtain ⟨t232,A_7,H⟩:=H;replace H : (if t232 = true then ((laws_eqIntS.f k l0_5 l1_5).bind fun t233=>(if t233 = true then (if a0_6 = a1_6 then (if a0_7 = a1_7 then ((laws_eqSayS.f k l0_8 l1_8).bind fun t234=>(if t234 = true then ((laws_eqIntS.f k l0_9 l1_9).bind fun t235=>(if t235 = true then ((laws_eqIntS.f k l0_10 l1_10).bind fun t236=>(if t236 = true then (some true) else (some false))) else (some false))) else (some false))) else (some false)) else (some false)) else (some false))) else (some false)) = some r:=H;have A_8:=J A_7;clear A_7
 by_cases c_5 : t232 = true
 subst c_5
 have H_1 : ((laws_eqIntS.f k l0_5 l1_5).bind fun t233=>(if t233 = true then (if a0_6 = a1_6 then (if a0_7 = a1_7 then ((laws_eqSayS.f k l0_8 l1_8).bind fun t234=>(if t234 = true then ((laws_eqIntS.f k l0_9 l1_9).bind fun t235=>(if t235 = true then ((laws_eqIntS.f k l0_10 l1_10).bind fun t236=>(if t236 = true then (some true) else (some false))) else (some false))) else (some false))) else (some false)) else (some false)) else (some false))) = some r:=by rw [if_pos rfl] at H;exact H
 clear H;have H:=H_1;clear H_1;replace H:=D.mp H;obtain ⟨t233,A_9,H⟩:=H;replace H : (if t233 = true then (if a0_6 = a1_6 then (if a0_7 = a1_7 then ((laws_eqSayS.f k l0_8 l1_8).bind fun t234=>(if t234 = true then ((laws_eqIntS.f k l0_9 l1_9).bind fun t235=>(if t235 = true then ((laws_eqIntS.f k l0_10 l1_10).bind fun t236=>(if t236 = true then (some true) else (some false))) else (some false))) else (some false))) else (some false)) else (some false)) else (some false)) = some r:=H;have A_10:=J A_9;clear A_9
 by_cases c_6 : t233 = true
 subst c_6
 have H_1 : (if a0_6 = a1_6 then (if a0_7 = a1_7 then ((laws_eqSayS.f k l0_8 l1_8).bind fun t234=>(if t234 = true then ((laws_eqIntS.f k l0_9 l1_9).bind fun t235=>(if t235 = true then ((laws_eqIntS.f k l0_10 l1_10).bind fun t236=>(if t236 = true then (some true) else (some false))) else (some false))) else (some false))) else (some false)) else (some false)) = some r:=by rw [if_pos rfl] at H;exact H
 clear H;have H:=H_1;clear H_1
 by_cases c_7 : a0_6 = a1_6
 rw [if_pos c_7] at H;have c_1b_2 : (a0_6 == a1_6) = true:=beq_iff_eq.mpr c_7;have c_1b_3 : (a0_6 != a1_6) = false:=bne_eq_false_iff_eq.mpr c_7;clear c_7
 by_cases c_8 : a0_7 = a1_7
 rw [if_pos c_8] at H;have c_4b_2 : (a0_7 == a1_7) = true:=beq_iff_eq.mpr c_8;have c_4b_3 : (a0_7 != a1_7) = false:=bne_eq_false_iff_eq.mpr c_8;clear c_8;replace H:=D.mp H;obtain ⟨t234,A_11,H⟩:=H;replace H : (if t234 = true then ((laws_eqIntS.f k l0_9 l1_9).bind fun t235=>(if t235 = true then ((laws_eqIntS.f k l0_10 l1_10).bind fun t236=>(if t236 = true then (some true) else (some false))) else (some false))) else (some false)) = some r:=H;have A_12:=J A_11;clear A_11
 by_cases c_9 : t234 = true
 subst c_9
 have H_1 : ((laws_eqIntS.f k l0_9 l1_9).bind fun t235=>(if t235 = true then ((laws_eqIntS.f k l0_10 l1_10).bind fun t236=>(if t236 = true then (some true) else (some false))) else (some false))) = some r:=by rw [if_pos rfl] at H;exact H
 clear H;have H:=H_1;clear H_1;replace H:=D.mp H;obtain ⟨t235,A_13,H⟩:=H;replace H : (if t235 = true then ((laws_eqIntS.f k l0_10 l1_10).bind fun t236=>(if t236 = true then (some true) else (some false))) else (some false)) = some r:=H;have A_14:=J A_13;clear A_13
 by_cases c_10 : t235 = true
 subst c_10
 have H_1 : ((laws_eqIntS.f k l0_10 l1_10).bind fun t236=>(if t236 = true then (some true) else (some false))) = some r:=by rw [if_pos rfl] at H;exact H
 clear H;have H:=H_1;clear H_1;replace H:=D.mp H;obtain ⟨t236,A_15,H⟩:=H;replace H : (if t236 = true then (some true) else (some false)) = some r:=H;have A_16:=J A_15;clear A_15
 by_cases c_11 : t236 = true
 subst c_11
 have H_1 : (some true) = some r:=by rw [if_pos rfl] at H;exact H
 clear H;have H:=H_1;clear H_1;obtain rfl:=V H;go_enter Try.func13,Try.ntmps13
 rotate_left
 replace c_11:=Bool.eq_false_iff.mpr c_11;subst c_11
 have H_1 : (some false) = some r:=by rw [if_neg (show ¬ (false = true) by decide)] at H;exact H
 clear H;have H:=H_1;clear H_1;obtain rfl:=V H;go_enter Try.func13,Try.ntmps13
 rotate_left
 replace c_10:=Bool.eq_false_iff.mpr c_10;subst c_10
 have H_1 : (some false) = some r:=by rw [if_neg (show ¬ (false = true) by decide)] at H;exact H
 clear H;have H:=H_1;clear H_1;obtain rfl:=V H;go_enter Try.func13,Try.ntmps13
 rotate_left
 ·replace c_9:=Bool.eq_false_iff.mpr c_9;subst c_9
  have H_1 : (some false) = some r:=by rw [if_neg (show ¬ (false = true) by decide)] at H;exact H
  clear H;have H:=H_1;clear H_1;obtain rfl:=V H;go_enter Try.func13,Try.ntmps13
  go_wp2_with (first | ((with_reducible refine gate_dst (N:=2) rfl ?_);refine box_event ?hg (N:=2) ?hd (cs:=#[.slice A0_0 l0_0.length c0_0,.slice A0_1 l0_1.length c0_1,.slice A0_2 l0_2.length c0_2,.slice A0_3 l0_3.length c0_3,.slice A0_4 l0_4.length c0_4,.slice A0_5 l0_5.length c0_5,.int .i64 a0_6,.int .i64 a0_7,.slice A0_8 l0_8.length c0_8,.slice A0_9 l0_9.length c0_9,.slice A0_10 l0_10.length c0_10]) (t:=33) ?hr ?_;(case hd=>rfl);(case hg=>rfl);(case hr=>first | (go_simp;done) | (go_simp;rfl));intro gb_1 hg w_1 hbox hb;have n_1_:=J (below_step (q0_ HB) hb);have n_2_:=J (hbox);have n_3_:=J ((by rw [hg];exact (below_size (q0_ HB)) : w.heap.size ≤ gb_1));have n_4_:=J ((by rw [hg];exact (below_size (q0_ HB)) : w.heap.size ≤ gb_1));clear HB;have HB:=n_1_;have BK_1:=n_2_;have GW_1:=n_3_;have GE_1:=n_4_;clear n_1_ n_2_ n_3_ n_4_ hb hbox hg) | ((with_reducible refine gate_dst (N:=3) rfl ?_);refine box_event ?hg (N:=3) ?hd (cs:=#[.slice A1_0 l1_0.length c1_0,.slice A1_1 l1_1.length c1_1,.slice A1_2 l1_2.length c1_2,.slice A1_3 l1_3.length c1_3,.slice A1_4 l1_4.length c1_4,.slice A1_5 l1_5.length c1_5,.int .i64 a1_6,.int .i64 a1_7,.slice A1_8 l1_8.length c1_8,.slice A1_9 l1_9.length c1_9,.slice A1_10 l1_10.length c1_10]) (t:=33) ?hr ?_;(case hd=>rfl);(case hg=>rfl);(case hr=>first | (go_simp;done) | (go_simp;rfl));intro gb_2 hg w_2 hbox hb;have n_1_:=J (blk_below (g:=gb_1) (o:=.cells #[.slice A0_0 l0_0.length c0_0,.slice A0_1 l0_1.length c0_1,.slice A0_2 l0_2.length c0_2,.slice A0_3 l0_3.length c0_3,.slice A0_4 l0_4.length c0_4,.slice A0_5 l0_5.length c0_5,.int .i64 a0_6,.int .i64 a0_7,.slice A0_8 l0_8.length c0_8,.slice A0_9 l0_9.length c0_9,.slice A0_10 l0_10.length c0_10] 33 (0,0)) (q1_ BK_1) hb);have n_2_:=J (below_step (q2_ HB GE_1) hb);have n_3_:=J (hbox);have n_4_:=J ((by rw [hg];exact (below_size (q2_ HB GE_1)) : w.heap.size ≤ gb_2));have n_5_:=J ((by rw [hg];exact (below_size (q2_ HB GE_1)) : w.heap.size ≤ gb_2));have n_6_:=J ((by rw [hg];exact Nat.ne_of_lt (blk_lt (g:=gb_1) (o:=.cells #[.slice A0_0 l0_0.length c0_0,.slice A0_1 l0_1.length c0_1,.slice A0_2 l0_2.length c0_2,.slice A0_3 l0_3.length c0_3,.slice A0_4 l0_4.length c0_4,.slice A0_5 l0_5.length c0_5,.int .i64 a0_6,.int .i64 a0_7,.slice A0_8 l0_8.length c0_8,.slice A0_9 l0_9.length c0_9,.slice A0_10 l0_10.length c0_10] 33 (0,0)) (q1_ BK_1)) : gb_1 ≠ gb_2));have n_7_:=J ((by rw [hg];exact Nat.ne_of_gt (blk_lt (g:=gb_1) (o:=.cells #[.slice A0_0 l0_0.length c0_0,.slice A0_1 l0_1.length c0_1,.slice A0_2 l0_2.length c0_2,.slice A0_3 l0_3.length c0_3,.slice A0_4 l0_4.length c0_4,.slice A0_5 l0_5.length c0_5,.int .i64 a0_6,.int .i64 a0_7,.slice A0_8 l0_8.length c0_8,.slice A0_9 l0_9.length c0_9,.slice A0_10 l0_10.length c0_10] 33 (0,0)) (q1_ BK_1)) : gb_2 ≠ gb_1));clear BK_1 HB;have BK_1:=n_1_;have HB:=n_2_;have BK_2:=n_3_;have GW_2:=n_4_;have GE_2:=n_5_;have NB_1__2:=n_6_;have NB_2__1:=n_7_;clear n_1_ n_2_ n_3_ n_4_ n_5_ n_6_ n_7_ hb hbox hg;have hnb_1:=NB_1__2.out;have hnc_1:=NB_2__1.out;obtain ⟨hcz_1__2,hcz_1__3,hcz_1__4,hcz_1__5,hcz_1__6,hcz_1__7,hcz_1__8,hcz_1__9,hcz_1__10,hcz_1__11,hcz_1__12,hfz_1__2,hfz_1__3,hfz_1__4,hfz_1__5,hfz_1__6,hfz_1__7,hfz_1__8,hfz_1__9,hfz_1__10,hfz_1__11,hfz_1__12⟩:=bz11_ BK_1;obtain ⟨hcz_13__2,hcz_13__3,hcz_13__4,hcz_13__5,hcz_13__6,hcz_13__7,hcz_13__8,hcz_13__9,hcz_13__10,hcz_13__11,hcz_13__12,hfz_13__2,hfz_13__3,hfz_13__4,hfz_13__5,hfz_13__6,hfz_13__7,hfz_13__8,hfz_13__9,hfz_13__10,hfz_13__11,hfz_13__12⟩:=bz11_ BK_2) | ((with_reducible refine G (f:=50) rfl ?_);refine goesM_ (some 9) Try.func50 #[.slice A0_0 l0_0.length c0_0,.slice A1_0 l1_0.length c1_0] ?_;(with_reducible refine (laws_eqCtxS.calls k _ _ l0_0 _ _ l1_0 true _ ?side_1 ?side_2 ?side_3 ?side_4 A3.out).mono ?_);(case side_1=>repeat (first | exact (Kd.C_below HR0_0.out HB.out) | (with_reducible refine Y ?_ _) | (with_reducible refine E ?_ _) | (with_reducible refine U ?_)));(case side_2=>exact HC0_0.out);(case side_3=>repeat (first | exact (Kd.C_below HR1_0.out HB.out) | (with_reducible refine Y ?_ _) | (with_reducible refine E ?_ _) | (with_reducible refine U ?_)));(case side_4=>exact HC1_0.out);rintro e w_3 ⟨rfl,hb⟩;refine ⟨_,rfl,?_⟩;have n_1_:=J (blk_below (g:=gb_1) (o:=.cells #[.slice A0_0 l0_0.length c0_0,.slice A0_1 l0_1.length c0_1,.slice A0_2 l0_2.length c0_2,.slice A0_3 l0_3.length c0_3,.slice A0_4 l0_4.length c0_4,.slice A0_5 l0_5.length c0_5,.int .i64 a0_6,.int .i64 a0_7,.slice A0_8 l0_8.length c0_8,.slice A0_9 l0_9.length c0_9,.slice A0_10 l0_10.length c0_10] 33 (0,0)) (q1_ BK_1) hb);have n_2_:=J (blk_below (g:=gb_2) (o:=.cells #[.slice A1_0 l1_0.length c1_0,.slice A1_1 l1_1.length c1_1,.slice A1_2 l1_2.length c1_2,.slice A1_3 l1_3.length c1_3,.slice A1_4 l1_4.length c1_4,.slice A1_5 l1_5.length c1_5,.int .i64 a1_6,.int .i64 a1_7,.slice A1_8 l1_8.length c1_8,.slice A1_9 l1_9.length c1_9,.slice A1_10 l1_10.length c1_10] 33 (0,0)) (q1_ BK_2) hb);have n_3_:=J (below_step (q3_ HB GE_1 GE_2) hb);clear BK_1 BK_2 HB;have BK_1:=n_1_;have BK_2:=n_2_;have HB:=n_3_;clear n_1_ n_2_ n_3_;(try clear hb);(try clear hb_1);obtain ⟨hcz_14__2,hcz_14__3,hcz_14__4,hcz_14__5,hcz_14__6,hcz_14__7,hcz_14__8,hcz_14__9,hcz_14__10,hcz_14__11,hcz_14__12,hfz_14__2,hfz_14__3,hfz_14__4,hfz_14__5,hfz_14__6,hfz_14__7,hfz_14__8,hfz_14__9,hfz_14__10,hfz_14__11,hfz_14__12⟩:=bz11_ BK_1;obtain ⟨hcz_15__2,hcz_15__3,hcz_15__4,hcz_15__5,hcz_15__6,hcz_15__7,hcz_15__8,hcz_15__9,hcz_15__10,hcz_15__11,hcz_15__12,hfz_15__2,hfz_15__3,hfz_15__4,hfz_15__5,hfz_15__6,hfz_15__7,hfz_15__8,hfz_15__9,hfz_15__10,hfz_15__11,hfz_15__12⟩:=bz11_ BK_2) | ((with_reducible refine G (f:=34) rfl ?_);refine goesM_ (some 15) Try.func34 #[.slice A0_1 l0_1.length c0_1,.slice A1_1 l1_1.length c1_1] ?_;(with_reducible refine (laws_eqIntS.calls k _ _ l0_1 _ _ l1_1 true _ ?side_1 ?side_2 ?side_3 ?side_4 A_2.out).mono ?_);(case side_1=>repeat (first | exact (Kd.C_below HR0_1.out HB.out) | (with_reducible refine Y ?_ _) | (with_reducible refine E ?_ _) | (with_reducible refine U ?_)));(case side_2=>exact HC0_1.out);(case side_3=>repeat (first | exact (Kd.C_below HR1_1.out HB.out) | (with_reducible refine Y ?_ _) | (with_reducible refine E ?_ _) | (with_reducible refine U ?_)));(case side_4=>exact HC1_1.out);rintro e w' ⟨rfl,⟨nd,rfl⟩⟩;refine ⟨_,rfl,?_⟩) | ((with_reducible refine G (f:=34) rfl ?_);refine goesM_ (some 21) Try.func34 #[.slice A0_2 l0_2.length c0_2,.slice A1_2 l1_2.length c1_2] ?_;(with_reducible refine (laws_eqIntS.calls k _ _ l0_2 _ _ l1_2 true _ ?side_1 ?side_2 ?side_3 ?side_4 A_4.out).mono ?_);(case side_1=>repeat (first | exact (Kd.C_below HR0_2.out (q3_ HB GE_1 GE_2)) | (with_reducible refine Y ?_ _) | (with_reducible refine E ?_ _) | (with_reducible refine U ?_)));(case side_2=>exact HC0_2.out);(case side_3=>repeat (first | exact (Kd.C_below HR1_2.out (q3_ HB GE_1 GE_2)) | (with_reducible refine Y ?_ _) | (with_reducible refine E ?_ _) | (with_reducible refine U ?_)));(case side_4=>exact HC1_2.out);rintro e w' ⟨rfl,⟨nd,rfl⟩⟩;refine ⟨_,rfl,?_⟩) | ((with_reducible refine G (f:=51) rfl ?_);refine goesM_ (some 27) Try.func51 #[.slice A0_3 l0_3.length c0_3,.slice A1_3 l1_3.length c1_3] ?_;(with_reducible refine (laws_eqIntSS.calls k _ _ l0_3 _ _ l1_3 true _ ?side_1 ?side_2 ?side_3 ?side_4 A_6.out).mono ?_);(case side_1=>repeat (first | exact (Kd.C_below HR0_3.out (q3_ HB GE_1 GE_2)) | (with_reducible refine Y ?_ _) | (with_reducible refine E ?_ _) | (with_reducible refine U ?_)));(case side_2=>exact HC0_3.out);(case side_3=>repeat (first | exact (Kd.C_below HR1_3.out (q3_ HB GE_1 GE_2)) | (with_reducible refine Y ?_ _) | (with_reducible refine E ?_ _) | (with_reducible refine U ?_)));(case side_4=>exact HC1_3.out);rintro e w' ⟨rfl,⟨nd,rfl⟩⟩;refine ⟨_,rfl,?_⟩) | ((with_reducible refine G (f:=51) rfl ?_);refine goesM_ (some 33) Try.func51 #[.slice A0_4 l0_4.length c0_4,.slice A1_4 l1_4.length c1_4] ?_;(with_reducible refine (laws_eqIntSS.calls k _ _ l0_4 _ _ l1_4 true _ ?side_1 ?side_2 ?side_3 ?side_4 A_8.out).mono ?_);(case side_1=>repeat (first | exact (Kd.C_below HR0_4.out (q3_ HB GE_1 GE_2)) | (with_reducible refine Y ?_ _) | (with_reducible refine E ?_ _) | (with_reducible refine U ?_)));(case side_2=>exact HC0_4.out);(case side_3=>repeat (first | exact (Kd.C_below HR1_4.out (q3_ HB GE_1 GE_2)) | (with_reducible refine Y ?_ _) | (with_reducible refine E ?_ _) | (with_reducible refine U ?_)));(case side_4=>exact HC1_4.out);rintro e w' ⟨rfl,⟨nd,rfl⟩⟩;refine ⟨_,rfl,?_⟩) | ((with_reducible refine G (f:=34) rfl ?_);refine goesM_ (some 39) Try.func34 #[.slice A0_5 l0_5.length c0_5,.slice A1_5 l1_5.length c1_5] ?_;(with_reducible refine (laws_eqIntS.calls k _ _ l0_5 _ _ l1_5 true _ ?side_1 ?side_2 ?side_3 ?side_4 A_10.out).mono ?_);(case side_1=>repeat (first | exact (Kd.C_below HR0_5.out (q3_ HB GE_1 GE_2)) | (with_reducible refine Y ?_ _) | (with_reducible refine E ?_ _) | (with_reducible refine U ?_)));(case side_2=>exact HC0_5.out);(case side_3=>repeat (first | exact (Kd.C_below HR1_5.out (q3_ HB GE_1 GE_2)) | (with_reducible refine Y ?_ _) | (with_reducible refine E ?_ _) | (with_reducible refine U ?_)));(case side_4=>exact HC1_5.out);rintro e w' ⟨rfl,⟨nd,rfl⟩⟩;refine ⟨_,rfl,?_⟩) | ((with_reducible refine G (f:=52) rfl ?_);refine goesM_ (some 55) Try.func52 #[.slice A0_8 l0_8.length c0_8,.slice A1_8 l1_8.length c1_8] ?_;(with_reducible refine (laws_eqSayS.calls k _ _ l0_8 _ _ l1_8 false _ ?side_1 ?side_2 ?side_3 ?side_4 A_12.out).mono ?_);(case side_1=>repeat (first | exact (Kd.C_below HR0_8.out (q3_ HB GE_1 GE_2)) | (with_reducible refine Y ?_ _) | (with_reducible refine E ?_ _) | (with_reducible refine U ?_)));(case side_2=>exact HC0_8.out);(case side_3=>repeat (first | exact (Kd.C_below HR1_8.out (q3_ HB GE_1 GE_2)) | (with_reducible refine Y ?_ _) | (with_reducible refine E ?_ _) | (with_reducible refine U ?_)));(case side_4=>exact HC1_8.out);rintro e w_4 ⟨rfl,hb⟩;refine ⟨_,rfl,?_⟩;have n_1_:=J (blk_below (g:=gb_1) (o:=.cells #[.slice A0_0 l0_0.length c0_0,.slice A0_1 l0_1.length c0_1,.slice A0_2 l0_2.length c0_2,.slice A0_3 l0_3.length c0_3,.slice A0_4 l0_4.length c0_4,.slice A0_5 l0_5.length c0_5,.int .i64 a0_6,.int .i64 a0_7,.slice A0_8 l0_8.length c0_8,.slice A0_9 l0_9.length c0_9,.slice A0_10 l0_10.length c0_10] 33 (0,0)) (q1_ BK_1) hb);have n_2_:=J (blk_below (g:=gb_2) (o:=.cells #[.slice A1_0 l1_0.length c1_0,.slice A1_1 l1_1.length c1_1,.slice A1_2 l1_2.length c1_2,.slice A1_3 l1_3.length c1_3,.slice A1_4 l1_4.length c1_4,.slice A1_5 l1_5.length c1_5,.int .i64 a1_6,.int .i64 a1_7,.slice A1_8 l1_8.length c1_8,.slice A1_9 l1_9.length c1_9,.slice A1_10 l1_10.length c1_10] 33 (0,0)) (q1_ BK_2) hb);have n_3_:=J (below_step (q3_ HB GE_1 GE_2) hb);clear BK_1 BK_2 HB;have BK_1:=n_1_;have BK_2:=n_2_;have HB:=n_3_;clear n_1_ n_2_ n_3_;(try clear hb);(try clear hb_1)))
  go_ret
  exact ⟨by first | rfl | (simp [errW_none,errW_some] <;> rfl) | (simp [*,errW_none,errW_some] <;> rfl),by repeat (first | (with_reducible first | exact HB.out | apply below_alloc | apply pw_below_drewN | apply below_drew1 | refine below_set ?_ GE_1.out | refine below_set ?_ GE_2.out) | exact HB.out)⟩
 rw [if_neg c_8] at H;have c_4b_2 : (a0_7 == a1_7) = false:=beq_eq_false_iff_ne.mpr c_8;have c_4b_3 : (a0_7 != a1_7) = true:=bne_iff_ne.mpr c_8;obtain rfl:=V H;go_enter Try.func13,Try.ntmps13
 rotate_left
 rw [if_neg c_7] at H;have c_1b_2 : (a0_6 == a1_6) = false:=beq_eq_false_iff_ne.mpr c_7;have c_1b_3 : (a0_6 != a1_6) = true:=bne_iff_ne.mpr c_7;obtain rfl:=V H;go_enter Try.func13,Try.ntmps13
 rotate_left
 replace c_6:=Bool.eq_false_iff.mpr c_6;subst c_6
 have H_1 : (some false) = some r:=by rw [if_neg (show ¬ (false = true) by decide)] at H;exact H
 clear H;have H:=H_1;clear H_1;obtain rfl:=V H;go_enter Try.func13,Try.ntmps13
 rotate_left
 replace c_5:=Bool.eq_false_iff.mpr c_5;subst c_5
 have H_1 : (some false) = some r:=by rw [if_neg (show ¬ (false = true) by decide)] at H;exact H
 clear H;have H:=H_1;clear H_1;obtain rfl:=V H;go_enter Try.func13,Try.ntmps13
 rotate_left
 replace c_4:=Bool.eq_false_iff.mpr c_4;subst c_4
 have H_1 : (some false) = some r:=by rw [if_neg (show ¬ (false = true) by decide)] at H;exact H
 clear H;have H:=H_1;clear H_1;obtain rfl:=V H;go_enter Try.func13,Try.ntmps13
 rotate_left
 replace c_3:=Bool.eq_false_iff.mpr c_3;subst c_3
 have H_1 : (some false) = some r:=by rw [if_neg (show ¬ (false = true) by decide)] at H;exact H
 clear H;have H:=H_1;clear H_1;obtain rfl:=V H;go_enter Try.func13,Try.ntmps13
 rotate_left
 replace c_2:=Bool.eq_false_iff.mpr c_2;subst c_2
 have H_1 : (some false) = some r:=by rw [if_neg (show ¬ (false = true) by decide)] at H;exact H
 clear H;have H:=H_1;clear H_1;obtain rfl:=V H;go_enter Try.func13,Try.ntmps13
 rotate_left
 ·replace c_1:=Bool.eq_false_iff.mpr c_1;subst c_1
  have H_1 : (some false) = some r:=by rw [if_neg (show ¬ (false = true) by decide)] at H;exact H
  clear H;have H:=H_1;clear H_1;obtain rfl:=V H;go_enter Try.func13,Try.ntmps13
  go_wp2_with (first | ((with_reducible refine gate_dst (N:=2) rfl ?_);refine box_event ?hg (N:=2) ?hd (cs:=#[.slice A0_0 l0_0.length c0_0,.slice A0_1 l0_1.length c0_1,.slice A0_2 l0_2.length c0_2,.slice A0_3 l0_3.length c0_3,.slice A0_4 l0_4.length c0_4,.slice A0_5 l0_5.length c0_5,.int .i64 a0_6,.int .i64 a0_7,.slice A0_8 l0_8.length c0_8,.slice A0_9 l0_9.length c0_9,.slice A0_10 l0_10.length c0_10]) (t:=33) ?hr ?_;(case hd=>rfl);(case hg=>rfl);(case hr=>first | (go_simp;done) | (go_simp;rfl));intro gb_1 hg w_1 hbox hb;have n_1_:=J (below_step (q0_ HB) hb);have n_2_:=J (hbox);have n_3_:=J ((by rw [hg];exact (below_size (q0_ HB)) : w.heap.size ≤ gb_1));have n_4_:=J ((by rw [hg];exact (below_size (q0_ HB)) : w.heap.size ≤ gb_1));clear HB;have HB:=n_1_;have BK_1:=n_2_;have GW_1:=n_3_;have GE_1:=n_4_;clear n_1_ n_2_ n_3_ n_4_ hb hbox hg) | ((with_reducible refine gate_dst (N:=3) rfl ?_);refine box_event ?hg (N:=3) ?hd (cs:=#[.slice A1_0 l1_0.length c1_0,.slice A1_1 l1_1.length c1_1,.slice A1_2 l1_2.length c1_2,.slice A1_3 l1_3.length c1_3,.slice A1_4 l1_4.length c1_4,.slice A1_5 l1_5.length c1_5,.int .i64 a1_6,.int .i64 a1_7,.slice A1_8 l1_8.length c1_8,.slice A1_9 l1_9.length c1_9,.slice A1_10 l1_10.length c1_10]) (t:=33) ?hr ?_;(case hd=>rfl);(case hg=>rfl);(case hr=>first | (go_simp;done) | (go_simp;rfl));intro gb_2 hg w_2 hbox hb;have n_1_:=J (blk_below (g:=gb_1) (o:=.cells #[.slice A0_0 l0_0.length c0_0,.slice A0_1 l0_1.length c0_1,.slice A0_2 l0_2.length c0_2,.slice A0_3 l0_3.length c0_3,.slice A0_4 l0_4.length c0_4,.slice A0_5 l0_5.length c0_5,.int .i64 a0_6,.int .i64 a0_7,.slice A0_8 l0_8.length c0_8,.slice A0_9 l0_9.length c0_9,.slice A0_10 l0_10.length c0_10] 33 (0,0)) (q1_ BK_1) hb);have n_2_:=J (below_step (q2_ HB GE_1) hb);have n_3_:=J (hbox);have n_4_:=J ((by rw [hg];exact (below_size (q2_ HB GE_1)) : w.heap.size ≤ gb_2));have n_5_:=J ((by rw [hg];exact (below_size (q2_ HB GE_1)) : w.heap.size ≤ gb_2));have n_6_:=J ((by rw [hg];exact Nat.ne_of_lt (blk_lt (g:=gb_1) (o:=.cells #[.slice A0_0 l0_0.length c0_0,.slice A0_1 l0_1.length c0_1,.slice A0_2 l0_2.length c0_2,.slice A0_3 l0_3.length c0_3,.slice A0_4 l0_4.length c0_4,.slice A0_5 l0_5.length c0_5,.int .i64 a0_6,.int .i64 a0_7,.slice A0_8 l0_8.length c0_8,.slice A0_9 l0_9.length c0_9,.slice A0_10 l0_10.length c0_10] 33 (0,0)) (q1_ BK_1)) : gb_1 ≠ gb_2));have n_7_:=J ((by rw [hg];exact Nat.ne_of_gt (blk_lt (g:=gb_1) (o:=.cells #[.slice A0_0 l0_0.length c0_0,.slice A0_1 l0_1.length c0_1,.slice A0_2 l0_2.length c0_2,.slice A0_3 l0_3.length c0_3,.slice A0_4 l0_4.length c0_4,.slice A0_5 l0_5.length c0_5,.int .i64 a0_6,.int .i64 a0_7,.slice A0_8 l0_8.length c0_8,.slice A0_9 l0_9.length c0_9,.slice A0_10 l0_10.length c0_10] 33 (0,0)) (q1_ BK_1)) : gb_2 ≠ gb_1));clear BK_1 HB;have BK_1:=n_1_;have HB:=n_2_;have BK_2:=n_3_;have GW_2:=n_4_;have GE_2:=n_5_;have NB_1__2:=n_6_;have NB_2__1:=n_7_;clear n_1_ n_2_ n_3_ n_4_ n_5_ n_6_ n_7_ hb hbox hg;have hnb_1:=NB_1__2.out;have hnc_1:=NB_2__1.out;obtain ⟨hcz_1__2,hcz_1__3,hcz_1__4,hcz_1__5,hcz_1__6,hcz_1__7,hcz_1__8,hcz_1__9,hcz_1__10,hcz_1__11,hcz_1__12,hfz_1__2,hfz_1__3,hfz_1__4,hfz_1__5,hfz_1__6,hfz_1__7,hfz_1__8,hfz_1__9,hfz_1__10,hfz_1__11,hfz_1__12⟩:=bz11_ BK_1;obtain ⟨hcz_13__2,hcz_13__3,hcz_13__4,hcz_13__5,hcz_13__6,hcz_13__7,hcz_13__8,hcz_13__9,hcz_13__10,hcz_13__11,hcz_13__12,hfz_13__2,hfz_13__3,hfz_13__4,hfz_13__5,hfz_13__6,hfz_13__7,hfz_13__8,hfz_13__9,hfz_13__10,hfz_13__11,hfz_13__12⟩:=bz11_ BK_2) | ((with_reducible refine G (f:=50) rfl ?_);refine goesM_ (some 9) Try.func50 #[.slice A0_0 l0_0.length c0_0,.slice A1_0 l1_0.length c1_0] ?_;(with_reducible refine (laws_eqCtxS.calls k _ _ l0_0 _ _ l1_0 false _ ?side_1 ?side_2 ?side_3 ?side_4 A3.out).mono ?_);(case side_1=>repeat (first | exact (Kd.C_below HR0_0.out HB.out) | (with_reducible refine Y ?_ _) | (with_reducible refine E ?_ _) | (with_reducible refine U ?_)));(case side_2=>exact HC0_0.out);(case side_3=>repeat (first | exact (Kd.C_below HR1_0.out HB.out) | (with_reducible refine Y ?_ _) | (with_reducible refine E ?_ _) | (with_reducible refine U ?_)));(case side_4=>exact HC1_0.out);rintro e w_3 ⟨rfl,hb⟩;refine ⟨_,rfl,?_⟩;have n_1_:=J (blk_below (g:=gb_1) (o:=.cells #[.slice A0_0 l0_0.length c0_0,.slice A0_1 l0_1.length c0_1,.slice A0_2 l0_2.length c0_2,.slice A0_3 l0_3.length c0_3,.slice A0_4 l0_4.length c0_4,.slice A0_5 l0_5.length c0_5,.int .i64 a0_6,.int .i64 a0_7,.slice A0_8 l0_8.length c0_8,.slice A0_9 l0_9.length c0_9,.slice A0_10 l0_10.length c0_10] 33 (0,0)) (q1_ BK_1) hb);have n_2_:=J (blk_below (g:=gb_2) (o:=.cells #[.slice A1_0 l1_0.length c1_0,.slice A1_1 l1_1.length c1_1,.slice A1_2 l1_2.length c1_2,.slice A1_3 l1_3.length c1_3,.slice A1_4 l1_4.length c1_4,.slice A1_5 l1_5.length c1_5,.int .i64 a1_6,.int .i64 a1_7,.slice A1_8 l1_8.length c1_8,.slice A1_9 l1_9.length c1_9,.slice A1_10 l1_10.length c1_10] 33 (0,0)) (q1_ BK_2) hb);have n_3_:=J (below_step (q3_ HB GE_1 GE_2) hb);clear BK_1 BK_2 HB;have BK_1:=n_1_;have BK_2:=n_2_;have HB:=n_3_;clear n_1_ n_2_ n_3_;(try clear hb);(try clear hb_1)))
  go_ret
  exact ⟨by first | rfl | (simp [errW_none,errW_some] <;> rfl) | (simp [*,errW_none,errW_some] <;> rfl),by repeat (first | (with_reducible first | exact HB.out | apply below_alloc | apply pw_below_drewN | apply below_drew1 | refine below_set ?_ GE_1.out | refine below_set ?_ GE_2.out) | exact HB.out)⟩
 all_goals
  go_wp2_with (first | ((with_reducible refine gate_dst (N:=2) rfl ?_);refine box_event ?hg (N:=2) ?hd (cs:=#[.slice A0_0 l0_0.length c0_0,.slice A0_1 l0_1.length c0_1,.slice A0_2 l0_2.length c0_2,.slice A0_3 l0_3.length c0_3,.slice A0_4 l0_4.length c0_4,.slice A0_5 l0_5.length c0_5,.int .i64 a0_6,.int .i64 a0_7,.slice A0_8 l0_8.length c0_8,.slice A0_9 l0_9.length c0_9,.slice A0_10 l0_10.length c0_10]) (t:=33) ?hr ?_;(case hd=>rfl);(case hg=>rfl);(case hr=>first | (go_simp;done) | (go_simp;rfl));intro gb_1 hg w_1 hbox hb;have n_1_:=J (below_step (q0_ HB) hb);have n_2_:=J (hbox);have n_3_:=J ((by rw [hg];exact (below_size (q0_ HB)) : w.heap.size ≤ gb_1));have n_4_:=J ((by rw [hg];exact (below_size (q0_ HB)) : w.heap.size ≤ gb_1));clear HB;have HB:=n_1_;have BK_1:=n_2_;have GW_1:=n_3_;have GE_1:=n_4_;clear n_1_ n_2_ n_3_ n_4_ hb hbox hg) | ((with_reducible refine gate_dst (N:=3) rfl ?_);refine box_event ?hg (N:=3) ?hd (cs:=#[.slice A1_0 l1_0.length c1_0,.slice A1_1 l1_1.length c1_1,.slice A1_2 l1_2.length c1_2,.slice A1_3 l1_3.length c1_3,.slice A1_4 l1_4.length c1_4,.slice A1_5 l1_5.length c1_5,.int .i64 a1_6,.int .i64 a1_7,.slice A1_8 l1_8.length c1_8,.slice A1_9 l1_9.length c1_9,.slice A1_10 l1_10.length c1_10]) (t:=33) ?hr ?_;(case hd=>rfl);(case hg=>rfl);(case hr=>first | (go_simp;done) | (go_simp;rfl));intro gb_2 hg w_2 hbox hb;have n_1_:=J (blk_below (g:=gb_1) (o:=.cells #[.slice A0_0 l0_0.length c0_0,.slice A0_1 l0_1.length c0_1,.slice A0_2 l0_2.length c0_2,.slice A0_3 l0_3.length c0_3,.slice A0_4 l0_4.length c0_4,.slice A0_5 l0_5.length c0_5,.int .i64 a0_6,.int .i64 a0_7,.slice A0_8 l0_8.length c0_8,.slice A0_9 l0_9.length c0_9,.slice A0_10 l0_10.length c0_10] 33 (0,0)) (q1_ BK_1) hb);have n_2_:=J (below_step (q2_ HB GE_1) hb);have n_3_:=J (hbox);have n_4_:=J ((by rw [hg];exact (below_size (q2_ HB GE_1)) : w.heap.size ≤ gb_2));have n_5_:=J ((by rw [hg];exact (below_size (q2_ HB GE_1)) : w.heap.size ≤ gb_2));have n_6_:=J ((by rw [hg];exact Nat.ne_of_lt (blk_lt (g:=gb_1) (o:=.cells #[.slice A0_0 l0_0.length c0_0,.slice A0_1 l0_1.length c0_1,.slice A0_2 l0_2.length c0_2,.slice A0_3 l0_3.length c0_3,.slice A0_4 l0_4.length c0_4,.slice A0_5 l0_5.length c0_5,.int .i64 a0_6,.int .i64 a0_7,.slice A0_8 l0_8.length c0_8,.slice A0_9 l0_9.length c0_9,.slice A0_10 l0_10.length c0_10] 33 (0,0)) (q1_ BK_1)) : gb_1 ≠ gb_2));have n_7_:=J ((by rw [hg];exact Nat.ne_of_gt (blk_lt (g:=gb_1) (o:=.cells #[.slice A0_0 l0_0.length c0_0,.slice A0_1 l0_1.length c0_1,.slice A0_2 l0_2.length c0_2,.slice A0_3 l0_3.length c0_3,.slice A0_4 l0_4.length c0_4,.slice A0_5 l0_5.length c0_5,.int .i64 a0_6,.int .i64 a0_7,.slice A0_8 l0_8.length c0_8,.slice A0_9 l0_9.length c0_9,.slice A0_10 l0_10.length c0_10] 33 (0,0)) (q1_ BK_1)) : gb_2 ≠ gb_1));clear BK_1 HB;have BK_1:=n_1_;have HB:=n_2_;have BK_2:=n_3_;have GW_2:=n_4_;have GE_2:=n_5_;have NB_1__2:=n_6_;have NB_2__1:=n_7_;clear n_1_ n_2_ n_3_ n_4_ n_5_ n_6_ n_7_ hb hbox hg;have hnb_1:=NB_1__2.out;have hnc_1:=NB_2__1.out;obtain ⟨hcz_1__2,hcz_1__3,hcz_1__4,hcz_1__5,hcz_1__6,hcz_1__7,hcz_1__8,hcz_1__9,hcz_1__10,hcz_1__11,hcz_1__12,hfz_1__2,hfz_1__3,hfz_1__4,hfz_1__5,hfz_1__6,hfz_1__7,hfz_1__8,hfz_1__9,hfz_1__10,hfz_1__11,hfz_1__12⟩:=bz11_ BK_1;obtain ⟨hcz_13__2,hcz_13__3,hcz_13__4,hcz_13__5,hcz_13__6,hcz_13__7,hcz_13__8,hcz_13__9,hcz_13__10,hcz_13__11,hcz_13__12,hfz_13__2,hfz_13__3,hfz_13__4,hfz_13__5,hfz_13__6,hfz_13__7,hfz_13__8,hfz_13__9,hfz_13__10,hfz_13__11,hfz_13__12⟩:=bz11_ BK_2) | ((with_reducible refine G (f:=50) rfl ?_);refine goesM_ (some 9) Try.func50 #[.slice A0_0 l0_0.length c0_0,.slice A1_0 l1_0.length c1_0] ?_;(with_reducible refine (laws_eqCtxS.calls k _ _ l0_0 _ _ l1_0 _ _ ?side_1 ?side_2 ?side_3 ?side_4 A3.out).mono ?_);(case side_1=>repeat (first | exact (Kd.C_below HR0_0.out HB.out) | (with_reducible refine Y ?_ _) | (with_reducible refine E ?_ _) | (with_reducible refine U ?_)));(case side_2=>exact HC0_0.out);(case side_3=>repeat (first | exact (Kd.C_below HR1_0.out HB.out) | (with_reducible refine Y ?_ _) | (with_reducible refine E ?_ _) | (with_reducible refine U ?_)));(case side_4=>exact HC1_0.out);rintro e w_3 ⟨rfl,hb⟩;refine ⟨_,rfl,?_⟩;have n_1_:=J (blk_below (g:=gb_1) (o:=.cells #[.slice A0_0 l0_0.length c0_0,.slice A0_1 l0_1.length c0_1,.slice A0_2 l0_2.length c0_2,.slice A0_3 l0_3.length c0_3,.slice A0_4 l0_4.length c0_4,.slice A0_5 l0_5.length c0_5,.int .i64 a0_6,.int .i64 a0_7,.slice A0_8 l0_8.length c0_8,.slice A0_9 l0_9.length c0_9,.slice A0_10 l0_10.length c0_10] 33 (0,0)) (q1_ BK_1) hb);have n_2_:=J (blk_below (g:=gb_2) (o:=.cells #[.slice A1_0 l1_0.length c1_0,.slice A1_1 l1_1.length c1_1,.slice A1_2 l1_2.length c1_2,.slice A1_3 l1_3.length c1_3,.slice A1_4 l1_4.length c1_4,.slice A1_5 l1_5.length c1_5,.int .i64 a1_6,.int .i64 a1_7,.slice A1_8 l1_8.length c1_8,.slice A1_9 l1_9.length c1_9,.slice A1_10 l1_10.length c1_10] 33 (0,0)) (q1_ BK_2) hb);have n_3_:=J (below_step (q3_ HB GE_1 GE_2) hb);clear BK_1 BK_2 HB;have BK_1:=n_1_;have BK_2:=n_2_;have HB:=n_3_;clear n_1_ n_2_ n_3_;(try clear hb);(try clear hb_1);obtain ⟨hcz_14__2,hcz_14__3,hcz_14__4,hcz_14__5,hcz_14__6,hcz_14__7,hcz_14__8,hcz_14__9,hcz_14__10,hcz_14__11,hcz_14__12,hfz_14__2,hfz_14__3,hfz_14__4,hfz_14__5,hfz_14__6,hfz_14__7,hfz_14__8,hfz_14__9,hfz_14__10,hfz_14__11,hfz_14__12⟩:=bz11_ BK_1;obtain ⟨hcz_15__2,hcz_15__3,hcz_15__4,hcz_15__5,hcz_15__6,hcz_15__7,hcz_15__8,hcz_15__9,hcz_15__10,hcz_15__11,hcz_15__12,hfz_15__2,hfz_15__3,hfz_15__4,hfz_15__5,hfz_15__6,hfz_15__7,hfz_15__8,hfz_15__9,hfz_15__10,hfz_15__11,hfz_15__12⟩:=bz11_ BK_2) | ((with_reducible refine G (f:=34) rfl ?_);refine goesM_ (some 15) Try.func34 #[.slice A0_1 l0_1.length c0_1,.slice A1_1 l1_1.length c1_1] ?_;(with_reducible refine (laws_eqIntS.calls k _ _ l0_1 _ _ l1_1 _ _ ?side_1 ?side_2 ?side_3 ?side_4 A_2.out).mono ?_);(case side_1=>repeat (first | exact (Kd.C_below HR0_1.out HB.out) | (with_reducible refine Y ?_ _) | (with_reducible refine E ?_ _) | (with_reducible refine U ?_)));(case side_2=>exact HC0_1.out);(case side_3=>repeat (first | exact (Kd.C_below HR1_1.out HB.out) | (with_reducible refine Y ?_ _) | (with_reducible refine E ?_ _) | (with_reducible refine U ?_)));(case side_4=>exact HC1_1.out);rintro e w' ⟨rfl,⟨nd,rfl⟩⟩;refine ⟨_,rfl,?_⟩) | ((with_reducible refine G (f:=34) rfl ?_);refine goesM_ (some 21) Try.func34 #[.slice A0_2 l0_2.length c0_2,.slice A1_2 l1_2.length c1_2] ?_;(with_reducible refine (laws_eqIntS.calls k _ _ l0_2 _ _ l1_2 _ _ ?side_1 ?side_2 ?side_3 ?side_4 A_4.out).mono ?_);(case side_1=>repeat (first | exact (Kd.C_below HR0_2.out (q3_ HB GE_1 GE_2)) | (with_reducible refine Y ?_ _) | (with_reducible refine E ?_ _) | (with_reducible refine U ?_)));(case side_2=>exact HC0_2.out);(case side_3=>repeat (first | exact (Kd.C_below HR1_2.out (q3_ HB GE_1 GE_2)) | (with_reducible refine Y ?_ _) | (with_reducible refine E ?_ _) | (with_reducible refine U ?_)));(case side_4=>exact HC1_2.out);rintro e w' ⟨rfl,⟨nd,rfl⟩⟩;refine ⟨_,rfl,?_⟩) | ((with_reducible refine G (f:=51) rfl ?_);refine goesM_ (some 27) Try.func51 #[.slice A0_3 l0_3.length c0_3,.slice A1_3 l1_3.length c1_3] ?_;(with_reducible refine (laws_eqIntSS.calls k _ _ l0_3 _ _ l1_3 _ _ ?side_1 ?side_2 ?side_3 ?side_4 A_6.out).mono ?_);(case side_1=>repeat (first | exact (Kd.C_below HR0_3.out (q3_ HB GE_1 GE_2)) | (with_reducible refine Y ?_ _) | (with_reducible refine E ?_ _) | (with_reducible refine U ?_)));(case side_2=>exact HC0_3.out);(case side_3=>repeat (first | exact (Kd.C_below HR1_3.out (q3_ HB GE_1 GE_2)) | (with_reducible refine Y ?_ _) | (with_reducible refine E ?_ _) | (with_reducible refine U ?_)));(case side_4=>exact HC1_3.out);rintro e w' ⟨rfl,⟨nd,rfl⟩⟩;refine ⟨_,rfl,?_⟩) | ((with_reducible refine G (f:=51) rfl ?_);refine goesM_ (some 33) Try.func51 #[.slice A0_4 l0_4.length c0_4,.slice A1_4 l1_4.length c1_4] ?_;(with_reducible refine (laws_eqIntSS.calls k _ _ l0_4 _ _ l1_4 _ _ ?side_1 ?side_2 ?side_3 ?side_4 A_8.out).mono ?_);(case side_1=>repeat (first | exact (Kd.C_below HR0_4.out (q3_ HB GE_1 GE_2)) | (with_reducible refine Y ?_ _) | (with_reducible refine E ?_ _) | (with_reducible refine U ?_)));(case side_2=>exact HC0_4.out);(case side_3=>repeat (first | exact (Kd.C_below HR1_4.out (q3_ HB GE_1 GE_2)) | (with_reducible refine Y ?_ _) | (with_reducible refine E ?_ _) | (with_reducible refine U ?_)));(case side_4=>exact HC1_4.out);rintro e w' ⟨rfl,⟨nd,rfl⟩⟩;refine ⟨_,rfl,?_⟩) | ((with_reducible refine G (f:=34) rfl ?_);refine goesM_ (some 39) Try.func34 #[.slice A0_5 l0_5.length c0_5,.slice A1_5 l1_5.length c1_5] ?_;(with_reducible refine (laws_eqIntS.calls k _ _ l0_5 _ _ l1_5 _ _ ?side_1 ?side_2 ?side_3 ?side_4 A_10.out).mono ?_);(case side_1=>repeat (first | exact (Kd.C_below HR0_5.out (q3_ HB GE_1 GE_2)) | (with_reducible refine Y ?_ _) | (with_reducible refine E ?_ _) | (with_reducible refine U ?_)));(case side_2=>exact HC0_5.out);(case side_3=>repeat (first | exact (Kd.C_below HR1_5.out (q3_ HB GE_1 GE_2)) | (with_reducible refine Y ?_ _) | (with_reducible refine E ?_ _) | (with_reducible refine U ?_)));(case side_4=>exact HC1_5.out);rintro e w' ⟨rfl,⟨nd,rfl⟩⟩;refine ⟨_,rfl,?_⟩) | ((with_reducible refine G (f:=52) rfl ?_);refine goesM_ (some 55) Try.func52 #[.slice A0_8 l0_8.length c0_8,.slice A1_8 l1_8.length c1_8] ?_;(with_reducible refine (laws_eqSayS.calls k _ _ l0_8 _ _ l1_8 _ _ ?side_1 ?side_2 ?side_3 ?side_4 A_12.out).mono ?_);(case side_1=>repeat (first | exact (Kd.C_below HR0_8.out (q3_ HB GE_1 GE_2)) | (with_reducible refine Y ?_ _) | (with_reducible refine E ?_ _) | (with_reducible refine U ?_)));(case side_2=>exact HC0_8.out);(case side_3=>repeat (first | exact (Kd.C_below HR1_8.out (q3_ HB GE_1 GE_2)) | (with_reducible refine Y ?_ _) | (with_reducible refine E ?_ _) | (with_reducible refine U ?_)));(case side_4=>exact HC1_8.out);rintro e w_4 ⟨rfl,hb⟩;refine ⟨_,rfl,?_⟩;have n_1_:=J (blk_below (g:=gb_1) (o:=.cells #[.slice A0_0 l0_0.length c0_0,.slice A0_1 l0_1.length c0_1,.slice A0_2 l0_2.length c0_2,.slice A0_3 l0_3.length c0_3,.slice A0_4 l0_4.length c0_4,.slice A0_5 l0_5.length c0_5,.int .i64 a0_6,.int .i64 a0_7,.slice A0_8 l0_8.length c0_8,.slice A0_9 l0_9.length c0_9,.slice A0_10 l0_10.length c0_10] 33 (0,0)) (q1_ BK_1) hb);have n_2_:=J (blk_below (g:=gb_2) (o:=.cells #[.slice A1_0 l1_0.length c1_0,.slice A1_1 l1_1.length c1_1,.slice A1_2 l1_2.length c1_2,.slice A1_3 l1_3.length c1_3,.slice A1_4 l1_4.length c1_4,.slice A1_5 l1_5.length c1_5,.int .i64 a1_6,.int .i64 a1_7,.slice A1_8 l1_8.length c1_8,.slice A1_9 l1_9.length c1_9,.slice A1_10 l1_10.length c1_10] 33 (0,0)) (q1_ BK_2) hb);have n_3_:=J (below_step (q3_ HB GE_1 GE_2) hb);clear BK_1 BK_2 HB;have BK_1:=n_1_;have BK_2:=n_2_;have HB:=n_3_;clear n_1_ n_2_ n_3_;(try clear hb);(try clear hb_1);obtain ⟨hcz_16__2,hcz_16__3,hcz_16__4,hcz_16__5,hcz_16__6,hcz_16__7,hcz_16__8,hcz_16__9,hcz_16__10,hcz_16__11,hcz_16__12,hfz_16__2,hfz_16__3,hfz_16__4,hfz_16__5,hfz_16__6,hfz_16__7,hfz_16__8,hfz_16__9,hfz_16__10,hfz_16__11,hfz_16__12⟩:=bz11_ BK_1;obtain ⟨hcz_17__2,hcz_17__3,hcz_17__4,hcz_17__5,hcz_17__6,hcz_17__7,hcz_17__8,hcz_17__9,hcz_17__10,hcz_17__11,hcz_17__12,hfz_17__2,hfz_17__3,hfz_17__4,hfz_17__5,hfz_17__6,hfz_17__7,hfz_17__8,hfz_17__9,hfz_17__10,hfz_17__11,hfz_17__12⟩:=bz11_ BK_2) | ((with_reducible refine G (f:=34) rfl ?_);refine goesM_ (some 61) Try.func34 #[.slice A0_9 l0_9.length c0_9,.slice A1_9 l1_9.length c1_9] ?_;(with_reducible refine (laws_eqIntS.calls k _ _ l0_9 _ _ l1_9 _ _ ?side_1 ?side_2 ?side_3 ?side_4 A_14.out).mono ?_);(case side_1=>repeat (first | exact (Kd.C_below HR0_9.out HB.out) | (with_reducible refine Y ?_ _) | (with_reducible refine E ?_ _) | (with_reducible refine U ?_)));(case side_2=>exact HC0_9.out);(case side_3=>repeat (first | exact (Kd.C_below HR1_9.out HB.out) | (with_reducible refine Y ?_ _) | (with_reducible refine E ?_ _) | (with_reducible refine U ?_)));(case side_4=>exact HC1_9.out);rintro e w' ⟨rfl,⟨nd,rfl⟩⟩;refine ⟨_,rfl,?_⟩) | ((with_reducible refine G (f:=34) rfl ?_);refine goesM_ (some 67) Try.func34 #[.slice A0_10 l0_10.length c0_10,.slice A1_10 l1_10.length c1_10] ?_;(with_reducible refine (laws_eqIntS.calls k _ _ l0_10 _ _ l1_10 _ _ ?side_1 ?side_2 ?side_3 ?side_4 A_16.out).mono ?_);(case side_1=>repeat (first | exact (Kd.C_below HR0_10.out (q3_ HB GE_1 GE_2)) | (with_reducible refine Y ?_ _) | (with_reducible refine E ?_ _) | (with_reducible refine U ?_)));(case side_2=>exact HC0_10.out);(case side_3=>repeat (first | exact (Kd.C_below HR1_10.out (q3_ HB GE_1 GE_2)) | (with_reducible refine Y ?_ _) | (with_reducible refine E ?_ _) | (with_reducible refine U ?_)));(case side_4=>exact HC1_10.out);rintro e w' ⟨rfl,⟨nd,rfl⟩⟩;refine ⟨_,rfl,?_⟩))
 all_goals
  go_ret
  exact ⟨by first | rfl | (simp [errW_none,errW_some] <;> rfl) | (simp [*,errW_none,errW_some] <;> rfl),by repeat (first | (with_reducible first | exact HB.out | apply below_alloc | apply pw_below_drewN | apply below_drew1 | refine below_set ?_ GE_1.out | refine below_set ?_ GE_2.out) | exact HB.out)⟩
end Go.Proofs.Ythbflhimmmfonaa.P

namespace Go.Proofs.Ythbflhimmmfonaa.P
open Go.RowKit Go.Proofs.YthbflhimmmfonaaW.PrintWords Go.Proofs.YthbflhimmmfonaaW.PrintLast Go.Proofs.YthbflhimmmfonaaW.PrintMore
attribute [local go_sem] max2_int min2_int max_two min_two max_three min_three max_four min_four
set_option linter.unusedVariables false
set_option linter.unusedSimpArgs false
def spec_l3Ints.l0 : Nat → List Int → List Int → Int → Option (Bool)
 | 0,_,_,_=>none
 | k + 1,x0,x1,x5=>if x5 < (x0.length : Int) then (if 0 ≤ x5 then (if x5 < (x1.length : Int) then (if (rd x0 x5) = (rd x1 x5) then (spec_l3Ints.l0 k x0 x1 (wrap64 (x5 + 1))) else (some false)) else (none)) else (none)) else (some true)
def spec_l3Ints.f (k : Nat) (l0 : List Int) (l1 : List Int) : Option (Bool):=if (l0.length : Int) = (l1.length : Int) then (spec_l3Ints.l0 k l0 l1 0) else (some false)
set_option maxHeartbeats 8000000 in
set_option maxRecDepth 100000 in
theorem spec_l3Ints.calls (k : Nat) (A0 : Option Addr) (c0 : Nat) (l0 : List Int) (A1 : Option Addr) (c1 : Nat) (l1 : List Int) (r : Bool) (w : World) (hr0 : Kd.C (Kd.int .i64) w A0 l0.length l0) (hc0 : l0.length ≤ c0) (hr1 : Kd.C (Kd.int .i64) w A1 l1.length l1) (hc1 : l1.length ≤ c1) (h : spec_l3Ints.f k l0 l1 = some r) :
  Calls Try.prog 40 #[.slice A0 l0.length c0,.slice A1 l1.length c1] w fun e w'=>e = .returned (.bool r) ∧ Drawn0 w w':=by
 have HR0:=Aside0.mk hr0;have HC0:=Aside0.mk hc0;clear hr0 hc0;have HR1:=Aside0.mk hr1;have HC1:=Aside0.mk hc1;clear hr1 hc1;have H : (if (l0.length : Int) = (l1.length : Int) then (spec_l3Ints.l0 k l0 l1 0) else (some false)) = some r:=h;clear h
 by_cases c3 : (l0.length : Int) = (l1.length : Int)
 ·rw [if_pos c3] at H;have c3b0 : ((l0.length : Int) == (l1.length : Int)) = true:=beq_iff_eq.mpr c3;have c3b1 : ((l0.length : Int) != (l1.length : Int)) = false:=bne_eq_false_iff_eq.mpr c3
  have c3b2 : (l0.length == l1.length) = true:=by first | simpa using c3 | (simp at c3 ⊢;omega)
  clear c3;have H':=Aside0.mk H;clear H;go_enter Try.func40,Try.ntmps40
  go_wp2
  repeat (go_quiet (fail);try go_wp2)
  go_loopg [5] k (fun kq v5 w'=>∃ (x5_1 : Int),v5 = .int .i64 x5_1 ∧ Aside0 (spec_l3Ints.l0 kq l0 l1 x5_1 = some r) ∧ Aside0 (kq ≤ k) ∧ Drawn0 w w')
  case atStart=>exact ⟨(0),(by first | rfl | (simp;done) | (simp [*];done)),H',⟨Nat.le_refl _⟩,by repeat (first | exact Drawn0.refl _ | apply Drawn0.step)⟩
  case round =>
   clear H';(try clear c1);(try clear p2);(try clear c3);(try clear c3b0);(try clear c3b1);(try clear c3b2);obtain ⟨x5_1,rfl,HA,HK1,⟨m1,rfl⟩⟩:=hrel
   cases gk with
   | zero=>exact absurd HA.out (by simp [spec_l3Ints.l0])
   | succ k1 =>
    have H:=HA.out;clear HA;simp only [spec_l3Ints.l0] at H
    by_cases c4 : x5_1 < (l0.length : Int)
    ·rw [if_pos c4] at H;have c4b0 : decide (x5_1 < (l0.length : Int)) = true:=decide_eq_true c4;clear c4
     by_cases c5 : 0 ≤ x5_1
     ·rw [if_pos c5] at H;have c5b0 : decide (0 ≤ x5_1) = true:=decide_eq_true c5;clear c5
      by_cases c6 : x5_1 < (l1.length : Int)
      ·rw [if_pos c6] at H;have c6b0 : decide (x5_1 < (l1.length : Int)) = true:=decide_eq_true c6;clear c6
       by_cases c7 : (rd l0 x5_1) = (rd l1 x5_1)
       ·rw [if_pos c7] at H;have c7b0 : ((rd l0 x5_1) == (rd l1 x5_1)) = true:=beq_iff_eq.mpr c7;have c7b1 : ((rd l0 x5_1) != (rd l1 x5_1)) = false:=bne_eq_false_iff_eq.mpr c7;clear c7;have H':=Aside0.mk H;clear H
        have p119 : 0 ≤ (x5_1 : Int):=of_decide_eq_true (by first | (with_reducible assumption) | assumption)
        have q119 : x5_1 < (l0.length : Int):=of_decide_eq_true (by first | (with_reducible assumption) | assumption)
        obtain ⟨ad119,e119,hx119_0⟩:=Kd.at_int HR0.out x5_1 p119 q119
        cases e119
        replace p119:=eq_true p119;replace q119:=eq_true q119
        have p120 : 0 ≤ (x5_1 : Int):=of_decide_eq_true (by first | (with_reducible assumption) | assumption)
        have q120 : x5_1 < (l1.length : Int):=of_decide_eq_true (by first | (with_reducible assumption) | assumption)
        obtain ⟨ad120,e120,hx120_0⟩:=Kd.at_int HR1.out x5_1 p120 q120
        cases e120
        replace p120:=eq_true p120;replace q120:=eq_true q120
        go_wp2
        repeat (go_quiet (fail);try go_wp2)
        go_roundg k1
        case measure=>have:=HK1.out;omega
        case rel=>exact ⟨(wrap64 (x5_1 + 1)),(by first | rfl | (simp;done) | (simp [*];done)),H',⟨by have:=HK1.out;omega⟩,by repeat (first | exact Drawn0.refl _ | apply Drawn0.step)⟩
       ·rw [if_neg c7] at H;have c7b0 : ((rd l0 x5_1) == (rd l1 x5_1)) = false:=beq_eq_false_iff_ne.mpr c7;have c7b1 : ((rd l0 x5_1) != (rd l1 x5_1)) = true:=bne_iff_ne.mpr c7;obtain rfl:=Option.some.inj H
        have p119 : 0 ≤ (x5_1 : Int):=of_decide_eq_true (by first | (with_reducible assumption) | assumption)
        have q119 : x5_1 < (l0.length : Int):=of_decide_eq_true (by first | (with_reducible assumption) | assumption)
        obtain ⟨ad119,e119,hx119_0⟩:=Kd.at_int HR0.out x5_1 p119 q119
        cases e119
        replace p119:=eq_true p119;replace q119:=eq_true q119
        have p120 : 0 ≤ (x5_1 : Int):=of_decide_eq_true (by first | (with_reducible assumption) | assumption)
        have q120 : x5_1 < (l1.length : Int):=of_decide_eq_true (by first | (with_reducible assumption) | assumption)
        obtain ⟨ad120,e120,hx120_0⟩:=Kd.at_int HR1.out x5_1 p120 q120
        cases e120
        replace p120:=eq_true p120;replace q120:=eq_true q120
        go_wp2
        repeat (go_quiet (fail);try go_wp2)
        go_ret
        exact ⟨by first | rfl | (simp;done) | (simp [*];done),by repeat (first | exact Drawn0.refl _ | apply Drawn0.step)⟩
      ·rw [if_neg c6] at H
       exact absurd H (by simp)
     ·rw [if_neg c5] at H
      exact absurd H (by simp)
    ·rw [if_neg c4] at H;have c4b0 : decide (x5_1 < (l0.length : Int)) = false:=decide_eq_false c4;clear c4;obtain rfl:=Option.some.inj H
     go_wp2
     repeat (go_quiet (fail);try go_wp2)
     go_ret
     exact ⟨by first | rfl | (simp;done) | (simp [*];done),by repeat (first | exact Drawn0.refl _ | apply Drawn0.step)⟩
 ·rw [if_neg c3] at H;have c3b0 : ((l0.length : Int) == (l1.length : Int)) = false:=beq_eq_false_iff_ne.mpr c3;have c3b1 : ((l0.length : Int) != (l1.length : Int)) = true:=bne_iff_ne.mpr c3
  have c3b2 : (l0.length == l1.length) = false:=by first | simpa using c3 | (simp at c3 ⊢;omega)
  obtain rfl:=Option.some.inj H;go_enter Try.func40,Try.ntmps40
  go_wp2
  repeat (go_quiet (fail);try go_wp2)
  go_ret
  exact ⟨by first | rfl | (simp;done) | (simp [*];done),by repeat (first | exact Drawn0.refl _ | apply Drawn0.step)⟩
def spec_l5Lists.l0 : Nat → List (List Int) → List (List Int) → Int → Option (Bool)
 | 0,_,_,_=>none
 | k + 1,x0,x1,x5=>if x5 < (x0.length : Int) then (if 0 ≤ x5 then (if x5 < (x1.length : Int) then ((spec_l3Ints.f k (rd_L1 x0 x5) (rd_L1 x1 x5)).bind fun t123=>(if t123 = true then (spec_l5Lists.l0 k x0 x1 (wrap64 (x5 + 1))) else (some false))) else (none)) else (none)) else (some true)
def spec_l5Lists.f (k : Nat) (l0 : List (List Int)) (l1 : List (List Int)) : Option (Bool):=if (l0.length : Int) = (l1.length : Int) then (spec_l5Lists.l0 k l0 l1 0) else (some false)
set_option maxHeartbeats 8000000 in
set_option maxRecDepth 100000 in
theorem spec_l5Lists.calls (k : Nat) (A0 : Option Addr) (c0 : Nat) (l0 : List (List Int)) (A1 : Option Addr) (c1 : Nat) (l1 : List (List Int)) (r : Bool) (w : World) (hr0 : Kd.C (Kd.slice 3 (Kd.int .i64)) w A0 l0.length l0) (hc0 : l0.length ≤ c0) (hr1 : Kd.C (Kd.slice 3 (Kd.int .i64)) w A1 l1.length l1) (hc1 : l1.length ≤ c1) (h : spec_l5Lists.f k l0 l1 = some r) :
  Calls Try.prog 41 #[.slice A0 l0.length c0,.slice A1 l1.length c1] w fun e w'=>e = .returned (.bool r) ∧ Drawn0 w w':=by
 have HR0:=Aside0.mk hr0;have HC0:=Aside0.mk hc0;clear hr0 hc0;have HR1:=Aside0.mk hr1;have HC1:=Aside0.mk hc1;clear hr1 hc1;have H : (if (l0.length : Int) = (l1.length : Int) then (spec_l5Lists.l0 k l0 l1 0) else (some false)) = some r:=h;clear h
 by_cases c3 : (l0.length : Int) = (l1.length : Int)
 ·rw [if_pos c3] at H;have c3b0 : ((l0.length : Int) == (l1.length : Int)) = true:=beq_iff_eq.mpr c3;have c3b1 : ((l0.length : Int) != (l1.length : Int)) = false:=bne_eq_false_iff_eq.mpr c3
  have c3b2 : (l0.length == l1.length) = true:=by first | simpa using c3 | (simp at c3 ⊢;omega)
  clear c3;have H':=Aside0.mk H;clear H;go_enter Try.func41,Try.ntmps41
  go_wp2
  repeat (go_quiet (fail);try go_wp2)
  go_loopg [5] k (fun kq v5 w'=>∃ (x5_1 : Int),v5 = .int .i64 x5_1 ∧ Aside0 (spec_l5Lists.l0 kq l0 l1 x5_1 = some r) ∧ Aside0 (kq ≤ k) ∧ Drawn0 w w')
  case atStart=>exact ⟨(0),(by first | rfl | (simp;done) | (simp [*];done)),H',⟨Nat.le_refl _⟩,by repeat (first | exact Drawn0.refl _ | apply Drawn0.step)⟩
  case round =>
   clear H';(try clear c1);(try clear p2);(try clear c3);(try clear c3b0);(try clear c3b1);(try clear c3b2);obtain ⟨x5_1,rfl,HA,HK1,⟨m1,rfl⟩⟩:=hrel
   cases gk with
   | zero=>exact absurd HA.out (by simp [spec_l5Lists.l0])
   | succ k1 =>
    have H:=HA.out;clear HA;simp only [spec_l5Lists.l0] at H
    by_cases c_1 : x5_1 < (l0.length : Int)
    rw [if_pos c_1] at H;have c_1b0 : decide (x5_1 < (l0.length : Int)) = true:=decide_eq_true c_1;clear c_1
    by_cases c_2 : 0 ≤ x5_1
    rw [if_pos c_2] at H;have c_2b0 : decide (0 ≤ x5_1) = true:=decide_eq_true c_2;clear c_2
    by_cases c_3 : x5_1 < (l1.length : Int)
    rw [if_pos c_3] at H;have c_3b0 : decide (x5_1 < (l1.length : Int)) = true:=decide_eq_true c_3;clear c_3;replace H:=Option.bind_eq_some_iff.mp H;obtain ⟨t_1,A_1,H⟩:=H;replace H : (if t_1 = true then (spec_l5Lists.l0 k1 l0 l1 (wrap64 (x5_1 + 1))) else (some false)) = some r:=H;have A_2:=Aside0.mk A_1;clear A_1
    by_cases c_4 : t_1 = true
    subst c_4
    have H_1 : (spec_l5Lists.l0 k1 l0 l1 (wrap64 (x5_1 + 1))) = some r:=by rw [if_pos rfl] at H;exact H
    clear H;have H:=H_1;clear H_1;have H':=Aside0.mk H;clear H
    have fk0_:=trivial
    rotate_left
    replace c_4:=Bool.eq_false_iff.mpr c_4;subst c_4
    have H_1 : (some false) = some r:=by rw [if_neg (show ¬ (false = true) by decide)] at H;exact H
    clear H;have H:=H_1;clear H_1;obtain rfl:=Option.some.inj H
    have fk1_:=trivial
    rotate_left
    ·rw [if_neg c_3] at H
     exact absurd H (by simp)
    ·rw [if_neg c_2] at H
     exact absurd H (by simp)
    ·rw [if_neg c_1] at H;have c_1b0 : decide (x5_1 < (l0.length : Int)) = false:=decide_eq_false c_1;clear c_1;obtain rfl:=Option.some.inj H
     go_wp2
     repeat (go_quiet (fail);try go_wp2)
     go_ret
     exact ⟨by first | rfl | (simp;done) | (simp [*];done),by repeat (first | exact Drawn0.refl _ | apply Drawn0.step)⟩
    all_goals
     have p_1 : 0 ≤ (x5_1 : Int):=of_decide_eq_true (by first | (with_reducible assumption) | assumption)
     have q_1 : x5_1 < (l0.length : Int):=of_decide_eq_true (by first | (with_reducible assumption) | assumption)
     obtain ⟨ad_1,A_1__2,c_1__2,e_1,hx_1__2,hl_1__2,hi_1__2⟩:=at_L1 HR0.out x5_1 p_1 q_1
     cases e_1
     have HR_1__2:=Aside0.mk hi_1__2;have HC_1__2:=Aside0.mk hl_1__2;clear hi_1__2 hl_1__2;replace p_1:=eq_true p_1;replace q_1:=eq_true q_1
     have p_2 : 0 ≤ (x5_1 : Int):=of_decide_eq_true (by first | (with_reducible assumption) | assumption)
     have q_2 : x5_1 < (l1.length : Int):=of_decide_eq_true (by first | (with_reducible assumption) | assumption)
     obtain ⟨ad_2,A_3__2,c_3__2,e_2,hx_3__2,hl_3__2,hi_3__2⟩:=at_L1 HR1.out x5_1 p_2 q_2
     cases e_2
     have HR_3__2:=Aside0.mk hi_3__2;have HC_3__2:=Aside0.mk hl_3__2;clear hi_3__2 hl_3__2;replace p_2:=eq_true p_2;replace q_2:=eq_true q_2
     go_wp2_with (first | (go_at_call 40;(with_reducible refine (spec_l3Ints.calls k1 _ _ (rd_L1 l0 x5_1) _ _ (rd_L1 l1 x5_1) _ _ ?side_1 ?side_2 ?side_3 ?side_4 A_2.out).mono ?_);(case side_1=>repeat (first | exact HR_1__2.out | (with_reducible refine Kd.C_alloc ?_ _) | (with_reducible refine Kd.C_drewN ?_ _) | (with_reducible refine Kd.C_drew ?_)));(case side_2=>exact HC_1__2.out);(case side_3=>repeat (first | exact HR_3__2.out | (with_reducible refine Kd.C_alloc ?_ _) | (with_reducible refine Kd.C_drewN ?_ _) | (with_reducible refine Kd.C_drew ?_)));(case side_4=>exact HC_3__2.out);rintro e w' ⟨rfl,⟨nd,rfl⟩⟩;(try first | exact ⟨rfl,_,World.drewN_drewN _ _ _⟩ | exact ⟨rfl,_,Eq.trans (World.drewN_drewN _ _ _) (congrArg (World.drewN _) (Nat.add_assoc _ _ _))⟩)))
    all_goals first
     |
      clear fk0_
      repeat (go_quiet (first | (go_at_call 40;(with_reducible refine (spec_l3Ints.calls k1 _ _ (rd_L1 l0 x5_1) _ _ (rd_L1 l1 x5_1) true _ ?side_1 ?side_2 ?side_3 ?side_4 A_2.out).mono ?_);(case side_1=>repeat (first | exact HR_1__2.out | (with_reducible refine Kd.C_alloc ?_ _) | (with_reducible refine Kd.C_drewN ?_ _) | (with_reducible refine Kd.C_drew ?_)));(case side_2=>exact HC_1__2.out);(case side_3=>repeat (first | exact HR_3__2.out | (with_reducible refine Kd.C_alloc ?_ _) | (with_reducible refine Kd.C_drewN ?_ _) | (with_reducible refine Kd.C_drew ?_)));(case side_4=>exact HC_3__2.out);rintro e w' ⟨rfl,⟨nd,rfl⟩⟩;(try first | exact ⟨rfl,_,World.drewN_drewN _ _ _⟩ | exact ⟨rfl,_,Eq.trans (World.drewN_drewN _ _ _) (congrArg (World.drewN _) (Nat.add_assoc _ _ _))⟩)));try go_wp2_with (first | (go_at_call 40;(with_reducible refine (spec_l3Ints.calls k1 _ _ (rd_L1 l0 x5_1) _ _ (rd_L1 l1 x5_1) true _ ?side_1 ?side_2 ?side_3 ?side_4 A_2.out).mono ?_);(case side_1=>repeat (first | exact HR_1__2.out | (with_reducible refine Kd.C_alloc ?_ _) | (with_reducible refine Kd.C_drewN ?_ _) | (with_reducible refine Kd.C_drew ?_)));(case side_2=>exact HC_1__2.out);(case side_3=>repeat (first | exact HR_3__2.out | (with_reducible refine Kd.C_alloc ?_ _) | (with_reducible refine Kd.C_drewN ?_ _) | (with_reducible refine Kd.C_drew ?_)));(case side_4=>exact HC_3__2.out);rintro e w' ⟨rfl,⟨nd,rfl⟩⟩;(try first | exact ⟨rfl,_,World.drewN_drewN _ _ _⟩ | exact ⟨rfl,_,Eq.trans (World.drewN_drewN _ _ _) (congrArg (World.drewN _) (Nat.add_assoc _ _ _))⟩))))
      go_roundg k1
      case measure=>have:=HK1.out;omega
      case rel=>exact ⟨(wrap64 (x5_1 + 1)),(by first | rfl | (simp;done) | (simp [*];done)),H',⟨by have:=HK1.out;omega⟩,by repeat (first | exact Drawn0.refl _ | apply Drawn0.step)⟩
     |
      clear fk1_
      repeat (go_quiet (first | (go_at_call 40;(with_reducible refine (spec_l3Ints.calls k1 _ _ (rd_L1 l0 x5_1) _ _ (rd_L1 l1 x5_1) false _ ?side_1 ?side_2 ?side_3 ?side_4 A_2.out).mono ?_);(case side_1=>repeat (first | exact HR_1__2.out | (with_reducible refine Kd.C_alloc ?_ _) | (with_reducible refine Kd.C_drewN ?_ _) | (with_reducible refine Kd.C_drew ?_)));(case side_2=>exact HC_1__2.out);(case side_3=>repeat (first | exact HR_3__2.out | (with_reducible refine Kd.C_alloc ?_ _) | (with_reducible refine Kd.C_drewN ?_ _) | (with_reducible refine Kd.C_drew ?_)));(case side_4=>exact HC_3__2.out);rintro e w' ⟨rfl,⟨nd,rfl⟩⟩;(try first | exact ⟨rfl,_,World.drewN_drewN _ _ _⟩ | exact ⟨rfl,_,Eq.trans (World.drewN_drewN _ _ _) (congrArg (World.drewN _) (Nat.add_assoc _ _ _))⟩)));try go_wp2_with (first | (go_at_call 40;(with_reducible refine (spec_l3Ints.calls k1 _ _ (rd_L1 l0 x5_1) _ _ (rd_L1 l1 x5_1) false _ ?side_1 ?side_2 ?side_3 ?side_4 A_2.out).mono ?_);(case side_1=>repeat (first | exact HR_1__2.out | (with_reducible refine Kd.C_alloc ?_ _) | (with_reducible refine Kd.C_drewN ?_ _) | (with_reducible refine Kd.C_drew ?_)));(case side_2=>exact HC_1__2.out);(case side_3=>repeat (first | exact HR_3__2.out | (with_reducible refine Kd.C_alloc ?_ _) | (with_reducible refine Kd.C_drewN ?_ _) | (with_reducible refine Kd.C_drew ?_)));(case side_4=>exact HC_3__2.out);rintro e w' ⟨rfl,⟨nd,rfl⟩⟩;(try first | exact ⟨rfl,_,World.drewN_drewN _ _ _⟩ | exact ⟨rfl,_,Eq.trans (World.drewN_drewN _ _ _) (congrArg (World.drewN _) (Nat.add_assoc _ _ _))⟩))))
      go_ret
      exact ⟨by first | rfl | (simp;done) | (simp [*];done),by repeat (first | exact Drawn0.refl _ | apply Drawn0.step)⟩
 ·rw [if_neg c3] at H;have c3b0 : ((l0.length : Int) == (l1.length : Int)) = false:=beq_eq_false_iff_ne.mpr c3;have c3b1 : ((l0.length : Int) != (l1.length : Int)) = true:=bne_iff_ne.mpr c3
  have c3b2 : (l0.length == l1.length) = false:=by first | simpa using c3 | (simp at c3 ⊢;omega)
  obtain rfl:=Option.some.inj H;go_enter Try.func41,Try.ntmps41
  go_wp2
  repeat (go_quiet (fail);try go_wp2)
  go_ret
  exact ⟨by first | rfl | (simp;done) | (simp [*];done),by repeat (first | exact Drawn0.refl _ | apply Drawn0.step)⟩
attribute [local go_sem high] eqA74
def spec_l5Said.l0 : Nat → List (S74) → List (S74) → Int → Option (Bool)
 | 0,_,_,_=>none
 | k + 1,x0,x1,x5=>if x5 < (x0.length : Int) then (if 0 ≤ x5 then (if x5 < (x1.length : Int) then (if (!(((rd_T74 x0 x5).f0) == ((rd_T74 x1 x5).f0)) || (!(((rd_T74 x0 x5).f1) == ((rd_T74 x1 x5).f1)))) = true then (some false) else (spec_l5Said.l0 k x0 x1 (wrap64 (x5 + 1)))) else (none)) else (none)) else (some true)
def spec_l5Said.f (k : Nat) (l0 : List (S74)) (l1 : List (S74)) : Option (Bool):=if (l0.length : Int) = (l1.length : Int) then (spec_l5Said.l0 k l0 l1 0) else (some false)
set_option maxHeartbeats 8000000 in
set_option maxRecDepth 100000 in
theorem spec_l5Said.calls (k : Nat) (A0 : Option Addr) (c0 : Nat) (l0 : List (S74)) (A1 : Option Addr) (c1 : Nat) (l1 : List (S74)) (r : Bool) (w : World) (hr0 : Kd.C k74 w A0 l0.length l0) (hc0 : l0.length ≤ c0) (hr1 : Kd.C k74 w A1 l1.length l1) (hc1 : l1.length ≤ c1) (h : spec_l5Said.f k l0 l1 = some r) :
  Calls Try.prog 39 #[.slice A0 l0.length c0,.slice A1 l1.length c1] w fun e w'=>e = .returned (.bool r) ∧ Drawn0 w w':=by
 have hu74:=Try.underlying74;have HR0:=Aside0.mk hr0;have HC0:=Aside0.mk hc0;clear hr0 hc0;have HR1:=Aside0.mk hr1;have HC1:=Aside0.mk hc1;clear hr1 hc1;have H : (if (l0.length : Int) = (l1.length : Int) then (spec_l5Said.l0 k l0 l1 0) else (some false)) = some r:=h;clear h
 by_cases c3 : (l0.length : Int) = (l1.length : Int)
 ·rw [if_pos c3] at H;have c3b0 : ((l0.length : Int) == (l1.length : Int)) = true:=beq_iff_eq.mpr c3;have c3b1 : ((l0.length : Int) != (l1.length : Int)) = false:=bne_eq_false_iff_eq.mpr c3
  have c3b2 : (l0.length == l1.length) = true:=by first | simpa using c3 | (simp at c3 ⊢;omega)
  clear c3;have H':=Aside0.mk H;clear H;go_enter Try.func39,Try.ntmps39
  go_wp2
  repeat (go_quiet (fail);try go_wp2)
  go_loopg [5] k (fun kq v5 w'=>∃ (x5_1 : Int),v5 = .int .i64 x5_1 ∧ Aside0 (spec_l5Said.l0 kq l0 l1 x5_1 = some r) ∧ Aside0 (kq ≤ k) ∧ Drawn0 w w')
  case atStart=>exact ⟨(0),(by first | rfl | (simp;done) | (simp [*];done)),H',⟨Nat.le_refl _⟩,by repeat (first | exact Drawn0.refl _ | apply Drawn0.step)⟩
  case round =>
   clear H';(try clear c1);(try clear p2);(try clear c3);(try clear c3b0);(try clear c3b1);(try clear c3b2);obtain ⟨x5_1,rfl,HA,HK1,⟨m1,rfl⟩⟩:=hrel
   cases gk with
   | zero=>exact absurd HA.out (by simp [spec_l5Said.l0])
   | succ k1 =>
    have H:=HA.out;clear HA;simp only [spec_l5Said.l0] at H
    by_cases c4 : x5_1 < (l0.length : Int)
    ·rw [if_pos c4] at H;have c4b0 : decide (x5_1 < (l0.length : Int)) = true:=decide_eq_true c4;clear c4
     by_cases c5 : 0 ≤ x5_1
     ·rw [if_pos c5] at H;have c5b0 : decide (0 ≤ x5_1) = true:=decide_eq_true c5;clear c5
      by_cases c6 : x5_1 < (l1.length : Int)
      ·rw [if_pos c6] at H;have c6b0 : decide (x5_1 < (l1.length : Int)) = true:=decide_eq_true c6;clear c6
       by_cases c7 : (!(((rd_T74 l0 x5_1).f0) == ((rd_T74 l1 x5_1).f0)) || (!(((rd_T74 l0 x5_1).f1) == ((rd_T74 l1 x5_1).f1)))) = true
       ·rw [if_pos c7] at H;have c7b0 : (!(((rd_T74 l0 x5_1).f0) == ((rd_T74 l1 x5_1).f0)) || (!(((rd_T74 l0 x5_1).f1) == ((rd_T74 l1 x5_1).f1)))) = true:=c7;clear c7;obtain rfl:=Option.some.inj H
        have p117 : 0 ≤ (x5_1 : Int):=of_decide_eq_true (by first | (with_reducible assumption) | assumption)
        have q117 : x5_1 < (l0.length : Int):=of_decide_eq_true (by first | (with_reducible assumption) | assumption)
        obtain ⟨ad117,e117,hx117_0,hx117_1⟩:=at_T74 HR0.out x5_1 p117 q117
        cases e117
        replace p117:=eq_true p117;replace q117:=eq_true q117
        have p118 : 0 ≤ (x5_1 : Int):=of_decide_eq_true (by first | (with_reducible assumption) | assumption)
        have q118 : x5_1 < (l1.length : Int):=of_decide_eq_true (by first | (with_reducible assumption) | assumption)
        obtain ⟨ad118,e118,hx118_0,hx118_1⟩:=at_T74 HR1.out x5_1 p118 q118
        cases e118
        replace p118:=eq_true p118;replace q118:=eq_true q118
        go_wp2
        repeat (go_quiet (fail);try go_wp2)
        go_ret
        exact ⟨by first | rfl | (simp;done) | (simp [*];done),by repeat (first | exact Drawn0.refl _ | apply Drawn0.step)⟩
       ·rw [if_neg c7] at H
        have c7b0 : (!(((rd_T74 l0 x5_1).f0) == ((rd_T74 l1 x5_1).f0)) || (!(((rd_T74 l0 x5_1).f1) == ((rd_T74 l1 x5_1).f1)))) = false:=by simpa using c7
        clear c7;have H':=Aside0.mk H;clear H
        have p117 : 0 ≤ (x5_1 : Int):=of_decide_eq_true (by first | (with_reducible assumption) | assumption)
        have q117 : x5_1 < (l0.length : Int):=of_decide_eq_true (by first | (with_reducible assumption) | assumption)
        obtain ⟨ad117,e117,hx117_0,hx117_1⟩:=at_T74 HR0.out x5_1 p117 q117
        cases e117
        replace p117:=eq_true p117;replace q117:=eq_true q117
        have p118 : 0 ≤ (x5_1 : Int):=of_decide_eq_true (by first | (with_reducible assumption) | assumption)
        have q118 : x5_1 < (l1.length : Int):=of_decide_eq_true (by first | (with_reducible assumption) | assumption)
        obtain ⟨ad118,e118,hx118_0,hx118_1⟩:=at_T74 HR1.out x5_1 p118 q118
        cases e118
        replace p118:=eq_true p118;replace q118:=eq_true q118
        go_wp2
        repeat (go_quiet (fail);try go_wp2)
        go_roundg k1
        case measure=>have:=HK1.out;omega
        case rel=>exact ⟨(wrap64 (x5_1 + 1)),(by first | rfl | (simp;done) | (simp [*];done)),H',⟨by have:=HK1.out;omega⟩,by repeat (first | exact Drawn0.refl _ | apply Drawn0.step)⟩
      ·rw [if_neg c6] at H
       exact absurd H (by simp)
     ·rw [if_neg c5] at H
      exact absurd H (by simp)
    ·rw [if_neg c4] at H;have c4b0 : decide (x5_1 < (l0.length : Int)) = false:=decide_eq_false c4;clear c4;obtain rfl:=Option.some.inj H
     go_wp2
     repeat (go_quiet (fail);try go_wp2)
     go_ret
     exact ⟨by first | rfl | (simp;done) | (simp [*];done),by repeat (first | exact Drawn0.refl _ | apply Drawn0.step)⟩
 ·rw [if_neg c3] at H;have c3b0 : ((l0.length : Int) == (l1.length : Int)) = false:=beq_eq_false_iff_ne.mpr c3;have c3b1 : ((l0.length : Int) != (l1.length : Int)) = true:=bne_iff_ne.mpr c3
  have c3b2 : (l0.length == l1.length) = false:=by first | simpa using c3 | (simp at c3 ⊢;omega)
  obtain rfl:=Option.some.inj H;go_enter Try.func39,Try.ntmps39
  go_wp2
  repeat (go_quiet (fail);try go_wp2)
  go_ret
  exact ⟨by first | rfl | (simp;done) | (simp [*];done),by repeat (first | exact Drawn0.refl _ | apply Drawn0.step)⟩
end Go.Proofs.Ythbflhimmmfonaa.P
