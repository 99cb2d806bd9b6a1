/- Parts of the proof of FnCodeEnd: plain Lean functions of Go functions, and that the calls come to what they say; no condition beyond those that each theorem names. -/
import Derived.Test.YtphbdoljkpdflaaZFnCodeEnd5
import Derived.Test.YtphbdoljkpdflaaZFnCodeEnd12
namespace Go.Proofs.Ytphbdoljkpdflaa.P
open Go.RowKit Go.Proofs.YtphbdoljkpdflaaW.PrintWords Go.Proofs.YtphbdoljkpdflaaW.PrintLast Go.Proofs.YtphbdoljkpdflaaW.PrintMore
open Go.Proofs.YtphbdoljkpdflaaW.PrintWords renaming Aside0.mk → O, blk_frozen → Z, blk_cell → J, pw_below_drewN → Y, below_drew1 → E, below_alloc → U, below_set → G
open Option renaming some.inj → X
open Go.Proofs.Ytphbdoljkpdflaa.P renaming errW_some → Q, errW_none → W
attribute [local go_sem] max2_int min2_int max_two min_two max_three min_three max_four min_four
set_option linter.unusedVariables false
set_option linter.unusedSimpArgs false
mutual
def spec_l4Ins.j0 : Nat → Int → Bool → Int → Int → Int → Int → Option (Bool)
 | 0,_,_,_,_,_,_=>none
 | k + 1,x1,x5,x104000,x104001,x104002,x104003=>if x104000 = 1 then (spec_l4Ins.j1 k x1 x5 x104000 (x104000 == 1) x104000 x104001 x104002 x104003) else (if x104000 = 2 then (spec_l4Ins.j1 k x1 x5 x104000 (x104000 == 2) x104000 x104001 x104002 x104003) else (if x104000 = 3 then (spec_l4Ins.j1 k x1 x5 x104000 (x104000 == 3) x104000 x104001 x104002 x104003) else (if x104000 = 4 then (spec_l4Ins.j1 k x1 x5 x104000 (x104000 == 4) x104000 x104001 x104002 x104003) else (spec_l4Ins.j1 k x1 x5 x104000 (x104000 == 5) x104000 x104001 x104002 x104003))))
def spec_l4Ins.j1 : Nat → Int → Bool → Int → Bool → Int → Int → Int → Int → Option (Bool)
 | 0,_,_,_,_,_,_,_,_=>none
 | k + 1,x1,x5,x15,x16,x104000,x104001,x104002,x104003=>if x16 = true then ((spec_l2Leaf.f k x104000 x104001 x104002 x104003 ([] : List (S46)) ([] : List (S46)) (-1)).bind fun t104=>(some t104)) else (if x15 = 6 then (if x5 = true then (if x104002 = 0 then (if x104003 ≥ 0 then (some (decide (x104003 < x1))) else (some false)) else (some false)) else (some false)) else (if x15 = 7 then (if x104001 = 0 then (if x104002 = 0 then (if x104003 ≥ 0 then (some (decide (x104003 < x1))) else (some false)) else (some false)) else (some false)) else (if x15 = 8 then (spec_l4Ins.j2 k x15 (x15 == 8) x104000 x104001 x104002 x104003) else (spec_l4Ins.j2 k x15 (x15 == 9) x104000 x104001 x104002 x104003))))
def spec_l4Ins.j2 : Nat → Int → Bool → Int → Int → Int → Int → Option (Bool)
 | 0,_,_,_,_,_,_=>none
 | k + 1,x15,x72,x104000,x104001,x104002,x104003=>if x72 = true then (if x104001 ≥ 0 then (if x104001 < 2 then (if x104002 = 0 then (some (x104003 == 0)) else (some false)) else (some false)) else (some false)) else (if x15 = 10 then (spec_l4Ins.j3 k x15 (x15 == 10) x104000 x104001 x104002 x104003) else (spec_l4Ins.j3 k x15 (x15 == 11) x104000 x104001 x104002 x104003))
def spec_l4Ins.j3 : Nat → Int → Bool → Int → Int → Int → Int → Option (Bool)
 | 0,_,_,_,_,_,_=>none
 | k + 1,x15,x93,x104000,x104001,x104002,x104003=>if x93 = true then (if x104001 ≥ 0 then (if x104001 < 2 then (if x104002 = 0 then (some (x104003 == 0)) else (some false)) else (some false)) else (some false)) else (if x15 = 12 then (if x104001 = 0 then (if x104002 = 0 then (some (x104003 == 0)) else (some false)) else (some false)) else (if x15 = 13 then (if x104001 = 0 then (if x104002 = 0 then (some (x104003 == 0)) else (some false)) else (some false)) else (some false)))
end
def spec_l4Ins.f (k : Nat) (a0_0 : Int) (a0_1 : Int) (a0_2 : Int) (a0_3 : Int) (a1 : Int) : Option (Bool):=if a0_1 ≥ 0 then (spec_l4Ins.j0 k a1 (decide (a0_1 < 3)) a0_0 a0_1 a0_2 a0_3) else (spec_l4Ins.j0 k a1 false a0_0 a0_1 a0_2 a0_3)
set_option maxHeartbeats 8000000 in
set_option maxRecDepth 100000 in
theorem spec_l4Ins.calls (k : Nat) (a0_0 : Int) (a0_1 : Int) (a0_2 : Int) (a0_3 : Int) (a1 : Int) (r : Bool) (w : World) (h : spec_l4Ins.f k a0_0 a0_1 a0_2 a0_3 a1 = some r) :
  Calls Try.prog 33 #[.agg #[.int .i64 a0_0,.int .i64 a0_1,.int .i64 a0_2,.int .i64 a0_3],.int .i64 a1] w fun e w'=>e = .returned (.bool r) ∧ Below w.heap.size w w':=by
 have hu42:=Try.underlying42;have hu46:=Try.underlying46;have HB:=O (Below.refl w.heap.size w);have H : (if a0_1 ≥ 0 then (spec_l4Ins.j0 k a1 (decide (a0_1 < 3)) a0_0 a0_1 a0_2 a0_3) else (spec_l4Ins.j0 k a1 false a0_0 a0_1 a0_2 a0_3)) = some r:=h;clear h;have HC3:=O H;clear H;go_enter Try.func33,Try.ntmps33
 go_upto_region 1 with (first | ((with_reducible refine gate_dst (N:=2) rfl ?_);refine box_event ?hg (N:=2) ?hd (cs:=#[.int .i64 a0_0,.int .i64 a0_1,.int .i64 a0_2,.int .i64 a0_3]) (t:=42) ?hr ?_;(case hd=>rfl);(case hg=>rfl);(case hr=>first | (go_simp;done) | (go_simp;rfl));intro gb103 hg w4 hbox hb;have n0_:=O (below_step (q0_ HB) hb);have n1_:=O (hbox);have n2_:=O ((by rw [hg];exact (below_size (q0_ HB)) : w.heap.size ≤ gb103));have n3_:=O ((by rw [hg];exact (below_size (q0_ HB)) : w.heap.size ≤ gb103));clear HB;have HB:=n0_;have BK103:=n1_;have GW103:=n2_;have GE103:=n3_;clear n0_ n1_ n2_ n3_ hb hbox hg))
 (try simp only [Act.put,List.setIfInBounds_toArray,List.set_cons_zero,List.set_cons_succ])
 go_cut [5] (fun v5 wc=>∃ (kq : Nat) (x5_2 : Bool),v5 = .bool x5_2 ∧ Aside0 (spec_l4Ins.j0 kq a1 x5_2 a0_0 a0_1 a0_2 a0_3 = some r) ∧ Aside0 (kq ≤ k) ∧ Aside0 (wc.heap[gb103]? = some (.cells #[.int .i64 a0_0,.int .i64 a0_1,.int .i64 a0_2,.int .i64 a0_3] 42 (0,0))) ∧ Aside0 (Below w.heap.size w wc))
 case first =>
  have H:=HC3.out;clear HC3
  by_cases c5 : a0_1 ≥ 0
  ·rw [if_pos c5] at H;have c5b0 : decide (0 ≤ a0_1) = true:=decide_eq_true c5;clear c5
   (first | rw [c5b0] | (simp only [i64_w,i32_w];rw [c5b0]) | skip)
   have H':=O H;clear H;have hcz6_0 : w4.cell? ⟨gb103,0,none⟩ = some (.int .i64 a0_0):=(J BK103.out 0).trans rfl;have hcz6_1 : w4.cell? ⟨gb103,1,none⟩ = some (.int .i64 a0_1):=(J BK103.out 1).trans rfl;have hcz6_2 : w4.cell? ⟨gb103,2,none⟩ = some (.int .i64 a0_2):=(J BK103.out 2).trans rfl;have hcz6_3 : w4.cell? ⟨gb103,3,none⟩ = some (.int .i64 a0_3):=(J BK103.out 3).trans rfl;have hfz6_0:=Z BK103.out 0;have hfz6_1:=Z BK103.out 1;have hfz6_2:=Z BK103.out 2;have hfz6_3:=Z BK103.out 3
   go_wp2
   go_meet
   case rel=>exact ⟨_,(decide (a0_1 < 3)),(by first | rfl | (simp;done) | (simp [*];done)),H',⟨by first | omega | exact Nat.le_refl _⟩,⟨by (with_reducible repeat (first | refine blk_drewN ?_ _ | refine blk_drew ?_ | refine blk_alloc ?_ _));exact BK103.out⟩,⟨by repeat (first | (with_reducible first | exact HB.out | apply U | apply Y | apply E | refine G ?_ GE103.out) | exact HB.out)⟩⟩
  ·rw [if_neg c5] at H;have c5b0 : decide (0 ≤ a0_1) = false:=decide_eq_false c5;clear c5
   (first | rw [c5b0] | (simp only [i64_w,i32_w];rw [c5b0]) | skip)
   have H':=O H;clear H;have hcz7_0 : w4.cell? ⟨gb103,0,none⟩ = some (.int .i64 a0_0):=(J BK103.out 0).trans rfl;have hcz7_1 : w4.cell? ⟨gb103,1,none⟩ = some (.int .i64 a0_1):=(J BK103.out 1).trans rfl;have hcz7_2 : w4.cell? ⟨gb103,2,none⟩ = some (.int .i64 a0_2):=(J BK103.out 2).trans rfl;have hcz7_3 : w4.cell? ⟨gb103,3,none⟩ = some (.int .i64 a0_3):=(J BK103.out 3).trans rfl;have hfz7_0:=Z BK103.out 0;have hfz7_1:=Z BK103.out 1;have hfz7_2:=Z BK103.out 2;have hfz7_3:=Z BK103.out 3
   go_wp2
   go_meet
   case rel=>exact ⟨_,(false),(by first | rfl | (simp;done) | (simp [*];done)),H',⟨by first | omega | exact Nat.le_refl _⟩,⟨by (with_reducible repeat (first | refine blk_drewN ?_ _ | refine blk_drew ?_ | refine blk_alloc ?_ _));exact BK103.out⟩,⟨by repeat (first | (with_reducible first | exact HB.out | apply U | apply Y | apply E | refine G ?_ GE103.out) | exact HB.out)⟩⟩
 case rest =>
  clear HC3;(try clear p2);(try clear c3);(try clear c5);(try clear c5b0);(try clear hcz6_0);(try clear hcz6_1);(try clear hcz6_2);(try clear hcz6_3);(try clear hcz7_0);(try clear hcz7_1);(try clear hcz7_2);(try clear hcz7_3);(try clear hfz6_0);(try clear hfz6_1);(try clear hfz6_2);(try clear hfz6_3);(try clear hfz7_0);(try clear hfz7_1);(try clear hfz7_2);(try clear hfz7_3);obtain ⟨kq,x5_2,rfl,HA,HJ2,BK103,HB⟩:=hcut
  cases kq with
  | zero=>exact absurd HA.out (by simp [spec_l4Ins.j0])
  | succ kj2 =>
   have H:=HA.out;clear HA;simp only [spec_l4Ins.j0] at H;have HC8:=O H;clear H;have hcz9_0 : wc.cell? ⟨gb103,0,none⟩ = some (.int .i64 a0_0):=(J BK103.out 0).trans rfl;have hcz9_1 : wc.cell? ⟨gb103,1,none⟩ = some (.int .i64 a0_1):=(J BK103.out 1).trans rfl;have hcz9_2 : wc.cell? ⟨gb103,2,none⟩ = some (.int .i64 a0_2):=(J BK103.out 2).trans rfl;have hcz9_3 : wc.cell? ⟨gb103,3,none⟩ = some (.int .i64 a0_3):=(J BK103.out 3).trans rfl;have hfz9_0:=Z BK103.out 0;have hfz9_1:=Z BK103.out 1;have hfz9_2:=Z BK103.out 2;have hfz9_3:=Z BK103.out 3
   go_upto_if 16 with (fail)
   go_cut [16] (fun v16 wc=>∃ (kq : Nat) (x16_7 : Bool),v16 = .bool x16_7 ∧ Aside0 (spec_l4Ins.j1 kq a1 x5_2 a0_0 x16_7 a0_0 a0_1 a0_2 a0_3 = some r) ∧ Aside0 (kq ≤ kj2) ∧ Aside0 (wc.heap[gb103]? = some (.cells #[.int .i64 a0_0,.int .i64 a0_1,.int .i64 a0_2,.int .i64 a0_3] 42 (0,0))) ∧ Aside0 (Below w.heap.size w wc))
   case first =>
    have H:=HC8.out;clear HC8
    by_cases c10 : a0_0 = 1
    ·rw [if_pos c10] at H;have c10b0 : (a0_0 == 1) = true:=beq_iff_eq.mpr c10;have c10b1 : (a0_0 != 1) = false:=bne_eq_false_iff_eq.mpr c10;clear c10
     (first | rw [c10b0] | (simp only [i64_w,i32_w];rw [c10b0]) | skip)
     have H':=O H;clear H
     go_wp2
     go_meet
     case rel=>exact ⟨_,((a0_0 == 1)),(by first | rfl | (simp;done) | (simp [*];done)),H',⟨by have:=HJ2.out;first | omega | exact Nat.le_refl _⟩,⟨by (with_reducible repeat (first | refine blk_drewN ?_ _ | refine blk_drew ?_ | refine blk_alloc ?_ _));exact BK103.out⟩,⟨by repeat (first | (with_reducible first | exact HB.out | apply U | apply Y | apply E | refine G ?_ GE103.out) | exact HB.out)⟩⟩
    ·rw [if_neg c10] at H;have c10b0 : (a0_0 == 1) = false:=beq_eq_false_iff_ne.mpr c10;have c10b1 : (a0_0 != 1) = true:=bne_iff_ne.mpr c10
     (first | rw [c10b0] | (simp only [i64_w,i32_w];rw [c10b0]) | skip)
     by_cases c11 : a0_0 = 2
     ·rw [if_pos c11] at H;have c11b0 : (a0_0 == 2) = true:=beq_iff_eq.mpr c11;have c11b1 : (a0_0 != 2) = false:=bne_eq_false_iff_eq.mpr c11;clear c11;have H':=O H;clear H
      go_wp2
      go_meet
      case rel=>exact ⟨_,((a0_0 == 2)),(by first | rfl | (simp;done) | (simp [*];done)),H',⟨by have:=HJ2.out;first | omega | exact Nat.le_refl _⟩,⟨by (with_reducible repeat (first | refine blk_drewN ?_ _ | refine blk_drew ?_ | refine blk_alloc ?_ _));exact BK103.out⟩,⟨by repeat (first | (with_reducible first | exact HB.out | apply U | apply Y | apply E | refine G ?_ GE103.out) | exact HB.out)⟩⟩
     ·rw [if_neg c11] at H;have c11b0 : (a0_0 == 2) = false:=beq_eq_false_iff_ne.mpr c11;have c11b1 : (a0_0 != 2) = true:=bne_iff_ne.mpr c11
      by_cases c12 : a0_0 = 3
      ·rw [if_pos c12] at H;have c12b0 : (a0_0 == 3) = true:=beq_iff_eq.mpr c12;have c12b1 : (a0_0 != 3) = false:=bne_eq_false_iff_eq.mpr c12;clear c12;have H':=O H;clear H
       go_wp2
       go_meet
       case rel=>exact ⟨_,((a0_0 == 3)),(by first | rfl | (simp;done) | (simp [*];done)),H',⟨by have:=HJ2.out;first | omega | exact Nat.le_refl _⟩,⟨by (with_reducible repeat (first | refine blk_drewN ?_ _ | refine blk_drew ?_ | refine blk_alloc ?_ _));exact BK103.out⟩,⟨by repeat (first | (with_reducible first | exact HB.out | apply U | apply Y | apply E | refine G ?_ GE103.out) | exact HB.out)⟩⟩
      ·rw [if_neg c12] at H;have c12b0 : (a0_0 == 3) = false:=beq_eq_false_iff_ne.mpr c12;have c12b1 : (a0_0 != 3) = true:=bne_iff_ne.mpr c12
       by_cases c13 : a0_0 = 4
       ·rw [if_pos c13] at H;have c13b0 : (a0_0 == 4) = true:=beq_iff_eq.mpr c13;have c13b1 : (a0_0 != 4) = false:=bne_eq_false_iff_eq.mpr c13;clear c13;have H':=O H;clear H
        go_wp2
        go_meet
        case rel=>exact ⟨_,((a0_0 == 4)),(by first | rfl | (simp;done) | (simp [*];done)),H',⟨by have:=HJ2.out;first | omega | exact Nat.le_refl _⟩,⟨by (with_reducible repeat (first | refine blk_drewN ?_ _ | refine blk_drew ?_ | refine blk_alloc ?_ _));exact BK103.out⟩,⟨by repeat (first | (with_reducible first | exact HB.out | apply U | apply Y | apply E | refine G ?_ GE103.out) | exact HB.out)⟩⟩
       ·rw [if_neg c13] at H;have c13b0 : (a0_0 == 4) = false:=beq_eq_false_iff_ne.mpr c13;have c13b1 : (a0_0 != 4) = true:=bne_iff_ne.mpr c13;have H':=O H;clear H
        go_wp2
        go_meet
        case rel=>exact ⟨_,((a0_0 == 5)),(by first | rfl | (simp;done) | (simp [*];done)),H',⟨by have:=HJ2.out;first | omega | exact Nat.le_refl _⟩,⟨by (with_reducible repeat (first | refine blk_drewN ?_ _ | refine blk_drew ?_ | refine blk_alloc ?_ _));exact BK103.out⟩,⟨by repeat (first | (with_reducible first | exact HB.out | apply U | apply Y | apply E | refine G ?_ GE103.out) | exact HB.out)⟩⟩
   case rest =>
    clear HC8;(try clear c1);(try clear p2);(try clear c3);(try clear c5);(try clear c5b0);(try clear c10);(try clear c10b0);(try clear c10b1);(try clear c11);(try clear c11b0);(try clear c11b1);(try clear c12);(try clear c12b0);(try clear c12b1);(try clear c13);(try clear c13b0);(try clear c13b1);(try clear hcz6_0);(try clear hcz6_1);(try clear hcz6_2);(try clear hcz6_3);(try clear hcz7_0);(try clear hcz7_1);(try clear hcz7_2);(try clear hcz7_3);(try clear hcz9_0);(try clear hcz9_1);(try clear hcz9_2);(try clear hcz9_3);(try clear hfz6_0);(try clear hfz6_1);(try clear hfz6_2);(try clear hfz6_3);(try clear hfz7_0);(try clear hfz7_1);(try clear hfz7_2);(try clear hfz7_3);(try clear hfz9_0);(try clear hfz9_1);(try clear hfz9_2);(try clear hfz9_3);(try clear p2);obtain ⟨kq,x16_7,rfl,HA,HJ7,BK103,HB⟩:=hcut
    cases kq with
    | zero=>exact absurd HA.out (by simp [spec_l4Ins.j1])
    | succ kj7 =>
     have H:=HA.out;clear HA;simp only [spec_l4Ins.j1] at H
     by_cases c14 : x16_7 = true
     ·subst c14
      have H1 : ((spec_l2Leaf.f kj7 a0_0 a0_1 a0_2 a0_3 ([] : List (S46)) ([] : List (S46)) (-1)).bind fun t104=>(some t104)) = some r:=by rw [if_pos rfl] at H;exact H
      clear H;have H:=H1;clear H1;replace H:=Option.bind_eq_some_iff.mp H;obtain ⟨t104,A150,H⟩:=H;replace H : (some t104) = some r:=H;have A15:=O A150;clear A150;obtain rfl:=X H;have hcz16_0 : wc.cell? ⟨gb103,0,none⟩ = some (.int .i64 a0_0):=(J BK103.out 0).trans rfl;have hcz16_1 : wc.cell? ⟨gb103,1,none⟩ = some (.int .i64 a0_1):=(J BK103.out 1).trans rfl;have hcz16_2 : wc.cell? ⟨gb103,2,none⟩ = some (.int .i64 a0_2):=(J BK103.out 2).trans rfl;have hcz16_3 : wc.cell? ⟨gb103,3,none⟩ = some (.int .i64 a0_3):=(J BK103.out 3).trans rfl;have hfz16_0:=Z BK103.out 0;have hfz16_1:=Z BK103.out 1;have hfz16_2:=Z BK103.out 2;have hfz16_3:=Z BK103.out 3
      go_wp2_with (first | ((with_reducible refine gate_callee (f:=53) rfl ?_);refine goesM_ (some 31) Try.func53 #[.agg #[.int .i64 a0_0,.int .i64 a0_1,.int .i64 a0_2,.int .i64 a0_3,.slice none 0 0,.slice none 0 0],.int .i64 (-1)] ?_;(refine (spec_l2Leaf.calls kj7 a0_0 a0_1 a0_2 a0_3 _ _ ([] : List (S46)) _ _ ([] : List (S46)) (-1) t104 _ ?side1 ?side2 ?side3 ?side4 A15.out).mono ?_);(case side1=>exact Kd.C_nil _ _);(case side2=>exact Nat.le_refl _);(case side3=>exact Kd.C_nil _ _);(case side4=>exact Nat.le_refl _);rintro e w17 ⟨rfl,hb⟩;refine ⟨_,rfl,?_⟩;have n0_:=O (blk_below (g:=gb103) (o:=.cells #[.int .i64 a0_0,.int .i64 a0_1,.int .i64 a0_2,.int .i64 a0_3] 42 (0,0)) (q1_ BK103) hb);have n1_:=O (below_step (q2_ HB GE103) hb);clear BK103 HB;have BK103:=n0_;have HB:=n1_;clear n0_ n1_;(try clear hb)))
      go_ret
      exact ⟨by first | rfl | (simp [W,Q] <;> rfl) | (simp [*,W,Q] <;> rfl),by repeat (first | (with_reducible first | exact HB.out | apply U | apply Y | apply E | refine G ?_ GE103.out) | exact HB.out)⟩
     ·replace c14:=Bool.eq_false_iff.mpr c14;subst c14
      have H1 : (if a0_0 = 6 then (if x5_2 = true then (if a0_2 = 0 then (if a0_3 ≥ 0 then (some (decide (a0_3 < a1))) else (some false)) else (some false)) else (some false)) else (if a0_0 = 7 then (if a0_1 = 0 then (if a0_2 = 0 then (if a0_3 ≥ 0 then (some (decide (a0_3 < a1))) else (some false)) else (some false)) else (some false)) else (if a0_0 = 8 then (spec_l4Ins.j2 kj7 a0_0 (a0_0 == 8) a0_0 a0_1 a0_2 a0_3) else (spec_l4Ins.j2 kj7 a0_0 (a0_0 == 9) a0_0 a0_1 a0_2 a0_3)))) = some r:=by rw [if_neg (show ¬ (false = true) by decide)] at H;exact H
      clear H;have H:=H1;clear H1
      by_cases c18 : a0_0 = 6
      ·rw [if_pos c18] at H;have c18b0 : (a0_0 == 6) = true:=beq_iff_eq.mpr c18;have c18b1 : (a0_0 != 6) = false:=bne_eq_false_iff_eq.mpr c18;clear c18
       by_cases c19 : x5_2 = true
       ·subst c19
        have H1 : (if a0_2 = 0 then (if a0_3 ≥ 0 then (some (decide (a0_3 < a1))) else (some false)) else (some false)) = some r:=by rw [if_pos rfl] at H;exact H
        clear H;have H:=H1;clear H1
        by_cases c20 : a0_2 = 0
        ·rw [if_pos c20] at H;have c20b0 : (a0_2 == 0) = true:=beq_iff_eq.mpr c20;have c20b1 : (a0_2 != 0) = false:=bne_eq_false_iff_eq.mpr c20;clear c20
         by_cases c21 : a0_3 ≥ 0
         ·rw [if_pos c21] at H;have c21b0 : decide (0 ≤ a0_3) = true:=decide_eq_true c21;clear c21;obtain rfl:=X H;have hcz22_0 : wc.cell? ⟨gb103,0,none⟩ = some (.int .i64 a0_0):=(J BK103.out 0).trans rfl;have hcz22_1 : wc.cell? ⟨gb103,1,none⟩ = some (.int .i64 a0_1):=(J BK103.out 1).trans rfl;have hcz22_2 : wc.cell? ⟨gb103,2,none⟩ = some (.int .i64 a0_2):=(J BK103.out 2).trans rfl;have hcz22_3 : wc.cell? ⟨gb103,3,none⟩ = some (.int .i64 a0_3):=(J BK103.out 3).trans rfl;have hfz22_0:=Z BK103.out 0;have hfz22_1:=Z BK103.out 1;have hfz22_2:=Z BK103.out 2;have hfz22_3:=Z BK103.out 3
          go_wp2
          go_ret
          exact ⟨by first | rfl | (simp [W,Q] <;> rfl) | (simp [*,W,Q] <;> rfl),by repeat (first | (with_reducible first | exact HB.out | apply U | apply Y | apply E | refine G ?_ GE103.out) | exact HB.out)⟩
         ·rw [if_neg c21] at H;have c21b0 : decide (0 ≤ a0_3) = false:=decide_eq_false c21;clear c21;obtain rfl:=X H;have hcz23_0 : wc.cell? ⟨gb103,0,none⟩ = some (.int .i64 a0_0):=(J BK103.out 0).trans rfl;have hcz23_1 : wc.cell? ⟨gb103,1,none⟩ = some (.int .i64 a0_1):=(J BK103.out 1).trans rfl;have hcz23_2 : wc.cell? ⟨gb103,2,none⟩ = some (.int .i64 a0_2):=(J BK103.out 2).trans rfl;have hcz23_3 : wc.cell? ⟨gb103,3,none⟩ = some (.int .i64 a0_3):=(J BK103.out 3).trans rfl;have hfz23_0:=Z BK103.out 0;have hfz23_1:=Z BK103.out 1;have hfz23_2:=Z BK103.out 2;have hfz23_3:=Z BK103.out 3
          go_wp2
          go_ret
          exact ⟨by first | rfl | (simp [W,Q] <;> rfl) | (simp [*,W,Q] <;> rfl),by repeat (first | (with_reducible first | exact HB.out | apply U | apply Y | apply E | refine G ?_ GE103.out) | exact HB.out)⟩
        ·rw [if_neg c20] at H;have c20b0 : (a0_2 == 0) = false:=beq_eq_false_iff_ne.mpr c20;have c20b1 : (a0_2 != 0) = true:=bne_iff_ne.mpr c20;obtain rfl:=X H;have hcz24_0 : wc.cell? ⟨gb103,0,none⟩ = some (.int .i64 a0_0):=(J BK103.out 0).trans rfl;have hcz24_1 : wc.cell? ⟨gb103,1,none⟩ = some (.int .i64 a0_1):=(J BK103.out 1).trans rfl;have hcz24_2 : wc.cell? ⟨gb103,2,none⟩ = some (.int .i64 a0_2):=(J BK103.out 2).trans rfl;have hcz24_3 : wc.cell? ⟨gb103,3,none⟩ = some (.int .i64 a0_3):=(J BK103.out 3).trans rfl;have hfz24_0:=Z BK103.out 0;have hfz24_1:=Z BK103.out 1;have hfz24_2:=Z BK103.out 2;have hfz24_3:=Z BK103.out 3
         go_wp2
         go_ret
         exact ⟨by first | rfl | (simp [W,Q] <;> rfl) | (simp [*,W,Q] <;> rfl),by repeat (first | (with_reducible first | exact HB.out | apply U | apply Y | apply E | refine G ?_ GE103.out) | exact HB.out)⟩
       ·replace c19:=Bool.eq_false_iff.mpr c19;subst c19
        have H1 : (some false) = some r:=by rw [if_neg (show ¬ (false = true) by decide)] at H;exact H
        clear H;have H:=H1;clear H1;obtain rfl:=X H
        go_wp2
        go_ret
        exact ⟨by first | rfl | (simp [W,Q] <;> rfl) | (simp [*,W,Q] <;> rfl),by repeat (first | (with_reducible first | exact HB.out | apply U | apply Y | apply E | refine G ?_ GE103.out) | exact HB.out)⟩
      ·rw [if_neg c18] at H;have c18b0 : (a0_0 == 6) = false:=beq_eq_false_iff_ne.mpr c18;have c18b1 : (a0_0 != 6) = true:=bne_iff_ne.mpr c18
       by_cases c25 : a0_0 = 7
       ·rw [if_pos c25] at H;have c25b0 : (a0_0 == 7) = true:=beq_iff_eq.mpr c25;have c25b1 : (a0_0 != 7) = false:=bne_eq_false_iff_eq.mpr c25;clear c25
        by_cases c26 : a0_1 = 0
        ·rw [if_pos c26] at H;have c26b0 : (a0_1 == 0) = true:=beq_iff_eq.mpr c26;have c26b1 : (a0_1 != 0) = false:=bne_eq_false_iff_eq.mpr c26;clear c26
         by_cases c27 : a0_2 = 0
         ·rw [if_pos c27] at H;have c27b0 : (a0_2 == 0) = true:=beq_iff_eq.mpr c27;have c27b1 : (a0_2 != 0) = false:=bne_eq_false_iff_eq.mpr c27;clear c27
          by_cases c28 : a0_3 ≥ 0
          ·rw [if_pos c28] at H;have c28b0 : decide (0 ≤ a0_3) = true:=decide_eq_true c28;clear c28;obtain rfl:=X H;have hcz29_0 : wc.cell? ⟨gb103,0,none⟩ = some (.int .i64 a0_0):=(J BK103.out 0).trans rfl;have hcz29_1 : wc.cell? ⟨gb103,1,none⟩ = some (.int .i64 a0_1):=(J BK103.out 1).trans rfl;have hcz29_2 : wc.cell? ⟨gb103,2,none⟩ = some (.int .i64 a0_2):=(J BK103.out 2).trans rfl;have hcz29_3 : wc.cell? ⟨gb103,3,none⟩ = some (.int .i64 a0_3):=(J BK103.out 3).trans rfl;have hfz29_0:=Z BK103.out 0;have hfz29_1:=Z BK103.out 1;have hfz29_2:=Z BK103.out 2;have hfz29_3:=Z BK103.out 3
           go_wp2
           go_ret
           exact ⟨by first | rfl | (simp [W,Q] <;> rfl) | (simp [*,W,Q] <;> rfl),by repeat (first | (with_reducible first | exact HB.out | apply U | apply Y | apply E | refine G ?_ GE103.out) | exact HB.out)⟩
          ·rw [if_neg c28] at H;have c28b0 : decide (0 ≤ a0_3) = false:=decide_eq_false c28;clear c28;obtain rfl:=X H;have hcz30_0 : wc.cell? ⟨gb103,0,none⟩ = some (.int .i64 a0_0):=(J BK103.out 0).trans rfl;have hcz30_1 : wc.cell? ⟨gb103,1,none⟩ = some (.int .i64 a0_1):=(J BK103.out 1).trans rfl;have hcz30_2 : wc.cell? ⟨gb103,2,none⟩ = some (.int .i64 a0_2):=(J BK103.out 2).trans rfl;have hcz30_3 : wc.cell? ⟨gb103,3,none⟩ = some (.int .i64 a0_3):=(J BK103.out 3).trans rfl;have hfz30_0:=Z BK103.out 0;have hfz30_1:=Z BK103.out 1;have hfz30_2:=Z BK103.out 2;have hfz30_3:=Z BK103.out 3
           go_wp2
           go_ret
           exact ⟨by first | rfl | (simp [W,Q] <;> rfl) | (simp [*,W,Q] <;> rfl),by repeat (first | (with_reducible first | exact HB.out | apply U | apply Y | apply E | refine G ?_ GE103.out) | exact HB.out)⟩
         ·rw [if_neg c27] at H;have c27b0 : (a0_2 == 0) = false:=beq_eq_false_iff_ne.mpr c27;have c27b1 : (a0_2 != 0) = true:=bne_iff_ne.mpr c27;obtain rfl:=X H;have hcz31_0 : wc.cell? ⟨gb103,0,none⟩ = some (.int .i64 a0_0):=(J BK103.out 0).trans rfl;have hcz31_1 : wc.cell? ⟨gb103,1,none⟩ = some (.int .i64 a0_1):=(J BK103.out 1).trans rfl;have hcz31_2 : wc.cell? ⟨gb103,2,none⟩ = some (.int .i64 a0_2):=(J BK103.out 2).trans rfl;have hcz31_3 : wc.cell? ⟨gb103,3,none⟩ = some (.int .i64 a0_3):=(J BK103.out 3).trans rfl;have hfz31_0:=Z BK103.out 0;have hfz31_1:=Z BK103.out 1;have hfz31_2:=Z BK103.out 2;have hfz31_3:=Z BK103.out 3
          go_wp2
          go_ret
          exact ⟨by first | rfl | (simp [W,Q] <;> rfl) | (simp [*,W,Q] <;> rfl),by repeat (first | (with_reducible first | exact HB.out | apply U | apply Y | apply E | refine G ?_ GE103.out) | exact HB.out)⟩
        ·rw [if_neg c26] at H;have c26b0 : (a0_1 == 0) = false:=beq_eq_false_iff_ne.mpr c26;have c26b1 : (a0_1 != 0) = true:=bne_iff_ne.mpr c26;obtain rfl:=X H;have hcz32_0 : wc.cell? ⟨gb103,0,none⟩ = some (.int .i64 a0_0):=(J BK103.out 0).trans rfl;have hcz32_1 : wc.cell? ⟨gb103,1,none⟩ = some (.int .i64 a0_1):=(J BK103.out 1).trans rfl;have hcz32_2 : wc.cell? ⟨gb103,2,none⟩ = some (.int .i64 a0_2):=(J BK103.out 2).trans rfl;have hcz32_3 : wc.cell? ⟨gb103,3,none⟩ = some (.int .i64 a0_3):=(J BK103.out 3).trans rfl;have hfz32_0:=Z BK103.out 0;have hfz32_1:=Z BK103.out 1;have hfz32_2:=Z BK103.out 2;have hfz32_3:=Z BK103.out 3
         go_wp2
         go_ret
         exact ⟨by first | rfl | (simp [W,Q] <;> rfl) | (simp [*,W,Q] <;> rfl),by repeat (first | (with_reducible first | exact HB.out | apply U | apply Y | apply E | refine G ?_ GE103.out) | exact HB.out)⟩
       ·rw [if_neg c25] at H;have c25b0 : (a0_0 == 7) = false:=beq_eq_false_iff_ne.mpr c25;have c25b1 : (a0_0 != 7) = true:=bne_iff_ne.mpr c25;have HC33:=O H;clear H
        go_upto_if 72 with (fail)
        go_cut [72] (fun v72 wc=>∃ (kq : Nat) (x72_32 : Bool),v72 = .bool x72_32 ∧ Aside0 (spec_l4Ins.j2 kq a0_0 x72_32 a0_0 a0_1 a0_2 a0_3 = some r) ∧ Aside0 (kq ≤ kj7) ∧ Aside0 (wc.heap[gb103]? = some (.cells #[.int .i64 a0_0,.int .i64 a0_1,.int .i64 a0_2,.int .i64 a0_3] 42 (0,0))) ∧ Aside0 (Below w.heap.size w wc))
        case first =>
         have H:=HC33.out;clear HC33
         by_cases c34 : a0_0 = 8
         ·rw [if_pos c34] at H;have c34b0 : (a0_0 == 8) = true:=beq_iff_eq.mpr c34;have c34b1 : (a0_0 != 8) = false:=bne_eq_false_iff_eq.mpr c34;clear c34
          (first | rw [c34b0] | (simp only [i64_w,i32_w];rw [c34b0]) | skip)
          have H':=O H;clear H
          go_wp2
          go_meet
          case rel=>exact ⟨_,((a0_0 == 8)),(by first | rfl | (simp;done) | (simp [*];done)),H',⟨by have:=HJ2.out;have:=HJ7.out;first | omega | exact Nat.le_refl _⟩,⟨by (with_reducible repeat (first | refine blk_drewN ?_ _ | refine blk_drew ?_ | refine blk_alloc ?_ _));exact BK103.out⟩,⟨by repeat (first | (with_reducible first | exact HB.out | apply U | apply Y | apply E | refine G ?_ GE103.out) | exact HB.out)⟩⟩
         ·rw [if_neg c34] at H;have c34b0 : (a0_0 == 8) = false:=beq_eq_false_iff_ne.mpr c34;have c34b1 : (a0_0 != 8) = true:=bne_iff_ne.mpr c34
          (first | rw [c34b0] | (simp only [i64_w,i32_w];rw [c34b0]) | skip)
          have H':=O H;clear H
          go_wp2
          go_meet
          case rel=>exact ⟨_,((a0_0 == 9)),(by first | rfl | (simp;done) | (simp [*];done)),H',⟨by have:=HJ2.out;have:=HJ7.out;first | omega | exact Nat.le_refl _⟩,⟨by (with_reducible repeat (first | refine blk_drewN ?_ _ | refine blk_drew ?_ | refine blk_alloc ?_ _));exact BK103.out⟩,⟨by repeat (first | (with_reducible first | exact HB.out | apply U | apply Y | apply E | refine G ?_ GE103.out) | exact HB.out)⟩⟩
        case rest =>
         clear HC33;(try clear c1);(try clear c2);(try clear p2);(try clear c3);(try clear c5);(try clear c5b0);(try clear c10);(try clear c10b0);(try clear c10b1);(try clear c11);(try clear c11b0);(try clear c11b1);(try clear c12);(try clear c12b0);(try clear c12b1);(try clear c13);(try clear c13b0);(try clear c13b1);(try clear c14);(try clear c18);(try clear c18b0);(try clear c18b1);(try clear c19);(try clear c20);(try clear c20b0);(try clear c20b1);(try clear c21);(try clear c21b0);(try clear c25);(try clear c25b0);(try clear c25b1);(try clear c26);(try clear c26b0);(try clear c26b1);(try clear c27);(try clear c27b0);(try clear c27b1);(try clear c28);(try clear c28b0);(try clear c33);(try clear c34);(try clear c34b0);(try clear c34b1);(try clear hcz16_0);(try clear hcz16_1);(try clear hcz16_2);(try clear hcz16_3);(try clear hcz22_0);(try clear hcz22_1);(try clear hcz22_2);(try clear hcz22_3);(try clear hcz23_0);(try clear hcz23_1);(try clear hcz23_2);(try clear hcz23_3);(try clear hcz24_0);(try clear hcz24_1);(try clear hcz24_2);(try clear hcz24_3);(try clear hcz29_0);(try clear hcz29_1);(try clear hcz29_2);(try clear hcz29_3);(try clear hcz30_0);(try clear hcz30_1);(try clear hcz30_2);(try clear hcz30_3);(try clear hcz31_0);(try clear hcz31_1);(try clear hcz31_2);(try clear hcz31_3);(try clear hcz32_0);(try clear hcz32_1);(try clear hcz32_2);(try clear hcz32_3);(try clear hcz6_0);(try clear hcz6_1);(try clear hcz6_2);(try clear hcz6_3);(try clear hcz7_0);(try clear hcz7_1);(try clear hcz7_2);(try clear hcz7_3);(try clear hcz9_0);(try clear hcz9_1);(try clear hcz9_2);(try clear hcz9_3);(try clear hfz16_0);(try clear hfz16_1);(try clear hfz16_2);(try clear hfz16_3);(try clear hfz22_0);(try clear hfz22_1);(try clear hfz22_2);(try clear hfz22_3);(try clear hfz23_0);(try clear hfz23_1);(try clear hfz23_2);(try clear hfz23_3);(try clear hfz24_0);(try clear hfz24_1);(try clear hfz24_2);(try clear hfz24_3);(try clear hfz29_0);(try clear hfz29_1);(try clear hfz29_2);(try clear hfz29_3);(try clear hfz30_0);(try clear hfz30_1);(try clear hfz30_2);(try clear hfz30_3);(try clear hfz31_0);(try clear hfz31_1);(try clear hfz31_2);(try clear hfz31_3);(try clear hfz32_0);(try clear hfz32_1);(try clear hfz32_2);(try clear hfz32_3);(try clear hfz6_0);(try clear hfz6_1);(try clear hfz6_2);(try clear hfz6_3);(try clear hfz7_0);(try clear hfz7_1);(try clear hfz7_2);(try clear hfz7_3);(try clear hfz9_0);(try clear hfz9_1);(try clear hfz9_2);(try clear hfz9_3);(try clear p2);obtain ⟨kq,x72_32,rfl,HA,HJ32,BK103,HB⟩:=hcut
         cases kq with
         | zero=>exact absurd HA.out (by simp [spec_l4Ins.j2])
         | succ kj32 =>
          have H:=HA.out;clear HA;simp only [spec_l4Ins.j2] at H
          by_cases c35 : x72_32 = true
          ·subst c35
           have H1 : (if a0_1 ≥ 0 then (if a0_1 < 2 then (if a0_2 = 0 then (some (a0_3 == 0)) else (some false)) else (some false)) else (some false)) = some r:=by rw [if_pos rfl] at H;exact H
           clear H;have H:=H1;clear H1
           by_cases c36 : a0_1 ≥ 0
           ·rw [if_pos c36] at H;have c36b0 : decide (0 ≤ a0_1) = true:=decide_eq_true c36;clear c36
            by_cases c37 : a0_1 < 2
            ·rw [if_pos c37] at H;have c37b0 : decide (a0_1 < 2) = true:=decide_eq_true c37;clear c37
             by_cases c38 : a0_2 = 0
             ·rw [if_pos c38] at H;have c38b0 : (a0_2 == 0) = true:=beq_iff_eq.mpr c38;have c38b1 : (a0_2 != 0) = false:=bne_eq_false_iff_eq.mpr c38;clear c38;obtain rfl:=X H;have hcz39_0 : wc.cell? ⟨gb103,0,none⟩ = some (.int .i64 a0_0):=(J BK103.out 0).trans rfl;have hcz39_1 : wc.cell? ⟨gb103,1,none⟩ = some (.int .i64 a0_1):=(J BK103.out 1).trans rfl;have hcz39_2 : wc.cell? ⟨gb103,2,none⟩ = some (.int .i64 a0_2):=(J BK103.out 2).trans rfl;have hcz39_3 : wc.cell? ⟨gb103,3,none⟩ = some (.int .i64 a0_3):=(J BK103.out 3).trans rfl;have hfz39_0:=Z BK103.out 0;have hfz39_1:=Z BK103.out 1;have hfz39_2:=Z BK103.out 2;have hfz39_3:=Z BK103.out 3
              go_wp2
              go_ret
              exact ⟨by first | rfl | (simp [W,Q] <;> rfl) | (simp [*,W,Q] <;> rfl),by repeat (first | (with_reducible first | exact HB.out | apply U | apply Y | apply E | refine G ?_ GE103.out) | exact HB.out)⟩
             ·rw [if_neg c38] at H;have c38b0 : (a0_2 == 0) = false:=beq_eq_false_iff_ne.mpr c38;have c38b1 : (a0_2 != 0) = true:=bne_iff_ne.mpr c38;obtain rfl:=X H;have hcz40_0 : wc.cell? ⟨gb103,0,none⟩ = some (.int .i64 a0_0):=(J BK103.out 0).trans rfl;have hcz40_1 : wc.cell? ⟨gb103,1,none⟩ = some (.int .i64 a0_1):=(J BK103.out 1).trans rfl;have hcz40_2 : wc.cell? ⟨gb103,2,none⟩ = some (.int .i64 a0_2):=(J BK103.out 2).trans rfl;have hcz40_3 : wc.cell? ⟨gb103,3,none⟩ = some (.int .i64 a0_3):=(J BK103.out 3).trans rfl;have hfz40_0:=Z BK103.out 0;have hfz40_1:=Z BK103.out 1;have hfz40_2:=Z BK103.out 2;have hfz40_3:=Z BK103.out 3
              go_wp2
              go_ret
              exact ⟨by first | rfl | (simp [W,Q] <;> rfl) | (simp [*,W,Q] <;> rfl),by repeat (first | (with_reducible first | exact HB.out | apply U | apply Y | apply E | refine G ?_ GE103.out) | exact HB.out)⟩
            ·rw [if_neg c37] at H;have c37b0 : decide (a0_1 < 2) = false:=decide_eq_false c37;clear c37;obtain rfl:=X H;have hcz41_0 : wc.cell? ⟨gb103,0,none⟩ = some (.int .i64 a0_0):=(J BK103.out 0).trans rfl;have hcz41_1 : wc.cell? ⟨gb103,1,none⟩ = some (.int .i64 a0_1):=(J BK103.out 1).trans rfl;have hcz41_2 : wc.cell? ⟨gb103,2,none⟩ = some (.int .i64 a0_2):=(J BK103.out 2).trans rfl;have hcz41_3 : wc.cell? ⟨gb103,3,none⟩ = some (.int .i64 a0_3):=(J BK103.out 3).trans rfl;have hfz41_0:=Z BK103.out 0;have hfz41_1:=Z BK103.out 1;have hfz41_2:=Z BK103.out 2;have hfz41_3:=Z BK103.out 3
             go_wp2
             go_ret
             exact ⟨by first | rfl | (simp [W,Q] <;> rfl) | (simp [*,W,Q] <;> rfl),by repeat (first | (with_reducible first | exact HB.out | apply U | apply Y | apply E | refine G ?_ GE103.out) | exact HB.out)⟩
           ·rw [if_neg c36] at H;have c36b0 : decide (0 ≤ a0_1) = false:=decide_eq_false c36;clear c36;obtain rfl:=X H;have hcz42_0 : wc.cell? ⟨gb103,0,none⟩ = some (.int .i64 a0_0):=(J BK103.out 0).trans rfl;have hcz42_1 : wc.cell? ⟨gb103,1,none⟩ = some (.int .i64 a0_1):=(J BK103.out 1).trans rfl;have hcz42_2 : wc.cell? ⟨gb103,2,none⟩ = some (.int .i64 a0_2):=(J BK103.out 2).trans rfl;have hcz42_3 : wc.cell? ⟨gb103,3,none⟩ = some (.int .i64 a0_3):=(J BK103.out 3).trans rfl;have hfz42_0:=Z BK103.out 0;have hfz42_1:=Z BK103.out 1;have hfz42_2:=Z BK103.out 2;have hfz42_3:=Z BK103.out 3
            go_wp2
            go_ret
            exact ⟨by first | rfl | (simp [W,Q] <;> rfl) | (simp [*,W,Q] <;> rfl),by repeat (first | (with_reducible first | exact HB.out | apply U | apply Y | apply E | refine G ?_ GE103.out) | exact HB.out)⟩
          ·replace c35:=Bool.eq_false_iff.mpr c35;subst c35
           have H1 : (if a0_0 = 10 then (spec_l4Ins.j3 kj32 a0_0 (a0_0 == 10) a0_0 a0_1 a0_2 a0_3) else (spec_l4Ins.j3 kj32 a0_0 (a0_0 == 11) a0_0 a0_1 a0_2 a0_3)) = some r:=by rw [if_neg (show ¬ (false = true) by decide)] at H;exact H
           clear H;have H:=H1;clear H1;have HC43:=O H;clear H
           go_upto_if 93 with (fail)
           go_cut [93] (fun v93 wc=>∃ (kq : Nat) (x93_42 : Bool),v93 = .bool x93_42 ∧ Aside0 (spec_l4Ins.j3 kq a0_0 x93_42 a0_0 a0_1 a0_2 a0_3 = some r) ∧ Aside0 (kq ≤ kj32) ∧ Aside0 (wc.heap[gb103]? = some (.cells #[.int .i64 a0_0,.int .i64 a0_1,.int .i64 a0_2,.int .i64 a0_3] 42 (0,0))) ∧ Aside0 (Below w.heap.size w wc))
           case first =>
            have H:=HC43.out;clear HC43
            by_cases c44 : a0_0 = 10
            ·rw [if_pos c44] at H;have c44b0 : (a0_0 == 10) = true:=beq_iff_eq.mpr c44;have c44b1 : (a0_0 != 10) = false:=bne_eq_false_iff_eq.mpr c44;clear c44
             (first | rw [c44b0] | (simp only [i64_w,i32_w];rw [c44b0]) | skip)
             have H':=O H;clear H
             go_wp2
             go_meet
             case rel=>exact ⟨_,((a0_0 == 10)),(by first | rfl | (simp;done) | (simp [*];done)),H',⟨by have:=HJ2.out;have:=HJ7.out;have:=HJ32.out;first | omega | exact Nat.le_refl _⟩,⟨by (with_reducible repeat (first | refine blk_drewN ?_ _ | refine blk_drew ?_ | refine blk_alloc ?_ _));exact BK103.out⟩,⟨by repeat (first | (with_reducible first | exact HB.out | apply U | apply Y | apply E | refine G ?_ GE103.out) | exact HB.out)⟩⟩
            ·rw [if_neg c44] at H;have c44b0 : (a0_0 == 10) = false:=beq_eq_false_iff_ne.mpr c44;have c44b1 : (a0_0 != 10) = true:=bne_iff_ne.mpr c44
             (first | rw [c44b0] | (simp only [i64_w,i32_w];rw [c44b0]) | skip)
             have H':=O H;clear H
             go_wp2
             go_meet
             case rel=>exact ⟨_,((a0_0 == 11)),(by first | rfl | (simp;done) | (simp [*];done)),H',⟨by have:=HJ2.out;have:=HJ7.out;have:=HJ32.out;first | omega | exact Nat.le_refl _⟩,⟨by (with_reducible repeat (first | refine blk_drewN ?_ _ | refine blk_drew ?_ | refine blk_alloc ?_ _));exact BK103.out⟩,⟨by repeat (first | (with_reducible first | exact HB.out | apply U | apply Y | apply E | refine G ?_ GE103.out) | exact HB.out)⟩⟩
           case rest =>
            clear HC43;(try clear c1);(try clear c2);(try clear p2);(try clear c3);(try clear c4);(try clear c5);(try clear c5b0);(try clear c10);(try clear c10b0);(try clear c10b1);(try clear c11);(try clear c11b0);(try clear c11b1);(try clear c12);(try clear c12b0);(try clear c12b1);(try clear c13);(try clear c13b0);(try clear c13b1);(try clear c14);(try clear c18);(try clear c18b0);(try clear c18b1);(try clear c19);(try clear c20);(try clear c20b0);(try clear c20b1);(try clear c21);(try clear c21b0);(try clear c25);(try clear c25b0);(try clear c25b1);(try clear c26);(try clear c26b0);(try clear c26b1);(try clear c27);(try clear c27b0);(try clear c27b1);(try clear c28);(try clear c28b0);(try clear c33);(try clear c34);(try clear c34b0);(try clear c34b1);(try clear c35);(try clear c36);(try clear c36b0);(try clear c37);(try clear c37b0);(try clear c38);(try clear c38b0);(try clear c38b1);(try clear c44);(try clear c44b0);(try clear c44b1);(try clear hcz16_0);(try clear hcz16_1);(try clear hcz16_2);(try clear hcz16_3);(try clear hcz22_0);(try clear hcz22_1);(try clear hcz22_2);(try clear hcz22_3);(try clear hcz23_0);(try clear hcz23_1);(try clear hcz23_2);(try clear hcz23_3);(try clear hcz24_0);(try clear hcz24_1);(try clear hcz24_2);(try clear hcz24_3);(try clear hcz29_0);(try clear hcz29_1);(try clear hcz29_2);(try clear hcz29_3);(try clear hcz30_0);(try clear hcz30_1);(try clear hcz30_2);(try clear hcz30_3);(try clear hcz31_0);(try clear hcz31_1);(try clear hcz31_2);(try clear hcz31_3);(try clear hcz32_0);(try clear hcz32_1);(try clear hcz32_2);(try clear hcz32_3);(try clear hcz39_0);(try clear hcz39_1);(try clear hcz39_2);(try clear hcz39_3);(try clear hcz40_0);(try clear hcz40_1);(try clear hcz40_2);(try clear hcz40_3);(try clear hcz41_0);(try clear hcz41_1);(try clear hcz41_2);(try clear hcz41_3);(try clear hcz42_0);(try clear hcz42_1);(try clear hcz42_2);(try clear hcz42_3);(try clear hcz6_0);(try clear hcz6_1);(try clear hcz6_2);(try clear hcz6_3);(try clear hcz7_0);(try clear hcz7_1);(try clear hcz7_2);(try clear hcz7_3);(try clear hcz9_0);(try clear hcz9_1);(try clear hcz9_2);(try clear hcz9_3);(try clear hfz16_0);(try clear hfz16_1);(try clear hfz16_2);(try clear hfz16_3);(try clear hfz22_0);(try clear hfz22_1);(try clear hfz22_2);(try clear hfz22_3);(try clear hfz23_0);(try clear hfz23_1);(try clear hfz23_2);(try clear hfz23_3);(try clear hfz24_0);(try clear hfz24_1);(try clear hfz24_2);(try clear hfz24_3);(try clear hfz29_0);(try clear hfz29_1);(try clear hfz29_2);(try clear hfz29_3);(try clear hfz30_0);(try clear hfz30_1);(try clear hfz30_2);(try clear hfz30_3);(try clear hfz31_0);(try clear hfz31_1)
            (try clear hfz31_2);(try clear hfz31_3);(try clear hfz32_0);(try clear hfz32_1);(try clear hfz32_2);(try clear hfz32_3);(try clear hfz39_0);(try clear hfz39_1);(try clear hfz39_2);(try clear hfz39_3);(try clear hfz40_0);(try clear hfz40_1);(try clear hfz40_2);(try clear hfz40_3);(try clear hfz41_0);(try clear hfz41_1);(try clear hfz41_2);(try clear hfz41_3);(try clear hfz42_0);(try clear hfz42_1);(try clear hfz42_2);(try clear hfz42_3);(try clear hfz6_0);(try clear hfz6_1);(try clear hfz6_2);(try clear hfz6_3);(try clear hfz7_0);(try clear hfz7_1);(try clear hfz7_2);(try clear hfz7_3);(try clear hfz9_0);(try clear hfz9_1);(try clear hfz9_2);(try clear hfz9_3);(try clear p2);obtain ⟨kq,x93_42,rfl,HA,HJ42,BK103,HB⟩:=hcut
            cases kq with
            | zero=>exact absurd HA.out (by simp [spec_l4Ins.j3])
            | succ kj42 =>
             have H:=HA.out;clear HA;simp only [spec_l4Ins.j3] at H
             by_cases c45 : x93_42 = true
             ·subst c45
              have H1 : (if a0_1 ≥ 0 then (if a0_1 < 2 then (if a0_2 = 0 then (some (a0_3 == 0)) else (some false)) else (some false)) else (some false)) = some r:=by rw [if_pos rfl] at H;exact H
              clear H;have H:=H1;clear H1
              by_cases c46 : a0_1 ≥ 0
              ·rw [if_pos c46] at H;have c46b0 : decide (0 ≤ a0_1) = true:=decide_eq_true c46;clear c46
               by_cases c47 : a0_1 < 2
               ·rw [if_pos c47] at H;have c47b0 : decide (a0_1 < 2) = true:=decide_eq_true c47;clear c47
                by_cases c48 : a0_2 = 0
                ·rw [if_pos c48] at H;have c48b0 : (a0_2 == 0) = true:=beq_iff_eq.mpr c48;have c48b1 : (a0_2 != 0) = false:=bne_eq_false_iff_eq.mpr c48;clear c48;obtain rfl:=X H;have hcz49_0 : wc.cell? ⟨gb103,0,none⟩ = some (.int .i64 a0_0):=(J BK103.out 0).trans rfl;have hcz49_1 : wc.cell? ⟨gb103,1,none⟩ = some (.int .i64 a0_1):=(J BK103.out 1).trans rfl;have hcz49_2 : wc.cell? ⟨gb103,2,none⟩ = some (.int .i64 a0_2):=(J BK103.out 2).trans rfl;have hcz49_3 : wc.cell? ⟨gb103,3,none⟩ = some (.int .i64 a0_3):=(J BK103.out 3).trans rfl;have hfz49_0:=Z BK103.out 0;have hfz49_1:=Z BK103.out 1;have hfz49_2:=Z BK103.out 2;have hfz49_3:=Z BK103.out 3
                 go_wp2
                 go_ret
                 exact ⟨by first | rfl | (simp [W,Q] <;> rfl) | (simp [*,W,Q] <;> rfl),by repeat (first | (with_reducible first | exact HB.out | apply U | apply Y | apply E | refine G ?_ GE103.out) | exact HB.out)⟩
                ·rw [if_neg c48] at H;have c48b0 : (a0_2 == 0) = false:=beq_eq_false_iff_ne.mpr c48;have c48b1 : (a0_2 != 0) = true:=bne_iff_ne.mpr c48;obtain rfl:=X H;have hcz50_0 : wc.cell? ⟨gb103,0,none⟩ = some (.int .i64 a0_0):=(J BK103.out 0).trans rfl;have hcz50_1 : wc.cell? ⟨gb103,1,none⟩ = some (.int .i64 a0_1):=(J BK103.out 1).trans rfl;have hcz50_2 : wc.cell? ⟨gb103,2,none⟩ = some (.int .i64 a0_2):=(J BK103.out 2).trans rfl;have hcz50_3 : wc.cell? ⟨gb103,3,none⟩ = some (.int .i64 a0_3):=(J BK103.out 3).trans rfl;have hfz50_0:=Z BK103.out 0;have hfz50_1:=Z BK103.out 1;have hfz50_2:=Z BK103.out 2;have hfz50_3:=Z BK103.out 3
                 go_wp2
                 go_ret
                 exact ⟨by first | rfl | (simp [W,Q] <;> rfl) | (simp [*,W,Q] <;> rfl),by repeat (first | (with_reducible first | exact HB.out | apply U | apply Y | apply E | refine G ?_ GE103.out) | exact HB.out)⟩
               ·rw [if_neg c47] at H;have c47b0 : decide (a0_1 < 2) = false:=decide_eq_false c47;clear c47;obtain rfl:=X H;have hcz51_0 : wc.cell? ⟨gb103,0,none⟩ = some (.int .i64 a0_0):=(J BK103.out 0).trans rfl;have hcz51_1 : wc.cell? ⟨gb103,1,none⟩ = some (.int .i64 a0_1):=(J BK103.out 1).trans rfl;have hcz51_2 : wc.cell? ⟨gb103,2,none⟩ = some (.int .i64 a0_2):=(J BK103.out 2).trans rfl;have hcz51_3 : wc.cell? ⟨gb103,3,none⟩ = some (.int .i64 a0_3):=(J BK103.out 3).trans rfl;have hfz51_0:=Z BK103.out 0;have hfz51_1:=Z BK103.out 1;have hfz51_2:=Z BK103.out 2;have hfz51_3:=Z BK103.out 3
                go_wp2
                go_ret
                exact ⟨by first | rfl | (simp [W,Q] <;> rfl) | (simp [*,W,Q] <;> rfl),by repeat (first | (with_reducible first | exact HB.out | apply U | apply Y | apply E | refine G ?_ GE103.out) | exact HB.out)⟩
              ·rw [if_neg c46] at H;have c46b0 : decide (0 ≤ a0_1) = false:=decide_eq_false c46;clear c46;obtain rfl:=X H;have hcz52_0 : wc.cell? ⟨gb103,0,none⟩ = some (.int .i64 a0_0):=(J BK103.out 0).trans rfl;have hcz52_1 : wc.cell? ⟨gb103,1,none⟩ = some (.int .i64 a0_1):=(J BK103.out 1).trans rfl;have hcz52_2 : wc.cell? ⟨gb103,2,none⟩ = some (.int .i64 a0_2):=(J BK103.out 2).trans rfl;have hcz52_3 : wc.cell? ⟨gb103,3,none⟩ = some (.int .i64 a0_3):=(J BK103.out 3).trans rfl;have hfz52_0:=Z BK103.out 0;have hfz52_1:=Z BK103.out 1;have hfz52_2:=Z BK103.out 2;have hfz52_3:=Z BK103.out 3
               go_wp2
               go_ret
               exact ⟨by first | rfl | (simp [W,Q] <;> rfl) | (simp [*,W,Q] <;> rfl),by repeat (first | (with_reducible first | exact HB.out | apply U | apply Y | apply E | refine G ?_ GE103.out) | exact HB.out)⟩
             ·replace c45:=Bool.eq_false_iff.mpr c45;subst c45
              have H1 : (if a0_0 = 12 then (if a0_1 = 0 then (if a0_2 = 0 then (some (a0_3 == 0)) else (some false)) else (some false)) else (if a0_0 = 13 then (if a0_1 = 0 then (if a0_2 = 0 then (some (a0_3 == 0)) else (some false)) else (some false)) else (some false))) = some r:=by rw [if_neg (show ¬ (false = true) by decide)] at H;exact H
              clear H;have H:=H1;clear H1
              by_cases c53 : a0_0 = 12
              ·rw [if_pos c53] at H;have c53b0 : (a0_0 == 12) = true:=beq_iff_eq.mpr c53;have c53b1 : (a0_0 != 12) = false:=bne_eq_false_iff_eq.mpr c53;clear c53
               by_cases c54 : a0_1 = 0
               ·rw [if_pos c54] at H;have c54b0 : (a0_1 == 0) = true:=beq_iff_eq.mpr c54;have c54b1 : (a0_1 != 0) = false:=bne_eq_false_iff_eq.mpr c54;clear c54
                by_cases c55 : a0_2 = 0
                ·rw [if_pos c55] at H;have c55b0 : (a0_2 == 0) = true:=beq_iff_eq.mpr c55;have c55b1 : (a0_2 != 0) = false:=bne_eq_false_iff_eq.mpr c55;clear c55;obtain rfl:=X H;have hcz56_0 : wc.cell? ⟨gb103,0,none⟩ = some (.int .i64 a0_0):=(J BK103.out 0).trans rfl;have hcz56_1 : wc.cell? ⟨gb103,1,none⟩ = some (.int .i64 a0_1):=(J BK103.out 1).trans rfl;have hcz56_2 : wc.cell? ⟨gb103,2,none⟩ = some (.int .i64 a0_2):=(J BK103.out 2).trans rfl;have hcz56_3 : wc.cell? ⟨gb103,3,none⟩ = some (.int .i64 a0_3):=(J BK103.out 3).trans rfl;have hfz56_0:=Z BK103.out 0;have hfz56_1:=Z BK103.out 1;have hfz56_2:=Z BK103.out 2;have hfz56_3:=Z BK103.out 3
                 go_wp2
                 go_ret
                 exact ⟨by first | rfl | (simp [W,Q] <;> rfl) | (simp [*,W,Q] <;> rfl),by repeat (first | (with_reducible first | exact HB.out | apply U | apply Y | apply E | refine G ?_ GE103.out) | exact HB.out)⟩
                ·rw [if_neg c55] at H;have c55b0 : (a0_2 == 0) = false:=beq_eq_false_iff_ne.mpr c55;have c55b1 : (a0_2 != 0) = true:=bne_iff_ne.mpr c55;obtain rfl:=X H;have hcz57_0 : wc.cell? ⟨gb103,0,none⟩ = some (.int .i64 a0_0):=(J BK103.out 0).trans rfl;have hcz57_1 : wc.cell? ⟨gb103,1,none⟩ = some (.int .i64 a0_1):=(J BK103.out 1).trans rfl;have hcz57_2 : wc.cell? ⟨gb103,2,none⟩ = some (.int .i64 a0_2):=(J BK103.out 2).trans rfl;have hcz57_3 : wc.cell? ⟨gb103,3,none⟩ = some (.int .i64 a0_3):=(J BK103.out 3).trans rfl;have hfz57_0:=Z BK103.out 0;have hfz57_1:=Z BK103.out 1;have hfz57_2:=Z BK103.out 2;have hfz57_3:=Z BK103.out 3
                 go_wp2
                 go_ret
                 exact ⟨by first | rfl | (simp [W,Q] <;> rfl) | (simp [*,W,Q] <;> rfl),by repeat (first | (with_reducible first | exact HB.out | apply U | apply Y | apply E | refine G ?_ GE103.out) | exact HB.out)⟩
               ·rw [if_neg c54] at H;have c54b0 : (a0_1 == 0) = false:=beq_eq_false_iff_ne.mpr c54;have c54b1 : (a0_1 != 0) = true:=bne_iff_ne.mpr c54;obtain rfl:=X H;have hcz58_0 : wc.cell? ⟨gb103,0,none⟩ = some (.int .i64 a0_0):=(J BK103.out 0).trans rfl;have hcz58_1 : wc.cell? ⟨gb103,1,none⟩ = some (.int .i64 a0_1):=(J BK103.out 1).trans rfl;have hcz58_2 : wc.cell? ⟨gb103,2,none⟩ = some (.int .i64 a0_2):=(J BK103.out 2).trans rfl;have hcz58_3 : wc.cell? ⟨gb103,3,none⟩ = some (.int .i64 a0_3):=(J BK103.out 3).trans rfl;have hfz58_0:=Z BK103.out 0;have hfz58_1:=Z BK103.out 1;have hfz58_2:=Z BK103.out 2;have hfz58_3:=Z BK103.out 3
                go_wp2
                go_ret
                exact ⟨by first | rfl | (simp [W,Q] <;> rfl) | (simp [*,W,Q] <;> rfl),by repeat (first | (with_reducible first | exact HB.out | apply U | apply Y | apply E | refine G ?_ GE103.out) | exact HB.out)⟩
              ·rw [if_neg c53] at H;have c53b0 : (a0_0 == 12) = false:=beq_eq_false_iff_ne.mpr c53;have c53b1 : (a0_0 != 12) = true:=bne_iff_ne.mpr c53
               by_cases c59 : a0_0 = 13
               ·rw [if_pos c59] at H;have c59b0 : (a0_0 == 13) = true:=beq_iff_eq.mpr c59;have c59b1 : (a0_0 != 13) = false:=bne_eq_false_iff_eq.mpr c59;clear c59
                by_cases c60 : a0_1 = 0
                ·rw [if_pos c60] at H;have c60b0 : (a0_1 == 0) = true:=beq_iff_eq.mpr c60;have c60b1 : (a0_1 != 0) = false:=bne_eq_false_iff_eq.mpr c60;clear c60
                 by_cases c61 : a0_2 = 0
                 ·rw [if_pos c61] at H;have c61b0 : (a0_2 == 0) = true:=beq_iff_eq.mpr c61;have c61b1 : (a0_2 != 0) = false:=bne_eq_false_iff_eq.mpr c61;clear c61;obtain rfl:=X H;have hcz62_0 : wc.cell? ⟨gb103,0,none⟩ = some (.int .i64 a0_0):=(J BK103.out 0).trans rfl;have hcz62_1 : wc.cell? ⟨gb103,1,none⟩ = some (.int .i64 a0_1):=(J BK103.out 1).trans rfl;have hcz62_2 : wc.cell? ⟨gb103,2,none⟩ = some (.int .i64 a0_2):=(J BK103.out 2).trans rfl;have hcz62_3 : wc.cell? ⟨gb103,3,none⟩ = some (.int .i64 a0_3):=(J BK103.out 3).trans rfl;have hfz62_0:=Z BK103.out 0;have hfz62_1:=Z BK103.out 1;have hfz62_2:=Z BK103.out 2;have hfz62_3:=Z BK103.out 3
                  go_wp2
                  go_ret
                  exact ⟨by first | rfl | (simp [W,Q] <;> rfl) | (simp [*,W,Q] <;> rfl),by repeat (first | (with_reducible first | exact HB.out | apply U | apply Y | apply E | refine G ?_ GE103.out) | exact HB.out)⟩
                 ·rw [if_neg c61] at H;have c61b0 : (a0_2 == 0) = false:=beq_eq_false_iff_ne.mpr c61;have c61b1 : (a0_2 != 0) = true:=bne_iff_ne.mpr c61;obtain rfl:=X H;have hcz63_0 : wc.cell? ⟨gb103,0,none⟩ = some (.int .i64 a0_0):=(J BK103.out 0).trans rfl;have hcz63_1 : wc.cell? ⟨gb103,1,none⟩ = some (.int .i64 a0_1):=(J BK103.out 1).trans rfl;have hcz63_2 : wc.cell? ⟨gb103,2,none⟩ = some (.int .i64 a0_2):=(J BK103.out 2).trans rfl;have hcz63_3 : wc.cell? ⟨gb103,3,none⟩ = some (.int .i64 a0_3):=(J BK103.out 3).trans rfl;have hfz63_0:=Z BK103.out 0;have hfz63_1:=Z BK103.out 1;have hfz63_2:=Z BK103.out 2;have hfz63_3:=Z BK103.out 3
                  go_wp2
                  go_ret
                  exact ⟨by first | rfl | (simp [W,Q] <;> rfl) | (simp [*,W,Q] <;> rfl),by repeat (first | (with_reducible first | exact HB.out | apply U | apply Y | apply E | refine G ?_ GE103.out) | exact HB.out)⟩
                ·rw [if_neg c60] at H;have c60b0 : (a0_1 == 0) = false:=beq_eq_false_iff_ne.mpr c60;have c60b1 : (a0_1 != 0) = true:=bne_iff_ne.mpr c60;obtain rfl:=X H;have hcz64_0 : wc.cell? ⟨gb103,0,none⟩ = some (.int .i64 a0_0):=(J BK103.out 0).trans rfl;have hcz64_1 : wc.cell? ⟨gb103,1,none⟩ = some (.int .i64 a0_1):=(J BK103.out 1).trans rfl;have hcz64_2 : wc.cell? ⟨gb103,2,none⟩ = some (.int .i64 a0_2):=(J BK103.out 2).trans rfl;have hcz64_3 : wc.cell? ⟨gb103,3,none⟩ = some (.int .i64 a0_3):=(J BK103.out 3).trans rfl;have hfz64_0:=Z BK103.out 0;have hfz64_1:=Z BK103.out 1;have hfz64_2:=Z BK103.out 2;have hfz64_3:=Z BK103.out 3
                 go_wp2
                 go_ret
                 exact ⟨by first | rfl | (simp [W,Q] <;> rfl) | (simp [*,W,Q] <;> rfl),by repeat (first | (with_reducible first | exact HB.out | apply U | apply Y | apply E | refine G ?_ GE103.out) | exact HB.out)⟩
               ·rw [if_neg c59] at H;have c59b0 : (a0_0 == 13) = false:=beq_eq_false_iff_ne.mpr c59;have c59b1 : (a0_0 != 13) = true:=bne_iff_ne.mpr c59;obtain rfl:=X H
                go_wp2
                go_ret
                exact ⟨by first | rfl | (simp [W,Q] <;> rfl) | (simp [*,W,Q] <;> rfl),by repeat (first | (with_reducible first | exact HB.out | apply U | apply Y | apply E | refine G ?_ GE103.out) | exact HB.out)⟩
end Go.Proofs.Ytphbdoljkpdflaa.P

namespace Go.Proofs.Ytphbdoljkpdflaa.P
open Go.RowKit Go.Proofs.YtphbdoljkpdflaaW.PrintWords Go.Proofs.YtphbdoljkpdflaaW.PrintLast Go.Proofs.YtphbdoljkpdflaaW.PrintMore
open Go.Proofs.YtphbdoljkpdflaaW.PrintWords renaming Aside0.mk → O, blk_frozen → Z, blk_cell → J, below_size → Y
attribute [local go_sem] max2_int min2_int max_two min_two max_three min_three max_four min_four
set_option linter.unusedVariables false
set_option linter.unusedSimpArgs false
def spec_l4Held.f (a0_0 : Int) (a0_1 : Int) (a0_2 : Int) (a0_3 : Int) (a1 : Int) : Option (Int × Bool):=if a0_0 = 8 then (some (wrap64 (a0_1 + 1),(a1 == 0))) else (if a0_0 = 9 then (some (0,(a1 == (wrap64 (a0_1 + 1))))) else (if a0_0 = 10 then (some (a1,decide (a1 > 0))) else (if a0_0 = 13 then (some (0,(a1 == 0))) else (some (a1,true)))))
set_option maxHeartbeats 8000000 in
set_option maxRecDepth 100000 in
theorem spec_l4Held.calls (a0_0 : Int) (a0_1 : Int) (a0_2 : Int) (a0_3 : Int) (a1 : Int) (r1 : Int) (r2 : Bool) (w : World) (h : spec_l4Held.f a0_0 a0_1 a0_2 a0_3 a1 = some (r1,r2)) :
  Calls Try.prog 54 #[.agg #[.int .i64 a0_0,.int .i64 a0_1,.int .i64 a0_2,.int .i64 a0_3],.int .i64 a1] w fun e w'=>e = .returned (.tuple #[.int .i64 r1,.bool r2]) ∧ Below w.heap.size w w':=by
 have hu42:=Try.underlying42;have HB:=O (Below.refl w.heap.size w);have H : (if a0_0 = 8 then (some (wrap64 (a0_1 + 1),(a1 == 0))) else (if a0_0 = 9 then (some (0,(a1 == (wrap64 (a0_1 + 1))))) else (if a0_0 = 10 then (some (a1,decide (a1 > 0))) else (if a0_0 = 13 then (some (0,(a1 == 0))) else (some (a1,true)))))) = some (r1,r2):=h;clear h
 by_cases c3 : a0_0 = 8
 ·rw [if_pos c3] at H;have c3b0 : (a0_0 == 8) = true:=beq_iff_eq.mpr c3;have c3b1 : (a0_0 != 8) = false:=bne_eq_false_iff_eq.mpr c3;clear c3;simp only [Option.some.injEq,Prod.mk.injEq] at H;obtain ⟨rfl,rfl⟩:=H;go_enter Try.func54,Try.ntmps54
  go_wp2_with (first | ((with_reducible refine gate_dst (N:=2) rfl ?_);refine box_event ?hg (N:=2) ?hd (cs:=#[.int .i64 a0_0,.int .i64 a0_1,.int .i64 a0_2,.int .i64 a0_3]) (t:=42) ?hr ?_;(case hd=>rfl);(case hg=>rfl);(case hr=>first | (go_simp;done) | (go_simp;rfl));intro gb105 hg w4 hbox hb;have n0_:=O (below_step (q0_ HB) hb);have n1_:=O (hbox);have n2_:=O ((by rw [hg];exact (Y (q0_ HB)) : w.heap.size ≤ gb105));have n3_:=O ((by rw [hg];exact (Y (q0_ HB)) : w.heap.size ≤ gb105));clear HB;have HB:=n0_;have BK105:=n1_;have GW105:=n2_;have GE105:=n3_;clear n0_ n1_ n2_ n3_ hb hbox hg;obtain ⟨hcz5_0,hcz5_1,hcz5_2,hcz5_3,hfz5_0,hfz5_1,hfz5_2,hfz5_3⟩:=bz4_ BK105))
  repeat (go_quiet (first | ((with_reducible refine gate_dst (N:=2) rfl ?_);refine box_event ?hg (N:=2) ?hd (cs:=#[.int .i64 a0_0,.int .i64 a0_1,.int .i64 a0_2,.int .i64 a0_3]) (t:=42) ?hr ?_;(case hd=>rfl);(case hg=>rfl);(case hr=>first | (go_simp;done) | (go_simp;rfl));intro gb105 hg w4 hbox hb;have n0_:=O (below_step (q0_ HB) hb);have n1_:=O (hbox);have n2_:=O ((by rw [hg];exact (Y (q0_ HB)) : w.heap.size ≤ gb105));have n3_:=O ((by rw [hg];exact (Y (q0_ HB)) : w.heap.size ≤ gb105));clear HB;have HB:=n0_;have BK105:=n1_;have GW105:=n2_;have GE105:=n3_;clear n0_ n1_ n2_ n3_ hb hbox hg;have hcz5_0 : w4.cell? ⟨gb105,0,none⟩ = some (.int .i64 a0_0):=(J BK105.out 0).trans rfl;have hcz5_1 : w4.cell? ⟨gb105,1,none⟩ = some (.int .i64 a0_1):=(J BK105.out 1).trans rfl;have hcz5_2 : w4.cell? ⟨gb105,2,none⟩ = some (.int .i64 a0_2):=(J BK105.out 2).trans rfl;have hcz5_3 : w4.cell? ⟨gb105,3,none⟩ = some (.int .i64 a0_3):=(J BK105.out 3).trans rfl;have hfz5_0:=Z BK105.out 0;have hfz5_1:=Z BK105.out 1;have hfz5_2:=Z BK105.out 2;have hfz5_3:=Z BK105.out 3));try go_wp2_with (first | ((with_reducible refine gate_dst (N:=2) rfl ?_);refine box_event ?hg (N:=2) ?hd (cs:=#[.int .i64 a0_0,.int .i64 a0_1,.int .i64 a0_2,.int .i64 a0_3]) (t:=42) ?hr ?_;(case hd=>rfl);(case hg=>rfl);(case hr=>first | (go_simp;done) | (go_simp;rfl));intro gb105 hg w4 hbox hb;have n0_:=O (below_step (q0_ HB) hb);have n1_:=O (hbox);have n2_:=O ((by rw [hg];exact (Y (q0_ HB)) : w.heap.size ≤ gb105));have n3_:=O ((by rw [hg];exact (Y (q0_ HB)) : w.heap.size ≤ gb105));clear HB;have HB:=n0_;have BK105:=n1_;have GW105:=n2_;have GE105:=n3_;clear n0_ n1_ n2_ n3_ hb hbox hg;have hcz5_0 : w4.cell? ⟨gb105,0,none⟩ = some (.int .i64 a0_0):=(J BK105.out 0).trans rfl;have hcz5_1 : w4.cell? ⟨gb105,1,none⟩ = some (.int .i64 a0_1):=(J BK105.out 1).trans rfl;have hcz5_2 : w4.cell? ⟨gb105,2,none⟩ = some (.int .i64 a0_2):=(J BK105.out 2).trans rfl;have hcz5_3 : w4.cell? ⟨gb105,3,none⟩ = some (.int .i64 a0_3):=(J BK105.out 3).trans rfl;have hfz5_0:=Z BK105.out 0;have hfz5_1:=Z BK105.out 1;have hfz5_2:=Z BK105.out 2;have hfz5_3:=Z BK105.out 3)))
  go_ret2
  exact ⟨by first | rfl | (simp [errW_none,errW_some] <;> rfl) | (simp [*,errW_none,errW_some] <;> rfl),by repeat (first | (with_reducible first | exact HB.out | apply below_alloc | apply pw_below_drewN | apply below_drew1 | refine below_set ?_ GE105.out) | exact HB.out)⟩
 ·rw [if_neg c3] at H;have c3b0 : (a0_0 == 8) = false:=beq_eq_false_iff_ne.mpr c3;have c3b1 : (a0_0 != 8) = true:=bne_iff_ne.mpr c3
  by_cases c6 : a0_0 = 9
  ·rw [if_pos c6] at H;have c6b0 : (a0_0 == 9) = true:=beq_iff_eq.mpr c6;have c6b1 : (a0_0 != 9) = false:=bne_eq_false_iff_eq.mpr c6;clear c6;simp only [Option.some.injEq,Prod.mk.injEq] at H;obtain ⟨rfl,rfl⟩:=H;go_enter Try.func54,Try.ntmps54
   go_wp2_with (first | ((with_reducible refine gate_dst (N:=2) rfl ?_);refine box_event ?hg (N:=2) ?hd (cs:=#[.int .i64 a0_0,.int .i64 a0_1,.int .i64 a0_2,.int .i64 a0_3]) (t:=42) ?hr ?_;(case hd=>rfl);(case hg=>rfl);(case hr=>first | (go_simp;done) | (go_simp;rfl));intro gb105 hg w7 hbox hb;have n0_:=O (below_step (q0_ HB) hb);have n1_:=O (hbox);have n2_:=O ((by rw [hg];exact (Y (q0_ HB)) : w.heap.size ≤ gb105));have n3_:=O ((by rw [hg];exact (Y (q0_ HB)) : w.heap.size ≤ gb105));clear HB;have HB:=n0_;have BK105:=n1_;have GW105:=n2_;have GE105:=n3_;clear n0_ n1_ n2_ n3_ hb hbox hg;obtain ⟨hcz8_0,hcz8_1,hcz8_2,hcz8_3,hfz8_0,hfz8_1,hfz8_2,hfz8_3⟩:=bz4_ BK105))
   repeat (go_quiet (first | ((with_reducible refine gate_dst (N:=2) rfl ?_);refine box_event ?hg (N:=2) ?hd (cs:=#[.int .i64 a0_0,.int .i64 a0_1,.int .i64 a0_2,.int .i64 a0_3]) (t:=42) ?hr ?_;(case hd=>rfl);(case hg=>rfl);(case hr=>first | (go_simp;done) | (go_simp;rfl));intro gb105 hg w7 hbox hb;have n0_:=O (below_step (q0_ HB) hb);have n1_:=O (hbox);have n2_:=O ((by rw [hg];exact (Y (q0_ HB)) : w.heap.size ≤ gb105));have n3_:=O ((by rw [hg];exact (Y (q0_ HB)) : w.heap.size ≤ gb105));clear HB;have HB:=n0_;have BK105:=n1_;have GW105:=n2_;have GE105:=n3_;clear n0_ n1_ n2_ n3_ hb hbox hg;have hcz8_0 : w7.cell? ⟨gb105,0,none⟩ = some (.int .i64 a0_0):=(J BK105.out 0).trans rfl;have hcz8_1 : w7.cell? ⟨gb105,1,none⟩ = some (.int .i64 a0_1):=(J BK105.out 1).trans rfl;have hcz8_2 : w7.cell? ⟨gb105,2,none⟩ = some (.int .i64 a0_2):=(J BK105.out 2).trans rfl;have hcz8_3 : w7.cell? ⟨gb105,3,none⟩ = some (.int .i64 a0_3):=(J BK105.out 3).trans rfl;have hfz8_0:=Z BK105.out 0;have hfz8_1:=Z BK105.out 1;have hfz8_2:=Z BK105.out 2;have hfz8_3:=Z BK105.out 3));try go_wp2_with (first | ((with_reducible refine gate_dst (N:=2) rfl ?_);refine box_event ?hg (N:=2) ?hd (cs:=#[.int .i64 a0_0,.int .i64 a0_1,.int .i64 a0_2,.int .i64 a0_3]) (t:=42) ?hr ?_;(case hd=>rfl);(case hg=>rfl);(case hr=>first | (go_simp;done) | (go_simp;rfl));intro gb105 hg w7 hbox hb;have n0_:=O (below_step (q0_ HB) hb);have n1_:=O (hbox);have n2_:=O ((by rw [hg];exact (Y (q0_ HB)) : w.heap.size ≤ gb105));have n3_:=O ((by rw [hg];exact (Y (q0_ HB)) : w.heap.size ≤ gb105));clear HB;have HB:=n0_;have BK105:=n1_;have GW105:=n2_;have GE105:=n3_;clear n0_ n1_ n2_ n3_ hb hbox hg;have hcz8_0 : w7.cell? ⟨gb105,0,none⟩ = some (.int .i64 a0_0):=(J BK105.out 0).trans rfl;have hcz8_1 : w7.cell? ⟨gb105,1,none⟩ = some (.int .i64 a0_1):=(J BK105.out 1).trans rfl;have hcz8_2 : w7.cell? ⟨gb105,2,none⟩ = some (.int .i64 a0_2):=(J BK105.out 2).trans rfl;have hcz8_3 : w7.cell? ⟨gb105,3,none⟩ = some (.int .i64 a0_3):=(J BK105.out 3).trans rfl;have hfz8_0:=Z BK105.out 0;have hfz8_1:=Z BK105.out 1;have hfz8_2:=Z BK105.out 2;have hfz8_3:=Z BK105.out 3)))
   go_ret2
   exact ⟨by first | rfl | (simp [errW_none,errW_some] <;> rfl) | (simp [*,errW_none,errW_some] <;> rfl),by repeat (first | (with_reducible first | exact HB.out | apply below_alloc | apply pw_below_drewN | apply below_drew1 | refine below_set ?_ GE105.out) | exact HB.out)⟩
  ·rw [if_neg c6] at H;have c6b0 : (a0_0 == 9) = false:=beq_eq_false_iff_ne.mpr c6;have c6b1 : (a0_0 != 9) = true:=bne_iff_ne.mpr c6
   by_cases c9 : a0_0 = 10
   ·rw [if_pos c9] at H;have c9b0 : (a0_0 == 10) = true:=beq_iff_eq.mpr c9;have c9b1 : (a0_0 != 10) = false:=bne_eq_false_iff_eq.mpr c9;clear c9;simp only [Option.some.injEq,Prod.mk.injEq] at H;obtain ⟨rfl,rfl⟩:=H;go_enter Try.func54,Try.ntmps54
    go_wp2_with (first | ((with_reducible refine gate_dst (N:=2) rfl ?_);refine box_event ?hg (N:=2) ?hd (cs:=#[.int .i64 a0_0,.int .i64 a0_1,.int .i64 a0_2,.int .i64 a0_3]) (t:=42) ?hr ?_;(case hd=>rfl);(case hg=>rfl);(case hr=>first | (go_simp;done) | (go_simp;rfl));intro gb105 hg w10 hbox hb;have n0_:=O (below_step (q0_ HB) hb);have n1_:=O (hbox);have n2_:=O ((by rw [hg];exact (Y (q0_ HB)) : w.heap.size ≤ gb105));have n3_:=O ((by rw [hg];exact (Y (q0_ HB)) : w.heap.size ≤ gb105));clear HB;have HB:=n0_;have BK105:=n1_;have GW105:=n2_;have GE105:=n3_;clear n0_ n1_ n2_ n3_ hb hbox hg;obtain ⟨hcz11_0,hcz11_1,hcz11_2,hcz11_3,hfz11_0,hfz11_1,hfz11_2,hfz11_3⟩:=bz4_ BK105))
    repeat (go_quiet (first | ((with_reducible refine gate_dst (N:=2) rfl ?_);refine box_event ?hg (N:=2) ?hd (cs:=#[.int .i64 a0_0,.int .i64 a0_1,.int .i64 a0_2,.int .i64 a0_3]) (t:=42) ?hr ?_;(case hd=>rfl);(case hg=>rfl);(case hr=>first | (go_simp;done) | (go_simp;rfl));intro gb105 hg w10 hbox hb;have n0_:=O (below_step (q0_ HB) hb);have n1_:=O (hbox);have n2_:=O ((by rw [hg];exact (Y (q0_ HB)) : w.heap.size ≤ gb105));have n3_:=O ((by rw [hg];exact (Y (q0_ HB)) : w.heap.size ≤ gb105));clear HB;have HB:=n0_;have BK105:=n1_;have GW105:=n2_;have GE105:=n3_;clear n0_ n1_ n2_ n3_ hb hbox hg;have hcz11_0 : w10.cell? ⟨gb105,0,none⟩ = some (.int .i64 a0_0):=(J BK105.out 0).trans rfl;have hcz11_1 : w10.cell? ⟨gb105,1,none⟩ = some (.int .i64 a0_1):=(J BK105.out 1).trans rfl;have hcz11_2 : w10.cell? ⟨gb105,2,none⟩ = some (.int .i64 a0_2):=(J BK105.out 2).trans rfl;have hcz11_3 : w10.cell? ⟨gb105,3,none⟩ = some (.int .i64 a0_3):=(J BK105.out 3).trans rfl;have hfz11_0:=Z BK105.out 0;have hfz11_1:=Z BK105.out 1;have hfz11_2:=Z BK105.out 2;have hfz11_3:=Z BK105.out 3));try go_wp2_with (first | ((with_reducible refine gate_dst (N:=2) rfl ?_);refine box_event ?hg (N:=2) ?hd (cs:=#[.int .i64 a0_0,.int .i64 a0_1,.int .i64 a0_2,.int .i64 a0_3]) (t:=42) ?hr ?_;(case hd=>rfl);(case hg=>rfl);(case hr=>first | (go_simp;done) | (go_simp;rfl));intro gb105 hg w10 hbox hb;have n0_:=O (below_step (q0_ HB) hb);have n1_:=O (hbox);have n2_:=O ((by rw [hg];exact (Y (q0_ HB)) : w.heap.size ≤ gb105));have n3_:=O ((by rw [hg];exact (Y (q0_ HB)) : w.heap.size ≤ gb105));clear HB;have HB:=n0_;have BK105:=n1_;have GW105:=n2_;have GE105:=n3_;clear n0_ n1_ n2_ n3_ hb hbox hg;have hcz11_0 : w10.cell? ⟨gb105,0,none⟩ = some (.int .i64 a0_0):=(J BK105.out 0).trans rfl;have hcz11_1 : w10.cell? ⟨gb105,1,none⟩ = some (.int .i64 a0_1):=(J BK105.out 1).trans rfl;have hcz11_2 : w10.cell? ⟨gb105,2,none⟩ = some (.int .i64 a0_2):=(J BK105.out 2).trans rfl;have hcz11_3 : w10.cell? ⟨gb105,3,none⟩ = some (.int .i64 a0_3):=(J BK105.out 3).trans rfl;have hfz11_0:=Z BK105.out 0;have hfz11_1:=Z BK105.out 1;have hfz11_2:=Z BK105.out 2;have hfz11_3:=Z BK105.out 3)))
    go_ret2
    exact ⟨by first | rfl | (simp [errW_none,errW_some] <;> rfl) | (simp [*,errW_none,errW_some] <;> rfl),by repeat (first | (with_reducible first | exact HB.out | apply below_alloc | apply pw_below_drewN | apply below_drew1 | refine below_set ?_ GE105.out) | exact HB.out)⟩
   ·rw [if_neg c9] at H;have c9b0 : (a0_0 == 10) = false:=beq_eq_false_iff_ne.mpr c9;have c9b1 : (a0_0 != 10) = true:=bne_iff_ne.mpr c9
    by_cases c12 : a0_0 = 13
    ·rw [if_pos c12] at H;have c12b0 : (a0_0 == 13) = true:=beq_iff_eq.mpr c12;have c12b1 : (a0_0 != 13) = false:=bne_eq_false_iff_eq.mpr c12;clear c12;simp only [Option.some.injEq,Prod.mk.injEq] at H;obtain ⟨rfl,rfl⟩:=H;go_enter Try.func54,Try.ntmps54
     go_wp2_with (first | ((with_reducible refine gate_dst (N:=2) rfl ?_);refine box_event ?hg (N:=2) ?hd (cs:=#[.int .i64 a0_0,.int .i64 a0_1,.int .i64 a0_2,.int .i64 a0_3]) (t:=42) ?hr ?_;(case hd=>rfl);(case hg=>rfl);(case hr=>first | (go_simp;done) | (go_simp;rfl));intro gb105 hg w13 hbox hb;have n0_:=O (below_step (q0_ HB) hb);have n1_:=O (hbox);have n2_:=O ((by rw [hg];exact (Y (q0_ HB)) : w.heap.size ≤ gb105));have n3_:=O ((by rw [hg];exact (Y (q0_ HB)) : w.heap.size ≤ gb105));clear HB;have HB:=n0_;have BK105:=n1_;have GW105:=n2_;have GE105:=n3_;clear n0_ n1_ n2_ n3_ hb hbox hg;obtain ⟨hcz14_0,hcz14_1,hcz14_2,hcz14_3,hfz14_0,hfz14_1,hfz14_2,hfz14_3⟩:=bz4_ BK105))
     repeat (go_quiet (first | ((with_reducible refine gate_dst (N:=2) rfl ?_);refine box_event ?hg (N:=2) ?hd (cs:=#[.int .i64 a0_0,.int .i64 a0_1,.int .i64 a0_2,.int .i64 a0_3]) (t:=42) ?hr ?_;(case hd=>rfl);(case hg=>rfl);(case hr=>first | (go_simp;done) | (go_simp;rfl));intro gb105 hg w13 hbox hb;have n0_:=O (below_step (q0_ HB) hb);have n1_:=O (hbox);have n2_:=O ((by rw [hg];exact (Y (q0_ HB)) : w.heap.size ≤ gb105));have n3_:=O ((by rw [hg];exact (Y (q0_ HB)) : w.heap.size ≤ gb105));clear HB;have HB:=n0_;have BK105:=n1_;have GW105:=n2_;have GE105:=n3_;clear n0_ n1_ n2_ n3_ hb hbox hg;have hcz14_0 : w13.cell? ⟨gb105,0,none⟩ = some (.int .i64 a0_0):=(J BK105.out 0).trans rfl;have hcz14_1 : w13.cell? ⟨gb105,1,none⟩ = some (.int .i64 a0_1):=(J BK105.out 1).trans rfl;have hcz14_2 : w13.cell? ⟨gb105,2,none⟩ = some (.int .i64 a0_2):=(J BK105.out 2).trans rfl;have hcz14_3 : w13.cell? ⟨gb105,3,none⟩ = some (.int .i64 a0_3):=(J BK105.out 3).trans rfl;have hfz14_0:=Z BK105.out 0;have hfz14_1:=Z BK105.out 1;have hfz14_2:=Z BK105.out 2;have hfz14_3:=Z BK105.out 3));try go_wp2_with (first | ((with_reducible refine gate_dst (N:=2) rfl ?_);refine box_event ?hg (N:=2) ?hd (cs:=#[.int .i64 a0_0,.int .i64 a0_1,.int .i64 a0_2,.int .i64 a0_3]) (t:=42) ?hr ?_;(case hd=>rfl);(case hg=>rfl);(case hr=>first | (go_simp;done) | (go_simp;rfl));intro gb105 hg w13 hbox hb;have n0_:=O (below_step (q0_ HB) hb);have n1_:=O (hbox);have n2_:=O ((by rw [hg];exact (Y (q0_ HB)) : w.heap.size ≤ gb105));have n3_:=O ((by rw [hg];exact (Y (q0_ HB)) : w.heap.size ≤ gb105));clear HB;have HB:=n0_;have BK105:=n1_;have GW105:=n2_;have GE105:=n3_;clear n0_ n1_ n2_ n3_ hb hbox hg;have hcz14_0 : w13.cell? ⟨gb105,0,none⟩ = some (.int .i64 a0_0):=(J BK105.out 0).trans rfl;have hcz14_1 : w13.cell? ⟨gb105,1,none⟩ = some (.int .i64 a0_1):=(J BK105.out 1).trans rfl;have hcz14_2 : w13.cell? ⟨gb105,2,none⟩ = some (.int .i64 a0_2):=(J BK105.out 2).trans rfl;have hcz14_3 : w13.cell? ⟨gb105,3,none⟩ = some (.int .i64 a0_3):=(J BK105.out 3).trans rfl;have hfz14_0:=Z BK105.out 0;have hfz14_1:=Z BK105.out 1;have hfz14_2:=Z BK105.out 2;have hfz14_3:=Z BK105.out 3)))
     go_ret2
     exact ⟨by first | rfl | (simp [errW_none,errW_some] <;> rfl) | (simp [*,errW_none,errW_some] <;> rfl),by repeat (first | (with_reducible first | exact HB.out | apply below_alloc | apply pw_below_drewN | apply below_drew1 | refine below_set ?_ GE105.out) | exact HB.out)⟩
    ·rw [if_neg c12] at H;have c12b0 : (a0_0 == 13) = false:=beq_eq_false_iff_ne.mpr c12;have c12b1 : (a0_0 != 13) = true:=bne_iff_ne.mpr c12;simp only [Option.some.injEq,Prod.mk.injEq] at H;obtain ⟨rfl,rfl⟩:=H;go_enter Try.func54,Try.ntmps54
     go_wp2_with (first | ((with_reducible refine gate_dst (N:=2) rfl ?_);refine box_event ?hg (N:=2) ?hd (cs:=#[.int .i64 a0_0,.int .i64 a0_1,.int .i64 a0_2,.int .i64 a0_3]) (t:=42) ?hr ?_;(case hd=>rfl);(case hg=>rfl);(case hr=>first | (go_simp;done) | (go_simp;rfl));intro gb105 hg w15 hbox hb;have n0_:=O (below_step (q0_ HB) hb);have n1_:=O (hbox);have n2_:=O ((by rw [hg];exact (Y (q0_ HB)) : w.heap.size ≤ gb105));have n3_:=O ((by rw [hg];exact (Y (q0_ HB)) : w.heap.size ≤ gb105));clear HB;have HB:=n0_;have BK105:=n1_;have GW105:=n2_;have GE105:=n3_;clear n0_ n1_ n2_ n3_ hb hbox hg;obtain ⟨hcz16_0,hcz16_1,hcz16_2,hcz16_3,hfz16_0,hfz16_1,hfz16_2,hfz16_3⟩:=bz4_ BK105))
     repeat (go_quiet (first | ((with_reducible refine gate_dst (N:=2) rfl ?_);refine box_event ?hg (N:=2) ?hd (cs:=#[.int .i64 a0_0,.int .i64 a0_1,.int .i64 a0_2,.int .i64 a0_3]) (t:=42) ?hr ?_;(case hd=>rfl);(case hg=>rfl);(case hr=>first | (go_simp;done) | (go_simp;rfl));intro gb105 hg w15 hbox hb;have n0_:=O (below_step (q0_ HB) hb);have n1_:=O (hbox);have n2_:=O ((by rw [hg];exact (Y (q0_ HB)) : w.heap.size ≤ gb105));have n3_:=O ((by rw [hg];exact (Y (q0_ HB)) : w.heap.size ≤ gb105));clear HB;have HB:=n0_;have BK105:=n1_;have GW105:=n2_;have GE105:=n3_;clear n0_ n1_ n2_ n3_ hb hbox hg;have hcz16_0 : w15.cell? ⟨gb105,0,none⟩ = some (.int .i64 a0_0):=(J BK105.out 0).trans rfl;have hcz16_1 : w15.cell? ⟨gb105,1,none⟩ = some (.int .i64 a0_1):=(J BK105.out 1).trans rfl;have hcz16_2 : w15.cell? ⟨gb105,2,none⟩ = some (.int .i64 a0_2):=(J BK105.out 2).trans rfl;have hcz16_3 : w15.cell? ⟨gb105,3,none⟩ = some (.int .i64 a0_3):=(J BK105.out 3).trans rfl;have hfz16_0:=Z BK105.out 0;have hfz16_1:=Z BK105.out 1;have hfz16_2:=Z BK105.out 2;have hfz16_3:=Z BK105.out 3));try go_wp2_with (first | ((with_reducible refine gate_dst (N:=2) rfl ?_);refine box_event ?hg (N:=2) ?hd (cs:=#[.int .i64 a0_0,.int .i64 a0_1,.int .i64 a0_2,.int .i64 a0_3]) (t:=42) ?hr ?_;(case hd=>rfl);(case hg=>rfl);(case hr=>first | (go_simp;done) | (go_simp;rfl));intro gb105 hg w15 hbox hb;have n0_:=O (below_step (q0_ HB) hb);have n1_:=O (hbox);have n2_:=O ((by rw [hg];exact (Y (q0_ HB)) : w.heap.size ≤ gb105));have n3_:=O ((by rw [hg];exact (Y (q0_ HB)) : w.heap.size ≤ gb105));clear HB;have HB:=n0_;have BK105:=n1_;have GW105:=n2_;have GE105:=n3_;clear n0_ n1_ n2_ n3_ hb hbox hg;have hcz16_0 : w15.cell? ⟨gb105,0,none⟩ = some (.int .i64 a0_0):=(J BK105.out 0).trans rfl;have hcz16_1 : w15.cell? ⟨gb105,1,none⟩ = some (.int .i64 a0_1):=(J BK105.out 1).trans rfl;have hcz16_2 : w15.cell? ⟨gb105,2,none⟩ = some (.int .i64 a0_2):=(J BK105.out 2).trans rfl;have hcz16_3 : w15.cell? ⟨gb105,3,none⟩ = some (.int .i64 a0_3):=(J BK105.out 3).trans rfl;have hfz16_0:=Z BK105.out 0;have hfz16_1:=Z BK105.out 1;have hfz16_2:=Z BK105.out 2;have hfz16_3:=Z BK105.out 3)))
     go_ret2
     exact ⟨by first | rfl | (simp [errW_none,errW_some] <;> rfl) | (simp [*,errW_none,errW_some] <;> rfl),by repeat (first | (with_reducible first | exact HB.out | apply below_alloc | apply pw_below_drewN | apply below_drew1 | refine below_set ?_ GE105.out) | exact HB.out)⟩
end Go.Proofs.Ytphbdoljkpdflaa.P

namespace Go.Proofs.Ytphbdoljkpdflaa.P
open Go.RowKit Go.Proofs.YtphbdoljkpdflaaW.PrintWords Go.Proofs.YtphbdoljkpdflaaW.PrintLast Go.Proofs.YtphbdoljkpdflaaW.PrintMore
attribute [local go_sem] max2_int min2_int max_two min_two max_three min_three max_four min_four
set_option linter.unusedVariables false
set_option linter.unusedSimpArgs false
def spec_l4Next.f (l0 : List (S42)) (a1 : Int) : Option (List Int):=if 0 ≤ a1 then (if a1 < (l0.length : Int) then (if ((rd_T42 l0 a1).f0) = 13 then (some (([] : List Int))) else (if ((rd_T42 l0 a1).f0) = 7 then (some (([(rd_T42 l0 a1).f3] : List Int))) else (if ((rd_T42 l0 a1).f0) = 6 then (some (([wrap64 (a1 + 1),(rd_T42 l0 a1).f3] : List Int))) else (some (([wrap64 (a1 + 1)] : List Int)))))) else (none)) else (none)
set_option maxHeartbeats 8000000 in
set_option maxRecDepth 100000 in
theorem spec_l4Next.calls (A0 : Option Addr) (c0 : Nat) (l0 : List (S42)) (a1 : Int) (r : List Int) (w : World) (hr0 : Kd.C k42 w A0 l0.length l0) (hc0 : l0.length ≤ c0) (h : spec_l4Next.f l0 a1 = some r) :
  Calls Try.prog 55 #[.slice A0 l0.length c0,.int .i64 a1] w fun e w'=>∃ v0_ : Value,e = .returned (v0_) ∧ Kd.R (Kd.int .i64) 3 w' w.heap.size (fun _=>True) v0_ r ∧ Below w.heap.size w w':=by
 have HR0:=Aside0.mk hr0;have HC0:=Aside0.mk hc0;clear hr0 hc0;have HB:=Aside0.mk (Below.refl w.heap.size w);have H : (if 0 ≤ a1 then (if a1 < (l0.length : Int) then (if ((rd_T42 l0 a1).f0) = 13 then (some (([] : List Int))) else (if ((rd_T42 l0 a1).f0) = 7 then (some (([(rd_T42 l0 a1).f3] : List Int))) else (if ((rd_T42 l0 a1).f0) = 6 then (some (([wrap64 (a1 + 1),(rd_T42 l0 a1).f3] : List Int))) else (some (([wrap64 (a1 + 1)] : List Int)))))) else (none)) else (none)) = some r:=h;clear h
 by_cases c3 : 0 ≤ a1
 ·rw [if_pos c3] at H;have c3b0 : decide (0 ≤ a1) = true:=decide_eq_true c3;clear c3
  by_cases c4 : a1 < (l0.length : Int)
  ·rw [if_pos c4] at H;have c4b0 : decide (a1 < (l0.length : Int)) = true:=decide_eq_true c4;clear c4
   by_cases c5 : ((rd_T42 l0 a1).f0) = 13
   ·rw [if_pos c5] at H;have c5b0 : (((rd_T42 l0 a1).f0) == 13) = true:=beq_iff_eq.mpr c5;have c5b1 : (((rd_T42 l0 a1).f0) != 13) = false:=bne_eq_false_iff_eq.mpr c5;clear c5;obtain ⟨y107,hy107⟩ : ∃ y_ : List Int,y_ = (([] : List Int)):=⟨_,rfl⟩
    replace H : (some y107) = some r:=by first | (rw [hy107];with_reducible exact H) | (have H2_:=(Option.bind_some _ _).symm.trans H;rw [hy107];with_reducible exact H2_) | (have H2_:=(Option.bind_some _ _).symm.trans H;with_reducible exact H2_) | with_reducible exact H | (rw [hy107];exact H) | exact H
    have Ny107:=Aside0.mk hy107;clear hy107;obtain rfl:=Option.some.inj H
    have p106 : 0 ≤ (a1 : Int):=of_decide_eq_true (by first | (with_reducible assumption) | assumption)
    have q106 : a1 < (l0.length : Int):=of_decide_eq_true (by first | (with_reducible assumption) | assumption)
    obtain ⟨ad106,e106,hx106_0,hx106_1,hx106_2,hx106_3⟩:=at_T42 HR0.out a1 p106 q106
    cases e106
    replace p106:=eq_true p106;replace q106:=eq_true q106;go_enter Try.func55,Try.ntmps55
    go_wp2_with (first | ((with_reducible refine gate_dst (N:=12) rfl ?_);refine Kd.R_lit (Kd.int .i64) _ 3 ?hg (N:=12) ?hd (xs:=([] : List Int)) (inner:=[]) (ok:=fun _=>True) (okp:=fun _=>True) ?hr ?hp (fun _ hk=>hk) trivial (Below.refl _ _) (Nat.le_refl _) (by simp) ?_;(case hd=>rfl);(case hg=>rfl);(case hr=>first | (go_simp;done) | (go_simp;rfl));(case hp=>exact (Reps.none _ _));intro v108 w6 ho7 hb hg_ hnew_;clear hg_ hnew_;(first | rw [← Ny107.out] at ho7 | (simp only [Int.reduceToNat] at ho7;rw [← Ny107.out] at ho7));have n0_:=Aside0.mk (Kd.R_lower ho7 (below_size (q0_ HB)));have n1_:=Aside0.mk (below_step (q0_ HB) hb);clear HB;have HO109:=n0_;have HB:=n1_;clear n0_ n1_ hb ho7))
    go_ret
    exact ⟨_,by first | rfl | (simp [errW_none,errW_some] <;> rfl) | (simp [*,errW_none,errW_some] <;> rfl),by (with_reducible repeat (first | apply Kd.R_alloc | apply Kd.R_drewN | apply Kd.R_drew));exact HO109.out,by repeat (first | (with_reducible first | exact HB.out | apply below_alloc | apply pw_below_drewN | apply below_drew1) | exact HB.out)⟩
   ·rw [if_neg c5] at H;have c5b0 : (((rd_T42 l0 a1).f0) == 13) = false:=beq_eq_false_iff_ne.mpr c5;have c5b1 : (((rd_T42 l0 a1).f0) != 13) = true:=bne_iff_ne.mpr c5
    by_cases c8 : ((rd_T42 l0 a1).f0) = 7
    ·rw [if_pos c8] at H;have c8b0 : (((rd_T42 l0 a1).f0) == 7) = true:=beq_iff_eq.mpr c8;have c8b1 : (((rd_T42 l0 a1).f0) != 7) = false:=bne_eq_false_iff_eq.mpr c8;clear c8;obtain ⟨y111,hy111⟩ : ∃ y_ : List Int,y_ = (([(rd_T42 l0 a1).f3] : List Int)):=⟨_,rfl⟩
     replace H : (some y111) = some r:=by first | (rw [hy111];with_reducible exact H) | (have H2_:=(Option.bind_some _ _).symm.trans H;rw [hy111];with_reducible exact H2_) | (have H2_:=(Option.bind_some _ _).symm.trans H;with_reducible exact H2_) | with_reducible exact H | (rw [hy111];exact H) | exact H
     have Ny111:=Aside0.mk hy111;clear hy111;obtain rfl:=Option.some.inj H
     have p106 : 0 ≤ (a1 : Int):=of_decide_eq_true (by first | (with_reducible assumption) | assumption)
     have q106 : a1 < (l0.length : Int):=of_decide_eq_true (by first | (with_reducible assumption) | assumption)
     obtain ⟨ad106,e106,hx106_0,hx106_1,hx106_2,hx106_3⟩:=at_T42 HR0.out a1 p106 q106
     cases e106
     replace p106:=eq_true p106;replace q106:=eq_true q106
     have p110 : 0 ≤ (a1 : Int):=of_decide_eq_true (by first | (with_reducible assumption) | assumption)
     have q110 : a1 < (l0.length : Int):=of_decide_eq_true (by first | (with_reducible assumption) | assumption)
     obtain ⟨ad110,e110,hx110_0,hx110_1,hx110_2,hx110_3⟩:=at_T42 HR0.out a1 p110 q110
     obtain rfl : ad106 = ad110:=(by injection e110)
     replace p110:=eq_true p110;replace q110:=eq_true q110;go_enter Try.func55,Try.ntmps55
     go_wp2_with (first | ((with_reducible refine gate_dst (N:=20) rfl ?_);refine Kd.R_lit (Kd.int .i64) _ 3 ?hg (N:=20) ?hd (xs:=([(rd_T42 l0 a1).f3] : List Int)) (inner:=[.int .i64 ((rd_T42 l0 a1).f3)]) (ok:=fun _=>True) (okp:=fun _=>True) ?hr ?hp (fun _ hk=>hk) trivial (Below.refl _ _) (Nat.le_refl _) (by simp) ?_;(case hd=>rfl);(case hg=>rfl);(case hr=>first | (go_simp;done) | (go_simp;rfl));(case hp=>exact (Reps.one (show Kd.M (Kd.int .i64) _ _ _ ((rd_T42 l0 a1).f3) [.int .i64 ((rd_T42 l0 a1).f3)] from rfl) (Reps.none _ _)));intro v112 w9 ho10 hb hg_ hnew_;clear hg_ hnew_;(first | rw [← Ny111.out] at ho10 | (simp only [Int.reduceToNat] at ho10;rw [← Ny111.out] at ho10));have n0_:=Aside0.mk (Kd.R_lower ho10 (below_size (q0_ HB)));have n1_:=Aside0.mk (below_step (q0_ HB) hb);clear HB;have HO113:=n0_;have HB:=n1_;clear n0_ n1_ hb ho10))
     go_ret
     exact ⟨_,by first | rfl | (simp [errW_none,errW_some] <;> rfl) | (simp [*,errW_none,errW_some] <;> rfl),by (with_reducible repeat (first | apply Kd.R_alloc | apply Kd.R_drewN | apply Kd.R_drew));exact HO113.out,by repeat (first | (with_reducible first | exact HB.out | apply below_alloc | apply pw_below_drewN | apply below_drew1) | exact HB.out)⟩
    ·rw [if_neg c8] at H;have c8b0 : (((rd_T42 l0 a1).f0) == 7) = false:=beq_eq_false_iff_ne.mpr c8;have c8b1 : (((rd_T42 l0 a1).f0) != 7) = true:=bne_iff_ne.mpr c8
     by_cases c11 : ((rd_T42 l0 a1).f0) = 6
     ·rw [if_pos c11] at H;have c11b0 : (((rd_T42 l0 a1).f0) == 6) = true:=beq_iff_eq.mpr c11;have c11b1 : (((rd_T42 l0 a1).f0) != 6) = false:=bne_eq_false_iff_eq.mpr c11;clear c11;obtain ⟨y115,hy115⟩ : ∃ y_ : List Int,y_ = (([wrap64 (a1 + 1),(rd_T42 l0 a1).f3] : List Int)):=⟨_,rfl⟩
      replace H : (some y115) = some r:=by first | (rw [hy115];with_reducible exact H) | (have H2_:=(Option.bind_some _ _).symm.trans H;rw [hy115];with_reducible exact H2_) | (have H2_:=(Option.bind_some _ _).symm.trans H;with_reducible exact H2_) | with_reducible exact H | (rw [hy115];exact H) | exact H
      have Ny115:=Aside0.mk hy115;clear hy115;obtain rfl:=Option.some.inj H
      have p106 : 0 ≤ (a1 : Int):=of_decide_eq_true (by first | (with_reducible assumption) | assumption)
      have q106 : a1 < (l0.length : Int):=of_decide_eq_true (by first | (with_reducible assumption) | assumption)
      obtain ⟨ad106,e106,hx106_0,hx106_1,hx106_2,hx106_3⟩:=at_T42 HR0.out a1 p106 q106
      cases e106
      replace p106:=eq_true p106;replace q106:=eq_true q106
      have p114 : 0 ≤ (a1 : Int):=of_decide_eq_true (by first | (with_reducible assumption) | assumption)
      have q114 : a1 < (l0.length : Int):=of_decide_eq_true (by first | (with_reducible assumption) | assumption)
      obtain ⟨ad114,e114,hx114_0,hx114_1,hx114_2,hx114_3⟩:=at_T42 HR0.out a1 p114 q114
      obtain rfl : ad106 = ad114:=(by injection e114)
      replace p114:=eq_true p114;replace q114:=eq_true q114;go_enter Try.func55,Try.ntmps55
      go_wp2_with (first | ((with_reducible refine gate_dst (N:=30) rfl ?_);refine Kd.R_lit (Kd.int .i64) _ 3 ?hg (N:=30) ?hd (xs:=([wrap64 (a1 + 1),(rd_T42 l0 a1).f3] : List Int)) (inner:=[.int .i64 (wrap64 (a1 + 1)),.int .i64 ((rd_T42 l0 a1).f3)]) (ok:=fun _=>True) (okp:=fun _=>True) ?hr ?hp (fun _ hk=>hk) trivial (Below.refl _ _) (Nat.le_refl _) (by simp) ?_;(case hd=>rfl);(case hg=>rfl);(case hr=>first | (go_simp;done) | (go_simp;rfl));(case hp=>exact (Reps.one (show Kd.M (Kd.int .i64) _ _ _ (wrap64 (a1 + 1)) [.int .i64 (wrap64 (a1 + 1))] from rfl) (Reps.one (show Kd.M (Kd.int .i64) _ _ _ ((rd_T42 l0 a1).f3) [.int .i64 ((rd_T42 l0 a1).f3)] from rfl) (Reps.none _ _))));intro v116 w12 ho13 hb hg_ hnew_;clear hg_ hnew_;(first | rw [← Ny115.out] at ho13 | (simp only [Int.reduceToNat] at ho13;rw [← Ny115.out] at ho13));have n0_:=Aside0.mk (Kd.R_lower ho13 (below_size (q0_ HB)));have n1_:=Aside0.mk (below_step (q0_ HB) hb);clear HB;have HO117:=n0_;have HB:=n1_;clear n0_ n1_ hb ho13))
      go_ret
      exact ⟨_,by first | rfl | (simp [errW_none,errW_some] <;> rfl) | (simp [*,errW_none,errW_some] <;> rfl),by (with_reducible repeat (first | apply Kd.R_alloc | apply Kd.R_drewN | apply Kd.R_drew));exact HO117.out,by repeat (first | (with_reducible first | exact HB.out | apply below_alloc | apply pw_below_drewN | apply below_drew1) | exact HB.out)⟩
     ·rw [if_neg c11] at H;have c11b0 : (((rd_T42 l0 a1).f0) == 6) = false:=beq_eq_false_iff_ne.mpr c11;have c11b1 : (((rd_T42 l0 a1).f0) != 6) = true:=bne_iff_ne.mpr c11;obtain ⟨y118,hy118⟩ : ∃ y_ : List Int,y_ = (([wrap64 (a1 + 1)] : List Int)):=⟨_,rfl⟩
      replace H : (some y118) = some r:=by first | (rw [hy118];with_reducible exact H) | (have H2_:=(Option.bind_some _ _).symm.trans H;rw [hy118];with_reducible exact H2_) | (have H2_:=(Option.bind_some _ _).symm.trans H;with_reducible exact H2_) | with_reducible exact H | (rw [hy118];exact H) | exact H
      have Ny118:=Aside0.mk hy118;clear hy118;obtain rfl:=Option.some.inj H
      have p106 : 0 ≤ (a1 : Int):=of_decide_eq_true (by first | (with_reducible assumption) | assumption)
      have q106 : a1 < (l0.length : Int):=of_decide_eq_true (by first | (with_reducible assumption) | assumption)
      obtain ⟨ad106,e106,hx106_0,hx106_1,hx106_2,hx106_3⟩:=at_T42 HR0.out a1 p106 q106
      cases e106
      replace p106:=eq_true p106;replace q106:=eq_true q106;go_enter Try.func55,Try.ntmps55
      go_wp2_with (first | ((with_reducible refine gate_dst (N:=33) rfl ?_);refine Kd.R_lit (Kd.int .i64) _ 3 ?hg (N:=33) ?hd (xs:=([wrap64 (a1 + 1)] : List Int)) (inner:=[.int .i64 (wrap64 (a1 + 1))]) (ok:=fun _=>True) (okp:=fun _=>True) ?hr ?hp (fun _ hk=>hk) trivial (Below.refl _ _) (Nat.le_refl _) (by simp) ?_;(case hd=>rfl);(case hg=>rfl);(case hr=>first | (go_simp;done) | (go_simp;rfl));(case hp=>exact (Reps.one (show Kd.M (Kd.int .i64) _ _ _ (wrap64 (a1 + 1)) [.int .i64 (wrap64 (a1 + 1))] from rfl) (Reps.none _ _)));intro v119 w14 ho15 hb hg_ hnew_;clear hg_ hnew_;(first | rw [← Ny118.out] at ho15 | (simp only [Int.reduceToNat] at ho15;rw [← Ny118.out] at ho15));have n0_:=Aside0.mk (Kd.R_lower ho15 (below_size (q0_ HB)));have n1_:=Aside0.mk (below_step (q0_ HB) hb);clear HB;have HO120:=n0_;have HB:=n1_;clear n0_ n1_ hb ho15))
      go_ret
      exact ⟨_,by first | rfl | (simp [errW_none,errW_some] <;> rfl) | (simp [*,errW_none,errW_some] <;> rfl),by (with_reducible repeat (first | apply Kd.R_alloc | apply Kd.R_drewN | apply Kd.R_drew));exact HO120.out,by repeat (first | (with_reducible first | exact HB.out | apply below_alloc | apply pw_below_drewN | apply below_drew1) | exact HB.out)⟩
  ·rw [if_neg c4] at H
   exact absurd H (by simp)
 ·rw [if_neg c3] at H
  exact absurd H (by simp)
end Go.Proofs.Ytphbdoljkpdflaa.P

namespace Go.Proofs.Ytphbdoljkpdflaa.P
open Go.RowKit Go.Proofs.YtphbdoljkpdflaaW.PrintWords Go.Proofs.YtphbdoljkpdflaaW.PrintLast Go.Proofs.YtphbdoljkpdflaaW.PrintMore
open Go.Proofs.YtphbdoljkpdflaaW.PrintWords renaming Aside0.mk → O
open Go.RowKit renaming wrap64 → Z
attribute [local go_sem] max2_int min2_int max_two min_two max_three min_three max_four min_four
set_option linter.unusedVariables false
set_option linter.unusedSimpArgs false
def IsS101 (w0 W : World) (g : Nat) (f0 : List Int) (f1 : Int) : Prop:=∃ A0 c0,W.heap[g]? = some (.cells #[.slice A0 f0.length c0,.int .i64 f1] 101 (0,0)) ∧ w0.heap.size ≤ g ∧ Kd.C (Kd.int .u8) w0 A0 f0.length f0
theorem IsS101.grown {w0 W : World} {g : Nat} {f0 : List Int} {f1 : Int} {W1 : World} {row : Option Nat} (h : IsS101 w0 W g f0 f1) (hw : W.grownBy W1 row) (hne : some g ≠ row) : IsS101 w0 W1 g f0 f1:=by
 obtain ⟨A0,c0,hb,hg,hr0⟩:=h
 exact ⟨A0,c0,blk_grown hb hw hne,hg,hr0⟩
theorem IsS101.own_neN {w0 W : World} {g : Nat} {f0 : List Int} {f1 : Int} {α : Type} {d : Kd α} {e : Nat} {base : Nat} {ok : Nat → Prop} {v : Value} {xs : List α} (h : IsS101 w0 W g f0 f1) (ho : Kd.N d e W base ok v xs) (ht : e ≠ 101) : some g ≠ v.ownBlock:=by
 obtain ⟨A0,c0,hb,hg,hr0⟩:=h
 exact Kd.N_ne ho hb ht
theorem IsS101.fresh {w0 W : World} {g : Nat} {f0 : List Int} {f1 : Int} (h : IsS101 w0 W g f0 f1) : ∀ k,W.heap.size ≤ k → k ≠ g:=by
 obtain ⟨A0,c0,hb,hg,hr0⟩:=h
 exact Kd.freshB hb
theorem IsS101.kept {w0 W : World} {g : Nat} {f0 : List Int} {f1 : Int} {W1 : World} {S : Nat → Prop} (h : IsS101 w0 W g f0 f1) (hk : Kept W W1 S) (hne : ¬ S g) : IsS101 w0 W1 g f0 f1:=by
 obtain ⟨A0,c0,hb,hg,hr0⟩:=h
 exact ⟨A0,c0,blk_kept hb hk hne,hg,hr0⟩
theorem IsS101.below {w0 W : World} {g : Nat} {f0 : List Int} {f1 : Int} {W1 : World} (h : IsS101 w0 W g f0 f1) (hw : Below W.heap.size W W1) : IsS101 w0 W1 g f0 f1:=h.grown (grown_of_below hw none) (by simp)
theorem IsS101.alloc {w0 W : World} {g : Nat} {f0 : List Int} {f1 : Int} (h : IsS101 w0 W g f0 f1) (o : Obj) : IsS101 w0 (W.alloc o) g f0 f1:=h.below (below_alloc (Below.refl _ _) o)
theorem IsS101.drewN {w0 W : World} {g : Nat} {f0 : List Int} {f1 : Int} (h : IsS101 w0 W g f0 f1) (m : Nat) : IsS101 w0 (W.drewN m) g f0 f1:=h
theorem IsS101.drew {w0 W : World} {g : Nat} {f0 : List Int} {f1 : Int} (h : IsS101 w0 W g f0 f1) : IsS101 w0 W.drew g f0 f1:=h
theorem IsS101.at_ {w0 W : World} {g : Nat} {f0 : List Int} {f1 : Int} {w' : World} {m : Nat} (hq : W.drewN m = w') (h : IsS101 w0 W g f0 f1) : IsS101 w0 w' g f0 f1:=by subst hq;exact IsS101.drewN h m
theorem IsS101.apart {w0 W : World} {g : Nat} {f0 : List Int} {f1 : Int} {α : Type} {d : Kd α} {e : Nat} {base : Nat} {ok : Nat → Prop} {v : Value} {xs : List α} (h : IsS101 w0 W g f0 f1) (ho : d.R e W base ok v xs) (ht : ∀ q,q ∈ e :: d.E → q ≠ 101) : d.R e W base (fun k=>ok k ∧ k ≠ g) v xs:=by
 obtain ⟨A0,c0,hb,hg,hr0⟩:=h
 exact Kd.R_types ho hb ht
theorem IsS101.own_ne {w0 W : World} {g : Nat} {f0 : List Int} {f1 : Int} {α : Type} {d : Kd α} {e : Nat} {base : Nat} {ok : Nat → Prop} {v : Value} {xs : List α} (h : IsS101 w0 W g f0 f1) (ho : d.R e W base ok v xs) (ht : e ≠ 101) : some g ≠ v.ownBlock:=by
 obtain ⟨A0,c0,hb,hg,hr0⟩:=h
 exact Kd.R_ne ho hb ht
theorem IsS101.lt {w0 W : World} {g : Nat} {f0 : List Int} {f1 : Int} (h : IsS101 w0 W g f0 f1) : g < W.heap.size:=by
 obtain ⟨A0,c0,hb,hg,hr0⟩:=h
 exact blk_lt hb
theorem IsS101.ge {w0 W : World} {g : Nat} {f0 : List Int} {f1 : Int} (h : IsS101 w0 W g f0 f1) : w0.heap.size ≤ g:=by
 obtain ⟨A0,c0,hb,hg,hr0⟩:=h
 exact hg
theorem IsS101.far {w0 W : World} {g : Nat} {f0 : List Int} {f1 : Int} {p : Addr} (h : IsS101 w0 W g f0 f1) (hne : g ≠ p.block) (u : Value) : IsS101 w0 (W.setCell p u) g f0 f1:=by
 obtain ⟨A0,c0,hb,hg,hr0⟩:=h
 exact ⟨A0,c0,blk_far hb hne u,hg,hr0⟩
theorem cellS101_0 {W : World} {g : Nat} {A0 : Option Addr} {c0 : Nat} {f0 : List Int} {f1 : Int} (h : W.heap[g]? = some (.cells #[.slice A0 f0.length c0,.int .i64 f1] 101 (0,0))) : W.cell? ⟨g,0,none⟩ = some (.slice A0 f0.length c0):=(blk_cell h 0).trans rfl
theorem cellS101_1 {W : World} {g : Nat} {A0 : Option Addr} {c0 : Nat} {f0 : List Int} {f1 : Int} (h : W.heap[g]? = some (.cells #[.slice A0 f0.length c0,.int .i64 f1] 101 (0,0))) : W.cell? ⟨g,1,none⟩ = some (.int .i64 f1):=(blk_cell h 1).trans rfl
theorem IsS101.set_1 {w0 W : World} {g : Nat} {f0 : List Int} {f1 : Int} (h : IsS101 w0 W g f0 f1) (x : Int) : IsS101 w0 (W.setCell ⟨g,1,none⟩ (.int .i64 x)) g f0 x:=by
 obtain ⟨A0,c0,hb,hg,hr0⟩:=h
 exact ⟨A0,c0,by simpa using blk_set hb 1 (.int .i64 x),hg,hr0⟩
def spec_l11Open.f (l0 : List Int) : Option (List Int × Int):=if (l0.length : Int) > 2000 then (if 2000 ≤ (l0.length : Int) then (some (l0.take 2000,0)) else (none)) else (some (l0,0))
set_option maxHeartbeats 8000000 in
set_option maxRecDepth 100000 in
theorem spec_l11Open.calls (A0 : Option Addr) (c0 : Nat) (l0 : List Int) (r1 : List Int) (r2 : Int) (w0 w : World) (hB : Below w0.heap.size w0 w) (hr0 : Kd.C (Kd.int .u8) w0 A0 l0.length l0) (hc0 : l0.length ≤ c0) (h : spec_l11Open.f l0 = some (r1,r2)) :
  Calls Try.prog 50 #[.slice A0 l0.length c0] w fun e w'=>∃ g_ : Nat,e = .returned (.pointer (some ⟨g_,0,none⟩)) ∧ IsS101 w0 w' g_ r1 r2 ∧ Below w0.heap.size w0 w' ∧ Below w.heap.size w w':=by
 have hu101:=Try.underlying101;have HR0:=O hr0;have HC0:=O hc0;clear hr0 hc0;have HBW:=O (Below.refl w.heap.size w);have HW0:=O hB.size;have HB:=O hB;clear hB;have H : (if (l0.length : Int) > 2000 then (if 2000 ≤ (l0.length : Int) then (some (l0.take 2000,0)) else (none)) else (some (l0,0))) = some (r1,r2):=h;clear h
 by_cases c2 : (l0.length : Int) > 2000
 ·rw [if_pos c2] at H;have c2b0 : decide (2000 < (l0.length : Int)) = true:=decide_eq_true c2
  have c2b1 : decide (2000 < l0.length) = true:=decide_eq_true (by omega)
  clear c2
  by_cases c3 : 2000 ≤ (l0.length : Int)
  ·rw [if_pos c3] at H;have c3b0:=eq_true c3;have c3b1 : decide (2000 ≤ (l0.length : Int)) = true:=decide_eq_true c3;clear c3;simp only [Option.some.injEq,Prod.mk.injEq] at H;obtain ⟨rfl,rfl⟩:=H;obtain ⟨i04,hi04,_,hsz4,_⟩:=info_parts info5
   obtain ⟨hcut4,hA4,hC4⟩:=print_take_of (P:=Try.prog) (Value.int .u8) 0 38 5 .i64 Try.underlying38 hi04 hsz4 A0 c0 l0 2000 (by omega) (of_decide_eq_true (by first | (with_reducible assumption) | assumption)) HC0.out
   have HR395:=O (Kd.C_of_reads (h1:=fun _=>rfl) (hA4 _ (Kd.reads_of_C HR0.out)));have HC395:=O hC4;clear hA4 hC4 hi04 hsz4;go_enter Try.func50,Try.ntmps50
   go_wp2_with (first | ((with_reducible refine gate_dst (N:=10) rfl ?_);refine box_event ?hg (N:=10) ?hd (cs:=#[.slice A0 (l0.take 2000).length c0,.int .i64 0]) (t:=101) ?hr ?_;(case hd=>rfl);(case hg=>rfl);(case hr=>first | (go_simp;done) | (go_simp;rfl));intro gb396 hg w5 hbox hb;have n0_:=O (below_step HBW.out hb);have n1_:=O (below_step (q0_ HB) hb);have n2_:=O (hbox);have n3_:=O ((by rw [hg];exact (below_size (q0_ HBW)) : w.heap.size ≤ gb396));have n4_:=O ((Nat.le_trans HW0.out (by rw [hg];exact (below_size (q0_ HBW)) : w.heap.size ≤ gb396) : w0.heap.size ≤ gb396));clear HBW HB;have HBW:=n0_;have HB:=n1_;have BK396:=n2_;have GW396:=n3_;have GE396:=n4_;clear n0_ n1_ n2_ n3_ n4_ hb hbox hg))
   go_ret
   exact ⟨_,rfl,(show IsS101 w0 _ gb396 (l0.take 2000) 0 from ⟨_,_,by (with_reducible repeat (first | refine blk_drewN ?_ _ | refine blk_drew ?_ | refine blk_alloc ?_ _));exact BK396.out,GE396.out,HR395.out⟩),by repeat (first | (with_reducible first | exact HB.out | apply below_alloc | apply pw_below_drewN | apply below_drew1 | refine below_set ?_ GE396.out) | exact HB.out),by repeat (first | (with_reducible first | exact HBW.out | apply below_alloc | apply pw_below_drewN | apply below_drew1 | refine below_set ?_ GW396.out) | exact HBW.out)⟩
  ·rw [if_neg c3] at H
   exact absurd H (by simp)
 ·rw [if_neg c2] at H;have c2b0 : decide (2000 < (l0.length : Int)) = false:=decide_eq_false c2
  have c2b1 : decide (2000 < l0.length) = false:=decide_eq_false (by omega)
  clear c2;simp only [Option.some.injEq,Prod.mk.injEq] at H;obtain ⟨rfl,rfl⟩:=H;go_enter Try.func50,Try.ntmps50
  go_wp2_with (first | ((with_reducible refine gate_dst (N:=10) rfl ?_);refine box_event ?hg (N:=10) ?hd (cs:=#[.slice A0 l0.length c0,.int .i64 0]) (t:=101) ?hr ?_;(case hd=>rfl);(case hg=>rfl);(case hr=>first | (go_simp;done) | (go_simp;rfl));intro gb397 hg w6 hbox hb;have n0_:=O (below_step HBW.out hb);have n1_:=O (below_step (q0_ HB) hb);have n2_:=O (hbox);have n3_:=O ((by rw [hg];exact (below_size (q0_ HBW)) : w.heap.size ≤ gb397));have n4_:=O ((Nat.le_trans HW0.out (by rw [hg];exact (below_size (q0_ HBW)) : w.heap.size ≤ gb397) : w0.heap.size ≤ gb397));clear HBW HB;have HBW:=n0_;have HB:=n1_;have BK397:=n2_;have GW397:=n3_;have GE397:=n4_;clear n0_ n1_ n2_ n3_ n4_ hb hbox hg))
  go_ret
  exact ⟨_,rfl,(show IsS101 w0 _ gb397 l0 0 from ⟨_,_,by (with_reducible repeat (first | refine blk_drewN ?_ _ | refine blk_drew ?_ | refine blk_alloc ?_ _));exact BK397.out,GE397.out,HR0.out⟩),by repeat (first | (with_reducible first | exact HB.out | apply below_alloc | apply pw_below_drewN | apply below_drew1 | refine below_set ?_ GE397.out) | exact HB.out),by repeat (first | (with_reducible first | exact HBW.out | apply below_alloc | apply pw_below_drewN | apply below_drew1 | refine below_set ?_ GW397.out) | exact HBW.out)⟩
def spec_l11Rd_pick.j0 : Nat → Int → Bool → List Int → Int → Option (Int × Int)
 | 0,_,_,_,_=>none
 | k + 1,x1,x24,x1000,x1001=>if x24 = true then (some (0,x1001)) else (if (Z (x1001 - 1)) < (x1000.length : Int) then (if 0 ≤ (Z (x1001 - 1)) then (if x1 = 0 then (none) else (some (Int.tmod (Z (rd x1000 (Z (x1001 - 1)))) x1,x1001))) else (none)) else (if (x1000.length : Int) = 0 then (none) else (if 0 ≤ (Int.tmod (Z (x1001 - 1)) (x1000.length : Int)) then (if (Int.tmod (Z (x1001 - 1)) (x1000.length : Int)) < (x1000.length : Int) then (if 0 ≤ (Int.tmod (Z ((Z ((Z (x1001 - 1)) * 7)) + 3)) (x1000.length : Int)) then (if (Int.tmod (Z ((Z ((Z (x1001 - 1)) * 7)) + 3)) (x1000.length : Int)) < (x1000.length : Int) then (if x1 = 0 then (none) else (some (Int.tmod (Go.bits .xor .i64 (Z ((Z ((Z ((Z ((Z (rd x1000 (Int.tmod (Z (x1001 - 1)) (x1000.length : Int)))) * 131)) + (Z ((Z (rd x1000 (Int.tmod (Z ((Z ((Z (x1001 - 1)) * 7)) + 3)) (x1000.length : Int)))) * 1117)))) + (Z ((Z (x1001 - 1)) * 29)))) + (Z ((Z (Int.tdiv (Z (x1001 - 1)) (x1000.length : Int))) * 53)))) (Z (Int.tdiv (Z ((Z ((Z ((Z ((Z (rd x1000 (Int.tmod (Z (x1001 - 1)) (x1000.length : Int)))) * 131)) + (Z ((Z (rd x1000 (Int.tmod (Z ((Z ((Z (x1001 - 1)) * 7)) + 3)) (x1000.length : Int)))) * 1117)))) + (Z ((Z (x1001 - 1)) * 29)))) + (Z ((Z (Int.tdiv (Z (x1001 - 1)) (x1000.length : Int))) * 53)))) 64))) x1,x1001))) else (none)) else (none)) else (none)) else (none))))
def spec_l11Rd_pick.f (k : Nat) (s0_0 : List Int) (s0_1 : Int) (a1 : Int) : Option (Int × Int):=if a1 < 1 then (spec_l11Rd_pick.j0 k a1 true s0_0 (Z (s0_1 + 1))) else (spec_l11Rd_pick.j0 k a1 ((s0_0.length : Int) == 0) s0_0 (Z (s0_1 + 1)))
set_option maxHeartbeats 8000000 in
set_option maxRecDepth 100000 in
theorem spec_l11Rd_pick.calls (k : Nat) (g : Nat) (s0_0 : List Int) (s0_1 : Int) (a1 : Int) (r1 : Int) (r2 : Int) (w0 w : World) (hI : IsS101 w0 w g s0_0 s0_1) (hB : Below w0.heap.size w0 w) (h : spec_l11Rd_pick.f k s0_0 s0_1 a1 = some (r1,r2)) :
  Calls Try.prog 73 #[.pointer (some ⟨g,0,none⟩),.int .i64 a1] w fun e w'=>e = .returned (.int .i64 r1) ∧ IsS101 w0 w' g s0_0 r2 ∧ Below w0.heap.size w0 w' ∧ KeepBut w w' g none:=by
 have HI0:=O hI;have HK:=O (KeepBut.refl w g none);have HL:=O hB.size;clear hI;have HW0:=O hB.size;have HB:=O hB;clear hB;have H : (if a1 < 1 then (spec_l11Rd_pick.j0 k a1 true s0_0 (Z (s0_1 + 1))) else (spec_l11Rd_pick.j0 k a1 ((s0_0.length : Int) == 0) s0_0 (Z (s0_1 + 1)))) = some (r1,r2):=h;clear h;have HC3:=O H;clear H;obtain ⟨ASz4_0,cSz4_0,HGz4,hgz4,HSz4_0⟩:=HI0.out;have hcz4_0:=cellS101_0 HGz4;have hcz4_1:=cellS101_1 HGz4;have hfz4_1:=blk_frozen HGz4 1;clear HGz4 hgz4;go_enter Try.func73,Try.ntmps73
 go_upto_region 2 with (fail)
 repeat (go_quiet (fail);go_upto_region 2 with (fail))
 go_cut [24] (fun v24 wc=>∃ (kq : Nat) (x24_2 : Bool),v24 = .bool x24_2 ∧ Aside0 (spec_l11Rd_pick.j0 kq a1 x24_2 s0_0 (Z (s0_1 + 1)) = some (r1,r2)) ∧ Aside0 (kq ≤ k) ∧ Aside0 (IsS101 w0 wc g s0_0 (Z (s0_1 + 1))) ∧ Aside0 (KeepBut w wc g none) ∧ Aside0 (Below w0.heap.size w0 wc))
 case first =>
  have H:=HC3.out;clear HC3
  by_cases c5 : a1 < 1
  ·rw [if_pos c5] at H;have c5b0 : decide (a1 < 1) = true:=decide_eq_true c5;clear c5
   (first | rw [c5b0] | (simp only [i64_w,i32_w];rw [c5b0]) | skip)
   have H':=O H;clear H
   go_wp2
   repeat (go_quiet (fail);try go_wp2)
   go_meet
   case rel=>exact ⟨_,(true),(by first | rfl | (simp;done) | (simp [*];done)),H',⟨by first | omega | exact Nat.le_refl _⟩,⟨by repeat (first | (with_reducible first | exact HI0.out | apply IsS101.alloc | apply IsS101.drewN | apply IsS101.drew | apply IsS101.set_1) | exact HI0.out)⟩,⟨by repeat (first | (with_reducible first | exact HK.out | apply KeepBut.set_ | apply keep_drewN | apply keep_drew | apply keep_alloc) | exact HK.out)⟩,⟨by repeat (first | (with_reducible first | exact HB.out | apply below_alloc | apply pw_below_drewN | apply below_drew1 | refine below_set ?_ (IsS101.ge HI0.out)) | exact HB.out)⟩⟩
  ·rw [if_neg c5] at H;have c5b0 : decide (a1 < 1) = false:=decide_eq_false c5;clear c5
   (first | rw [c5b0] | (simp only [i64_w,i32_w];rw [c5b0]) | skip)
   have H':=O H;clear H;obtain ⟨ASz6_0,cSz6_0,HGz6,hgz6,HSz6_0⟩:=HI0.out;have hcz6_0:=cellS101_0 HGz6;have hcz6_1:=cellS101_1 HGz6;have hfz6_1:=blk_frozen HGz6 1;clear HGz6 hgz6
   go_wp2
   repeat (go_quiet (fail);try go_wp2)
   go_meet
   case rel=>exact ⟨_,(((s0_0.length : Int) == 0)),(by first | rfl | (simp;done) | (simp [*];done)),H',⟨by first | omega | exact Nat.le_refl _⟩,⟨by repeat (first | (with_reducible first | exact HI0.out | apply IsS101.alloc | apply IsS101.drewN | apply IsS101.drew | apply IsS101.set_1) | exact HI0.out)⟩,⟨by repeat (first | (with_reducible first | exact HK.out | apply KeepBut.set_ | apply keep_drewN | apply keep_drew | apply keep_alloc) | exact HK.out)⟩,⟨by repeat (first | (with_reducible first | exact HB.out | apply below_alloc | apply pw_below_drewN | apply below_drew1 | refine below_set ?_ (IsS101.ge HI0.out)) | exact HB.out)⟩⟩
 case rest =>
  clear HC3;(try clear p2);(try clear c5);(try clear c5b0);(try clear p6);(try clear hcz4_0);(try clear hcz4_1);(try clear hcz6_0);(try clear hcz6_1);(try clear hfz4_1);(try clear hfz6_1);obtain ⟨kq,x24_2,rfl,HA,HJ2,HI0,HK,HB⟩:=hcut
  cases kq with
  | zero=>exact absurd HA.out (by simp [spec_l11Rd_pick.j0])
  | succ kj2 =>
   have H:=HA.out;clear HA;simp only [spec_l11Rd_pick.j0] at H
   by_cases c7 : x24_2 = true
   ·subst c7
    have H1 : (some (0,(Z (s0_1 + 1)))) = some (r1,r2):=by rw [if_pos rfl] at H;exact H
    clear H;have H:=H1;clear H1;simp only [Option.some.injEq,Prod.mk.injEq] at H;obtain ⟨rfl,rfl⟩:=H
    go_wp2
    repeat (go_quiet (fail);try go_wp2)
    go_ret
    exact ⟨by first | rfl | (simp [errW_none,errW_some] <;> rfl) | (simp [*,errW_none,errW_some] <;> rfl),by repeat (first | (with_reducible first | exact HI0.out | apply IsS101.alloc | apply IsS101.drewN | apply IsS101.drew | apply IsS101.set_1) | exact HI0.out),by repeat (first | (with_reducible first | exact HB.out | apply below_alloc | apply pw_below_drewN | apply below_drew1 | refine below_set ?_ (IsS101.ge HI0.out)) | exact HB.out),by repeat (first | (with_reducible first | exact HK.out | apply KeepBut.set_ | apply keep_drewN | apply keep_drew | apply keep_alloc) | exact HK.out)⟩
   ·replace c7:=Bool.eq_false_iff.mpr c7;subst c7
    have H1 : (if (Z ((Z (s0_1 + 1)) - 1)) < (s0_0.length : Int) then (if 0 ≤ (Z ((Z (s0_1 + 1)) - 1)) then (if a1 = 0 then (none) else (some (Int.tmod (Z (rd s0_0 (Z ((Z (s0_1 + 1)) - 1)))) a1,(Z (s0_1 + 1))))) else (none)) else (if (s0_0.length : Int) = 0 then (none) else (if 0 ≤ (Int.tmod (Z ((Z (s0_1 + 1)) - 1)) (s0_0.length : Int)) then (if (Int.tmod (Z ((Z (s0_1 + 1)) - 1)) (s0_0.length : Int)) < (s0_0.length : Int) then (if 0 ≤ (Int.tmod (Z ((Z ((Z ((Z (s0_1 + 1)) - 1)) * 7)) + 3)) (s0_0.length : Int)) then (if (Int.tmod (Z ((Z ((Z ((Z (s0_1 + 1)) - 1)) * 7)) + 3)) (s0_0.length : Int)) < (s0_0.length : Int) then (if a1 = 0 then (none) else (some (Int.tmod (Go.bits .xor .i64 (Z ((Z ((Z ((Z ((Z (rd s0_0 (Int.tmod (Z ((Z (s0_1 + 1)) - 1)) (s0_0.length : Int)))) * 131)) + (Z ((Z (rd s0_0 (Int.tmod (Z ((Z ((Z ((Z (s0_1 + 1)) - 1)) * 7)) + 3)) (s0_0.length : Int)))) * 1117)))) + (Z ((Z ((Z (s0_1 + 1)) - 1)) * 29)))) + (Z ((Z (Int.tdiv (Z ((Z (s0_1 + 1)) - 1)) (s0_0.length : Int))) * 53)))) (Z (Int.tdiv (Z ((Z ((Z ((Z ((Z (rd s0_0 (Int.tmod (Z ((Z (s0_1 + 1)) - 1)) (s0_0.length : Int)))) * 131)) + (Z ((Z (rd s0_0 (Int.tmod (Z ((Z ((Z ((Z (s0_1 + 1)) - 1)) * 7)) + 3)) (s0_0.length : Int)))) * 1117)))) + (Z ((Z ((Z (s0_1 + 1)) - 1)) * 29)))) + (Z ((Z (Int.tdiv (Z ((Z (s0_1 + 1)) - 1)) (s0_0.length : Int))) * 53)))) 64))) a1,(Z (s0_1 + 1))))) else (none)) else (none)) else (none)) else (none)))) = some (r1,r2):=by rw [if_neg (show ¬ (false = true) by decide)] at H;exact H
    clear H;have H:=H1;clear H1
    by_cases c8 : (Z ((Z (s0_1 + 1)) - 1)) < (s0_0.length : Int)
    ·rw [if_pos c8] at H;have c8b0 : decide ((Z ((Z (s0_1 + 1)) - 1)) < (s0_0.length : Int)) = true:=decide_eq_true c8;clear c8;obtain ⟨ji9,hji9⟩ : ∃ j_ : Int,(Z ((Z (s0_1 + 1)) - 1)) = j_:=⟨_,rfl⟩
     replace H : (if 0 ≤ (ji9) then (if a1 = 0 then (none) else (some (Int.tmod (Z (rd s0_0 (ji9))) a1,(Z (s0_1 + 1))))) else (none)) = some (r1,r2):=by first | (rw [hji9] at H;exact H) | (simp only [hji9] at H ⊢;exact H)
     (try rw [hji9] at c8b0)
     have hji9w : (IntKind.i64.wrap ((Z (s0_1 + 1)) - 1)) = ji9:=(i64_w _).trans hji9
     by_cases c10 : 0 ≤ (ji9)
     ·rw [if_pos c10] at H;have c10b0 : decide (0 ≤ (ji9)) = true:=decide_eq_true c10;clear c10
      by_cases c11 : a1 = 0
      ·rw [if_pos c11] at H
       exact absurd H (by simp)
      ·rw [if_neg c11] at H;have c11b0 : (a1 == 0) = false:=beq_eq_false_iff_ne.mpr c11;have c11b1 : (a1 != 0) = true:=bne_iff_ne.mpr c11;simp only [Option.some.injEq,Prod.mk.injEq] at H;obtain ⟨rfl,rfl⟩:=H;obtain ⟨ASz12_0,cSz12_0,HGz12,hgz12,HSz12_0⟩:=HI0.out;have hcz12_0:=cellS101_0 HGz12;have hcz12_1:=cellS101_1 HGz12;have hfz12_1:=blk_frozen HGz12 1;clear HGz12 hgz12
       have p398 : 0 ≤ ((ji9) : Int):=of_decide_eq_true (by first | (with_reducible assumption) | assumption)
       have q398 : (ji9) < (s0_0.length : Int):=of_decide_eq_true (by first | (with_reducible assumption) | assumption)
       obtain ⟨ad398,e398,hx398_0⟩:=Kd.at_int HSz12_0 (ji9) p398 q398
       cases e398
       replace hx398_0:=pw_cell_below HB.out hx398_0;replace p398:=eq_true p398;replace q398:=eq_true q398
       go_wp2
       repeat (go_quiet (fail);try go_wp2)
       go_ret
       exact ⟨by first | rfl | (simp [errW_none,errW_some] <;> rfl) | (simp only [← hji9];first | rfl | (simp [errW_none,errW_some] <;> rfl)) | (simp [*,errW_none,errW_some] <;> rfl),by repeat (first | (with_reducible first | exact HI0.out | apply IsS101.alloc | apply IsS101.drewN | apply IsS101.drew | apply IsS101.set_1) | exact HI0.out),by repeat (first | (with_reducible first | exact HB.out | apply below_alloc | apply pw_below_drewN | apply below_drew1 | refine below_set ?_ (IsS101.ge HI0.out)) | exact HB.out),by repeat (first | (with_reducible first | exact HK.out | apply KeepBut.set_ | apply keep_drewN | apply keep_drew | apply keep_alloc) | exact HK.out)⟩
     ·rw [if_neg c10] at H
      exact absurd H (by simp)
    ·rw [if_neg c8] at H;have c8b0 : decide ((Z ((Z (s0_1 + 1)) - 1)) < (s0_0.length : Int)) = false:=decide_eq_false c8;clear c8
     by_cases c13 : (s0_0.length : Int) = 0
     ·rw [if_pos c13] at H
      exact absurd H (by simp)
     ·rw [if_neg c13] at H;have c13b0 : ((s0_0.length : Int) == 0) = false:=beq_eq_false_iff_ne.mpr c13;have c13b1 : ((s0_0.length : Int) != 0) = true:=bne_iff_ne.mpr c13
      have c13b2 : ¬ (s0_0 = []):=fun h_=>c13 (by rw [h_];rfl)
      obtain ⟨ji14,hji14⟩ : ∃ j_ : Int,(Int.tmod (Z ((Z (s0_1 + 1)) - 1)) (s0_0.length : Int)) = j_:=⟨_,rfl⟩
      replace H : (if 0 ≤ (ji14) then (if (ji14) < (s0_0.length : Int) then (if 0 ≤ (Int.tmod (Z ((Z ((Z ((Z (s0_1 + 1)) - 1)) * 7)) + 3)) (s0_0.length : Int)) then (if (Int.tmod (Z ((Z ((Z ((Z (s0_1 + 1)) - 1)) * 7)) + 3)) (s0_0.length : Int)) < (s0_0.length : Int) then (if a1 = 0 then (none) else (some (Int.tmod (Go.bits .xor .i64 (Z ((Z ((Z ((Z ((Z (rd s0_0 (ji14))) * 131)) + (Z ((Z (rd s0_0 (Int.tmod (Z ((Z ((Z ((Z (s0_1 + 1)) - 1)) * 7)) + 3)) (s0_0.length : Int)))) * 1117)))) + (Z ((Z ((Z (s0_1 + 1)) - 1)) * 29)))) + (Z ((Z (Int.tdiv (Z ((Z (s0_1 + 1)) - 1)) (s0_0.length : Int))) * 53)))) (Z (Int.tdiv (Z ((Z ((Z ((Z ((Z (rd s0_0 (ji14))) * 131)) + (Z ((Z (rd s0_0 (Int.tmod (Z ((Z ((Z ((Z (s0_1 + 1)) - 1)) * 7)) + 3)) (s0_0.length : Int)))) * 1117)))) + (Z ((Z ((Z (s0_1 + 1)) - 1)) * 29)))) + (Z ((Z (Int.tdiv (Z ((Z (s0_1 + 1)) - 1)) (s0_0.length : Int))) * 53)))) 64))) a1,(Z (s0_1 + 1))))) else (none)) else (none)) else (none)) else (none)) = some (r1,r2):=by first | (rw [hji14] at H;exact H) | (simp only [hji14] at H ⊢;exact H)
      by_cases c15 : 0 ≤ (ji14)
      ·rw [if_pos c15] at H;have c15b0 : decide (0 ≤ (ji14)) = true:=decide_eq_true c15;clear c15
       by_cases c16 : (ji14) < (s0_0.length : Int)
       ·rw [if_pos c16] at H;have c16b0 : decide ((ji14) < (s0_0.length : Int)) = true:=decide_eq_true c16;clear c16;obtain ⟨ji17,hji17⟩ : ∃ j_ : Int,(Int.tmod (Z ((Z ((Z ((Z (s0_1 + 1)) - 1)) * 7)) + 3)) (s0_0.length : Int)) = j_:=⟨_,rfl⟩
        replace H : (if 0 ≤ (ji17) then (if (ji17) < (s0_0.length : Int) then (if a1 = 0 then (none) else (some (Int.tmod (Go.bits .xor .i64 (Z ((Z ((Z ((Z ((Z (rd s0_0 (ji14))) * 131)) + (Z ((Z (rd s0_0 (ji17))) * 1117)))) + (Z ((Z ((Z (s0_1 + 1)) - 1)) * 29)))) + (Z ((Z (Int.tdiv (Z ((Z (s0_1 + 1)) - 1)) (s0_0.length : Int))) * 53)))) (Z (Int.tdiv (Z ((Z ((Z ((Z ((Z (rd s0_0 (ji14))) * 131)) + (Z ((Z (rd s0_0 (ji17))) * 1117)))) + (Z ((Z ((Z (s0_1 + 1)) - 1)) * 29)))) + (Z ((Z (Int.tdiv (Z ((Z (s0_1 + 1)) - 1)) (s0_0.length : Int))) * 53)))) 64))) a1,(Z (s0_1 + 1))))) else (none)) else (none)) = some (r1,r2):=by first | (rw [hji17] at H;exact H) | (simp only [hji17] at H ⊢;exact H)
        by_cases c18 : 0 ≤ (ji17)
        ·rw [if_pos c18] at H;have c18b0 : decide (0 ≤ (ji17)) = true:=decide_eq_true c18;clear c18
         by_cases c19 : (ji17) < (s0_0.length : Int)
         ·rw [if_pos c19] at H;have c19b0 : decide ((ji17) < (s0_0.length : Int)) = true:=decide_eq_true c19;clear c19
          by_cases c20 : a1 = 0
          ·rw [if_pos c20] at H
           exact absurd H (by simp)
          ·rw [if_neg c20] at H;have c20b0 : (a1 == 0) = false:=beq_eq_false_iff_ne.mpr c20;have c20b1 : (a1 != 0) = true:=bne_iff_ne.mpr c20;simp only [Option.some.injEq,Prod.mk.injEq] at H;obtain ⟨rfl,rfl⟩:=H;obtain ⟨ASz21_0,cSz21_0,HGz21,hgz21,HSz21_0⟩:=HI0.out;have hcz21_0:=cellS101_0 HGz21;have hcz21_1:=cellS101_1 HGz21;have hfz21_1:=blk_frozen HGz21 1;clear HGz21 hgz21
           have p399 : 0 ≤ ((ji14) : Int):=of_decide_eq_true (by first | (with_reducible assumption) | assumption)
           have q399 : (ji14) < (s0_0.length : Int):=of_decide_eq_true (by first | (with_reducible assumption) | assumption)
           obtain ⟨ad399,e399,hx399_0⟩:=Kd.at_int HSz21_0 (ji14) p399 q399
           cases e399
           replace hx399_0:=pw_cell_below HB.out hx399_0;replace p399:=eq_true p399;replace q399:=eq_true q399
           have p400 : 0 ≤ ((ji17) : Int):=of_decide_eq_true (by first | (with_reducible assumption) | assumption)
           have q400 : (ji17) < (s0_0.length : Int):=of_decide_eq_true (by first | (with_reducible assumption) | assumption)
           obtain ⟨ad400,e400,hx400_0⟩:=Kd.at_int HSz21_0 (ji17) p400 q400
           obtain rfl : ad399 = ad400:=(by injection e400)
           replace hx400_0:=pw_cell_below HB.out hx400_0;replace p400:=eq_true p400;replace q400:=eq_true q400
           go_wp2
           repeat (go_quiet (fail);try go_wp2)
           go_ret
           exact ⟨by first | rfl | (simp [errW_none,errW_some] <;> rfl) | (simp only [← hji14,← hji17];first | rfl | (simp [errW_none,errW_some] <;> rfl)) | (simp [*,errW_none,errW_some] <;> rfl),by repeat (first | (with_reducible first | exact HI0.out | apply IsS101.alloc | apply IsS101.drewN | apply IsS101.drew | apply IsS101.set_1) | exact HI0.out),by repeat (first | (with_reducible first | exact HB.out | apply below_alloc | apply pw_below_drewN | apply below_drew1 | refine below_set ?_ (IsS101.ge HI0.out)) | exact HB.out),by repeat (first | (with_reducible first | exact HK.out | apply KeepBut.set_ | apply keep_drewN | apply keep_drew | apply keep_alloc) | exact HK.out)⟩
         ·rw [if_neg c19] at H
          exact absurd H (by simp)
        ·rw [if_neg c18] at H
         exact absurd H (by simp)
       ·rw [if_neg c16] at H
        exact absurd H (by simp)
      ·rw [if_neg c15] at H
       exact absurd H (by simp)
def spec_l11Rd_num.f (k : Nat) (s0_0 : List Int) (s0_1 : Int) (l1 : List Int) : Option (Int × Int):=(spec_l11Rd_pick.f k s0_0 s0_1 (l1.length : Int)).bind fun bt401=>(if 0 ≤ bt401.1 then (if bt401.1 < (l1.length : Int) then (some (rd l1 bt401.1,bt401.2)) else (none)) else (none))
set_option maxHeartbeats 8000000 in
set_option maxRecDepth 100000 in
theorem spec_l11Rd_num.calls (k : Nat) (g : Nat) (s0_0 : List Int) (s0_1 : Int) (A1 : Option Addr) (c1 : Nat) (l1 : List Int) (r1 : Int) (r2 : Int) (w0 w : World) (hI : IsS101 w0 w g s0_0 s0_1) (hB : Below w0.heap.size w0 w) (hr1 : Kd.C (Kd.int .i64) w A1 l1.length l1) (hc1 : l1.length ≤ c1) (hf1 : ∀ ad,A1 = some ad → 0 < l1.length → ad.block ≠ g) (h : spec_l11Rd_num.f k s0_0 s0_1 l1 = some (r1,r2)) :
  Calls Try.prog 74 #[.pointer (some ⟨g,0,none⟩),.slice A1 l1.length c1] w fun e w'=>e = .returned (.int .i64 r1) ∧ IsS101 w0 w' g s0_0 r2 ∧ Below w0.heap.size w0 w' ∧ KeepBut w w' g none:=by
 have HR1:=O hr1;have HC1:=O hc1;clear hr1 hc1;have HI0:=O hI;have HK:=O (KeepBut.refl w g none);have HL:=O hB.size;clear hI;have HW0:=O hB.size;have HB:=O hB;clear hB;have H : ((spec_l11Rd_pick.f k s0_0 s0_1 (l1.length : Int)).bind fun bt401=>(if 0 ≤ bt401.1 then (if bt401.1 < (l1.length : Int) then (some (rd l1 bt401.1,bt401.2)) else (none)) else (none))) = some (r1,r2):=h;clear h;replace H:=Option.bind_eq_some_iff.mp H;obtain ⟨⟨t401,t402⟩,A30,H⟩:=H;replace H : (if 0 ≤ t401 then (if t401 < (l1.length : Int) then (some (rd l1 t401,t402)) else (none)) else (none)) = some (r1,r2):=H;have A3:=O A30;clear A30
 by_cases c4 : 0 ≤ t401
 ·rw [if_pos c4] at H;have c4b0 : decide (0 ≤ t401) = true:=decide_eq_true c4;clear c4
  by_cases c5 : t401 < (l1.length : Int)
  ·rw [if_pos c5] at H;have c5b0 : decide (t401 < (l1.length : Int)) = true:=decide_eq_true c5;clear c5;simp only [Option.some.injEq,Prod.mk.injEq] at H;obtain ⟨rfl,rfl⟩:=H;go_enter Try.func74,Try.ntmps74
   go_wp2_with (first | ((with_reducible refine gate_callee (f:=73) rfl ?_);refine goesM_ (some 9) Try.func73 #[.pointer (some ⟨g,0,none⟩),.int .i64 (l1.length : Int)] ?_;(with_reducible refine (spec_l11Rd_pick.calls k g s0_0 s0_1 (l1.length : Int) t401 t402 w0 _ ?side1 ?side2 A3.out).mono ?_);(case side1=>exact q8_ HI0);(case side2=>exact q9_ HB HI0);rintro e w6 ⟨rfl,hi,hb,hk⟩;refine ⟨_,rfl,?_⟩;have n0_:=O (KeepBut.trans (q10_ HK) hk (.inl rfl));have n1_:=O (hb);have n2_:=O (hi);clear HK HB HI0;have HK:=n0_;have HB:=n1_;have HI0:=n2_;clear n0_ n1_ n2_;(try clear hb);(try clear hk);(try clear hi);have p403 : 0 ≤ (t401 : Int):=of_decide_eq_true (by first | (with_reducible assumption) | assumption);have q403 : t401 < (l1.length : Int):=of_decide_eq_true (by first | (with_reducible assumption) | assumption);obtain ⟨ad403,e403,hx403_0⟩:=Kd.at_int HR1.out t401 p403 q403;cases e403;replace hx403_0:=keep_cell HK.out hx403_0 (by first | (rw [add_block];exact hf1 _ rfl (by omega)) | exact hf1 _ rfl (by omega) | exact hf1 ad403 rfl (by omega));replace p403:=eq_true p403;replace q403:=eq_true q403))
   go_ret
   exact ⟨by first | rfl | (simp [errW_none,errW_some] <;> rfl) | (simp [*,errW_none,errW_some] <;> rfl),by repeat (first | (with_reducible first | exact HI0.out | apply IsS101.alloc | apply IsS101.drewN | apply IsS101.drew | apply IsS101.set_1) | exact HI0.out),by repeat (first | (with_reducible first | exact HB.out | apply below_alloc | apply pw_below_drewN | apply below_drew1 | refine below_set ?_ (IsS101.ge HI0.out)) | exact HB.out),by repeat (first | (with_reducible first | exact HK.out | apply KeepBut.set_ | apply keep_drewN | apply keep_drew | apply keep_alloc) | exact HK.out)⟩
  ·rw [if_neg c5] at H
   exact absurd H (by simp)
 ·rw [if_neg c4] at H
  exact absurd H (by simp)
end Go.Proofs.Ytphbdoljkpdflaa.P
