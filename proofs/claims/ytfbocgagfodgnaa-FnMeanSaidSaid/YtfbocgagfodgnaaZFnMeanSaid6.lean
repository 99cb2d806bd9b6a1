/- Parts of the proof of FnMeanSaid: plain Lean functions of Go functions, and that the calls come to what they say; no condition beyond those that each theorem names. -/
import Derived.Test.YtfbocgagfodgnaaZFnMeanSaid4
namespace Go.Proofs.Ytfbocgagfodgnaa.P
open Go.RowKit Go.Proofs.YtfbocgagfodgnaaW.PrintWords Go.Proofs.YtfbocgagfodgnaaW.PrintLast Go.Proofs.YtfbocgagfodgnaaW.PrintMore
open Go.Proofs.YtfbocgagfodgnaaW.PrintWords renaming Aside0.mk → O, blk_frozen → Z, blk_cell → J, pw_below_drewN → Y, below_drew1 → E, below_alloc → U, below_set → G
open Option renaming some.inj → X
open Go renaming World.block_lt_of_cell? → Q
open Go.Proofs.Ytfbocgagfodgnaa.P renaming errW_some → W, errW_none → V
attribute [local go_sem] max2_int min2_int max_two min_two max_three min_three max_four min_four
set_option linter.unusedVariables false
set_option linter.unusedSimpArgs false
def spec_NumOk.f (a0 : Int) : Option (Bool):=if a0 ≥ (-999) then (some (decide (a0 ≤ 999))) else (some false)
set_option maxHeartbeats 8000000 in
set_option maxRecDepth 100000 in
theorem spec_NumOk.calls (a0 : Int) (r : Bool) (w : World) (h : spec_NumOk.f a0 = some r) :
  Calls Try.prog 56 #[.int .i64 a0] w fun e w'=>e = .returned (.bool r) ∧ Drawn0 w w':=by
 have H : (if a0 ≥ (-999) then (some (decide (a0 ≤ 999))) else (some false)) = some r:=h;clear h
 by_cases c2 : a0 ≥ (-999)
 ·rw [if_pos c2] at H;have c2b0 : decide ((-999) ≤ a0) = true:=decide_eq_true c2;clear c2;obtain rfl:=X H;go_enter Try.func56,Try.ntmps56
  go_wp2
  go_ret
  exact ⟨by first | rfl | (simp;done) | (simp [*];done),by repeat (first | exact Drawn0.refl _ | apply Drawn0.step)⟩
 ·rw [if_neg c2] at H;have c2b0 : decide ((-999) ≤ a0) = false:=decide_eq_false c2;clear c2;obtain rfl:=X H;go_enter Try.func56,Try.ntmps56
  go_wp2
  go_ret
  exact ⟨by first | rfl | (simp;done) | (simp [*];done),by repeat (first | exact Drawn0.refl _ | apply Drawn0.step)⟩
mutual
def spec_l2Leaf.j0 : Nat → Int → Bool → Int → Int → Int → Int → List (S69) → List (S69) → Option (Bool)
 | 0,_,_,_,_,_,_,_,_=>none
 | k + 1,x1,x5,x182000,x182001,x182002,x182003,x182004,x182005=>if x182002 ≥ 0 then (spec_l2Leaf.j1 k x1 x5 (decide (x182002 < 3)) x182000 x182001 x182002 x182003 x182004 x182005) else (spec_l2Leaf.j1 k x1 x5 false x182000 x182001 x182002 x182003 x182004 x182005)
def spec_l2Leaf.j1 : Nat → Int → Bool → Bool → Int → Int → Int → Int → List (S69) → List (S69) → Option (Bool)
 | 0,_,_,_,_,_,_,_,_,_=>none
 | k + 1,x1,x5,x6,x182000,x182001,x182002,x182003,x182004,x182005=>if x182000 = 1 then (if x5 = true then (if x182002 = 0 then ((spec_NumOk.f x182003).bind fun t182=>(some t182)) else (some false)) else (some false)) else (if x182000 = 2 then (if x5 = true then (if x6 = true then (if x182003 ≥ 1 then (some (decide (x182003 ≤ 5))) else (some false)) else (some false)) else (some false)) else (if x182000 = 3 then (if x5 = true then (if x182002 ≥ 0 then (if x182002 < 3 then (some (x182003 == 0)) else (some false)) else (some false)) else (some false)) else (if x182000 = 4 then (if x182001 ≥ 0 then (if x182001 < 3 then (if x6 = true then (some (x182003 == 0)) else (some false)) else (some false)) else (some false)) else (if x182000 = 5 then (if x5 = true then (if x182002 = 0 then (some (x182003 == 0)) else (some false)) else (some false)) else (if x182000 = 9 then (if x1 ≥ 0 then (if x182001 ≥ 0 then (if x182001 < 2 then (if x182002 = 0 then (some (x182003 == 0)) else (some false)) else (some false)) else (some false)) else (some false)) else (if x182000 = 10 then (if x182001 ≥ 0 then (if x182001 < 2 then (if x182002 = 0 then (some (x182003 == 0)) else (some false)) else (some false)) else (some false)) else (if x182000 = 11 then (if x182001 = 0 then (if x182002 = 0 then (some (x182003 == 0)) else (some false)) else (some false)) else (some false))))))))
end
def spec_l2Leaf.f (k : Nat) (a0_0 : Int) (a0_1 : Int) (a0_2 : Int) (a0_3 : Int) (l0_4 : List (S69)) (l0_5 : List (S69)) (a1 : Int) : Option (Bool):=if a0_1 ≥ 0 then (spec_l2Leaf.j0 k a1 (decide (a0_1 < 3)) a0_0 a0_1 a0_2 a0_3 l0_4 l0_5) else (spec_l2Leaf.j0 k a1 false a0_0 a0_1 a0_2 a0_3 l0_4 l0_5)
set_option maxHeartbeats 8000000 in
set_option maxRecDepth 100000 in
theorem spec_l2Leaf.calls (k : Nat) (a0_0 : Int) (a0_1 : Int) (a0_2 : Int) (a0_3 : Int) (A0_4 : Option Addr) (c0_4 : Nat) (l0_4 : List (S69)) (A0_5 : Option Addr) (c0_5 : Nat) (l0_5 : List (S69)) (a1 : Int) (r : Bool) (w : World) (hr0_4 : Kd.C k69 w A0_4 l0_4.length l0_4) (hc0_4 : l0_4.length ≤ c0_4) (hr0_5 : Kd.C k69 w A0_5 l0_5.length l0_5) (hc0_5 : l0_5.length ≤ c0_5) (h : spec_l2Leaf.f k a0_0 a0_1 a0_2 a0_3 l0_4 l0_5 a1 = some r) :
  Calls Try.prog 58 #[.agg #[.int .i64 a0_0,.int .i64 a0_1,.int .i64 a0_2,.int .i64 a0_3,.slice A0_4 l0_4.length c0_4,.slice A0_5 l0_5.length c0_5],.int .i64 a1] w fun e w'=>e = .returned (.bool r) ∧ Below w.heap.size w w':=by
 have hu69:=Try.underlying69;have HR0_4:=O hr0_4;have HC0_4:=O hc0_4;clear hr0_4 hc0_4;have HR0_5:=O hr0_5;have HC0_5:=O hc0_5;clear hr0_5 hc0_5;have HB:=O (Below.refl w.heap.size w);have H : (if a0_1 ≥ 0 then (spec_l2Leaf.j0 k a1 (decide (a0_1 < 3)) a0_0 a0_1 a0_2 a0_3 l0_4 l0_5) else (spec_l2Leaf.j0 k a1 false a0_0 a0_1 a0_2 a0_3 l0_4 l0_5)) = some r:=h;clear h;have HC3:=O H;clear H;go_enter Try.func58,Try.ntmps58
 go_upto_region 1 with (first | ((with_reducible refine gate_dst (N:=2) rfl ?_);refine box_event ?hg (N:=2) ?hd (cs:=#[.int .i64 a0_0,.int .i64 a0_1,.int .i64 a0_2,.int .i64 a0_3,.slice A0_4 l0_4.length c0_4,.slice A0_5 l0_5.length c0_5]) (t:=69) ?hr ?_;(case hd=>rfl);(case hg=>rfl);(case hr=>first | (go_simp;done) | (go_simp;rfl));intro gb181 hg w4 hbox hb;have n0_:=O (below_step (q0_ HB) hb);have n1_:=O (hbox);have n2_:=O ((by rw [hg];exact (below_size (q0_ HB)) : w.heap.size ≤ gb181));have n3_:=O ((by rw [hg];exact (below_size (q0_ HB)) : w.heap.size ≤ gb181));clear HB;have HB:=n0_;have BK181:=n1_;have GW181:=n2_;have GE181:=n3_;clear n0_ n1_ n2_ n3_ hb hbox hg))
 (try simp only [Act.put,List.setIfInBounds_toArray,List.set_cons_zero,List.set_cons_succ])
 go_cut [5] (fun v5 wc=>∃ (kq : Nat) (x5_2 : Bool),v5 = .bool x5_2 ∧ Aside0 (spec_l2Leaf.j0 kq a1 x5_2 a0_0 a0_1 a0_2 a0_3 l0_4 l0_5 = some r) ∧ Aside0 (kq ≤ k) ∧ Aside0 (wc.heap[gb181]? = some (.cells #[.int .i64 a0_0,.int .i64 a0_1,.int .i64 a0_2,.int .i64 a0_3,(.slice A0_4 l0_4.length c0_4),(.slice A0_5 l0_5.length c0_5)] 69 (0,0))) ∧ Aside0 (Below w.heap.size w wc))
 case first =>
  have H:=HC3.out;clear HC3
  by_cases c5 : a0_1 ≥ 0
  ·rw [if_pos c5] at H;have c5b0 : decide (0 ≤ a0_1) = true:=decide_eq_true c5;clear c5
   (first | rw [c5b0] | (simp only [i64_w,i32_w];rw [c5b0]) | skip)
   have H':=O H;clear H;have hcz6_0 : w4.cell? ⟨gb181,0,none⟩ = some (.int .i64 a0_0):=(J BK181.out 0).trans rfl;have hcz6_1 : w4.cell? ⟨gb181,1,none⟩ = some (.int .i64 a0_1):=(J BK181.out 1).trans rfl;have hcz6_2 : w4.cell? ⟨gb181,2,none⟩ = some (.int .i64 a0_2):=(J BK181.out 2).trans rfl;have hcz6_3 : w4.cell? ⟨gb181,3,none⟩ = some (.int .i64 a0_3):=(J BK181.out 3).trans rfl;have hcz6_4 : w4.cell? ⟨gb181,4,none⟩ = some (.slice A0_4 l0_4.length c0_4):=(J BK181.out 4).trans rfl;have hcz6_5 : w4.cell? ⟨gb181,5,none⟩ = some (.slice A0_5 l0_5.length c0_5):=(J BK181.out 5).trans rfl;have hfz6_0:=Z BK181.out 0;have hfz6_1:=Z BK181.out 1;have hfz6_2:=Z BK181.out 2;have hfz6_3:=Z BK181.out 3;have hfz6_4:=Z BK181.out 4;have hfz6_5:=Z BK181.out 5
   go_wp2
   go_meet
   case rel=>exact ⟨_,(decide (a0_1 < 3)),(by first | rfl | (simp;done) | (simp [*];done)),H',⟨by first | omega | exact Nat.le_refl _⟩,⟨by (with_reducible repeat (first | refine blk_drewN ?_ _ | refine blk_drew ?_ | refine blk_alloc ?_ _));exact BK181.out⟩,⟨by repeat (first | (with_reducible first | exact HB.out | apply U | apply Y | apply E | refine G ?_ GE181.out) | exact HB.out)⟩⟩
  ·rw [if_neg c5] at H;have c5b0 : decide (0 ≤ a0_1) = false:=decide_eq_false c5;clear c5
   (first | rw [c5b0] | (simp only [i64_w,i32_w];rw [c5b0]) | skip)
   have H':=O H;clear H;have hcz7_0 : w4.cell? ⟨gb181,0,none⟩ = some (.int .i64 a0_0):=(J BK181.out 0).trans rfl;have hcz7_1 : w4.cell? ⟨gb181,1,none⟩ = some (.int .i64 a0_1):=(J BK181.out 1).trans rfl;have hcz7_2 : w4.cell? ⟨gb181,2,none⟩ = some (.int .i64 a0_2):=(J BK181.out 2).trans rfl;have hcz7_3 : w4.cell? ⟨gb181,3,none⟩ = some (.int .i64 a0_3):=(J BK181.out 3).trans rfl;have hcz7_4 : w4.cell? ⟨gb181,4,none⟩ = some (.slice A0_4 l0_4.length c0_4):=(J BK181.out 4).trans rfl;have hcz7_5 : w4.cell? ⟨gb181,5,none⟩ = some (.slice A0_5 l0_5.length c0_5):=(J BK181.out 5).trans rfl;have hfz7_0:=Z BK181.out 0;have hfz7_1:=Z BK181.out 1;have hfz7_2:=Z BK181.out 2;have hfz7_3:=Z BK181.out 3;have hfz7_4:=Z BK181.out 4;have hfz7_5:=Z BK181.out 5
   go_wp2
   go_meet
   case rel=>exact ⟨_,(false),(by first | rfl | (simp;done) | (simp [*];done)),H',⟨by first | omega | exact Nat.le_refl _⟩,⟨by (with_reducible repeat (first | refine blk_drewN ?_ _ | refine blk_drew ?_ | refine blk_alloc ?_ _));exact BK181.out⟩,⟨by repeat (first | (with_reducible first | exact HB.out | apply U | apply Y | apply E | refine G ?_ GE181.out) | exact HB.out)⟩⟩
 case rest =>
  clear HC3;(try clear p2);(try clear c5);(try clear c5b0);(try clear hcz6_0);(try clear hcz6_1);(try clear hcz6_2);(try clear hcz6_3);(try clear hcz6_4);(try clear hcz6_5);(try clear hcz7_0);(try clear hcz7_1);(try clear hcz7_2);(try clear hcz7_3);(try clear hcz7_4);(try clear hcz7_5);(try clear hfz6_0);(try clear hfz6_1);(try clear hfz6_2);(try clear hfz6_3);(try clear hfz6_4);(try clear hfz6_5);(try clear hfz7_0);(try clear hfz7_1);(try clear hfz7_2);(try clear hfz7_3);(try clear hfz7_4);(try clear hfz7_5);obtain ⟨kq,x5_2,rfl,HA,HJ2,BK181,HB⟩:=hcut
  cases kq with
  | zero=>exact absurd HA.out (by simp [spec_l2Leaf.j0])
  | succ kj2 =>
   have H:=HA.out;clear HA;simp only [spec_l2Leaf.j0] at H;have HC8:=O H;clear H
   go_upto_region 2 with (fail)
   go_cut [6] (fun v6 wc=>∃ (kq : Nat) (x6_7 : Bool),v6 = .bool x6_7 ∧ Aside0 (spec_l2Leaf.j1 kq a1 x5_2 x6_7 a0_0 a0_1 a0_2 a0_3 l0_4 l0_5 = some r) ∧ Aside0 (kq ≤ kj2) ∧ Aside0 (wc.heap[gb181]? = some (.cells #[.int .i64 a0_0,.int .i64 a0_1,.int .i64 a0_2,.int .i64 a0_3,(.slice A0_4 l0_4.length c0_4),(.slice A0_5 l0_5.length c0_5)] 69 (0,0))) ∧ Aside0 (Below w.heap.size w wc))
   case first =>
    have H:=HC8.out;clear HC8
    by_cases c9 : a0_2 ≥ 0
    ·rw [if_pos c9] at H;have c9b0 : decide (0 ≤ a0_2) = true:=decide_eq_true c9;clear c9
     (first | rw [c9b0] | (simp only [i64_w,i32_w];rw [c9b0]) | skip)
     have H':=O H;clear H;have hcz10_0 : wc.cell? ⟨gb181,0,none⟩ = some (.int .i64 a0_0):=(J BK181.out 0).trans rfl;have hcz10_1 : wc.cell? ⟨gb181,1,none⟩ = some (.int .i64 a0_1):=(J BK181.out 1).trans rfl;have hcz10_2 : wc.cell? ⟨gb181,2,none⟩ = some (.int .i64 a0_2):=(J BK181.out 2).trans rfl;have hcz10_3 : wc.cell? ⟨gb181,3,none⟩ = some (.int .i64 a0_3):=(J BK181.out 3).trans rfl;have hcz10_4 : wc.cell? ⟨gb181,4,none⟩ = some (.slice A0_4 l0_4.length c0_4):=(J BK181.out 4).trans rfl;have hcz10_5 : wc.cell? ⟨gb181,5,none⟩ = some (.slice A0_5 l0_5.length c0_5):=(J BK181.out 5).trans rfl;have hfz10_0:=Z BK181.out 0;have hfz10_1:=Z BK181.out 1;have hfz10_2:=Z BK181.out 2;have hfz10_3:=Z BK181.out 3;have hfz10_4:=Z BK181.out 4;have hfz10_5:=Z BK181.out 5
     go_wp2
     go_meet
     case rel=>exact ⟨_,(decide (a0_2 < 3)),(by first | rfl | (simp;done) | (simp [*];done)),H',⟨by have:=HJ2.out;first | omega | exact Nat.le_refl _⟩,⟨by (with_reducible repeat (first | refine blk_drewN ?_ _ | refine blk_drew ?_ | refine blk_alloc ?_ _));exact BK181.out⟩,⟨by repeat (first | (with_reducible first | exact HB.out | apply U | apply Y | apply E | refine G ?_ GE181.out) | exact HB.out)⟩⟩
    ·rw [if_neg c9] at H;have c9b0 : decide (0 ≤ a0_2) = false:=decide_eq_false c9;clear c9
     (first | rw [c9b0] | (simp only [i64_w,i32_w];rw [c9b0]) | skip)
     have H':=O H;clear H;have hcz11_0 : wc.cell? ⟨gb181,0,none⟩ = some (.int .i64 a0_0):=(J BK181.out 0).trans rfl;have hcz11_1 : wc.cell? ⟨gb181,1,none⟩ = some (.int .i64 a0_1):=(J BK181.out 1).trans rfl;have hcz11_2 : wc.cell? ⟨gb181,2,none⟩ = some (.int .i64 a0_2):=(J BK181.out 2).trans rfl;have hcz11_3 : wc.cell? ⟨gb181,3,none⟩ = some (.int .i64 a0_3):=(J BK181.out 3).trans rfl;have hcz11_4 : wc.cell? ⟨gb181,4,none⟩ = some (.slice A0_4 l0_4.length c0_4):=(J BK181.out 4).trans rfl;have hcz11_5 : wc.cell? ⟨gb181,5,none⟩ = some (.slice A0_5 l0_5.length c0_5):=(J BK181.out 5).trans rfl;have hfz11_0:=Z BK181.out 0;have hfz11_1:=Z BK181.out 1;have hfz11_2:=Z BK181.out 2;have hfz11_3:=Z BK181.out 3;have hfz11_4:=Z BK181.out 4;have hfz11_5:=Z BK181.out 5
     go_wp2
     go_meet
     case rel=>exact ⟨_,(false),(by first | rfl | (simp;done) | (simp [*];done)),H',⟨by have:=HJ2.out;first | omega | exact Nat.le_refl _⟩,⟨by (with_reducible repeat (first | refine blk_drewN ?_ _ | refine blk_drew ?_ | refine blk_alloc ?_ _));exact BK181.out⟩,⟨by repeat (first | (with_reducible first | exact HB.out | apply U | apply Y | apply E | refine G ?_ GE181.out) | exact HB.out)⟩⟩
   case rest =>
    clear HC8;(try clear p2);(try clear c5);(try clear c5b0);(try clear c9);(try clear c9b0);(try clear hcz10_0);(try clear hcz10_1);(try clear hcz10_2);(try clear hcz10_3);(try clear hcz10_4);(try clear hcz10_5);(try clear hcz11_0);(try clear hcz11_1);(try clear hcz11_2);(try clear hcz11_3);(try clear hcz11_4);(try clear hcz11_5);(try clear hcz6_0);(try clear hcz6_1);(try clear hcz6_2);(try clear hcz6_3);(try clear hcz6_4);(try clear hcz6_5);(try clear hcz7_0);(try clear hcz7_1);(try clear hcz7_2);(try clear hcz7_3);(try clear hcz7_4);(try clear hcz7_5);(try clear hfz10_0);(try clear hfz10_1);(try clear hfz10_2);(try clear hfz10_3);(try clear hfz10_4);(try clear hfz10_5);(try clear hfz11_0);(try clear hfz11_1);(try clear hfz11_2);(try clear hfz11_3);(try clear hfz11_4);(try clear hfz11_5);(try clear hfz6_0);(try clear hfz6_1);(try clear hfz6_2);(try clear hfz6_3);(try clear hfz6_4);(try clear hfz6_5);(try clear hfz7_0);(try clear hfz7_1);(try clear hfz7_2);(try clear hfz7_3);(try clear hfz7_4);(try clear hfz7_5);(try clear p2);obtain ⟨kq,x6_7,rfl,HA,HJ7,BK181,HB⟩:=hcut
    cases kq with
    | zero=>exact absurd HA.out (by simp [spec_l2Leaf.j1])
    | succ kj7 =>
     have H:=HA.out;clear HA;simp only [spec_l2Leaf.j1] at H
     by_cases c12 : a0_0 = 1
     ·rw [if_pos c12] at H;have c12b0 : (a0_0 == 1) = true:=beq_iff_eq.mpr c12;have c12b1 : (a0_0 != 1) = false:=bne_eq_false_iff_eq.mpr c12;clear c12
      by_cases c13 : x5_2 = true
      ·subst c13
       have H1 : (if a0_2 = 0 then ((spec_NumOk.f a0_3).bind fun t182=>(some t182)) else (some false)) = some r:=by rw [if_pos rfl] at H;exact H
       clear H;have H:=H1;clear H1
       by_cases c14 : a0_2 = 0
       ·rw [if_pos c14] at H;have c14b0 : (a0_2 == 0) = true:=beq_iff_eq.mpr c14;have c14b1 : (a0_2 != 0) = false:=bne_eq_false_iff_eq.mpr c14;clear c14;replace H:=Option.bind_eq_some_iff.mp H;obtain ⟨t182,A150,H⟩:=H;replace H : (some t182) = some r:=H;have A15:=O A150;clear A150;obtain rfl:=X H;have hcz16_0 : wc.cell? ⟨gb181,0,none⟩ = some (.int .i64 a0_0):=(J BK181.out 0).trans rfl;have hcz16_1 : wc.cell? ⟨gb181,1,none⟩ = some (.int .i64 a0_1):=(J BK181.out 1).trans rfl;have hcz16_2 : wc.cell? ⟨gb181,2,none⟩ = some (.int .i64 a0_2):=(J BK181.out 2).trans rfl;have hcz16_3 : wc.cell? ⟨gb181,3,none⟩ = some (.int .i64 a0_3):=(J BK181.out 3).trans rfl;have hcz16_4 : wc.cell? ⟨gb181,4,none⟩ = some (.slice A0_4 l0_4.length c0_4):=(J BK181.out 4).trans rfl;have hcz16_5 : wc.cell? ⟨gb181,5,none⟩ = some (.slice A0_5 l0_5.length c0_5):=(J BK181.out 5).trans rfl;have hfz16_0:=Z BK181.out 0;have hfz16_1:=Z BK181.out 1;have hfz16_2:=Z BK181.out 2;have hfz16_3:=Z BK181.out 3;have hfz16_4:=Z BK181.out 4;have hfz16_5:=Z BK181.out 5
        go_wp2_with (first | (go_at_call 56;(with_reducible refine (spec_NumOk.calls a0_3 t182 _ A15.out).mono ?_);rintro e w' ⟨rfl,⟨nd,rfl⟩⟩))
        go_ret
        exact ⟨by first | rfl | (simp [V,W] <;> rfl) | (simp [*,V,W] <;> rfl),by repeat (first | (with_reducible first | exact HB.out | apply U | apply Y | apply E | refine G ?_ GE181.out) | exact HB.out)⟩
       ·rw [if_neg c14] at H;have c14b0 : (a0_2 == 0) = false:=beq_eq_false_iff_ne.mpr c14;have c14b1 : (a0_2 != 0) = true:=bne_iff_ne.mpr c14;obtain rfl:=X H;have hcz17_0 : wc.cell? ⟨gb181,0,none⟩ = some (.int .i64 a0_0):=(J BK181.out 0).trans rfl;have hcz17_1 : wc.cell? ⟨gb181,1,none⟩ = some (.int .i64 a0_1):=(J BK181.out 1).trans rfl;have hcz17_2 : wc.cell? ⟨gb181,2,none⟩ = some (.int .i64 a0_2):=(J BK181.out 2).trans rfl;have hcz17_3 : wc.cell? ⟨gb181,3,none⟩ = some (.int .i64 a0_3):=(J BK181.out 3).trans rfl;have hcz17_4 : wc.cell? ⟨gb181,4,none⟩ = some (.slice A0_4 l0_4.length c0_4):=(J BK181.out 4).trans rfl;have hcz17_5 : wc.cell? ⟨gb181,5,none⟩ = some (.slice A0_5 l0_5.length c0_5):=(J BK181.out 5).trans rfl;have hfz17_0:=Z BK181.out 0;have hfz17_1:=Z BK181.out 1;have hfz17_2:=Z BK181.out 2;have hfz17_3:=Z BK181.out 3;have hfz17_4:=Z BK181.out 4;have hfz17_5:=Z BK181.out 5
        go_wp2
        go_ret
        exact ⟨by first | rfl | (simp [V,W] <;> rfl) | (simp [*,V,W] <;> rfl),by repeat (first | (with_reducible first | exact HB.out | apply U | apply Y | apply E | refine G ?_ GE181.out) | exact HB.out)⟩
      ·replace c13:=Bool.eq_false_iff.mpr c13;subst c13
       have H1 : (some false) = some r:=by rw [if_neg (show ¬ (false = true) by decide)] at H;exact H
       clear H;have H:=H1;clear H1;obtain rfl:=X H;have hcz18_0 : wc.cell? ⟨gb181,0,none⟩ = some (.int .i64 a0_0):=(J BK181.out 0).trans rfl;have hcz18_1 : wc.cell? ⟨gb181,1,none⟩ = some (.int .i64 a0_1):=(J BK181.out 1).trans rfl;have hcz18_2 : wc.cell? ⟨gb181,2,none⟩ = some (.int .i64 a0_2):=(J BK181.out 2).trans rfl;have hcz18_3 : wc.cell? ⟨gb181,3,none⟩ = some (.int .i64 a0_3):=(J BK181.out 3).trans rfl;have hcz18_4 : wc.cell? ⟨gb181,4,none⟩ = some (.slice A0_4 l0_4.length c0_4):=(J BK181.out 4).trans rfl;have hcz18_5 : wc.cell? ⟨gb181,5,none⟩ = some (.slice A0_5 l0_5.length c0_5):=(J BK181.out 5).trans rfl;have hfz18_0:=Z BK181.out 0;have hfz18_1:=Z BK181.out 1;have hfz18_2:=Z BK181.out 2;have hfz18_3:=Z BK181.out 3;have hfz18_4:=Z BK181.out 4;have hfz18_5:=Z BK181.out 5
       go_wp2
       go_ret
       exact ⟨by first | rfl | (simp [V,W] <;> rfl) | (simp [*,V,W] <;> rfl),by repeat (first | (with_reducible first | exact HB.out | apply U | apply Y | apply E | refine G ?_ GE181.out) | exact HB.out)⟩
     ·rw [if_neg c12] at H;have c12b0 : (a0_0 == 1) = false:=beq_eq_false_iff_ne.mpr c12;have c12b1 : (a0_0 != 1) = true:=bne_iff_ne.mpr c12
      by_cases c19 : a0_0 = 2
      ·rw [if_pos c19] at H;have c19b0 : (a0_0 == 2) = true:=beq_iff_eq.mpr c19;have c19b1 : (a0_0 != 2) = false:=bne_eq_false_iff_eq.mpr c19;clear c19
       by_cases c20 : x5_2 = true
       ·subst c20
        have H1 : (if x6_7 = true then (if a0_3 ≥ 1 then (some (decide (a0_3 ≤ 5))) else (some false)) else (some false)) = some r:=by rw [if_pos rfl] at H;exact H
        clear H;have H:=H1;clear H1
        by_cases c21 : x6_7 = true
        ·subst c21
         have H1 : (if a0_3 ≥ 1 then (some (decide (a0_3 ≤ 5))) else (some false)) = some r:=by rw [if_pos rfl] at H;exact H
         clear H;have H:=H1;clear H1
         by_cases c22 : a0_3 ≥ 1
         ·rw [if_pos c22] at H;have c22b0 : decide (1 ≤ a0_3) = true:=decide_eq_true c22;clear c22;obtain rfl:=X H;have hcz23_0 : wc.cell? ⟨gb181,0,none⟩ = some (.int .i64 a0_0):=(J BK181.out 0).trans rfl;have hcz23_1 : wc.cell? ⟨gb181,1,none⟩ = some (.int .i64 a0_1):=(J BK181.out 1).trans rfl;have hcz23_2 : wc.cell? ⟨gb181,2,none⟩ = some (.int .i64 a0_2):=(J BK181.out 2).trans rfl;have hcz23_3 : wc.cell? ⟨gb181,3,none⟩ = some (.int .i64 a0_3):=(J BK181.out 3).trans rfl;have hcz23_4 : wc.cell? ⟨gb181,4,none⟩ = some (.slice A0_4 l0_4.length c0_4):=(J BK181.out 4).trans rfl;have hcz23_5 : wc.cell? ⟨gb181,5,none⟩ = some (.slice A0_5 l0_5.length c0_5):=(J BK181.out 5).trans rfl;have hfz23_0:=Z BK181.out 0;have hfz23_1:=Z BK181.out 1;have hfz23_2:=Z BK181.out 2;have hfz23_3:=Z BK181.out 3;have hfz23_4:=Z BK181.out 4;have hfz23_5:=Z BK181.out 5
          go_wp2
          go_ret
          exact ⟨by first | rfl | (simp [V,W] <;> rfl) | (simp [*,V,W] <;> rfl),by repeat (first | (with_reducible first | exact HB.out | apply U | apply Y | apply E | refine G ?_ GE181.out) | exact HB.out)⟩
         ·rw [if_neg c22] at H;have c22b0 : decide (1 ≤ a0_3) = false:=decide_eq_false c22;clear c22;obtain rfl:=X H;have hcz24_0 : wc.cell? ⟨gb181,0,none⟩ = some (.int .i64 a0_0):=(J BK181.out 0).trans rfl;have hcz24_1 : wc.cell? ⟨gb181,1,none⟩ = some (.int .i64 a0_1):=(J BK181.out 1).trans rfl;have hcz24_2 : wc.cell? ⟨gb181,2,none⟩ = some (.int .i64 a0_2):=(J BK181.out 2).trans rfl;have hcz24_3 : wc.cell? ⟨gb181,3,none⟩ = some (.int .i64 a0_3):=(J BK181.out 3).trans rfl;have hcz24_4 : wc.cell? ⟨gb181,4,none⟩ = some (.slice A0_4 l0_4.length c0_4):=(J BK181.out 4).trans rfl;have hcz24_5 : wc.cell? ⟨gb181,5,none⟩ = some (.slice A0_5 l0_5.length c0_5):=(J BK181.out 5).trans rfl;have hfz24_0:=Z BK181.out 0;have hfz24_1:=Z BK181.out 1;have hfz24_2:=Z BK181.out 2;have hfz24_3:=Z BK181.out 3;have hfz24_4:=Z BK181.out 4;have hfz24_5:=Z BK181.out 5
          go_wp2
          go_ret
          exact ⟨by first | rfl | (simp [V,W] <;> rfl) | (simp [*,V,W] <;> rfl),by repeat (first | (with_reducible first | exact HB.out | apply U | apply Y | apply E | refine G ?_ GE181.out) | exact HB.out)⟩
        ·replace c21:=Bool.eq_false_iff.mpr c21;subst c21
         have H1 : (some false) = some r:=by rw [if_neg (show ¬ (false = true) by decide)] at H;exact H
         clear H;have H:=H1;clear H1;obtain rfl:=X H;have hcz25_0 : wc.cell? ⟨gb181,0,none⟩ = some (.int .i64 a0_0):=(J BK181.out 0).trans rfl;have hcz25_1 : wc.cell? ⟨gb181,1,none⟩ = some (.int .i64 a0_1):=(J BK181.out 1).trans rfl;have hcz25_2 : wc.cell? ⟨gb181,2,none⟩ = some (.int .i64 a0_2):=(J BK181.out 2).trans rfl;have hcz25_3 : wc.cell? ⟨gb181,3,none⟩ = some (.int .i64 a0_3):=(J BK181.out 3).trans rfl;have hcz25_4 : wc.cell? ⟨gb181,4,none⟩ = some (.slice A0_4 l0_4.length c0_4):=(J BK181.out 4).trans rfl;have hcz25_5 : wc.cell? ⟨gb181,5,none⟩ = some (.slice A0_5 l0_5.length c0_5):=(J BK181.out 5).trans rfl;have hfz25_0:=Z BK181.out 0;have hfz25_1:=Z BK181.out 1;have hfz25_2:=Z BK181.out 2;have hfz25_3:=Z BK181.out 3;have hfz25_4:=Z BK181.out 4;have hfz25_5:=Z BK181.out 5
         go_wp2
         go_ret
         exact ⟨by first | rfl | (simp [V,W] <;> rfl) | (simp [*,V,W] <;> rfl),by repeat (first | (with_reducible first | exact HB.out | apply U | apply Y | apply E | refine G ?_ GE181.out) | exact HB.out)⟩
       ·replace c20:=Bool.eq_false_iff.mpr c20;subst c20
        have H1 : (some false) = some r:=by rw [if_neg (show ¬ (false = true) by decide)] at H;exact H
        clear H;have H:=H1;clear H1;obtain rfl:=X H;have hcz26_0 : wc.cell? ⟨gb181,0,none⟩ = some (.int .i64 a0_0):=(J BK181.out 0).trans rfl;have hcz26_1 : wc.cell? ⟨gb181,1,none⟩ = some (.int .i64 a0_1):=(J BK181.out 1).trans rfl;have hcz26_2 : wc.cell? ⟨gb181,2,none⟩ = some (.int .i64 a0_2):=(J BK181.out 2).trans rfl;have hcz26_3 : wc.cell? ⟨gb181,3,none⟩ = some (.int .i64 a0_3):=(J BK181.out 3).trans rfl;have hcz26_4 : wc.cell? ⟨gb181,4,none⟩ = some (.slice A0_4 l0_4.length c0_4):=(J BK181.out 4).trans rfl;have hcz26_5 : wc.cell? ⟨gb181,5,none⟩ = some (.slice A0_5 l0_5.length c0_5):=(J BK181.out 5).trans rfl;have hfz26_0:=Z BK181.out 0;have hfz26_1:=Z BK181.out 1;have hfz26_2:=Z BK181.out 2;have hfz26_3:=Z BK181.out 3;have hfz26_4:=Z BK181.out 4;have hfz26_5:=Z BK181.out 5
        go_wp2
        go_ret
        exact ⟨by first | rfl | (simp [V,W] <;> rfl) | (simp [*,V,W] <;> rfl),by repeat (first | (with_reducible first | exact HB.out | apply U | apply Y | apply E | refine G ?_ GE181.out) | exact HB.out)⟩
      ·rw [if_neg c19] at H;have c19b0 : (a0_0 == 2) = false:=beq_eq_false_iff_ne.mpr c19;have c19b1 : (a0_0 != 2) = true:=bne_iff_ne.mpr c19
       by_cases c27 : a0_0 = 3
       ·rw [if_pos c27] at H;have c27b0 : (a0_0 == 3) = true:=beq_iff_eq.mpr c27;have c27b1 : (a0_0 != 3) = false:=bne_eq_false_iff_eq.mpr c27;clear c27
        by_cases c28 : x5_2 = true
        ·subst c28
         have H1 : (if a0_2 ≥ 0 then (if a0_2 < 3 then (some (a0_3 == 0)) else (some false)) else (some false)) = some r:=by rw [if_pos rfl] at H;exact H
         clear H;have H:=H1;clear H1
         by_cases c29 : a0_2 ≥ 0
         ·rw [if_pos c29] at H;have c29b0 : decide (0 ≤ a0_2) = true:=decide_eq_true c29;clear c29
          by_cases c30 : a0_2 < 3
          ·rw [if_pos c30] at H;have c30b0 : decide (a0_2 < 3) = true:=decide_eq_true c30;clear c30;obtain rfl:=X H;have hcz31_0 : wc.cell? ⟨gb181,0,none⟩ = some (.int .i64 a0_0):=(J BK181.out 0).trans rfl;have hcz31_1 : wc.cell? ⟨gb181,1,none⟩ = some (.int .i64 a0_1):=(J BK181.out 1).trans rfl;have hcz31_2 : wc.cell? ⟨gb181,2,none⟩ = some (.int .i64 a0_2):=(J BK181.out 2).trans rfl;have hcz31_3 : wc.cell? ⟨gb181,3,none⟩ = some (.int .i64 a0_3):=(J BK181.out 3).trans rfl;have hcz31_4 : wc.cell? ⟨gb181,4,none⟩ = some (.slice A0_4 l0_4.length c0_4):=(J BK181.out 4).trans rfl;have hcz31_5 : wc.cell? ⟨gb181,5,none⟩ = some (.slice A0_5 l0_5.length c0_5):=(J BK181.out 5).trans rfl;have hfz31_0:=Z BK181.out 0;have hfz31_1:=Z BK181.out 1;have hfz31_2:=Z BK181.out 2;have hfz31_3:=Z BK181.out 3;have hfz31_4:=Z BK181.out 4;have hfz31_5:=Z BK181.out 5
           go_wp2
           go_ret
           exact ⟨by first | rfl | (simp [V,W] <;> rfl) | (simp [*,V,W] <;> rfl),by repeat (first | (with_reducible first | exact HB.out | apply U | apply Y | apply E | refine G ?_ GE181.out) | exact HB.out)⟩
          ·rw [if_neg c30] at H;have c30b0 : decide (a0_2 < 3) = false:=decide_eq_false c30;clear c30;obtain rfl:=X H;have hcz32_0 : wc.cell? ⟨gb181,0,none⟩ = some (.int .i64 a0_0):=(J BK181.out 0).trans rfl;have hcz32_1 : wc.cell? ⟨gb181,1,none⟩ = some (.int .i64 a0_1):=(J BK181.out 1).trans rfl;have hcz32_2 : wc.cell? ⟨gb181,2,none⟩ = some (.int .i64 a0_2):=(J BK181.out 2).trans rfl;have hcz32_3 : wc.cell? ⟨gb181,3,none⟩ = some (.int .i64 a0_3):=(J BK181.out 3).trans rfl;have hcz32_4 : wc.cell? ⟨gb181,4,none⟩ = some (.slice A0_4 l0_4.length c0_4):=(J BK181.out 4).trans rfl;have hcz32_5 : wc.cell? ⟨gb181,5,none⟩ = some (.slice A0_5 l0_5.length c0_5):=(J BK181.out 5).trans rfl;have hfz32_0:=Z BK181.out 0;have hfz32_1:=Z BK181.out 1;have hfz32_2:=Z BK181.out 2;have hfz32_3:=Z BK181.out 3;have hfz32_4:=Z BK181.out 4;have hfz32_5:=Z BK181.out 5
           go_wp2
           go_ret
           exact ⟨by first | rfl | (simp [V,W] <;> rfl) | (simp [*,V,W] <;> rfl),by repeat (first | (with_reducible first | exact HB.out | apply U | apply Y | apply E | refine G ?_ GE181.out) | exact HB.out)⟩
         ·rw [if_neg c29] at H;have c29b0 : decide (0 ≤ a0_2) = false:=decide_eq_false c29;clear c29;obtain rfl:=X H;have hcz33_0 : wc.cell? ⟨gb181,0,none⟩ = some (.int .i64 a0_0):=(J BK181.out 0).trans rfl;have hcz33_1 : wc.cell? ⟨gb181,1,none⟩ = some (.int .i64 a0_1):=(J BK181.out 1).trans rfl;have hcz33_2 : wc.cell? ⟨gb181,2,none⟩ = some (.int .i64 a0_2):=(J BK181.out 2).trans rfl;have hcz33_3 : wc.cell? ⟨gb181,3,none⟩ = some (.int .i64 a0_3):=(J BK181.out 3).trans rfl;have hcz33_4 : wc.cell? ⟨gb181,4,none⟩ = some (.slice A0_4 l0_4.length c0_4):=(J BK181.out 4).trans rfl;have hcz33_5 : wc.cell? ⟨gb181,5,none⟩ = some (.slice A0_5 l0_5.length c0_5):=(J BK181.out 5).trans rfl;have hfz33_0:=Z BK181.out 0;have hfz33_1:=Z BK181.out 1;have hfz33_2:=Z BK181.out 2;have hfz33_3:=Z BK181.out 3;have hfz33_4:=Z BK181.out 4;have hfz33_5:=Z BK181.out 5
          go_wp2
          go_ret
          exact ⟨by first | rfl | (simp [V,W] <;> rfl) | (simp [*,V,W] <;> rfl),by repeat (first | (with_reducible first | exact HB.out | apply U | apply Y | apply E | refine G ?_ GE181.out) | exact HB.out)⟩
        ·replace c28:=Bool.eq_false_iff.mpr c28;subst c28
         have H1 : (some false) = some r:=by rw [if_neg (show ¬ (false = true) by decide)] at H;exact H
         clear H;have H:=H1;clear H1;obtain rfl:=X H;have hcz34_0 : wc.cell? ⟨gb181,0,none⟩ = some (.int .i64 a0_0):=(J BK181.out 0).trans rfl;have hcz34_1 : wc.cell? ⟨gb181,1,none⟩ = some (.int .i64 a0_1):=(J BK181.out 1).trans rfl;have hcz34_2 : wc.cell? ⟨gb181,2,none⟩ = some (.int .i64 a0_2):=(J BK181.out 2).trans rfl;have hcz34_3 : wc.cell? ⟨gb181,3,none⟩ = some (.int .i64 a0_3):=(J BK181.out 3).trans rfl;have hcz34_4 : wc.cell? ⟨gb181,4,none⟩ = some (.slice A0_4 l0_4.length c0_4):=(J BK181.out 4).trans rfl;have hcz34_5 : wc.cell? ⟨gb181,5,none⟩ = some (.slice A0_5 l0_5.length c0_5):=(J BK181.out 5).trans rfl;have hfz34_0:=Z BK181.out 0;have hfz34_1:=Z BK181.out 1;have hfz34_2:=Z BK181.out 2;have hfz34_3:=Z BK181.out 3;have hfz34_4:=Z BK181.out 4;have hfz34_5:=Z BK181.out 5
         go_wp2
         go_ret
         exact ⟨by first | rfl | (simp [V,W] <;> rfl) | (simp [*,V,W] <;> rfl),by repeat (first | (with_reducible first | exact HB.out | apply U | apply Y | apply E | refine G ?_ GE181.out) | exact HB.out)⟩
       ·rw [if_neg c27] at H;have c27b0 : (a0_0 == 3) = false:=beq_eq_false_iff_ne.mpr c27;have c27b1 : (a0_0 != 3) = true:=bne_iff_ne.mpr c27
        by_cases c35 : a0_0 = 4
        ·rw [if_pos c35] at H;have c35b0 : (a0_0 == 4) = true:=beq_iff_eq.mpr c35;have c35b1 : (a0_0 != 4) = false:=bne_eq_false_iff_eq.mpr c35;clear c35
         by_cases c36 : a0_1 ≥ 0
         ·rw [if_pos c36] at H;have c36b0 : decide (0 ≤ a0_1) = true:=decide_eq_true c36;clear c36
          by_cases c37 : a0_1 < 3
          ·rw [if_pos c37] at H;have c37b0 : decide (a0_1 < 3) = true:=decide_eq_true c37;clear c37
           by_cases c38 : x6_7 = true
           ·subst c38
            have H1 : (some (a0_3 == 0)) = some r:=by rw [if_pos rfl] at H;exact H
            clear H;have H:=H1;clear H1;obtain rfl:=X H;have hcz39_0 : wc.cell? ⟨gb181,0,none⟩ = some (.int .i64 a0_0):=(J BK181.out 0).trans rfl;have hcz39_1 : wc.cell? ⟨gb181,1,none⟩ = some (.int .i64 a0_1):=(J BK181.out 1).trans rfl;have hcz39_2 : wc.cell? ⟨gb181,2,none⟩ = some (.int .i64 a0_2):=(J BK181.out 2).trans rfl;have hcz39_3 : wc.cell? ⟨gb181,3,none⟩ = some (.int .i64 a0_3):=(J BK181.out 3).trans rfl;have hcz39_4 : wc.cell? ⟨gb181,4,none⟩ = some (.slice A0_4 l0_4.length c0_4):=(J BK181.out 4).trans rfl;have hcz39_5 : wc.cell? ⟨gb181,5,none⟩ = some (.slice A0_5 l0_5.length c0_5):=(J BK181.out 5).trans rfl;have hfz39_0:=Z BK181.out 0;have hfz39_1:=Z BK181.out 1;have hfz39_2:=Z BK181.out 2;have hfz39_3:=Z BK181.out 3;have hfz39_4:=Z BK181.out 4;have hfz39_5:=Z BK181.out 5
            go_wp2
            go_ret
            exact ⟨by first | rfl | (simp [V,W] <;> rfl) | (simp [*,V,W] <;> rfl),by repeat (first | (with_reducible first | exact HB.out | apply U | apply Y | apply E | refine G ?_ GE181.out) | exact HB.out)⟩
           ·replace c38:=Bool.eq_false_iff.mpr c38;subst c38
            have H1 : (some false) = some r:=by rw [if_neg (show ¬ (false = true) by decide)] at H;exact H
            clear H;have H:=H1;clear H1;obtain rfl:=X H;have hcz40_0 : wc.cell? ⟨gb181,0,none⟩ = some (.int .i64 a0_0):=(J BK181.out 0).trans rfl;have hcz40_1 : wc.cell? ⟨gb181,1,none⟩ = some (.int .i64 a0_1):=(J BK181.out 1).trans rfl;have hcz40_2 : wc.cell? ⟨gb181,2,none⟩ = some (.int .i64 a0_2):=(J BK181.out 2).trans rfl;have hcz40_3 : wc.cell? ⟨gb181,3,none⟩ = some (.int .i64 a0_3):=(J BK181.out 3).trans rfl;have hcz40_4 : wc.cell? ⟨gb181,4,none⟩ = some (.slice A0_4 l0_4.length c0_4):=(J BK181.out 4).trans rfl;have hcz40_5 : wc.cell? ⟨gb181,5,none⟩ = some (.slice A0_5 l0_5.length c0_5):=(J BK181.out 5).trans rfl;have hfz40_0:=Z BK181.out 0;have hfz40_1:=Z BK181.out 1;have hfz40_2:=Z BK181.out 2;have hfz40_3:=Z BK181.out 3;have hfz40_4:=Z BK181.out 4;have hfz40_5:=Z BK181.out 5
            go_wp2
            go_ret
            exact ⟨by first | rfl | (simp [V,W] <;> rfl) | (simp [*,V,W] <;> rfl),by repeat (first | (with_reducible first | exact HB.out | apply U | apply Y | apply E | refine G ?_ GE181.out) | exact HB.out)⟩
          ·rw [if_neg c37] at H;have c37b0 : decide (a0_1 < 3) = false:=decide_eq_false c37;clear c37;obtain rfl:=X H;have hcz41_0 : wc.cell? ⟨gb181,0,none⟩ = some (.int .i64 a0_0):=(J BK181.out 0).trans rfl;have hcz41_1 : wc.cell? ⟨gb181,1,none⟩ = some (.int .i64 a0_1):=(J BK181.out 1).trans rfl;have hcz41_2 : wc.cell? ⟨gb181,2,none⟩ = some (.int .i64 a0_2):=(J BK181.out 2).trans rfl;have hcz41_3 : wc.cell? ⟨gb181,3,none⟩ = some (.int .i64 a0_3):=(J BK181.out 3).trans rfl;have hcz41_4 : wc.cell? ⟨gb181,4,none⟩ = some (.slice A0_4 l0_4.length c0_4):=(J BK181.out 4).trans rfl;have hcz41_5 : wc.cell? ⟨gb181,5,none⟩ = some (.slice A0_5 l0_5.length c0_5):=(J BK181.out 5).trans rfl;have hfz41_0:=Z BK181.out 0;have hfz41_1:=Z BK181.out 1;have hfz41_2:=Z BK181.out 2;have hfz41_3:=Z BK181.out 3;have hfz41_4:=Z BK181.out 4;have hfz41_5:=Z BK181.out 5
           go_wp2
           go_ret
           exact ⟨by first | rfl | (simp [V,W] <;> rfl) | (simp [*,V,W] <;> rfl),by repeat (first | (with_reducible first | exact HB.out | apply U | apply Y | apply E | refine G ?_ GE181.out) | exact HB.out)⟩
         ·rw [if_neg c36] at H;have c36b0 : decide (0 ≤ a0_1) = false:=decide_eq_false c36;clear c36;obtain rfl:=X H;have hcz42_0 : wc.cell? ⟨gb181,0,none⟩ = some (.int .i64 a0_0):=(J BK181.out 0).trans rfl;have hcz42_1 : wc.cell? ⟨gb181,1,none⟩ = some (.int .i64 a0_1):=(J BK181.out 1).trans rfl;have hcz42_2 : wc.cell? ⟨gb181,2,none⟩ = some (.int .i64 a0_2):=(J BK181.out 2).trans rfl;have hcz42_3 : wc.cell? ⟨gb181,3,none⟩ = some (.int .i64 a0_3):=(J BK181.out 3).trans rfl;have hcz42_4 : wc.cell? ⟨gb181,4,none⟩ = some (.slice A0_4 l0_4.length c0_4):=(J BK181.out 4).trans rfl;have hcz42_5 : wc.cell? ⟨gb181,5,none⟩ = some (.slice A0_5 l0_5.length c0_5):=(J BK181.out 5).trans rfl;have hfz42_0:=Z BK181.out 0;have hfz42_1:=Z BK181.out 1;have hfz42_2:=Z BK181.out 2;have hfz42_3:=Z BK181.out 3;have hfz42_4:=Z BK181.out 4;have hfz42_5:=Z BK181.out 5
          go_wp2
          go_ret
          exact ⟨by first | rfl | (simp [V,W] <;> rfl) | (simp [*,V,W] <;> rfl),by repeat (first | (with_reducible first | exact HB.out | apply U | apply Y | apply E | refine G ?_ GE181.out) | exact HB.out)⟩
        ·rw [if_neg c35] at H;have c35b0 : (a0_0 == 4) = false:=beq_eq_false_iff_ne.mpr c35;have c35b1 : (a0_0 != 4) = true:=bne_iff_ne.mpr c35
         by_cases c43 : a0_0 = 5
         ·rw [if_pos c43] at H;have c43b0 : (a0_0 == 5) = true:=beq_iff_eq.mpr c43;have c43b1 : (a0_0 != 5) = false:=bne_eq_false_iff_eq.mpr c43;clear c43
          by_cases c44 : x5_2 = true
          ·subst c44
           have H1 : (if a0_2 = 0 then (some (a0_3 == 0)) else (some false)) = some r:=by rw [if_pos rfl] at H;exact H
           clear H;have H:=H1;clear H1
           by_cases c45 : a0_2 = 0
           ·rw [if_pos c45] at H;have c45b0 : (a0_2 == 0) = true:=beq_iff_eq.mpr c45;have c45b1 : (a0_2 != 0) = false:=bne_eq_false_iff_eq.mpr c45;clear c45;obtain rfl:=X H;have hcz46_0 : wc.cell? ⟨gb181,0,none⟩ = some (.int .i64 a0_0):=(J BK181.out 0).trans rfl;have hcz46_1 : wc.cell? ⟨gb181,1,none⟩ = some (.int .i64 a0_1):=(J BK181.out 1).trans rfl;have hcz46_2 : wc.cell? ⟨gb181,2,none⟩ = some (.int .i64 a0_2):=(J BK181.out 2).trans rfl;have hcz46_3 : wc.cell? ⟨gb181,3,none⟩ = some (.int .i64 a0_3):=(J BK181.out 3).trans rfl;have hcz46_4 : wc.cell? ⟨gb181,4,none⟩ = some (.slice A0_4 l0_4.length c0_4):=(J BK181.out 4).trans rfl;have hcz46_5 : wc.cell? ⟨gb181,5,none⟩ = some (.slice A0_5 l0_5.length c0_5):=(J BK181.out 5).trans rfl;have hfz46_0:=Z BK181.out 0;have hfz46_1:=Z BK181.out 1;have hfz46_2:=Z BK181.out 2;have hfz46_3:=Z BK181.out 3;have hfz46_4:=Z BK181.out 4;have hfz46_5:=Z BK181.out 5
            go_wp2
            go_ret
            exact ⟨by first | rfl | (simp [V,W] <;> rfl) | (simp [*,V,W] <;> rfl),by repeat (first | (with_reducible first | exact HB.out | apply U | apply Y | apply E | refine G ?_ GE181.out) | exact HB.out)⟩
           ·rw [if_neg c45] at H;have c45b0 : (a0_2 == 0) = false:=beq_eq_false_iff_ne.mpr c45;have c45b1 : (a0_2 != 0) = true:=bne_iff_ne.mpr c45;obtain rfl:=X H;have hcz47_0 : wc.cell? ⟨gb181,0,none⟩ = some (.int .i64 a0_0):=(J BK181.out 0).trans rfl;have hcz47_1 : wc.cell? ⟨gb181,1,none⟩ = some (.int .i64 a0_1):=(J BK181.out 1).trans rfl;have hcz47_2 : wc.cell? ⟨gb181,2,none⟩ = some (.int .i64 a0_2):=(J BK181.out 2).trans rfl;have hcz47_3 : wc.cell? ⟨gb181,3,none⟩ = some (.int .i64 a0_3):=(J BK181.out 3).trans rfl;have hcz47_4 : wc.cell? ⟨gb181,4,none⟩ = some (.slice A0_4 l0_4.length c0_4):=(J BK181.out 4).trans rfl;have hcz47_5 : wc.cell? ⟨gb181,5,none⟩ = some (.slice A0_5 l0_5.length c0_5):=(J BK181.out 5).trans rfl;have hfz47_0:=Z BK181.out 0;have hfz47_1:=Z BK181.out 1;have hfz47_2:=Z BK181.out 2;have hfz47_3:=Z BK181.out 3;have hfz47_4:=Z BK181.out 4;have hfz47_5:=Z BK181.out 5
            go_wp2
            go_ret
            exact ⟨by first | rfl | (simp [V,W] <;> rfl) | (simp [*,V,W] <;> rfl),by repeat (first | (with_reducible first | exact HB.out | apply U | apply Y | apply E | refine G ?_ GE181.out) | exact HB.out)⟩
          ·replace c44:=Bool.eq_false_iff.mpr c44;subst c44
           have H1 : (some false) = some r:=by rw [if_neg (show ¬ (false = true) by decide)] at H;exact H
           clear H;have H:=H1;clear H1;obtain rfl:=X H;have hcz48_0 : wc.cell? ⟨gb181,0,none⟩ = some (.int .i64 a0_0):=(J BK181.out 0).trans rfl;have hcz48_1 : wc.cell? ⟨gb181,1,none⟩ = some (.int .i64 a0_1):=(J BK181.out 1).trans rfl;have hcz48_2 : wc.cell? ⟨gb181,2,none⟩ = some (.int .i64 a0_2):=(J BK181.out 2).trans rfl;have hcz48_3 : wc.cell? ⟨gb181,3,none⟩ = some (.int .i64 a0_3):=(J BK181.out 3).trans rfl;have hcz48_4 : wc.cell? ⟨gb181,4,none⟩ = some (.slice A0_4 l0_4.length c0_4):=(J BK181.out 4).trans rfl;have hcz48_5 : wc.cell? ⟨gb181,5,none⟩ = some (.slice A0_5 l0_5.length c0_5):=(J BK181.out 5).trans rfl;have hfz48_0:=Z BK181.out 0;have hfz48_1:=Z BK181.out 1;have hfz48_2:=Z BK181.out 2;have hfz48_3:=Z BK181.out 3;have hfz48_4:=Z BK181.out 4;have hfz48_5:=Z BK181.out 5
           go_wp2
           go_ret
           exact ⟨by first | rfl | (simp [V,W] <;> rfl) | (simp [*,V,W] <;> rfl),by repeat (first | (with_reducible first | exact HB.out | apply U | apply Y | apply E | refine G ?_ GE181.out) | exact HB.out)⟩
         ·rw [if_neg c43] at H;have c43b0 : (a0_0 == 5) = false:=beq_eq_false_iff_ne.mpr c43;have c43b1 : (a0_0 != 5) = true:=bne_iff_ne.mpr c43
          by_cases c49 : a0_0 = 9
          ·rw [if_pos c49] at H;have c49b0 : (a0_0 == 9) = true:=beq_iff_eq.mpr c49;have c49b1 : (a0_0 != 9) = false:=bne_eq_false_iff_eq.mpr c49;clear c49
           by_cases c50 : a1 ≥ 0
           ·rw [if_pos c50] at H;have c50b0 : decide (0 ≤ a1) = true:=decide_eq_true c50;clear c50
            by_cases c51 : a0_1 ≥ 0
            ·rw [if_pos c51] at H;have c51b0 : decide (0 ≤ a0_1) = true:=decide_eq_true c51;clear c51
             by_cases c52 : a0_1 < 2
             ·rw [if_pos c52] at H;have c52b0 : decide (a0_1 < 2) = true:=decide_eq_true c52;clear c52
              by_cases c53 : a0_2 = 0
              ·rw [if_pos c53] at H;have c53b0 : (a0_2 == 0) = true:=beq_iff_eq.mpr c53;have c53b1 : (a0_2 != 0) = false:=bne_eq_false_iff_eq.mpr c53;clear c53;obtain rfl:=X H;have hcz54_0 : wc.cell? ⟨gb181,0,none⟩ = some (.int .i64 a0_0):=(J BK181.out 0).trans rfl;have hcz54_1 : wc.cell? ⟨gb181,1,none⟩ = some (.int .i64 a0_1):=(J BK181.out 1).trans rfl;have hcz54_2 : wc.cell? ⟨gb181,2,none⟩ = some (.int .i64 a0_2):=(J BK181.out 2).trans rfl;have hcz54_3 : wc.cell? ⟨gb181,3,none⟩ = some (.int .i64 a0_3):=(J BK181.out 3).trans rfl;have hcz54_4 : wc.cell? ⟨gb181,4,none⟩ = some (.slice A0_4 l0_4.length c0_4):=(J BK181.out 4).trans rfl;have hcz54_5 : wc.cell? ⟨gb181,5,none⟩ = some (.slice A0_5 l0_5.length c0_5):=(J BK181.out 5).trans rfl;have hfz54_0:=Z BK181.out 0;have hfz54_1:=Z BK181.out 1;have hfz54_2:=Z BK181.out 2;have hfz54_3:=Z BK181.out 3;have hfz54_4:=Z BK181.out 4;have hfz54_5:=Z BK181.out 5
               go_wp2
               go_ret
               exact ⟨by first | rfl | (simp [V,W] <;> rfl) | (simp [*,V,W] <;> rfl),by repeat (first | (with_reducible first | exact HB.out | apply U | apply Y | apply E | refine G ?_ GE181.out) | exact HB.out)⟩
              ·rw [if_neg c53] at H;have c53b0 : (a0_2 == 0) = false:=beq_eq_false_iff_ne.mpr c53;have c53b1 : (a0_2 != 0) = true:=bne_iff_ne.mpr c53;obtain rfl:=X H;have hcz55_0 : wc.cell? ⟨gb181,0,none⟩ = some (.int .i64 a0_0):=(J BK181.out 0).trans rfl;have hcz55_1 : wc.cell? ⟨gb181,1,none⟩ = some (.int .i64 a0_1):=(J BK181.out 1).trans rfl;have hcz55_2 : wc.cell? ⟨gb181,2,none⟩ = some (.int .i64 a0_2):=(J BK181.out 2).trans rfl;have hcz55_3 : wc.cell? ⟨gb181,3,none⟩ = some (.int .i64 a0_3):=(J BK181.out 3).trans rfl;have hcz55_4 : wc.cell? ⟨gb181,4,none⟩ = some (.slice A0_4 l0_4.length c0_4):=(J BK181.out 4).trans rfl;have hcz55_5 : wc.cell? ⟨gb181,5,none⟩ = some (.slice A0_5 l0_5.length c0_5):=(J BK181.out 5).trans rfl;have hfz55_0:=Z BK181.out 0;have hfz55_1:=Z BK181.out 1;have hfz55_2:=Z BK181.out 2;have hfz55_3:=Z BK181.out 3;have hfz55_4:=Z BK181.out 4;have hfz55_5:=Z BK181.out 5
               go_wp2
               go_ret
               exact ⟨by first | rfl | (simp [V,W] <;> rfl) | (simp [*,V,W] <;> rfl),by repeat (first | (with_reducible first | exact HB.out | apply U | apply Y | apply E | refine G ?_ GE181.out) | exact HB.out)⟩
             ·rw [if_neg c52] at H;have c52b0 : decide (a0_1 < 2) = false:=decide_eq_false c52;clear c52;obtain rfl:=X H;have hcz56_0 : wc.cell? ⟨gb181,0,none⟩ = some (.int .i64 a0_0):=(J BK181.out 0).trans rfl;have hcz56_1 : wc.cell? ⟨gb181,1,none⟩ = some (.int .i64 a0_1):=(J BK181.out 1).trans rfl;have hcz56_2 : wc.cell? ⟨gb181,2,none⟩ = some (.int .i64 a0_2):=(J BK181.out 2).trans rfl;have hcz56_3 : wc.cell? ⟨gb181,3,none⟩ = some (.int .i64 a0_3):=(J BK181.out 3).trans rfl;have hcz56_4 : wc.cell? ⟨gb181,4,none⟩ = some (.slice A0_4 l0_4.length c0_4):=(J BK181.out 4).trans rfl;have hcz56_5 : wc.cell? ⟨gb181,5,none⟩ = some (.slice A0_5 l0_5.length c0_5):=(J BK181.out 5).trans rfl;have hfz56_0:=Z BK181.out 0;have hfz56_1:=Z BK181.out 1;have hfz56_2:=Z BK181.out 2;have hfz56_3:=Z BK181.out 3;have hfz56_4:=Z BK181.out 4;have hfz56_5:=Z BK181.out 5
              go_wp2
              go_ret
              exact ⟨by first | rfl | (simp [V,W] <;> rfl) | (simp [*,V,W] <;> rfl),by repeat (first | (with_reducible first | exact HB.out | apply U | apply Y | apply E | refine G ?_ GE181.out) | exact HB.out)⟩
            ·rw [if_neg c51] at H;have c51b0 : decide (0 ≤ a0_1) = false:=decide_eq_false c51;clear c51;obtain rfl:=X H;have hcz57_0 : wc.cell? ⟨gb181,0,none⟩ = some (.int .i64 a0_0):=(J BK181.out 0).trans rfl;have hcz57_1 : wc.cell? ⟨gb181,1,none⟩ = some (.int .i64 a0_1):=(J BK181.out 1).trans rfl;have hcz57_2 : wc.cell? ⟨gb181,2,none⟩ = some (.int .i64 a0_2):=(J BK181.out 2).trans rfl;have hcz57_3 : wc.cell? ⟨gb181,3,none⟩ = some (.int .i64 a0_3):=(J BK181.out 3).trans rfl;have hcz57_4 : wc.cell? ⟨gb181,4,none⟩ = some (.slice A0_4 l0_4.length c0_4):=(J BK181.out 4).trans rfl;have hcz57_5 : wc.cell? ⟨gb181,5,none⟩ = some (.slice A0_5 l0_5.length c0_5):=(J BK181.out 5).trans rfl;have hfz57_0:=Z BK181.out 0;have hfz57_1:=Z BK181.out 1;have hfz57_2:=Z BK181.out 2;have hfz57_3:=Z BK181.out 3;have hfz57_4:=Z BK181.out 4;have hfz57_5:=Z BK181.out 5
             go_wp2
             go_ret
             exact ⟨by first | rfl | (simp [V,W] <;> rfl) | (simp [*,V,W] <;> rfl),by repeat (first | (with_reducible first | exact HB.out | apply U | apply Y | apply E | refine G ?_ GE181.out) | exact HB.out)⟩
           ·rw [if_neg c50] at H;have c50b0 : decide (0 ≤ a1) = false:=decide_eq_false c50;clear c50;obtain rfl:=X H;have hcz58_0 : wc.cell? ⟨gb181,0,none⟩ = some (.int .i64 a0_0):=(J BK181.out 0).trans rfl;have hcz58_1 : wc.cell? ⟨gb181,1,none⟩ = some (.int .i64 a0_1):=(J BK181.out 1).trans rfl;have hcz58_2 : wc.cell? ⟨gb181,2,none⟩ = some (.int .i64 a0_2):=(J BK181.out 2).trans rfl;have hcz58_3 : wc.cell? ⟨gb181,3,none⟩ = some (.int .i64 a0_3):=(J BK181.out 3).trans rfl;have hcz58_4 : wc.cell? ⟨gb181,4,none⟩ = some (.slice A0_4 l0_4.length c0_4):=(J BK181.out 4).trans rfl;have hcz58_5 : wc.cell? ⟨gb181,5,none⟩ = some (.slice A0_5 l0_5.length c0_5):=(J BK181.out 5).trans rfl;have hfz58_0:=Z BK181.out 0;have hfz58_1:=Z BK181.out 1;have hfz58_2:=Z BK181.out 2;have hfz58_3:=Z BK181.out 3;have hfz58_4:=Z BK181.out 4;have hfz58_5:=Z BK181.out 5
            go_wp2
            go_ret
            exact ⟨by first | rfl | (simp [V,W] <;> rfl) | (simp [*,V,W] <;> rfl),by repeat (first | (with_reducible first | exact HB.out | apply U | apply Y | apply E | refine G ?_ GE181.out) | exact HB.out)⟩
          ·rw [if_neg c49] at H;have c49b0 : (a0_0 == 9) = false:=beq_eq_false_iff_ne.mpr c49;have c49b1 : (a0_0 != 9) = true:=bne_iff_ne.mpr c49
           by_cases c59 : a0_0 = 10
           ·rw [if_pos c59] at H;have c59b0 : (a0_0 == 10) = true:=beq_iff_eq.mpr c59;have c59b1 : (a0_0 != 10) = false:=bne_eq_false_iff_eq.mpr c59;clear c59
            by_cases c60 : a0_1 ≥ 0
            ·rw [if_pos c60] at H;have c60b0 : decide (0 ≤ a0_1) = true:=decide_eq_true c60;clear c60
             by_cases c61 : a0_1 < 2
             ·rw [if_pos c61] at H;have c61b0 : decide (a0_1 < 2) = true:=decide_eq_true c61;clear c61
              by_cases c62 : a0_2 = 0
              ·rw [if_pos c62] at H;have c62b0 : (a0_2 == 0) = true:=beq_iff_eq.mpr c62;have c62b1 : (a0_2 != 0) = false:=bne_eq_false_iff_eq.mpr c62;clear c62;obtain rfl:=X H;have hcz63_0 : wc.cell? ⟨gb181,0,none⟩ = some (.int .i64 a0_0):=(J BK181.out 0).trans rfl;have hcz63_1 : wc.cell? ⟨gb181,1,none⟩ = some (.int .i64 a0_1):=(J BK181.out 1).trans rfl;have hcz63_2 : wc.cell? ⟨gb181,2,none⟩ = some (.int .i64 a0_2):=(J BK181.out 2).trans rfl;have hcz63_3 : wc.cell? ⟨gb181,3,none⟩ = some (.int .i64 a0_3):=(J BK181.out 3).trans rfl;have hcz63_4 : wc.cell? ⟨gb181,4,none⟩ = some (.slice A0_4 l0_4.length c0_4):=(J BK181.out 4).trans rfl;have hcz63_5 : wc.cell? ⟨gb181,5,none⟩ = some (.slice A0_5 l0_5.length c0_5):=(J BK181.out 5).trans rfl;have hfz63_0:=Z BK181.out 0;have hfz63_1:=Z BK181.out 1;have hfz63_2:=Z BK181.out 2;have hfz63_3:=Z BK181.out 3;have hfz63_4:=Z BK181.out 4;have hfz63_5:=Z BK181.out 5
               go_wp2
               go_ret
               exact ⟨by first | rfl | (simp [V,W] <;> rfl) | (simp [*,V,W] <;> rfl),by repeat (first | (with_reducible first | exact HB.out | apply U | apply Y | apply E | refine G ?_ GE181.out) | exact HB.out)⟩
              ·rw [if_neg c62] at H;have c62b0 : (a0_2 == 0) = false:=beq_eq_false_iff_ne.mpr c62;have c62b1 : (a0_2 != 0) = true:=bne_iff_ne.mpr c62;obtain rfl:=X H;have hcz64_0 : wc.cell? ⟨gb181,0,none⟩ = some (.int .i64 a0_0):=(J BK181.out 0).trans rfl;have hcz64_1 : wc.cell? ⟨gb181,1,none⟩ = some (.int .i64 a0_1):=(J BK181.out 1).trans rfl;have hcz64_2 : wc.cell? ⟨gb181,2,none⟩ = some (.int .i64 a0_2):=(J BK181.out 2).trans rfl;have hcz64_3 : wc.cell? ⟨gb181,3,none⟩ = some (.int .i64 a0_3):=(J BK181.out 3).trans rfl;have hcz64_4 : wc.cell? ⟨gb181,4,none⟩ = some (.slice A0_4 l0_4.length c0_4):=(J BK181.out 4).trans rfl;have hcz64_5 : wc.cell? ⟨gb181,5,none⟩ = some (.slice A0_5 l0_5.length c0_5):=(J BK181.out 5).trans rfl;have hfz64_0:=Z BK181.out 0;have hfz64_1:=Z BK181.out 1;have hfz64_2:=Z BK181.out 2;have hfz64_3:=Z BK181.out 3;have hfz64_4:=Z BK181.out 4;have hfz64_5:=Z BK181.out 5
               go_wp2
               go_ret
               exact ⟨by first | rfl | (simp [V,W] <;> rfl) | (simp [*,V,W] <;> rfl),by repeat (first | (with_reducible first | exact HB.out | apply U | apply Y | apply E | refine G ?_ GE181.out) | exact HB.out)⟩
             ·rw [if_neg c61] at H;have c61b0 : decide (a0_1 < 2) = false:=decide_eq_false c61;clear c61;obtain rfl:=X H;have hcz65_0 : wc.cell? ⟨gb181,0,none⟩ = some (.int .i64 a0_0):=(J BK181.out 0).trans rfl;have hcz65_1 : wc.cell? ⟨gb181,1,none⟩ = some (.int .i64 a0_1):=(J BK181.out 1).trans rfl;have hcz65_2 : wc.cell? ⟨gb181,2,none⟩ = some (.int .i64 a0_2):=(J BK181.out 2).trans rfl;have hcz65_3 : wc.cell? ⟨gb181,3,none⟩ = some (.int .i64 a0_3):=(J BK181.out 3).trans rfl;have hcz65_4 : wc.cell? ⟨gb181,4,none⟩ = some (.slice A0_4 l0_4.length c0_4):=(J BK181.out 4).trans rfl;have hcz65_5 : wc.cell? ⟨gb181,5,none⟩ = some (.slice A0_5 l0_5.length c0_5):=(J BK181.out 5).trans rfl;have hfz65_0:=Z BK181.out 0;have hfz65_1:=Z BK181.out 1;have hfz65_2:=Z BK181.out 2;have hfz65_3:=Z BK181.out 3;have hfz65_4:=Z BK181.out 4;have hfz65_5:=Z BK181.out 5
              go_wp2
              go_ret
              exact ⟨by first | rfl | (simp [V,W] <;> rfl) | (simp [*,V,W] <;> rfl),by repeat (first | (with_reducible first | exact HB.out | apply U | apply Y | apply E | refine G ?_ GE181.out) | exact HB.out)⟩
            ·rw [if_neg c60] at H;have c60b0 : decide (0 ≤ a0_1) = false:=decide_eq_false c60;clear c60;obtain rfl:=X H;have hcz66_0 : wc.cell? ⟨gb181,0,none⟩ = some (.int .i64 a0_0):=(J BK181.out 0).trans rfl;have hcz66_1 : wc.cell? ⟨gb181,1,none⟩ = some (.int .i64 a0_1):=(J BK181.out 1).trans rfl;have hcz66_2 : wc.cell? ⟨gb181,2,none⟩ = some (.int .i64 a0_2):=(J BK181.out 2).trans rfl;have hcz66_3 : wc.cell? ⟨gb181,3,none⟩ = some (.int .i64 a0_3):=(J BK181.out 3).trans rfl;have hcz66_4 : wc.cell? ⟨gb181,4,none⟩ = some (.slice A0_4 l0_4.length c0_4):=(J BK181.out 4).trans rfl;have hcz66_5 : wc.cell? ⟨gb181,5,none⟩ = some (.slice A0_5 l0_5.length c0_5):=(J BK181.out 5).trans rfl;have hfz66_0:=Z BK181.out 0;have hfz66_1:=Z BK181.out 1;have hfz66_2:=Z BK181.out 2;have hfz66_3:=Z BK181.out 3;have hfz66_4:=Z BK181.out 4;have hfz66_5:=Z BK181.out 5
             go_wp2
             go_ret
             exact ⟨by first | rfl | (simp [V,W] <;> rfl) | (simp [*,V,W] <;> rfl),by repeat (first | (with_reducible first | exact HB.out | apply U | apply Y | apply E | refine G ?_ GE181.out) | exact HB.out)⟩
           ·rw [if_neg c59] at H;have c59b0 : (a0_0 == 10) = false:=beq_eq_false_iff_ne.mpr c59;have c59b1 : (a0_0 != 10) = true:=bne_iff_ne.mpr c59
            by_cases c67 : a0_0 = 11
            ·rw [if_pos c67] at H;have c67b0 : (a0_0 == 11) = true:=beq_iff_eq.mpr c67;have c67b1 : (a0_0 != 11) = false:=bne_eq_false_iff_eq.mpr c67;clear c67
             by_cases c68 : a0_1 = 0
             ·rw [if_pos c68] at H;have c68b0 : (a0_1 == 0) = true:=beq_iff_eq.mpr c68;have c68b1 : (a0_1 != 0) = false:=bne_eq_false_iff_eq.mpr c68;clear c68
              by_cases c69 : a0_2 = 0
              ·rw [if_pos c69] at H;have c69b0 : (a0_2 == 0) = true:=beq_iff_eq.mpr c69;have c69b1 : (a0_2 != 0) = false:=bne_eq_false_iff_eq.mpr c69;clear c69;obtain rfl:=X H;have hcz70_0 : wc.cell? ⟨gb181,0,none⟩ = some (.int .i64 a0_0):=(J BK181.out 0).trans rfl;have hcz70_1 : wc.cell? ⟨gb181,1,none⟩ = some (.int .i64 a0_1):=(J BK181.out 1).trans rfl;have hcz70_2 : wc.cell? ⟨gb181,2,none⟩ = some (.int .i64 a0_2):=(J BK181.out 2).trans rfl;have hcz70_3 : wc.cell? ⟨gb181,3,none⟩ = some (.int .i64 a0_3):=(J BK181.out 3).trans rfl;have hcz70_4 : wc.cell? ⟨gb181,4,none⟩ = some (.slice A0_4 l0_4.length c0_4):=(J BK181.out 4).trans rfl;have hcz70_5 : wc.cell? ⟨gb181,5,none⟩ = some (.slice A0_5 l0_5.length c0_5):=(J BK181.out 5).trans rfl;have hfz70_0:=Z BK181.out 0;have hfz70_1:=Z BK181.out 1;have hfz70_2:=Z BK181.out 2;have hfz70_3:=Z BK181.out 3;have hfz70_4:=Z BK181.out 4;have hfz70_5:=Z BK181.out 5
               go_wp2
               go_ret
               exact ⟨by first | rfl | (simp [V,W] <;> rfl) | (simp [*,V,W] <;> rfl),by repeat (first | (with_reducible first | exact HB.out | apply U | apply Y | apply E | refine G ?_ GE181.out) | exact HB.out)⟩
              ·rw [if_neg c69] at H;have c69b0 : (a0_2 == 0) = false:=beq_eq_false_iff_ne.mpr c69;have c69b1 : (a0_2 != 0) = true:=bne_iff_ne.mpr c69;obtain rfl:=X H;have hcz71_0 : wc.cell? ⟨gb181,0,none⟩ = some (.int .i64 a0_0):=(J BK181.out 0).trans rfl;have hcz71_1 : wc.cell? ⟨gb181,1,none⟩ = some (.int .i64 a0_1):=(J BK181.out 1).trans rfl;have hcz71_2 : wc.cell? ⟨gb181,2,none⟩ = some (.int .i64 a0_2):=(J BK181.out 2).trans rfl;have hcz71_3 : wc.cell? ⟨gb181,3,none⟩ = some (.int .i64 a0_3):=(J BK181.out 3).trans rfl;have hcz71_4 : wc.cell? ⟨gb181,4,none⟩ = some (.slice A0_4 l0_4.length c0_4):=(J BK181.out 4).trans rfl;have hcz71_5 : wc.cell? ⟨gb181,5,none⟩ = some (.slice A0_5 l0_5.length c0_5):=(J BK181.out 5).trans rfl;have hfz71_0:=Z BK181.out 0;have hfz71_1:=Z BK181.out 1;have hfz71_2:=Z BK181.out 2;have hfz71_3:=Z BK181.out 3;have hfz71_4:=Z BK181.out 4;have hfz71_5:=Z BK181.out 5
               go_wp2
               go_ret
               exact ⟨by first | rfl | (simp [V,W] <;> rfl) | (simp [*,V,W] <;> rfl),by repeat (first | (with_reducible first | exact HB.out | apply U | apply Y | apply E | refine G ?_ GE181.out) | exact HB.out)⟩
             ·rw [if_neg c68] at H;have c68b0 : (a0_1 == 0) = false:=beq_eq_false_iff_ne.mpr c68;have c68b1 : (a0_1 != 0) = true:=bne_iff_ne.mpr c68;obtain rfl:=X H;have hcz72_0 : wc.cell? ⟨gb181,0,none⟩ = some (.int .i64 a0_0):=(J BK181.out 0).trans rfl;have hcz72_1 : wc.cell? ⟨gb181,1,none⟩ = some (.int .i64 a0_1):=(J BK181.out 1).trans rfl;have hcz72_2 : wc.cell? ⟨gb181,2,none⟩ = some (.int .i64 a0_2):=(J BK181.out 2).trans rfl;have hcz72_3 : wc.cell? ⟨gb181,3,none⟩ = some (.int .i64 a0_3):=(J BK181.out 3).trans rfl;have hcz72_4 : wc.cell? ⟨gb181,4,none⟩ = some (.slice A0_4 l0_4.length c0_4):=(J BK181.out 4).trans rfl;have hcz72_5 : wc.cell? ⟨gb181,5,none⟩ = some (.slice A0_5 l0_5.length c0_5):=(J BK181.out 5).trans rfl;have hfz72_0:=Z BK181.out 0;have hfz72_1:=Z BK181.out 1;have hfz72_2:=Z BK181.out 2;have hfz72_3:=Z BK181.out 3;have hfz72_4:=Z BK181.out 4;have hfz72_5:=Z BK181.out 5
              go_wp2
              go_ret
              exact ⟨by first | rfl | (simp [V,W] <;> rfl) | (simp [*,V,W] <;> rfl),by repeat (first | (with_reducible first | exact HB.out | apply U | apply Y | apply E | refine G ?_ GE181.out) | exact HB.out)⟩
            ·rw [if_neg c67] at H;have c67b0 : (a0_0 == 11) = false:=beq_eq_false_iff_ne.mpr c67;have c67b1 : (a0_0 != 11) = true:=bne_iff_ne.mpr c67;obtain rfl:=X H;have hcz73_0 : wc.cell? ⟨gb181,0,none⟩ = some (.int .i64 a0_0):=(J BK181.out 0).trans rfl;have hcz73_1 : wc.cell? ⟨gb181,1,none⟩ = some (.int .i64 a0_1):=(J BK181.out 1).trans rfl;have hcz73_2 : wc.cell? ⟨gb181,2,none⟩ = some (.int .i64 a0_2):=(J BK181.out 2).trans rfl;have hcz73_3 : wc.cell? ⟨gb181,3,none⟩ = some (.int .i64 a0_3):=(J BK181.out 3).trans rfl;have hcz73_4 : wc.cell? ⟨gb181,4,none⟩ = some (.slice A0_4 l0_4.length c0_4):=(J BK181.out 4).trans rfl;have hcz73_5 : wc.cell? ⟨gb181,5,none⟩ = some (.slice A0_5 l0_5.length c0_5):=(J BK181.out 5).trans rfl;have hfz73_0:=Z BK181.out 0;have hfz73_1:=Z BK181.out 1;have hfz73_2:=Z BK181.out 2;have hfz73_3:=Z BK181.out 3;have hfz73_4:=Z BK181.out 4;have hfz73_5:=Z BK181.out 5
             go_wp2
             go_ret
             exact ⟨by first | rfl | (simp [V,W] <;> rfl) | (simp [*,V,W] <;> rfl),by repeat (first | (with_reducible first | exact HB.out | apply U | apply Y | apply E | refine G ?_ GE181.out) | exact HB.out)⟩
mutual
def spec_l2Stmt.j0 : Nat → Int → Int → Bool → Int → Int → Int → Int → List (S69) → List (S69) → Option (Bool)
 | 0,_,_,_,_,_,_,_,_,_=>none
 | k + 1,x1,x2,x19,x184000,x184001,x184002,x184003,x184004,x184005=>if x19 = true then (some false) else (if x184000 = 6 then (spec_l2Stmt.j1 k x1 x2 x184000 (x184000 == 6) x184000 x184001 x184002 x184003 x184004 x184005) else (spec_l2Stmt.j1 k x1 x2 x184000 (x184000 == 7) x184000 x184001 x184002 x184003 x184004 x184005))
def spec_l2Stmt.j1 : Nat → Int → Int → Int → Bool → Int → Int → Int → Int → List (S69) → List (S69) → Option (Bool)
 | 0,_,_,_,_,_,_,_,_,_,_=>none
 | k + 1,x1,x2,x21,x22,x184000,x184001,x184002,x184003,x184004,x184005=>if x22 = true then (if x184001 ≥ 0 then (if x184001 < 3 then (if x184002 = 0 then (if x184003 = 0 then ((spec_l2List.f k x184004 (wrap64 (x1 - 1)) x2).bind fun t184=>(if t184 = true then ((spec_l2List.f k x184005 (wrap64 (x1 - 1)) x2).bind fun t185=>(some t185)) else (some false))) else (some false)) else (some false)) else (some false)) else (some false)) else (if x21 = 8 then (if x2 < 0 then (if x184001 ≥ 0 then (if x184001 < 2 then (if x184002 = 0 then (if x184003 = 0 then ((spec_l2List.f k x184004 (wrap64 (x1 - 1)) x184001).bind fun t186=>(some t186)) else (some false)) else (some false)) else (some false)) else (some false)) else (some false)) else (if (x184004.length : Int) = 0 then ((spec_l2Leaf.f k x184000 x184001 x184002 x184003 x184004 x184005 x2).bind fun t187=>(some t187)) else (some false)))
def spec_l2Stmt.f : Nat → Int → Int → Int → Int → List (S69) → List (S69) → Int → Int → Option (Bool)
 | 0,_,_,_,_,_,_,_,_=>none
 | k + 1,a0_0,a0_1,a0_2,a0_3,l0_4,l0_5,a1,a2=>if a0_0 = 6 then (spec_l2Stmt.j0 k a1 a2 (decide (a1 < 1)) a0_0 a0_1 a0_2 a0_3 l0_4 l0_5) else (if (l0_5.length : Int) > 0 then (spec_l2Stmt.j0 k a1 a2 true a0_0 a0_1 a0_2 a0_3 l0_4 l0_5) else (spec_l2Stmt.j0 k a1 a2 (decide (a1 < 1)) a0_0 a0_1 a0_2 a0_3 l0_4 l0_5))
def spec_l2List.l0 : Nat → List (S69) → Int → Int → Int → Option (Bool)
 | 0,_,_,_,_=>none
 | k + 1,x0,x1,x2,x7=>if x7 < (x0.length : Int) then (if 0 ≤ x7 then ((spec_l2Stmt.f k ((rd_T69 x0 x7).f0) ((rd_T69 x0 x7).f1) ((rd_T69 x0 x7).f2) ((rd_T69 x0 x7).f3) ((rd_T69 x0 x7).f4) ((rd_T69 x0 x7).f5) x1 x2).bind fun t189=>(if t189 = true then (spec_l2List.l0 k x0 x1 x2 (wrap64 (x7 + 1))) else (some false))) else (none)) else (some true)
def spec_l2List.f : Nat → List (S69) → Int → Int → Option (Bool)
 | 0,_,_,_=>none
 | k + 1,l0,a1,a2=>spec_l2List.l0 k l0 a1 a2 0
end
abbrev spec_l2Stmt.Says (k : Nat) : Prop:=∀ (a0_0 : Int) (a0_1 : Int) (a0_2 : Int) (a0_3 : Int) (A0_4 : Option Addr) (c0_4 : Nat) (l0_4 : List (S69)) (A0_5 : Option Addr) (c0_5 : Nat) (l0_5 : List (S69)) (a1 : Int) (a2 : Int) (r : Bool) (w : World) (hr0_4 : Kd.C k69 w A0_4 l0_4.length l0_4) (hc0_4 : l0_4.length ≤ c0_4) (hr0_5 : Kd.C k69 w A0_5 l0_5.length l0_5) (hc0_5 : l0_5.length ≤ c0_5) (h : spec_l2Stmt.f k a0_0 a0_1 a0_2 a0_3 l0_4 l0_5 a1 a2 = some r),
  Calls Try.prog 55 #[.agg #[.int .i64 a0_0,.int .i64 a0_1,.int .i64 a0_2,.int .i64 a0_3,.slice A0_4 l0_4.length c0_4,.slice A0_5 l0_5.length c0_5],.int .i64 a1,.int .i64 a2] w fun e w'=>e = .returned (.bool r) ∧ Below w.heap.size w w'
abbrev spec_l2List.Says (k : Nat) : Prop:=∀ (A0 : Option Addr) (c0 : Nat) (l0 : List (S69)) (a1 : Int) (a2 : Int) (r : Bool) (w : World) (hr0 : Kd.C k69 w A0 l0.length l0) (hc0 : l0.length ≤ c0) (h : spec_l2List.f k l0 a1 a2 = some r),
  Calls Try.prog 50 #[.slice A0 l0.length c0,.int .i64 a1,.int .i64 a2] w fun e w'=>e = .returned (.bool r) ∧ Below w.heap.size w w'
set_option maxHeartbeats 8000000 in
set_option maxRecDepth 100000 in
theorem spec_l2Stmt.calls_ (k : Nat) (ih_spec_l2Stmt : ∀ k_,k_ < k → spec_l2Stmt.Says k_) (ih_spec_l2List : ∀ k_,k_ < k → spec_l2List.Says k_) : spec_l2Stmt.Says k:=by
 intro a0_0 a0_1 a0_2 a0_3 A0_4 c0_4 l0_4 A0_5 c0_5 l0_5 a1 a2 r w hr0_4 hc0_4 hr0_5 hc0_5 h
 cases k with
 | zero=>exact absurd h (by simp [spec_l2Stmt.f])
 | succ k =>
 simp only [spec_l2Stmt.f] at h;have hu69:=Try.underlying69;have HR0_4:=O hr0_4;have HC0_4:=O hc0_4;clear hr0_4 hc0_4;have HR0_5:=O hr0_5;have HC0_5:=O hc0_5;clear hr0_5 hc0_5;have HB:=O (Below.refl w.heap.size w);have H : (if a0_0 = 6 then (spec_l2Stmt.j0 k a1 a2 (decide (a1 < 1)) a0_0 a0_1 a0_2 a0_3 l0_4 l0_5) else (if (l0_5.length : Int) > 0 then (spec_l2Stmt.j0 k a1 a2 true a0_0 a0_1 a0_2 a0_3 l0_4 l0_5) else (spec_l2Stmt.j0 k a1 a2 (decide (a1 < 1)) a0_0 a0_1 a0_2 a0_3 l0_4 l0_5))) = some r:=h;clear h;have HC4:=O H;clear H;go_enter Try.func55,Try.ntmps55
 go_upto_region 1 with (first | ((with_reducible refine gate_dst (N:=3) rfl ?_);(try (refine gate_guard (by rfl) ?_;dsimp only));refine box_event ?hg (N:=3) ?hd (cs:=#[.int .i64 a0_0,.int .i64 a0_1,.int .i64 a0_2,.int .i64 a0_3,.slice A0_4 l0_4.length c0_4,.slice A0_5 l0_5.length c0_5]) (t:=69) ?hr ?_;(case hd=>rfl);(case hg=>rfl);(case hr=>first | (go_simp;done) | (go_simp;rfl));intro gb183 hg w5 hbox hb;have n0_:=O (below_step (q0_ HB) hb);have n1_:=O (hbox);have n2_:=O ((by rw [hg];exact (below_size (q0_ HB)) : w.heap.size ≤ gb183));have n3_:=O ((by rw [hg];exact (below_size (q0_ HB)) : w.heap.size ≤ gb183));clear HB;have HB:=n0_;have BK183:=n1_;have GW183:=n2_;have GE183:=n3_;clear n0_ n1_ n2_ n3_ hb hbox hg))
 (try simp only [Act.put,List.setIfInBounds_toArray,List.set_cons_zero,List.set_cons_succ])
 go_cut [19] (fun v19 wc=>∃ (kq : Nat) (x19_3 : Bool),v19 = .bool x19_3 ∧ Aside0 (spec_l2Stmt.j0 kq a1 a2 x19_3 a0_0 a0_1 a0_2 a0_3 l0_4 l0_5 = some r) ∧ Aside0 (kq ≤ k) ∧ Aside0 (wc.heap[gb183]? = some (.cells #[.int .i64 a0_0,.int .i64 a0_1,.int .i64 a0_2,.int .i64 a0_3,(.slice A0_4 l0_4.length c0_4),(.slice A0_5 l0_5.length c0_5)] 69 (0,0))) ∧ Aside0 (Below w.heap.size w wc))
 case first =>
  have H:=HC4.out;clear HC4
  by_cases c6 : a0_0 = 6
  ·rw [if_pos c6] at H;have c6b0 : (a0_0 == 6) = true:=beq_iff_eq.mpr c6;have c6b1 : (a0_0 != 6) = false:=bne_eq_false_iff_eq.mpr c6;clear c6
   (first | rw [c6b0] | (simp only [i64_w,i32_w];rw [c6b0]) | skip)
   have H':=O H;clear H;have hcz7_0 : w5.cell? ⟨gb183,0,none⟩ = some (.int .i64 a0_0):=(J BK183.out 0).trans rfl;have hcz7_1 : w5.cell? ⟨gb183,1,none⟩ = some (.int .i64 a0_1):=(J BK183.out 1).trans rfl;have hcz7_2 : w5.cell? ⟨gb183,2,none⟩ = some (.int .i64 a0_2):=(J BK183.out 2).trans rfl;have hcz7_3 : w5.cell? ⟨gb183,3,none⟩ = some (.int .i64 a0_3):=(J BK183.out 3).trans rfl;have hcz7_4 : w5.cell? ⟨gb183,4,none⟩ = some (.slice A0_4 l0_4.length c0_4):=(J BK183.out 4).trans rfl;have hcz7_5 : w5.cell? ⟨gb183,5,none⟩ = some (.slice A0_5 l0_5.length c0_5):=(J BK183.out 5).trans rfl;have hfz7_0:=Z BK183.out 0;have hfz7_1:=Z BK183.out 1;have hfz7_2:=Z BK183.out 2;have hfz7_3:=Z BK183.out 3;have hfz7_4:=Z BK183.out 4;have hfz7_5:=Z BK183.out 5
   go_wp2
   go_meet
   case rel=>exact ⟨_,(decide (a1 < 1)),(by first | rfl | (simp;done) | (simp [*];done)),H',⟨by first | omega | exact Nat.le_refl _⟩,⟨by (with_reducible repeat (first | refine blk_drewN ?_ _ | refine blk_drew ?_ | refine blk_alloc ?_ _));exact BK183.out⟩,⟨by repeat (first | (with_reducible first | exact HB.out | apply U | apply Y | apply E | refine G ?_ GE183.out) | exact HB.out)⟩⟩
  ·rw [if_neg c6] at H;have c6b0 : (a0_0 == 6) = false:=beq_eq_false_iff_ne.mpr c6;have c6b1 : (a0_0 != 6) = true:=bne_iff_ne.mpr c6
   (first | rw [c6b0] | (simp only [i64_w,i32_w];rw [c6b0]) | skip)
   by_cases c8 : (l0_5.length : Int) > 0
   ·rw [if_pos c8] at H;have c8b0 : decide (0 < (l0_5.length : Int)) = true:=decide_eq_true c8
    have c8b1 : decide (0 < l0_5.length) = true:=decide_eq_true (by omega)
    clear c8;have H':=O H;clear H;have hcz9_0 : w5.cell? ⟨gb183,0,none⟩ = some (.int .i64 a0_0):=(J BK183.out 0).trans rfl;have hcz9_1 : w5.cell? ⟨gb183,1,none⟩ = some (.int .i64 a0_1):=(J BK183.out 1).trans rfl;have hcz9_2 : w5.cell? ⟨gb183,2,none⟩ = some (.int .i64 a0_2):=(J BK183.out 2).trans rfl;have hcz9_3 : w5.cell? ⟨gb183,3,none⟩ = some (.int .i64 a0_3):=(J BK183.out 3).trans rfl;have hcz9_4 : w5.cell? ⟨gb183,4,none⟩ = some (.slice A0_4 l0_4.length c0_4):=(J BK183.out 4).trans rfl;have hcz9_5 : w5.cell? ⟨gb183,5,none⟩ = some (.slice A0_5 l0_5.length c0_5):=(J BK183.out 5).trans rfl;have hfz9_0:=Z BK183.out 0;have hfz9_1:=Z BK183.out 1;have hfz9_2:=Z BK183.out 2;have hfz9_3:=Z BK183.out 3;have hfz9_4:=Z BK183.out 4;have hfz9_5:=Z BK183.out 5
    go_wp2
    go_meet
    case rel=>exact ⟨_,(true),(by first | rfl | (simp;done) | (simp [*];done)),H',⟨by first | omega | exact Nat.le_refl _⟩,⟨by (with_reducible repeat (first | refine blk_drewN ?_ _ | refine blk_drew ?_ | refine blk_alloc ?_ _));exact BK183.out⟩,⟨by repeat (first | (with_reducible first | exact HB.out | apply U | apply Y | apply E | refine G ?_ GE183.out) | exact HB.out)⟩⟩
   ·rw [if_neg c8] at H;have c8b0 : decide (0 < (l0_5.length : Int)) = false:=decide_eq_false c8
    have c8b1 : decide (0 < l0_5.length) = false:=decide_eq_false (by omega)
    clear c8;have H':=O H;clear H;have hcz10_0 : w5.cell? ⟨gb183,0,none⟩ = some (.int .i64 a0_0):=(J BK183.out 0).trans rfl;have hcz10_1 : w5.cell? ⟨gb183,1,none⟩ = some (.int .i64 a0_1):=(J BK183.out 1).trans rfl;have hcz10_2 : w5.cell? ⟨gb183,2,none⟩ = some (.int .i64 a0_2):=(J BK183.out 2).trans rfl;have hcz10_3 : w5.cell? ⟨gb183,3,none⟩ = some (.int .i64 a0_3):=(J BK183.out 3).trans rfl;have hcz10_4 : w5.cell? ⟨gb183,4,none⟩ = some (.slice A0_4 l0_4.length c0_4):=(J BK183.out 4).trans rfl;have hcz10_5 : w5.cell? ⟨gb183,5,none⟩ = some (.slice A0_5 l0_5.length c0_5):=(J BK183.out 5).trans rfl;have hfz10_0:=Z BK183.out 0;have hfz10_1:=Z BK183.out 1;have hfz10_2:=Z BK183.out 2;have hfz10_3:=Z BK183.out 3;have hfz10_4:=Z BK183.out 4;have hfz10_5:=Z BK183.out 5
    go_wp2
    go_meet
    case rel=>exact ⟨_,(decide (a1 < 1)),(by first | rfl | (simp;done) | (simp [*];done)),H',⟨by first | omega | exact Nat.le_refl _⟩,⟨by (with_reducible repeat (first | refine blk_drewN ?_ _ | refine blk_drew ?_ | refine blk_alloc ?_ _));exact BK183.out⟩,⟨by repeat (first | (with_reducible first | exact HB.out | apply U | apply Y | apply E | refine G ?_ GE183.out) | exact HB.out)⟩⟩
 case rest =>
  clear HC4;(try clear p2);(try clear c5);(try clear c6);(try clear c6b0);(try clear c6b1);(try clear c8);(try clear c8b0);(try clear c8b1);(try clear hcz10_0);(try clear hcz10_1);(try clear hcz10_2);(try clear hcz10_3);(try clear hcz10_4);(try clear hcz10_5);(try clear hcz7_0);(try clear hcz7_1);(try clear hcz7_2);(try clear hcz7_3);(try clear hcz7_4);(try clear hcz7_5);(try clear hcz9_0);(try clear hcz9_1);(try clear hcz9_2);(try clear hcz9_3);(try clear hcz9_4);(try clear hcz9_5);(try clear hfz10_0);(try clear hfz10_1);(try clear hfz10_2);(try clear hfz10_3);(try clear hfz10_4);(try clear hfz10_5);(try clear hfz7_0);(try clear hfz7_1);(try clear hfz7_2);(try clear hfz7_3);(try clear hfz7_4);(try clear hfz7_5);(try clear hfz9_0);(try clear hfz9_1);(try clear hfz9_2);(try clear hfz9_3);(try clear hfz9_4);(try clear hfz9_5);obtain ⟨kq,x19_3,rfl,HA,HJ3,BK183,HB⟩:=hcut
  cases kq with
  | zero=>exact absurd HA.out (by simp [spec_l2Stmt.j0])
  | succ kj3 =>
   have H:=HA.out;clear HA;simp only [spec_l2Stmt.j0] at H
   by_cases c11 : x19_3 = true
   ·subst c11
    have H1 : (some false) = some r:=by rw [if_pos rfl] at H;exact H
    clear H;have H:=H1;clear H1;obtain rfl:=X H
    go_wp2
    go_ret
    exact ⟨by first | rfl | (simp [V,W] <;> rfl) | (simp [*,V,W] <;> rfl),by repeat (first | (with_reducible first | exact HB.out | apply U | apply Y | apply E | refine G ?_ GE183.out) | exact HB.out)⟩
   ·replace c11:=Bool.eq_false_iff.mpr c11;subst c11
    have H1 : (if a0_0 = 6 then (spec_l2Stmt.j1 kj3 a1 a2 a0_0 (a0_0 == 6) a0_0 a0_1 a0_2 a0_3 l0_4 l0_5) else (spec_l2Stmt.j1 kj3 a1 a2 a0_0 (a0_0 == 7) a0_0 a0_1 a0_2 a0_3 l0_4 l0_5)) = some r:=by rw [if_neg (show ¬ (false = true) by decide)] at H;exact H
    clear H;have H:=H1;clear H1;have HC12:=O H;clear H;have hcz13_0 : wc.cell? ⟨gb183,0,none⟩ = some (.int .i64 a0_0):=(J BK183.out 0).trans rfl;have hcz13_1 : wc.cell? ⟨gb183,1,none⟩ = some (.int .i64 a0_1):=(J BK183.out 1).trans rfl;have hcz13_2 : wc.cell? ⟨gb183,2,none⟩ = some (.int .i64 a0_2):=(J BK183.out 2).trans rfl;have hcz13_3 : wc.cell? ⟨gb183,3,none⟩ = some (.int .i64 a0_3):=(J BK183.out 3).trans rfl;have hcz13_4 : wc.cell? ⟨gb183,4,none⟩ = some (.slice A0_4 l0_4.length c0_4):=(J BK183.out 4).trans rfl;have hcz13_5 : wc.cell? ⟨gb183,5,none⟩ = some (.slice A0_5 l0_5.length c0_5):=(J BK183.out 5).trans rfl;have hfz13_0:=Z BK183.out 0;have hfz13_1:=Z BK183.out 1;have hfz13_2:=Z BK183.out 2;have hfz13_3:=Z BK183.out 3;have hfz13_4:=Z BK183.out 4;have hfz13_5:=Z BK183.out 5
    go_upto_if 22 with (fail)
    go_cut [22] (fun v22 wc=>∃ (kq : Nat) (x22_11 : Bool),v22 = .bool x22_11 ∧ Aside0 (spec_l2Stmt.j1 kq a1 a2 a0_0 x22_11 a0_0 a0_1 a0_2 a0_3 l0_4 l0_5 = some r) ∧ Aside0 (kq ≤ kj3) ∧ Aside0 (wc.heap[gb183]? = some (.cells #[.int .i64 a0_0,.int .i64 a0_1,.int .i64 a0_2,.int .i64 a0_3,(.slice A0_4 l0_4.length c0_4),(.slice A0_5 l0_5.length c0_5)] 69 (0,0))) ∧ Aside0 (Below w.heap.size w wc))
    case first =>
     have H:=HC12.out;clear HC12
     by_cases c14 : a0_0 = 6
     ·rw [if_pos c14] at H;have c14b0 : (a0_0 == 6) = true:=beq_iff_eq.mpr c14;have c14b1 : (a0_0 != 6) = false:=bne_eq_false_iff_eq.mpr c14;clear c14
      (first | rw [c14b0] | (simp only [i64_w,i32_w];rw [c14b0]) | skip)
      have H':=O H;clear H
      go_wp2
      go_meet
      case rel=>exact ⟨_,((a0_0 == 6)),(by first | rfl | (simp;done) | (simp [*];done)),H',⟨by have:=HJ3.out;first | omega | exact Nat.le_refl _⟩,⟨by (with_reducible repeat (first | refine blk_drewN ?_ _ | refine blk_drew ?_ | refine blk_alloc ?_ _));exact BK183.out⟩,⟨by repeat (first | (with_reducible first | exact HB.out | apply U | apply Y | apply E | refine G ?_ GE183.out) | exact HB.out)⟩⟩
     ·rw [if_neg c14] at H;have c14b0 : (a0_0 == 6) = false:=beq_eq_false_iff_ne.mpr c14;have c14b1 : (a0_0 != 6) = true:=bne_iff_ne.mpr c14
      (first | rw [c14b0] | (simp only [i64_w,i32_w];rw [c14b0]) | skip)
      have H':=O H;clear H
      go_wp2
      go_meet
      case rel=>exact ⟨_,((a0_0 == 7)),(by first | rfl | (simp;done) | (simp [*];done)),H',⟨by have:=HJ3.out;first | omega | exact Nat.le_refl _⟩,⟨by (with_reducible repeat (first | refine blk_drewN ?_ _ | refine blk_drew ?_ | refine blk_alloc ?_ _));exact BK183.out⟩,⟨by repeat (first | (with_reducible first | exact HB.out | apply U | apply Y | apply E | refine G ?_ GE183.out) | exact HB.out)⟩⟩
    case rest =>
     clear HC12;(try clear c1);(try clear p2);(try clear c5);(try clear c6);(try clear c6b0);(try clear c6b1);(try clear c8);(try clear c8b0);(try clear c8b1);(try clear c11);(try clear c14);(try clear c14b0);(try clear c14b1);(try clear hcz10_0);(try clear hcz10_1);(try clear hcz10_2);(try clear hcz10_3);(try clear hcz10_4);(try clear hcz10_5);(try clear hcz13_0);(try clear hcz13_1);(try clear hcz13_2);(try clear hcz13_3);(try clear hcz13_4);(try clear hcz13_5);(try clear hcz7_0);(try clear hcz7_1);(try clear hcz7_2);(try clear hcz7_3);(try clear hcz7_4);(try clear hcz7_5);(try clear hcz9_0);(try clear hcz9_1);(try clear hcz9_2);(try clear hcz9_3);(try clear hcz9_4);(try clear hcz9_5);(try clear hfz10_0);(try clear hfz10_1);(try clear hfz10_2);(try clear hfz10_3);(try clear hfz10_4);(try clear hfz10_5);(try clear hfz13_0);(try clear hfz13_1);(try clear hfz13_2);(try clear hfz13_3);(try clear hfz13_4);(try clear hfz13_5);(try clear hfz7_0);(try clear hfz7_1);(try clear hfz7_2);(try clear hfz7_3);(try clear hfz7_4);(try clear hfz7_5);(try clear hfz9_0);(try clear hfz9_1);(try clear hfz9_2);(try clear hfz9_3);(try clear hfz9_4);(try clear hfz9_5);(try clear p2);obtain ⟨kq,x22_11,rfl,HA,HJ11,BK183,HB⟩:=hcut
     cases kq with
     | zero=>exact absurd HA.out (by simp [spec_l2Stmt.j1])
     | succ kj11 =>
      have H:=HA.out;clear HA;simp only [spec_l2Stmt.j1] at H
      by_cases c15 : x22_11 = true
      ·subst c15
       have H1 : (if a0_1 ≥ 0 then (if a0_1 < 3 then (if a0_2 = 0 then (if a0_3 = 0 then ((spec_l2List.f kj11 l0_4 (wrap64 (a1 - 1)) a2).bind fun t184=>(if t184 = true then ((spec_l2List.f kj11 l0_5 (wrap64 (a1 - 1)) a2).bind fun t185=>(some t185)) else (some false))) else (some false)) else (some false)) else (some false)) else (some false)) = some r:=by rw [if_pos rfl] at H;exact H
       clear H;have H:=H1;clear H1
       by_cases c16 : a0_1 ≥ 0
       ·rw [if_pos c16] at H;have c16b0 : decide (0 ≤ a0_1) = true:=decide_eq_true c16;clear c16
        by_cases c17 : a0_1 < 3
        ·rw [if_pos c17] at H;have c17b0 : decide (a0_1 < 3) = true:=decide_eq_true c17;clear c17
         by_cases c18 : a0_2 = 0
         ·rw [if_pos c18] at H;have c18b0 : (a0_2 == 0) = true:=beq_iff_eq.mpr c18;have c18b1 : (a0_2 != 0) = false:=bne_eq_false_iff_eq.mpr c18;clear c18
          by_cases c19 : a0_3 = 0
          ·rw [if_pos c19] at H;have c19b0 : (a0_3 == 0) = true:=beq_iff_eq.mpr c19;have c19b1 : (a0_3 != 0) = false:=bne_eq_false_iff_eq.mpr c19;clear c19;replace H:=Option.bind_eq_some_iff.mp H;obtain ⟨t184,A200,H⟩:=H;replace H : (if t184 = true then ((spec_l2List.f kj11 l0_5 (wrap64 (a1 - 1)) a2).bind fun t185=>(some t185)) else (some false)) = some r:=H;have A20:=O A200;clear A200
           by_cases c21 : t184 = true
           ·subst c21
            have H1 : ((spec_l2List.f kj11 l0_5 (wrap64 (a1 - 1)) a2).bind fun t185=>(some t185)) = some r:=by rw [if_pos rfl] at H;exact H
            clear H;have H:=H1;clear H1;replace H:=Option.bind_eq_some_iff.mp H;obtain ⟨t185,A220,H⟩:=H;replace H : (some t185) = some r:=H;have A22:=O A220;clear A220;obtain rfl:=X H;have hcz23_0 : wc.cell? ⟨gb183,0,none⟩ = some (.int .i64 a0_0):=(J BK183.out 0).trans rfl;have hcz23_1 : wc.cell? ⟨gb183,1,none⟩ = some (.int .i64 a0_1):=(J BK183.out 1).trans rfl;have hcz23_2 : wc.cell? ⟨gb183,2,none⟩ = some (.int .i64 a0_2):=(J BK183.out 2).trans rfl;have hcz23_3 : wc.cell? ⟨gb183,3,none⟩ = some (.int .i64 a0_3):=(J BK183.out 3).trans rfl;have hcz23_4 : wc.cell? ⟨gb183,4,none⟩ = some (.slice A0_4 l0_4.length c0_4):=(J BK183.out 4).trans rfl;have hcz23_5 : wc.cell? ⟨gb183,5,none⟩ = some (.slice A0_5 l0_5.length c0_5):=(J BK183.out 5).trans rfl;have hfz23_0:=Z BK183.out 0;have hfz23_1:=Z BK183.out 1;have hfz23_2:=Z BK183.out 2;have hfz23_3:=Z BK183.out 3;have hfz23_4:=Z BK183.out 4;have hfz23_5:=Z BK183.out 5
            go_wp2_with (first | (go_at_call 50;(with_reducible refine (ih_spec_l2List kj11 (by have:=HJ3.out;have:=HJ11.out;omega) _ _ l0_4 (wrap64 (a1 - 1)) a2 true _ ?side1 ?side2 A20.out).mono ?_);(case side1=>repeat (first | exact (Kd.C_below HR0_4.out HB.out) | (with_reducible refine Kd.C_alloc ?_ _) | (with_reducible refine Kd.C_drewN ?_ _) | (with_reducible refine Kd.C_drew ?_)));(case side2=>exact HC0_4.out);rintro e w24 ⟨rfl,hb⟩;have n0_:=O (blk_below (g:=gb183) (o:=.cells #[.int .i64 a0_0,.int .i64 a0_1,.int .i64 a0_2,.int .i64 a0_3,.slice A0_4 l0_4.length c0_4,.slice A0_5 l0_5.length c0_5] 69 (0,0)) (q6_ BK183) hb);have n1_:=O (below_step (q10_ HB GE183) hb);clear BK183 HB;have BK183:=n0_;have HB:=n1_;clear n0_ n1_;(try clear hb);obtain ⟨hcz25_0,hcz25_1,hcz25_2,hcz25_3,hcz25_4,hcz25_5,hfz25_0,hfz25_1,hfz25_2,hfz25_3,hfz25_4,hfz25_5⟩:=bz6_ BK183) | (go_at_call 50;(with_reducible refine (ih_spec_l2List kj11 (by have:=HJ3.out;have:=HJ11.out;omega) _ _ l0_5 (wrap64 (a1 - 1)) a2 t185 _ ?side1 ?side2 A22.out).mono ?_);(case side1=>repeat (first | exact (Kd.C_below HR0_5.out HB.out) | (with_reducible refine Kd.C_alloc ?_ _) | (with_reducible refine Kd.C_drewN ?_ _) | (with_reducible refine Kd.C_drew ?_)));(case side2=>exact HC0_5.out);rintro e w26 ⟨rfl,hb⟩;have n0_:=O (blk_below (g:=gb183) (o:=.cells #[.int .i64 a0_0,.int .i64 a0_1,.int .i64 a0_2,.int .i64 a0_3,.slice A0_4 l0_4.length c0_4,.slice A0_5 l0_5.length c0_5] 69 (0,0)) (q6_ BK183) hb);have n1_:=O (below_step (q10_ HB GE183) hb);clear BK183 HB;have BK183:=n0_;have HB:=n1_;clear n0_ n1_;(try clear hb)))
            go_ret
            exact ⟨by first | rfl | (simp [V,W] <;> rfl) | (simp [*,V,W] <;> rfl),by repeat (first | (with_reducible first | exact HB.out | apply U | apply Y | apply E | refine G ?_ GE183.out) | exact HB.out)⟩
           ·replace c21:=Bool.eq_false_iff.mpr c21;subst c21
            have H1 : (some false) = some r:=by rw [if_neg (show ¬ (false = true) by decide)] at H;exact H
            clear H;have H:=H1;clear H1;obtain rfl:=X H;have hcz27_0 : wc.cell? ⟨gb183,0,none⟩ = some (.int .i64 a0_0):=(J BK183.out 0).trans rfl;have hcz27_1 : wc.cell? ⟨gb183,1,none⟩ = some (.int .i64 a0_1):=(J BK183.out 1).trans rfl;have hcz27_2 : wc.cell? ⟨gb183,2,none⟩ = some (.int .i64 a0_2):=(J BK183.out 2).trans rfl;have hcz27_3 : wc.cell? ⟨gb183,3,none⟩ = some (.int .i64 a0_3):=(J BK183.out 3).trans rfl;have hcz27_4 : wc.cell? ⟨gb183,4,none⟩ = some (.slice A0_4 l0_4.length c0_4):=(J BK183.out 4).trans rfl;have hcz27_5 : wc.cell? ⟨gb183,5,none⟩ = some (.slice A0_5 l0_5.length c0_5):=(J BK183.out 5).trans rfl;have hfz27_0:=Z BK183.out 0;have hfz27_1:=Z BK183.out 1;have hfz27_2:=Z BK183.out 2;have hfz27_3:=Z BK183.out 3;have hfz27_4:=Z BK183.out 4;have hfz27_5:=Z BK183.out 5
            go_wp2_with (first | (go_at_call 50;(with_reducible refine (ih_spec_l2List kj11 (by have:=HJ3.out;have:=HJ11.out;omega) _ _ l0_4 (wrap64 (a1 - 1)) a2 false _ ?side1 ?side2 A20.out).mono ?_);(case side1=>repeat (first | exact (Kd.C_below HR0_4.out HB.out) | (with_reducible refine Kd.C_alloc ?_ _) | (with_reducible refine Kd.C_drewN ?_ _) | (with_reducible refine Kd.C_drew ?_)));(case side2=>exact HC0_4.out);rintro e w28 ⟨rfl,hb⟩;have n0_:=O (blk_below (g:=gb183) (o:=.cells #[.int .i64 a0_0,.int .i64 a0_1,.int .i64 a0_2,.int .i64 a0_3,.slice A0_4 l0_4.length c0_4,.slice A0_5 l0_5.length c0_5] 69 (0,0)) (q6_ BK183) hb);have n1_:=O (below_step (q10_ HB GE183) hb);clear BK183 HB;have BK183:=n0_;have HB:=n1_;clear n0_ n1_;(try clear hb)))
            go_ret
            exact ⟨by first | rfl | (simp [V,W] <;> rfl) | (simp [*,V,W] <;> rfl),by repeat (first | (with_reducible first | exact HB.out | apply U | apply Y | apply E | refine G ?_ GE183.out) | exact HB.out)⟩
          ·rw [if_neg c19] at H;have c19b0 : (a0_3 == 0) = false:=beq_eq_false_iff_ne.mpr c19;have c19b1 : (a0_3 != 0) = true:=bne_iff_ne.mpr c19;obtain rfl:=X H;have hcz29_0 : wc.cell? ⟨gb183,0,none⟩ = some (.int .i64 a0_0):=(J BK183.out 0).trans rfl;have hcz29_1 : wc.cell? ⟨gb183,1,none⟩ = some (.int .i64 a0_1):=(J BK183.out 1).trans rfl;have hcz29_2 : wc.cell? ⟨gb183,2,none⟩ = some (.int .i64 a0_2):=(J BK183.out 2).trans rfl;have hcz29_3 : wc.cell? ⟨gb183,3,none⟩ = some (.int .i64 a0_3):=(J BK183.out 3).trans rfl;have hcz29_4 : wc.cell? ⟨gb183,4,none⟩ = some (.slice A0_4 l0_4.length c0_4):=(J BK183.out 4).trans rfl;have hcz29_5 : wc.cell? ⟨gb183,5,none⟩ = some (.slice A0_5 l0_5.length c0_5):=(J BK183.out 5).trans rfl;have hfz29_0:=Z BK183.out 0;have hfz29_1:=Z BK183.out 1;have hfz29_2:=Z BK183.out 2;have hfz29_3:=Z BK183.out 3;have hfz29_4:=Z BK183.out 4;have hfz29_5:=Z BK183.out 5
           go_wp2
           go_ret
           exact ⟨by first | rfl | (simp [V,W] <;> rfl) | (simp [*,V,W] <;> rfl),by repeat (first | (with_reducible first | exact HB.out | apply U | apply Y | apply E | refine G ?_ GE183.out) | exact HB.out)⟩
         ·rw [if_neg c18] at H;have c18b0 : (a0_2 == 0) = false:=beq_eq_false_iff_ne.mpr c18;have c18b1 : (a0_2 != 0) = true:=bne_iff_ne.mpr c18;obtain rfl:=X H;have hcz30_0 : wc.cell? ⟨gb183,0,none⟩ = some (.int .i64 a0_0):=(J BK183.out 0).trans rfl;have hcz30_1 : wc.cell? ⟨gb183,1,none⟩ = some (.int .i64 a0_1):=(J BK183.out 1).trans rfl;have hcz30_2 : wc.cell? ⟨gb183,2,none⟩ = some (.int .i64 a0_2):=(J BK183.out 2).trans rfl;have hcz30_3 : wc.cell? ⟨gb183,3,none⟩ = some (.int .i64 a0_3):=(J BK183.out 3).trans rfl;have hcz30_4 : wc.cell? ⟨gb183,4,none⟩ = some (.slice A0_4 l0_4.length c0_4):=(J BK183.out 4).trans rfl;have hcz30_5 : wc.cell? ⟨gb183,5,none⟩ = some (.slice A0_5 l0_5.length c0_5):=(J BK183.out 5).trans rfl;have hfz30_0:=Z BK183.out 0;have hfz30_1:=Z BK183.out 1;have hfz30_2:=Z BK183.out 2;have hfz30_3:=Z BK183.out 3;have hfz30_4:=Z BK183.out 4;have hfz30_5:=Z BK183.out 5
          go_wp2
          go_ret
          exact ⟨by first | rfl | (simp [V,W] <;> rfl) | (simp [*,V,W] <;> rfl),by repeat (first | (with_reducible first | exact HB.out | apply U | apply Y | apply E | refine G ?_ GE183.out) | exact HB.out)⟩
        ·rw [if_neg c17] at H;have c17b0 : decide (a0_1 < 3) = false:=decide_eq_false c17;clear c17;obtain rfl:=X H;have hcz31_0 : wc.cell? ⟨gb183,0,none⟩ = some (.int .i64 a0_0):=(J BK183.out 0).trans rfl;have hcz31_1 : wc.cell? ⟨gb183,1,none⟩ = some (.int .i64 a0_1):=(J BK183.out 1).trans rfl;have hcz31_2 : wc.cell? ⟨gb183,2,none⟩ = some (.int .i64 a0_2):=(J BK183.out 2).trans rfl;have hcz31_3 : wc.cell? ⟨gb183,3,none⟩ = some (.int .i64 a0_3):=(J BK183.out 3).trans rfl;have hcz31_4 : wc.cell? ⟨gb183,4,none⟩ = some (.slice A0_4 l0_4.length c0_4):=(J BK183.out 4).trans rfl;have hcz31_5 : wc.cell? ⟨gb183,5,none⟩ = some (.slice A0_5 l0_5.length c0_5):=(J BK183.out 5).trans rfl;have hfz31_0:=Z BK183.out 0;have hfz31_1:=Z BK183.out 1;have hfz31_2:=Z BK183.out 2;have hfz31_3:=Z BK183.out 3;have hfz31_4:=Z BK183.out 4;have hfz31_5:=Z BK183.out 5
         go_wp2
         go_ret
         exact ⟨by first | rfl | (simp [V,W] <;> rfl) | (simp [*,V,W] <;> rfl),by repeat (first | (with_reducible first | exact HB.out | apply U | apply Y | apply E | refine G ?_ GE183.out) | exact HB.out)⟩
       ·rw [if_neg c16] at H;have c16b0 : decide (0 ≤ a0_1) = false:=decide_eq_false c16;clear c16;obtain rfl:=X H;have hcz32_0 : wc.cell? ⟨gb183,0,none⟩ = some (.int .i64 a0_0):=(J BK183.out 0).trans rfl;have hcz32_1 : wc.cell? ⟨gb183,1,none⟩ = some (.int .i64 a0_1):=(J BK183.out 1).trans rfl;have hcz32_2 : wc.cell? ⟨gb183,2,none⟩ = some (.int .i64 a0_2):=(J BK183.out 2).trans rfl;have hcz32_3 : wc.cell? ⟨gb183,3,none⟩ = some (.int .i64 a0_3):=(J BK183.out 3).trans rfl;have hcz32_4 : wc.cell? ⟨gb183,4,none⟩ = some (.slice A0_4 l0_4.length c0_4):=(J BK183.out 4).trans rfl;have hcz32_5 : wc.cell? ⟨gb183,5,none⟩ = some (.slice A0_5 l0_5.length c0_5):=(J BK183.out 5).trans rfl;have hfz32_0:=Z BK183.out 0;have hfz32_1:=Z BK183.out 1;have hfz32_2:=Z BK183.out 2;have hfz32_3:=Z BK183.out 3;have hfz32_4:=Z BK183.out 4;have hfz32_5:=Z BK183.out 5
        go_wp2
        go_ret
        exact ⟨by first | rfl | (simp [V,W] <;> rfl) | (simp [*,V,W] <;> rfl),by repeat (first | (with_reducible first | exact HB.out | apply U | apply Y | apply E | refine G ?_ GE183.out) | exact HB.out)⟩
      ·replace c15:=Bool.eq_false_iff.mpr c15;subst c15
       have H1 : (if a0_0 = 8 then (if a2 < 0 then (if a0_1 ≥ 0 then (if a0_1 < 2 then (if a0_2 = 0 then (if a0_3 = 0 then ((spec_l2List.f kj11 l0_4 (wrap64 (a1 - 1)) a0_1).bind fun t186=>(some t186)) else (some false)) else (some false)) else (some false)) else (some false)) else (some false)) else (if (l0_4.length : Int) = 0 then ((spec_l2Leaf.f kj11 a0_0 a0_1 a0_2 a0_3 l0_4 l0_5 a2).bind fun t187=>(some t187)) else (some false))) = some r:=by rw [if_neg (show ¬ (false = true) by decide)] at H;exact H
       clear H;have H:=H1;clear H1
       by_cases c33 : a0_0 = 8
       ·rw [if_pos c33] at H;have c33b0 : (a0_0 == 8) = true:=beq_iff_eq.mpr c33;have c33b1 : (a0_0 != 8) = false:=bne_eq_false_iff_eq.mpr c33;clear c33
        by_cases c34 : a2 < 0
        ·rw [if_pos c34] at H;have c34b0 : decide (a2 < 0) = true:=decide_eq_true c34;clear c34
         by_cases c35 : a0_1 ≥ 0
         ·rw [if_pos c35] at H;have c35b0 : decide (0 ≤ a0_1) = true:=decide_eq_true c35;clear c35
          by_cases c36 : a0_1 < 2
          ·rw [if_pos c36] at H;have c36b0 : decide (a0_1 < 2) = true:=decide_eq_true c36;clear c36
           by_cases c37 : a0_2 = 0
           ·rw [if_pos c37] at H;have c37b0 : (a0_2 == 0) = true:=beq_iff_eq.mpr c37;have c37b1 : (a0_2 != 0) = false:=bne_eq_false_iff_eq.mpr c37;clear c37
            by_cases c38 : a0_3 = 0
            ·rw [if_pos c38] at H;have c38b0 : (a0_3 == 0) = true:=beq_iff_eq.mpr c38;have c38b1 : (a0_3 != 0) = false:=bne_eq_false_iff_eq.mpr c38;clear c38;replace H:=Option.bind_eq_some_iff.mp H;obtain ⟨t186,A390,H⟩:=H;replace H : (some t186) = some r:=H;have A39:=O A390;clear A390;obtain rfl:=X H;have hcz40_0 : wc.cell? ⟨gb183,0,none⟩ = some (.int .i64 a0_0):=(J BK183.out 0).trans rfl;have hcz40_1 : wc.cell? ⟨gb183,1,none⟩ = some (.int .i64 a0_1):=(J BK183.out 1).trans rfl;have hcz40_2 : wc.cell? ⟨gb183,2,none⟩ = some (.int .i64 a0_2):=(J BK183.out 2).trans rfl;have hcz40_3 : wc.cell? ⟨gb183,3,none⟩ = some (.int .i64 a0_3):=(J BK183.out 3).trans rfl;have hcz40_4 : wc.cell? ⟨gb183,4,none⟩ = some (.slice A0_4 l0_4.length c0_4):=(J BK183.out 4).trans rfl;have hcz40_5 : wc.cell? ⟨gb183,5,none⟩ = some (.slice A0_5 l0_5.length c0_5):=(J BK183.out 5).trans rfl;have hfz40_0:=Z BK183.out 0;have hfz40_1:=Z BK183.out 1;have hfz40_2:=Z BK183.out 2;have hfz40_3:=Z BK183.out 3;have hfz40_4:=Z BK183.out 4;have hfz40_5:=Z BK183.out 5
             go_wp2_with (first | (go_at_call 50;(with_reducible refine (ih_spec_l2List kj11 (by have:=HJ3.out;have:=HJ11.out;omega) _ _ l0_4 (wrap64 (a1 - 1)) a0_1 t186 _ ?side1 ?side2 A39.out).mono ?_);(case side1=>repeat (first | exact (Kd.C_below HR0_4.out HB.out) | (with_reducible refine Kd.C_alloc ?_ _) | (with_reducible refine Kd.C_drewN ?_ _) | (with_reducible refine Kd.C_drew ?_)));(case side2=>exact HC0_4.out);rintro e w41 ⟨rfl,hb⟩;have n0_:=O (blk_below (g:=gb183) (o:=.cells #[.int .i64 a0_0,.int .i64 a0_1,.int .i64 a0_2,.int .i64 a0_3,.slice A0_4 l0_4.length c0_4,.slice A0_5 l0_5.length c0_5] 69 (0,0)) (q6_ BK183) hb);have n1_:=O (below_step (q10_ HB GE183) hb);clear BK183 HB;have BK183:=n0_;have HB:=n1_;clear n0_ n1_;(try clear hb)))
             go_ret
             exact ⟨by first | rfl | (simp [V,W] <;> rfl) | (simp [*,V,W] <;> rfl),by repeat (first | (with_reducible first | exact HB.out | apply U | apply Y | apply E | refine G ?_ GE183.out) | exact HB.out)⟩
            ·rw [if_neg c38] at H;have c38b0 : (a0_3 == 0) = false:=beq_eq_false_iff_ne.mpr c38;have c38b1 : (a0_3 != 0) = true:=bne_iff_ne.mpr c38;obtain rfl:=X H;have hcz42_0 : wc.cell? ⟨gb183,0,none⟩ = some (.int .i64 a0_0):=(J BK183.out 0).trans rfl;have hcz42_1 : wc.cell? ⟨gb183,1,none⟩ = some (.int .i64 a0_1):=(J BK183.out 1).trans rfl;have hcz42_2 : wc.cell? ⟨gb183,2,none⟩ = some (.int .i64 a0_2):=(J BK183.out 2).trans rfl;have hcz42_3 : wc.cell? ⟨gb183,3,none⟩ = some (.int .i64 a0_3):=(J BK183.out 3).trans rfl;have hcz42_4 : wc.cell? ⟨gb183,4,none⟩ = some (.slice A0_4 l0_4.length c0_4):=(J BK183.out 4).trans rfl;have hcz42_5 : wc.cell? ⟨gb183,5,none⟩ = some (.slice A0_5 l0_5.length c0_5):=(J BK183.out 5).trans rfl;have hfz42_0:=Z BK183.out 0;have hfz42_1:=Z BK183.out 1;have hfz42_2:=Z BK183.out 2;have hfz42_3:=Z BK183.out 3;have hfz42_4:=Z BK183.out 4;have hfz42_5:=Z BK183.out 5
             go_wp2
             go_ret
             exact ⟨by first | rfl | (simp [V,W] <;> rfl) | (simp [*,V,W] <;> rfl),by repeat (first | (with_reducible first | exact HB.out | apply U | apply Y | apply E | refine G ?_ GE183.out) | exact HB.out)⟩
           ·rw [if_neg c37] at H;have c37b0 : (a0_2 == 0) = false:=beq_eq_false_iff_ne.mpr c37;have c37b1 : (a0_2 != 0) = true:=bne_iff_ne.mpr c37;obtain rfl:=X H;have hcz43_0 : wc.cell? ⟨gb183,0,none⟩ = some (.int .i64 a0_0):=(J BK183.out 0).trans rfl;have hcz43_1 : wc.cell? ⟨gb183,1,none⟩ = some (.int .i64 a0_1):=(J BK183.out 1).trans rfl;have hcz43_2 : wc.cell? ⟨gb183,2,none⟩ = some (.int .i64 a0_2):=(J BK183.out 2).trans rfl;have hcz43_3 : wc.cell? ⟨gb183,3,none⟩ = some (.int .i64 a0_3):=(J BK183.out 3).trans rfl;have hcz43_4 : wc.cell? ⟨gb183,4,none⟩ = some (.slice A0_4 l0_4.length c0_4):=(J BK183.out 4).trans rfl;have hcz43_5 : wc.cell? ⟨gb183,5,none⟩ = some (.slice A0_5 l0_5.length c0_5):=(J BK183.out 5).trans rfl;have hfz43_0:=Z BK183.out 0;have hfz43_1:=Z BK183.out 1;have hfz43_2:=Z BK183.out 2;have hfz43_3:=Z BK183.out 3;have hfz43_4:=Z BK183.out 4;have hfz43_5:=Z BK183.out 5
            go_wp2
            go_ret
            exact ⟨by first | rfl | (simp [V,W] <;> rfl) | (simp [*,V,W] <;> rfl),by repeat (first | (with_reducible first | exact HB.out | apply U | apply Y | apply E | refine G ?_ GE183.out) | exact HB.out)⟩
          ·rw [if_neg c36] at H;have c36b0 : decide (a0_1 < 2) = false:=decide_eq_false c36;clear c36;obtain rfl:=X H;have hcz44_0 : wc.cell? ⟨gb183,0,none⟩ = some (.int .i64 a0_0):=(J BK183.out 0).trans rfl;have hcz44_1 : wc.cell? ⟨gb183,1,none⟩ = some (.int .i64 a0_1):=(J BK183.out 1).trans rfl;have hcz44_2 : wc.cell? ⟨gb183,2,none⟩ = some (.int .i64 a0_2):=(J BK183.out 2).trans rfl;have hcz44_3 : wc.cell? ⟨gb183,3,none⟩ = some (.int .i64 a0_3):=(J BK183.out 3).trans rfl;have hcz44_4 : wc.cell? ⟨gb183,4,none⟩ = some (.slice A0_4 l0_4.length c0_4):=(J BK183.out 4).trans rfl;have hcz44_5 : wc.cell? ⟨gb183,5,none⟩ = some (.slice A0_5 l0_5.length c0_5):=(J BK183.out 5).trans rfl;have hfz44_0:=Z BK183.out 0;have hfz44_1:=Z BK183.out 1;have hfz44_2:=Z BK183.out 2;have hfz44_3:=Z BK183.out 3;have hfz44_4:=Z BK183.out 4;have hfz44_5:=Z BK183.out 5
           go_wp2
           go_ret
           exact ⟨by first | rfl | (simp [V,W] <;> rfl) | (simp [*,V,W] <;> rfl),by repeat (first | (with_reducible first | exact HB.out | apply U | apply Y | apply E | refine G ?_ GE183.out) | exact HB.out)⟩
         ·rw [if_neg c35] at H;have c35b0 : decide (0 ≤ a0_1) = false:=decide_eq_false c35;clear c35;obtain rfl:=X H;have hcz45_0 : wc.cell? ⟨gb183,0,none⟩ = some (.int .i64 a0_0):=(J BK183.out 0).trans rfl;have hcz45_1 : wc.cell? ⟨gb183,1,none⟩ = some (.int .i64 a0_1):=(J BK183.out 1).trans rfl;have hcz45_2 : wc.cell? ⟨gb183,2,none⟩ = some (.int .i64 a0_2):=(J BK183.out 2).trans rfl;have hcz45_3 : wc.cell? ⟨gb183,3,none⟩ = some (.int .i64 a0_3):=(J BK183.out 3).trans rfl;have hcz45_4 : wc.cell? ⟨gb183,4,none⟩ = some (.slice A0_4 l0_4.length c0_4):=(J BK183.out 4).trans rfl;have hcz45_5 : wc.cell? ⟨gb183,5,none⟩ = some (.slice A0_5 l0_5.length c0_5):=(J BK183.out 5).trans rfl;have hfz45_0:=Z BK183.out 0;have hfz45_1:=Z BK183.out 1;have hfz45_2:=Z BK183.out 2;have hfz45_3:=Z BK183.out 3;have hfz45_4:=Z BK183.out 4;have hfz45_5:=Z BK183.out 5
          go_wp2
          go_ret
          exact ⟨by first | rfl | (simp [V,W] <;> rfl) | (simp [*,V,W] <;> rfl),by repeat (first | (with_reducible first | exact HB.out | apply U | apply Y | apply E | refine G ?_ GE183.out) | exact HB.out)⟩
        ·rw [if_neg c34] at H;have c34b0 : decide (a2 < 0) = false:=decide_eq_false c34;clear c34;obtain rfl:=X H
         go_wp2
         go_ret
         exact ⟨by first | rfl | (simp [V,W] <;> rfl) | (simp [*,V,W] <;> rfl),by repeat (first | (with_reducible first | exact HB.out | apply U | apply Y | apply E | refine G ?_ GE183.out) | exact HB.out)⟩
       ·rw [if_neg c33] at H;have c33b0 : (a0_0 == 8) = false:=beq_eq_false_iff_ne.mpr c33;have c33b1 : (a0_0 != 8) = true:=bne_iff_ne.mpr c33
        by_cases c46 : (l0_4.length : Int) = 0
        ·rw [if_pos c46] at H;have c46b0 : ((l0_4.length : Int) == 0) = true:=beq_iff_eq.mpr c46;have c46b1 : ((l0_4.length : Int) != 0) = false:=bne_eq_false_iff_eq.mpr c46;clear c46;replace H:=Option.bind_eq_some_iff.mp H;obtain ⟨t187,A470,H⟩:=H;replace H : (some t187) = some r:=H;have A47:=O A470;clear A470;obtain rfl:=X H;have hcz48_0 : wc.cell? ⟨gb183,0,none⟩ = some (.int .i64 a0_0):=(J BK183.out 0).trans rfl;have hcz48_1 : wc.cell? ⟨gb183,1,none⟩ = some (.int .i64 a0_1):=(J BK183.out 1).trans rfl;have hcz48_2 : wc.cell? ⟨gb183,2,none⟩ = some (.int .i64 a0_2):=(J BK183.out 2).trans rfl;have hcz48_3 : wc.cell? ⟨gb183,3,none⟩ = some (.int .i64 a0_3):=(J BK183.out 3).trans rfl;have hcz48_4 : wc.cell? ⟨gb183,4,none⟩ = some (.slice A0_4 l0_4.length c0_4):=(J BK183.out 4).trans rfl;have hcz48_5 : wc.cell? ⟨gb183,5,none⟩ = some (.slice A0_5 l0_5.length c0_5):=(J BK183.out 5).trans rfl;have hfz48_0:=Z BK183.out 0;have hfz48_1:=Z BK183.out 1;have hfz48_2:=Z BK183.out 2;have hfz48_3:=Z BK183.out 3;have hfz48_4:=Z BK183.out 4;have hfz48_5:=Z BK183.out 5
         go_wp2_with (first | (go_at_call 58;(with_reducible refine (spec_l2Leaf.calls kj11 a0_0 a0_1 a0_2 a0_3 _ _ l0_4 _ _ l0_5 a2 t187 _ ?side1 ?side2 ?side3 ?side4 A47.out).mono ?_);(case side1=>repeat (first | exact (Kd.C_below HR0_4.out HB.out) | (with_reducible refine Kd.C_alloc ?_ _) | (with_reducible refine Kd.C_drewN ?_ _) | (with_reducible refine Kd.C_drew ?_)));(case side2=>exact HC0_4.out);(case side3=>repeat (first | exact (Kd.C_below HR0_5.out HB.out) | (with_reducible refine Kd.C_alloc ?_ _) | (with_reducible refine Kd.C_drewN ?_ _) | (with_reducible refine Kd.C_drew ?_)));(case side4=>exact HC0_5.out);rintro e w49 ⟨rfl,hb⟩;have n0_:=O (blk_below (g:=gb183) (o:=.cells #[.int .i64 a0_0,.int .i64 a0_1,.int .i64 a0_2,.int .i64 a0_3,.slice A0_4 l0_4.length c0_4,.slice A0_5 l0_5.length c0_5] 69 (0,0)) (q6_ BK183) hb);have n1_:=O (below_step (q10_ HB GE183) hb);clear BK183 HB;have BK183:=n0_;have HB:=n1_;clear n0_ n1_;(try clear hb)))
         go_ret
         exact ⟨by first | rfl | (simp [V,W] <;> rfl) | (simp [*,V,W] <;> rfl),by repeat (first | (with_reducible first | exact HB.out | apply U | apply Y | apply E | refine G ?_ GE183.out) | exact HB.out)⟩
        ·rw [if_neg c46] at H;have c46b0 : ((l0_4.length : Int) == 0) = false:=beq_eq_false_iff_ne.mpr c46;have c46b1 : ((l0_4.length : Int) != 0) = true:=bne_iff_ne.mpr c46
         have c46b2 : ¬ (l0_4 = []):=fun h_=>c46 (by rw [h_];rfl)
         obtain rfl:=X H;have hcz50_0 : wc.cell? ⟨gb183,0,none⟩ = some (.int .i64 a0_0):=(J BK183.out 0).trans rfl;have hcz50_1 : wc.cell? ⟨gb183,1,none⟩ = some (.int .i64 a0_1):=(J BK183.out 1).trans rfl;have hcz50_2 : wc.cell? ⟨gb183,2,none⟩ = some (.int .i64 a0_2):=(J BK183.out 2).trans rfl;have hcz50_3 : wc.cell? ⟨gb183,3,none⟩ = some (.int .i64 a0_3):=(J BK183.out 3).trans rfl;have hcz50_4 : wc.cell? ⟨gb183,4,none⟩ = some (.slice A0_4 l0_4.length c0_4):=(J BK183.out 4).trans rfl;have hcz50_5 : wc.cell? ⟨gb183,5,none⟩ = some (.slice A0_5 l0_5.length c0_5):=(J BK183.out 5).trans rfl;have hfz50_0:=Z BK183.out 0;have hfz50_1:=Z BK183.out 1;have hfz50_2:=Z BK183.out 2;have hfz50_3:=Z BK183.out 3;have hfz50_4:=Z BK183.out 4;have hfz50_5:=Z BK183.out 5
         go_wp2
         go_ret
         exact ⟨by first | rfl | (simp [V,W] <;> rfl) | (simp [*,V,W] <;> rfl),by repeat (first | (with_reducible first | exact HB.out | apply U | apply Y | apply E | refine G ?_ GE183.out) | exact HB.out)⟩
set_option maxHeartbeats 8000000 in
set_option maxRecDepth 100000 in
theorem spec_l2List.calls_ (k : Nat) (ih_spec_l2Stmt : ∀ k_,k_ < k → spec_l2Stmt.Says k_) (ih_spec_l2List : ∀ k_,k_ < k → spec_l2List.Says k_) : spec_l2List.Says k:=by
 intro A0 c0 l0 a1 a2 r w hr0 hc0 h
 cases k with
 | zero=>exact absurd h (by simp [spec_l2List.f])
 | succ k =>
 simp only [spec_l2List.f] at h;have hu69:=Try.underlying69;have HR0:=O hr0;have HC0:=O hc0;clear hr0 hc0;have HB:=O (Below.refl w.heap.size w);have H : (spec_l2List.l0 k l0 a1 a2 0) = some r:=h;clear h;have H':=O H;clear H;go_enter Try.func50,Try.ntmps50
 go_wp2
 go_loopg [7] k (fun kq v7 w'=>∃ (x7_1 : Int),v7 = .int .i64 x7_1 ∧ Aside0 (spec_l2List.l0 kq l0 a1 a2 x7_1 = some r) ∧ Aside0 (kq ≤ k) ∧ Aside0 (Below w.heap.size w w'))
 case atStart=>exact ⟨(0),(by first | rfl | (simp;done) | (simp [*];done)),H',⟨Nat.le_refl _⟩,⟨by repeat (first | (with_reducible first | exact HB.out | apply U | apply Y | apply E) | exact HB.out)⟩⟩
 case round =>
  clear H';(try clear p2);obtain ⟨x7_1,rfl,HA,HK1,HB⟩:=hrel
  cases gk with
  | zero=>exact absurd HA.out (by simp [spec_l2List.l0])
  | succ k1 =>
   have H:=HA.out;clear HA;simp only [spec_l2List.l0] at H
   by_cases c4 : x7_1 < (l0.length : Int)
   ·rw [if_pos c4] at H;have c4b0 : decide (x7_1 < (l0.length : Int)) = true:=decide_eq_true c4;clear c4
    by_cases c5 : 0 ≤ x7_1
    ·rw [if_pos c5] at H;have c5b0 : decide (0 ≤ x7_1) = true:=decide_eq_true c5;clear c5;replace H:=Option.bind_eq_some_iff.mp H;obtain ⟨t189,A60,H⟩:=H;replace H : (if t189 = true then (spec_l2List.l0 k1 l0 a1 a2 (wrap64 (x7_1 + 1))) else (some false)) = some r:=H;have A6:=O A60;clear A60
     by_cases c7 : t189 = true
     ·subst c7
      have H1 : (spec_l2List.l0 k1 l0 a1 a2 (wrap64 (x7_1 + 1))) = some r:=by rw [if_pos rfl] at H;exact H
      clear H;have H:=H1;clear H1;have H':=O H;clear H
      have p188 : 0 ≤ (x7_1 : Int):=of_decide_eq_true (by first | (with_reducible assumption) | assumption)
      have q188 : x7_1 < (l0.length : Int):=of_decide_eq_true (by first | (with_reducible assumption) | assumption)
      obtain ⟨ad188,A188_4,c188_4,A188_5,c188_5,e188,hx188_0,hx188_1,hx188_2,hx188_3,hx188_4,hx188_5,hl188_4,hi188_4,hl188_5,hi188_5⟩:=at_T69 HR0.out x7_1 p188 q188
      cases e188
      replace hx188_0:=(HB.out.cell (Q w _ hx188_0)).trans hx188_0;replace hx188_1:=(HB.out.cell (Q w _ hx188_1)).trans hx188_1;replace hx188_2:=(HB.out.cell (Q w _ hx188_2)).trans hx188_2;replace hx188_3:=(HB.out.cell (Q w _ hx188_3)).trans hx188_3;replace hx188_4:=(HB.out.cell (Q w _ hx188_4)).trans hx188_4;replace hx188_5:=(HB.out.cell (Q w _ hx188_5)).trans hx188_5;have HR188_4:=O hi188_4;have HC188_4:=O hl188_4;clear hi188_4 hl188_4;have HR188_5:=O hi188_5;have HC188_5:=O hl188_5;clear hi188_5 hl188_5;replace p188:=eq_true p188;replace q188:=eq_true q188
      go_wp2_with (first | ((with_reducible refine gate_callee (f:=55) rfl ?_);refine goesM_ (some 20) Try.func55 #[.agg #[.int .i64 ((rd_T69 l0 x7_1).f0),.int .i64 ((rd_T69 l0 x7_1).f1),.int .i64 ((rd_T69 l0 x7_1).f2),.int .i64 ((rd_T69 l0 x7_1).f3),.slice A188_4 ((rd_T69 l0 x7_1).f4).length c188_4,.slice A188_5 ((rd_T69 l0 x7_1).f5).length c188_5],.int .i64 a1,.int .i64 a2] ?_;(with_reducible refine (ih_spec_l2Stmt k1 (by have:=HK1.out;omega) ((rd_T69 l0 x7_1).f0) ((rd_T69 l0 x7_1).f1) ((rd_T69 l0 x7_1).f2) ((rd_T69 l0 x7_1).f3) _ _ ((rd_T69 l0 x7_1).f4) _ _ ((rd_T69 l0 x7_1).f5) a1 a2 true _ ?side1 ?side2 ?side3 ?side4 A6.out).mono ?_);(case side1=>repeat (first | exact (Kd.C_below HR188_4.out HB.out) | (with_reducible refine Kd.C_alloc ?_ _) | (with_reducible refine Kd.C_drewN ?_ _) | (with_reducible refine Kd.C_drew ?_)));(case side2=>exact HC188_4.out);(case side3=>repeat (first | exact (Kd.C_below HR188_5.out HB.out) | (with_reducible refine Kd.C_alloc ?_ _) | (with_reducible refine Kd.C_drewN ?_ _) | (with_reducible refine Kd.C_drew ?_)));(case side4=>exact HC188_5.out);rintro e w8 ⟨rfl,hb⟩;refine ⟨_,rfl,?_⟩;have n0_:=O (below_step (q0_ HB) hb);clear HB;have HB:=n0_;clear n0_;(try clear hb)))
      go_roundg k1
      case measure=>have:=HK1.out;omega
      case rel=>exact ⟨(wrap64 (x7_1 + 1)),(by first | rfl | (simp;done) | (simp [*];done)),H',⟨by have:=HK1.out;omega⟩,⟨by repeat (first | (with_reducible first | exact HB.out | apply U | apply Y | apply E) | exact HB.out)⟩⟩
     ·replace c7:=Bool.eq_false_iff.mpr c7;subst c7
      have H1 : (some false) = some r:=by rw [if_neg (show ¬ (false = true) by decide)] at H;exact H
      clear H;have H:=H1;clear H1;obtain rfl:=X H
      have p188 : 0 ≤ (x7_1 : Int):=of_decide_eq_true (by first | (with_reducible assumption) | assumption)
      have q188 : x7_1 < (l0.length : Int):=of_decide_eq_true (by first | (with_reducible assumption) | assumption)
      obtain ⟨ad188,A188_4,c188_4,A188_5,c188_5,e188,hx188_0,hx188_1,hx188_2,hx188_3,hx188_4,hx188_5,hl188_4,hi188_4,hl188_5,hi188_5⟩:=at_T69 HR0.out x7_1 p188 q188
      cases e188
      replace hx188_0:=(HB.out.cell (Q w _ hx188_0)).trans hx188_0;replace hx188_1:=(HB.out.cell (Q w _ hx188_1)).trans hx188_1;replace hx188_2:=(HB.out.cell (Q w _ hx188_2)).trans hx188_2;replace hx188_3:=(HB.out.cell (Q w _ hx188_3)).trans hx188_3;replace hx188_4:=(HB.out.cell (Q w _ hx188_4)).trans hx188_4;replace hx188_5:=(HB.out.cell (Q w _ hx188_5)).trans hx188_5;have HR188_4:=O hi188_4;have HC188_4:=O hl188_4;clear hi188_4 hl188_4;have HR188_5:=O hi188_5;have HC188_5:=O hl188_5;clear hi188_5 hl188_5;replace p188:=eq_true p188;replace q188:=eq_true q188
      go_wp2_with (first | ((with_reducible refine gate_callee (f:=55) rfl ?_);refine goesM_ (some 20) Try.func55 #[.agg #[.int .i64 ((rd_T69 l0 x7_1).f0),.int .i64 ((rd_T69 l0 x7_1).f1),.int .i64 ((rd_T69 l0 x7_1).f2),.int .i64 ((rd_T69 l0 x7_1).f3),.slice A188_4 ((rd_T69 l0 x7_1).f4).length c188_4,.slice A188_5 ((rd_T69 l0 x7_1).f5).length c188_5],.int .i64 a1,.int .i64 a2] ?_;(with_reducible refine (ih_spec_l2Stmt k1 (by have:=HK1.out;omega) ((rd_T69 l0 x7_1).f0) ((rd_T69 l0 x7_1).f1) ((rd_T69 l0 x7_1).f2) ((rd_T69 l0 x7_1).f3) _ _ ((rd_T69 l0 x7_1).f4) _ _ ((rd_T69 l0 x7_1).f5) a1 a2 false _ ?side1 ?side2 ?side3 ?side4 A6.out).mono ?_);(case side1=>repeat (first | exact (Kd.C_below HR188_4.out HB.out) | (with_reducible refine Kd.C_alloc ?_ _) | (with_reducible refine Kd.C_drewN ?_ _) | (with_reducible refine Kd.C_drew ?_)));(case side2=>exact HC188_4.out);(case side3=>repeat (first | exact (Kd.C_below HR188_5.out HB.out) | (with_reducible refine Kd.C_alloc ?_ _) | (with_reducible refine Kd.C_drewN ?_ _) | (with_reducible refine Kd.C_drew ?_)));(case side4=>exact HC188_5.out);rintro e w9 ⟨rfl,hb⟩;refine ⟨_,rfl,?_⟩;have n0_:=O (below_step (q0_ HB) hb);clear HB;have HB:=n0_;clear n0_;(try clear hb)))
      go_ret
      exact ⟨by first | rfl | (simp [V,W] <;> rfl) | (simp [*,V,W] <;> rfl),by repeat (first | (with_reducible first | exact HB.out | apply U | apply Y | apply E) | exact HB.out)⟩
    ·rw [if_neg c5] at H
     exact absurd H (by simp)
   ·rw [if_neg c4] at H;have c4b0 : decide (x7_1 < (l0.length : Int)) = false:=decide_eq_false c4;clear c4;obtain rfl:=X H
    go_wp2
    go_ret
    exact ⟨by first | rfl | (simp [V,W] <;> rfl) | (simp [*,V,W] <;> rfl),by repeat (first | (with_reducible first | exact HB.out | apply U | apply Y | apply E) | exact HB.out)⟩
theorem spec_l2Stmt.grp.calls_all (k : Nat) : spec_l2Stmt.Says k ∧ spec_l2List.Says k:=by
 induction k using Nat.strongRecOn with
 | _ k ih=>exact ⟨spec_l2Stmt.calls_ k (fun j h=>(ih j h).1) (fun j h=>(ih j h).2),spec_l2List.calls_ k (fun j h=>(ih j h).1) (fun j h=>(ih j h).2)⟩
theorem spec_l2List.calls (k : Nat) : spec_l2List.Says k:=(spec_l2Stmt.grp.calls_all k).2
end Go.Proofs.Ytfbocgagfodgnaa.P

namespace Go.Proofs.Ytfbocgagfodgnaa.P
open Go.RowKit Go.Proofs.YtfbocgagfodgnaaW.PrintWords Go.Proofs.YtfbocgagfodgnaaW.PrintLast Go.Proofs.YtfbocgagfodgnaaW.PrintMore
open Go.Proofs.YtfbocgagfodgnaaW.PrintWords renaming Aside0.mk → O
attribute [local go_sem] max2_int min2_int max_two min_two max_three min_three max_four min_four
set_option linter.unusedVariables false
set_option linter.unusedSimpArgs false
def impl_SaidBy.l0 : Nat → Int → List Int → List (S38) → Int → Int → Option (List Int)
 | 0,_,_,_,_,_=>none
 | k + 1,x1,x5,x8,x9,x10=>if x10 < x9 then (if 0 ≤ x10 then (if x10 < (x8.length : Int) then (if ((rd_T38 x8 x10).f0) = x1 then (if x5.length < 17592186044416 then (impl_SaidBy.l0 k x1 (x5 ++ [(rd_T38 x8 x10).f1]) x8 x9 (wrap64 (x10 + 1))) else (none)) else (impl_SaidBy.l0 k x1 x5 x8 x9 (wrap64 (x10 + 1)))) else (none)) else (none)) else (some x5)
def impl_SaidBy.f (k : Nat) (l0 : List (S38)) (a1 : Int) : Option (List Int):=impl_SaidBy.l0 k a1 ([] : List Int) l0 (l0.length : Int) 0
set_option maxHeartbeats 8000000 in
set_option maxRecDepth 100000 in
theorem impl_SaidBy.calls (k : Nat) (A0 : Option Addr) (c0 : Nat) (l0 : List (S38)) (a1 : Int) (r : List Int) (w : World) (hr0 : Kd.C k38 w A0 l0.length l0) (hc0 : l0.length ≤ c0) (h : impl_SaidBy.f k l0 a1 = some r) :
  Calls Try.prog 6 #[.slice A0 l0.length c0,.int .i64 a1] w fun e w'=>∃ v0_ : Value,e = .returned (v0_) ∧ Kd.R (Kd.int .i64) 3 w' w.heap.size (fun _=>True) v0_ r ∧ Below w.heap.size w w':=by
 have hu38:=Try.underlying38;have HR0:=O hr0;have HC0:=O hc0;clear hr0 hc0;have HB:=O (Below.refl w.heap.size w);have H : (impl_SaidBy.l0 k a1 ([] : List Int) l0 (l0.length : Int) 0) = some r:=h;clear h;have H':=O H;clear H;go_enter Try.func6,Try.ntmps6
 go_wp2
 go_loopg [5,10] k (fun kq v5 v10 w'=>∃ (x5_1 : List Int) (x10_1 : Int),v10 = .int .i64 x10_1 ∧ Aside0 (impl_SaidBy.l0 kq a1 x5_1 l0 (l0.length : Int) x10_1 = some r) ∧ Aside0 (kq ≤ k) ∧ Aside0 (Kd.R (Kd.int .i64) 3 w' w.heap.size (fun _=>True) v5 x5_1) ∧ Aside0 (Below w.heap.size w w'))
 case atStart=>exact ⟨(([] : List Int)),(0),(by first | rfl | (simp;done) | (simp [*];done)),H',⟨Nat.le_refl _⟩,⟨by first | exact Kd.R_nil _ _ _ _ _ | exact Kd.N_nil _ _ _ _ _ | exact Kd.V_nil _ _ _ _ _ | exact Kd.Q_nil _ _ _ _ _ | exact Kd.S_nil _ _ _ _ _⟩,⟨by repeat (first | (with_reducible first | exact HB.out | apply below_alloc | apply pw_below_drewN | apply below_drew1) | exact HB.out)⟩⟩
 case round =>
  clear H';(try clear p2);obtain ⟨x5_1,x10_1,rfl,HA,HK1,HO_5,HB⟩:=hrel
  cases gk with
  | zero=>exact absurd HA.out (by simp [impl_SaidBy.l0])
  | succ k1 =>
   have H:=HA.out;clear HA;simp only [impl_SaidBy.l0] at H
   by_cases c3 : x10_1 < (l0.length : Int)
   ·rw [if_pos c3] at H;have c3b0 : decide (x10_1 < (l0.length : Int)) = true:=decide_eq_true c3;clear c3
    by_cases c4 : 0 ≤ x10_1
    ·rw [if_pos c4] at H;have c4b0 : decide (0 ≤ x10_1) = true:=decide_eq_true c4;clear c4
     by_cases c5 : x10_1 < (l0.length : Int)
     ·rw [if_pos c5] at H;have c5b0 : decide (x10_1 < (l0.length : Int)) = true:=decide_eq_true c5;clear c5
      by_cases c6 : ((rd_T38 l0 x10_1).f0) = a1
      ·rw [if_pos c6] at H;have c6b0 : (((rd_T38 l0 x10_1).f0) == a1) = true:=beq_iff_eq.mpr c6;have c6b1 : (((rd_T38 l0 x10_1).f0) != a1) = false:=bne_eq_false_iff_eq.mpr c6;clear c6
       by_cases c7 : x5_1.length < 17592186044416
       ·rw [if_pos c7] at H;have LMc7:=O c7;clear c7;obtain ⟨y448,hy448⟩ : ∃ y_ : List Int,y_ = (x5_1 ++ [(rd_T38 l0 x10_1).f1]):=⟨_,rfl⟩
        replace H : (impl_SaidBy.l0 k1 a1 y448 l0 (l0.length : Int) (wrap64 (x10_1 + 1))) = some r:=by first | (rw [hy448];with_reducible exact H) | (have H2_:=(Option.bind_some _ _).symm.trans H;rw [hy448];with_reducible exact H2_) | (have H2_:=(Option.bind_some _ _).symm.trans H;with_reducible exact H2_) | with_reducible exact H | (rw [hy448];exact H) | exact H
        have Ny448:=O hy448;clear hy448;have H':=O H;clear H
        have p446 : 0 ≤ (x10_1 : Int):=of_decide_eq_true (by first | (with_reducible assumption) | assumption)
        have q446 : x10_1 < (l0.length : Int):=of_decide_eq_true (by first | (with_reducible assumption) | assumption)
        obtain ⟨ad446,e446,hx446_0,hx446_1⟩:=at_T38 HR0.out x10_1 p446 q446
        cases e446
        replace hx446_0:=(HB.out.cell (World.block_lt_of_cell? w _ hx446_0)).trans hx446_0;replace hx446_1:=(HB.out.cell (World.block_lt_of_cell? w _ hx446_1)).trans hx446_1;replace p446:=eq_true p446;replace q446:=eq_true q446
        go_wp2_with (first | ((with_reducible refine gate_dst (N:=7) rfl ?_);refine box_event ?hg (N:=7) ?hd (cs:=#[.int .i64 0,.int .i64 0]) (t:=38) ?hr ?_;(case hd=>rfl);(case hg=>rfl);(case hr=>first | (go_simp;done) | (go_simp;rfl));intro gb447 hg w8 hbox hb;have n0_:=O (Kd.R_below (q8_ HO_5) hb);have n1_:=O (below_step (q0_ HB) hb);have n2_:=O (hbox);have n3_:=O ((by rw [hg];exact (below_size (q0_ HB)) : w.heap.size ≤ gb447));have n4_:=O ((by rw [hg];exact (below_size (q0_ HB)) : w.heap.size ≤ gb447));clear HO_5 HB;have HO_5:=n0_;have HB:=n1_;have BK447:=n2_;have GW447:=n3_;have GE447:=n4_;clear n0_ n1_ n2_ n3_ n4_ hb hbox hg;obtain ⟨hcz9_0,hcz9_1,hfz9_0,hfz9_1⟩:=bz2_ BK447) | ((with_reducible refine gate_builtin (b:=.append) (xs:=#[.tmp 18,.tmp 21]) rfl ?_);at_builtin;refine Kd.R_append (Kd.int .i64) (w0:=w) w.heap.size rfl (.tmp 18) (.tmp 21) 26 3 (.int .i64 0) 8 rfl Try.underlying26 info3 rfl (by decide) (by omega) u5 x5_1 ((rd_T38 l0 x10_1).f1) [.int .i64 ((rd_T38 l0 x10_1).f1)] (fun _=>True) (fun _=>False) rfl (by first | (go_simp;done) | (go_simp;rfl)) ?aP (fun _ hk=>hk.elim) ?aF ?aO ?aB ?aS ?aL ?_;(case aP=>exact rfl);(case aB=>exact q10_ HB GE447);(case aF=>exact (fun _ _=>trivial));(case aO=>exact (by (with_reducible repeat (first | apply Kd.R_alloc | apply Kd.R_drewN | apply Kd.R_drew));exact Kd.R_mono (Kd.R_far (p:=⟨gb447,1,none⟩) (Kd.R_far (p:=⟨gb447,0,none⟩) (Kd.R_types HO_5.out BK447.out (by decide)) (fun _ hk=>hk.2) (.int .i64 ((rd_T38 l0 x10_1).f0))) (fun _ hk=>hk.2) (.int .i64 ((rd_T38 l0 x10_1).f1))) (fun _ hk=>trivial)));(case aS=>exact (below_size (q10_ HB GE447)));(case aL=>have:=LMc7.out;omega);intro v449 w10 ho hb hg hat;rw [← Ny448.out] at ho;have n0_:=O (blk_grown (g:=gb447) (o:=.cells #[.int .i64 ((rd_T38 l0 x10_1).f0),.int .i64 ((rd_T38 l0 x10_1).f1)] 38 (0,0)) (by (with_reducible repeat (first | refine blk_drewN ?_ _ | refine blk_drew ?_ | refine blk_alloc ?_ _));apply bp2_1_;(with_reducible repeat (first | refine blk_drewN ?_ _ | refine blk_drew ?_ | refine blk_alloc ?_ _));apply bp2_0_;(with_reducible repeat (first | refine blk_drewN ?_ _ | refine blk_drew ?_ | refine blk_alloc ?_ _));exact BK447.out) hg (Kd.R_ne HO_5.out BK447.out (by decide)));have n1_:=O (hb);have n2_:=O (ho);clear BK447 HB HO_5;have BK447:=n0_;have HB:=n1_;have HO450:=n2_;clear n0_ n1_ n2_ ho hb hg hat))
        go_roundg k1
        case measure=>have:=HK1.out;omega
        case rel=>exact ⟨(y448),(wrap64 (x10_1 + 1)),(by first | rfl | (simp;done) | (simp [*];done)),H',⟨by have:=HK1.out;omega⟩,⟨by (with_reducible repeat (first | apply Kd.R_alloc | apply Kd.R_drewN | apply Kd.R_drew));exact HO450.out⟩,⟨by repeat (first | (with_reducible first | exact HB.out | apply below_alloc | apply pw_below_drewN | apply below_drew1 | refine below_set ?_ GE447.out) | exact HB.out)⟩⟩
       ·rw [if_neg c7] at H
        exact absurd H (by simp)
      ·rw [if_neg c6] at H;have c6b0 : (((rd_T38 l0 x10_1).f0) == a1) = false:=beq_eq_false_iff_ne.mpr c6;have c6b1 : (((rd_T38 l0 x10_1).f0) != a1) = true:=bne_iff_ne.mpr c6;have H':=O H;clear H
       have p446 : 0 ≤ (x10_1 : Int):=of_decide_eq_true (by first | (with_reducible assumption) | assumption)
       have q446 : x10_1 < (l0.length : Int):=of_decide_eq_true (by first | (with_reducible assumption) | assumption)
       obtain ⟨ad446,e446,hx446_0,hx446_1⟩:=at_T38 HR0.out x10_1 p446 q446
       cases e446
       replace hx446_0:=(HB.out.cell (World.block_lt_of_cell? w _ hx446_0)).trans hx446_0;replace hx446_1:=(HB.out.cell (World.block_lt_of_cell? w _ hx446_1)).trans hx446_1;replace p446:=eq_true p446;replace q446:=eq_true q446
       go_wp2_with (first | ((with_reducible refine gate_dst (N:=7) rfl ?_);refine box_event ?hg (N:=7) ?hd (cs:=#[.int .i64 0,.int .i64 0]) (t:=38) ?hr ?_;(case hd=>rfl);(case hg=>rfl);(case hr=>first | (go_simp;done) | (go_simp;rfl));intro gb447 hg w11 hbox hb;have n0_:=O (Kd.R_below (q8_ HO_5) hb);have n1_:=O (below_step (q0_ HB) hb);have n2_:=O (hbox);have n3_:=O ((by rw [hg];exact (below_size (q0_ HB)) : w.heap.size ≤ gb447));have n4_:=O ((by rw [hg];exact (below_size (q0_ HB)) : w.heap.size ≤ gb447));clear HO_5 HB;have HO_5:=n0_;have HB:=n1_;have BK447:=n2_;have GW447:=n3_;have GE447:=n4_;clear n0_ n1_ n2_ n3_ n4_ hb hbox hg;obtain ⟨hcz12_0,hcz12_1,hfz12_0,hfz12_1⟩:=bz2_ BK447))
       go_roundg k1
       case measure=>have:=HK1.out;omega
       case rel=>exact ⟨(x5_1),(wrap64 (x10_1 + 1)),(by first | rfl | (simp;done) | (simp [*];done)),H',⟨by have:=HK1.out;omega⟩,⟨by (with_reducible repeat (first | apply Kd.R_alloc | apply Kd.R_drewN | apply Kd.R_drew));exact Kd.R_mono (Kd.R_far (p:=⟨gb447,1,none⟩) (Kd.R_far (p:=⟨gb447,0,none⟩) (Kd.R_types HO_5.out BK447.out (by decide)) (fun _ hk=>hk.2) (.int .i64 ((rd_T38 l0 x10_1).f0))) (fun _ hk=>hk.2) (.int .i64 ((rd_T38 l0 x10_1).f1))) (fun _ hk=>trivial)⟩,⟨by repeat (first | (with_reducible first | exact HB.out | apply below_alloc | apply pw_below_drewN | apply below_drew1 | refine below_set ?_ GE447.out) | exact HB.out)⟩⟩
     ·rw [if_neg c5] at H
      exact absurd H (by simp)
    ·rw [if_neg c4] at H
     exact absurd H (by simp)
   ·rw [if_neg c3] at H;have c3b0 : decide (x10_1 < (l0.length : Int)) = false:=decide_eq_false c3;clear c3;obtain rfl:=Option.some.inj H
    go_wp2
    go_ret
    exact ⟨_,by first | rfl | (simp [errW_none,errW_some] <;> rfl) | (simp [*,errW_none,errW_some] <;> rfl),by (with_reducible repeat (first | apply Kd.R_alloc | apply Kd.R_drewN | apply Kd.R_drew));exact HO_5.out,by repeat (first | (with_reducible first | exact HB.out | apply below_alloc | apply pw_below_drewN | apply below_drew1) | exact HB.out)⟩
end Go.Proofs.Ytfbocgagfodgnaa.P
