/- Parts of the proof of FnMeanSaid: plain Lean functions of Go functions, and that the calls come to what they say; no condition beyond those that each theorem names. -/
import Derived.Test.YtfbocgagfodgnaaZFnMeanSaid4
namespace Go.Proofs.Ytfbocgagfodgnaa.P
open Go.RowKit Go.Proofs.YtfbocgagfodgnaaW.PrintWords Go.Proofs.YtfbocgagfodgnaaW.PrintLast Go.Proofs.YtfbocgagfodgnaaW.PrintMore
open Go.Proofs.YtfbocgagfodgnaaW.PrintWords renaming Aside0.mk → O, blk_frozen → Z, blk_cell → J, pw_below_drewN → Y, below_set → E
open Option renaming some.inj → U
open Go renaming World.block_lt_of_cell? → G
attribute [local go_sem] max2_int min2_int max_two min_two max_three min_three max_four min_four
set_option linter.unusedVariables false
set_option linter.unusedSimpArgs false
mutual
def spec_l3Code.j0 : Nat → Int → Bool → List (S51) → List Int → List Int → List (List Int) → List (S38) → Option (Int)
 | 0,_,_,_,_,_,_,_=>none
 | k + 1,x1,x14,x240000,x240001,x240002,x240003,x240004=>if x14 = true then (some 3) else (if 0 ≤ x1 then (if x1 < (x240000.length : Int) then (if ((rd_T51 x240000 x1).f2) = 1 then (spec_l3Code.j1 k true x240000 x240001 x240002 x240003 x240004 ((rd_T51 x240000 x1).f0) ((rd_T51 x240000 x1).f1) ((rd_T51 x240000 x1).f2) ((rd_T51 x240000 x1).f3) ((rd_T51 x240000 x1).f4)) else (if ((rd_T51 x240000 x1).f2) = 2 then (if 0 ≤ ((rd_T51 x240000 x1).f4) then (if ((rd_T51 x240000 x1).f4) < (x240002.length : Int) then (spec_l3Code.j1 k (decide ((rd x240002 ((rd_T51 x240000 x1).f4)) > 0)) x240000 x240001 x240002 x240003 x240004 ((rd_T51 x240000 x1).f0) ((rd_T51 x240000 x1).f1) ((rd_T51 x240000 x1).f2) ((rd_T51 x240000 x1).f3) ((rd_T51 x240000 x1).f4)) else (none)) else (none)) else (spec_l3Code.j1 k false x240000 x240001 x240002 x240003 x240004 ((rd_T51 x240000 x1).f0) ((rd_T51 x240000 x1).f1) ((rd_T51 x240000 x1).f2) ((rd_T51 x240000 x1).f3) ((rd_T51 x240000 x1).f4)))) else (none)) else (none))
def spec_l3Code.j1 : Nat → Bool → List (S51) → List Int → List Int → List (List Int) → List (S38) → List Int → List (S69) → Int → Int → Int → Option (Int)
 | 0,_,_,_,_,_,_,_,_,_,_,_=>none
 | k + 1,x20,x240000,x240001,x240002,x240003,x240004,x242000,x242001,x242002,x242003,x242004=>if x20 = true then (some 2) else (if x242002 = 2 then (some 0) else (if (x242001.length : Int) = 0 then (some 1) else (if 0 < (x242001.length : Int) then (if ((rd_T69 x242001 0).f0) = 8 then (if 0 ≤ ((rd_T69 x242001 0).f1) then (if ((rd_T69 x242001 0).f1) < (x240002.length : Int) then (if (rd x240002 ((rd_T69 x242001 0).f1)) > 0 then (some 2) else (some 0)) else (none)) else (none)) else (some 0)) else (none))))
end
def spec_l3Code.f (k : Nat) (l0_0 : List (S51)) (l0_1 : List Int) (l0_2 : List Int) (l0_3 : List (List Int)) (l0_4 : List (S38)) (a1 : Int) : Option (Int):=if a1 < 0 then (spec_l3Code.j0 k a1 true l0_0 l0_1 l0_2 l0_3 l0_4) else (spec_l3Code.j0 k a1 (decide (a1 ≥ (l0_0.length : Int))) l0_0 l0_1 l0_2 l0_3 l0_4)
theorem spec_l3Code.mono_l : ∀ k,(∀ y0 y1 y2 y3 y4 y5 y6,LeO (spec_l3Code.j0 k y0 y1 y2 y3 y4 y5 y6) (spec_l3Code.j0 (k + 1) y0 y1 y2 y3 y4 y5 y6)) ∧ (∀ y0 y1 y2 y3 y4 y5 y6 y7 y8 y9 y10,LeO (spec_l3Code.j1 k y0 y1 y2 y3 y4 y5 y6 y7 y8 y9 y10) (spec_l3Code.j1 (k + 1) y0 y1 y2 y3 y4 y5 y6 y7 y8 y9 y10))
 | 0=>⟨fun _ _ _ _ _ _ _ r h=>by simp [spec_l3Code.j0] at h,fun _ _ _ _ _ _ _ _ _ _ _ r h=>by simp [spec_l3Code.j1] at h⟩
 | k + 1=>by
  obtain ⟨ih0,ih1⟩:=spec_l3Code.mono_l k
  refine ⟨?_,?_⟩
  ·intro y0 y1 y2 y3 y4 y5 y6
   unfold spec_l3Code.j0
   repeat' first
   | (with_reducible exact ih0 _ _ _ _ _ _ _)
   | (with_reducible exact ih1 _ _ _ _ _ _ _ _ _ _ _)
   | (with_reducible exact LeO.refl _)
   | (with_reducible exact LeO.none _)
   | (with_reducible refine LeO.ite ?_ ?_)
   | (with_reducible refine LeO.bind ?_ (fun _=>?_))
   | exact ih0 _ _ _ _ _ _ _
   | exact ih1 _ _ _ _ _ _ _ _ _ _ _
   | exact LeO.none _
   | refine LeO.ite ?_ ?_
   | refine LeO.bind ?_ (fun _=>?_)
  ·intro y0 y1 y2 y3 y4 y5 y6 y7 y8 y9 y10
   unfold spec_l3Code.j1
   repeat' first
   | (with_reducible exact ih0 _ _ _ _ _ _ _)
   | (with_reducible exact ih1 _ _ _ _ _ _ _ _ _ _ _)
   | (with_reducible exact LeO.refl _)
   | (with_reducible exact LeO.none _)
   | (with_reducible refine LeO.ite ?_ ?_)
   | (with_reducible refine LeO.bind ?_ (fun _=>?_))
   | exact ih0 _ _ _ _ _ _ _
   | exact ih1 _ _ _ _ _ _ _ _ _ _ _
   | exact LeO.none _
   | refine LeO.ite ?_ ?_
   | refine LeO.bind ?_ (fun _=>?_)
theorem spec_l3Code.mono : ∀ a0 a1 a2 a3 a4 a5 k,LeO (spec_l3Code.f k a0 a1 a2 a3 a4 a5) (spec_l3Code.f (k + 1) a0 a1 a2 a3 a4 a5):=by
 intro a0 a1 a2 a3 a4 a5 k
 obtain ⟨ih0,ih1⟩:=spec_l3Code.mono_l k;unfold spec_l3Code.f
 repeat' first
   | (with_reducible exact ih0 _ _ _ _ _ _ _)
   | (with_reducible exact ih1 _ _ _ _ _ _ _ _ _ _ _)
   | (with_reducible exact LeO.refl _)
   | (with_reducible exact LeO.none _)
   | (with_reducible refine LeO.ite ?_ ?_)
   | (with_reducible refine LeO.bind ?_ (fun _=>?_))
   | exact ih0 _ _ _ _ _ _ _
   | exact ih1 _ _ _ _ _ _ _ _ _ _ _
   | exact LeO.none _
   | refine LeO.ite ?_ ?_
   | refine LeO.bind ?_ (fun _=>?_)
set_option maxHeartbeats 8000000 in
set_option maxRecDepth 100000 in
theorem spec_l3Code.calls (k : Nat) (A0_0 : Option Addr) (c0_0 : Nat) (l0_0 : List (S51)) (A0_1 : Option Addr) (c0_1 : Nat) (l0_1 : List Int) (A0_2 : Option Addr) (c0_2 : Nat) (l0_2 : List Int) (A0_3 : Option Addr) (c0_3 : Nat) (l0_3 : List (List Int)) (A0_4 : Option Addr) (c0_4 : Nat) (l0_4 : List (S38)) (a1 : Int) (r : Int) (w : World) (hr0_0 : Kd.C k51 w A0_0 l0_0.length l0_0) (hc0_0 : l0_0.length ≤ c0_0) (hr0_1 : Kd.C (Kd.int .i64) w A0_1 l0_1.length l0_1) (hc0_1 : l0_1.length ≤ c0_1) (hr0_2 : Kd.C (Kd.int .i64) w A0_2 l0_2.length l0_2) (hc0_2 : l0_2.length ≤ c0_2) (hr0_3 : Kd.C (Kd.slice 3 (Kd.int .i64)) w A0_3 l0_3.length l0_3) (hc0_3 : l0_3.length ≤ c0_3) (hr0_4 : Kd.C k38 w A0_4 l0_4.length l0_4) (hc0_4 : l0_4.length ≤ c0_4) (h : spec_l3Code.f k l0_0 l0_1 l0_2 l0_3 l0_4 a1 = some r) :
  Calls Try.prog 30 #[.agg #[.slice A0_0 l0_0.length c0_0,.slice A0_1 l0_1.length c0_1,.slice A0_2 l0_2.length c0_2,.slice A0_3 l0_3.length c0_3,.slice A0_4 l0_4.length c0_4],.int .i64 a1] w fun e w'=>e = .returned (.int .i64 r) ∧ Below w.heap.size w w':=by
 have hu33:=Try.underlying33;have hu51:=Try.underlying51;have HR0_0:=O hr0_0;have HC0_0:=O hc0_0;clear hr0_0 hc0_0;have HR0_1:=O hr0_1;have HC0_1:=O hc0_1;clear hr0_1 hc0_1;have HR0_2:=O hr0_2;have HC0_2:=O hc0_2;clear hr0_2 hc0_2;have HR0_3:=O hr0_3;have HC0_3:=O hc0_3;clear hr0_3 hc0_3;have HR0_4:=O hr0_4;have HC0_4:=O hc0_4;clear hr0_4 hc0_4;have HB:=O (Below.refl w.heap.size w);have H : (if a1 < 0 then (spec_l3Code.j0 k a1 true l0_0 l0_1 l0_2 l0_3 l0_4) else (spec_l3Code.j0 k a1 (decide (a1 ≥ (l0_0.length : Int))) l0_0 l0_1 l0_2 l0_3 l0_4)) = some r:=h;clear h;have HC3:=O H;clear H;go_enter Try.func30,Try.ntmps30
 go_upto_region 1 with (first | ((with_reducible refine gate_dst (N:=2) rfl ?_);(try (refine gate_guard (by rfl) ?_;dsimp only));refine box_event ?hg (N:=2) ?hd (cs:=#[.slice A0_0 l0_0.length c0_0,.slice A0_1 l0_1.length c0_1,.slice A0_2 l0_2.length c0_2,.slice A0_3 l0_3.length c0_3,.slice A0_4 l0_4.length c0_4]) (t:=33) ?hr ?_;(case hd=>rfl);(case hg=>rfl);(case hr=>first | (go_simp;done) | (go_simp;rfl));intro gb239 hg w4 hbox hb;have n0_:=O (below_step (q0_ HB) hb);have n1_:=O (hbox);have n2_:=O ((by rw [hg];exact (below_size (q0_ HB)) : w.heap.size ≤ gb239));have n3_:=O ((by rw [hg];exact (below_size (q0_ HB)) : w.heap.size ≤ gb239));clear HB;have HB:=n0_;have BK239:=n1_;have GW239:=n2_;have GE239:=n3_;clear n0_ n1_ n2_ n3_ hb hbox hg))
 repeat (go_quiet (first | ((with_reducible refine gate_dst (N:=2) rfl ?_);(try (refine gate_guard (by rfl) ?_;dsimp only));refine box_event ?hg (N:=2) ?hd (cs:=#[.slice A0_0 l0_0.length c0_0,.slice A0_1 l0_1.length c0_1,.slice A0_2 l0_2.length c0_2,.slice A0_3 l0_3.length c0_3,.slice A0_4 l0_4.length c0_4]) (t:=33) ?hr ?_;(case hd=>rfl);(case hg=>rfl);(case hr=>first | (go_simp;done) | (go_simp;rfl));intro gb239 hg w4 hbox hb;have n0_:=O (below_step (q0_ HB) hb);have n1_:=O (hbox);have n2_:=O ((by rw [hg];exact (below_size (q0_ HB)) : w.heap.size ≤ gb239));have n3_:=O ((by rw [hg];exact (below_size (q0_ HB)) : w.heap.size ≤ gb239));clear HB;have HB:=n0_;have BK239:=n1_;have GW239:=n2_;have GE239:=n3_;clear n0_ n1_ n2_ n3_ hb hbox hg));go_upto_region 1 with (first | ((with_reducible refine gate_dst (N:=2) rfl ?_);(try (refine gate_guard (by rfl) ?_;dsimp only));refine box_event ?hg (N:=2) ?hd (cs:=#[.slice A0_0 l0_0.length c0_0,.slice A0_1 l0_1.length c0_1,.slice A0_2 l0_2.length c0_2,.slice A0_3 l0_3.length c0_3,.slice A0_4 l0_4.length c0_4]) (t:=33) ?hr ?_;(case hd=>rfl);(case hg=>rfl);(case hr=>first | (go_simp;done) | (go_simp;rfl));intro gb239 hg w4 hbox hb;have n0_:=O (below_step (q0_ HB) hb);have n1_:=O (hbox);have n2_:=O ((by rw [hg];exact (below_size (q0_ HB)) : w.heap.size ≤ gb239));have n3_:=O ((by rw [hg];exact (below_size (q0_ HB)) : w.heap.size ≤ gb239));clear HB;have HB:=n0_;have BK239:=n1_;have GW239:=n2_;have GE239:=n3_;clear n0_ n1_ n2_ n3_ hb hbox hg)))
 (try simp only [Act.put,List.setIfInBounds_toArray,List.set_cons_zero,List.set_cons_succ])
 go_cut [14] (fun v14 wc=>∃ (kq : Nat) (x14_2 : Bool),v14 = .bool x14_2 ∧ Aside0 (spec_l3Code.j0 kq a1 x14_2 l0_0 l0_1 l0_2 l0_3 l0_4 = some r) ∧ Aside0 (kq ≤ k) ∧ Aside0 (wc.heap[gb239]? = some (.cells #[(.slice A0_0 l0_0.length c0_0),(.slice A0_1 l0_1.length c0_1),(.slice A0_2 l0_2.length c0_2),(.slice A0_3 l0_3.length c0_3),(.slice A0_4 l0_4.length c0_4)] 33 (0,0))) ∧ Aside0 (Below w.heap.size w wc))
 case first =>
  have H:=HC3.out;clear HC3
  by_cases c5 : a1 < 0
  ·rw [if_pos c5] at H;have c5b0 : decide (a1 < 0) = true:=decide_eq_true c5;clear c5
   (first | rw [c5b0] | (simp only [i64_w,i32_w];rw [c5b0]) | skip)
   have H':=O H;clear H
   go_wp2
   repeat (go_quiet (fail);try go_wp2)
   go_meet
   case rel=>exact ⟨_,(true),(by first | rfl | (simp;done) | (simp [*];done)),H',⟨by first | omega | exact Nat.le_refl _⟩,⟨by (with_reducible repeat (first | refine blk_drewN ?_ _ | refine blk_drew ?_ | refine blk_alloc ?_ _));exact BK239.out⟩,⟨by repeat (first | (with_reducible first | exact HB.out | apply below_alloc | apply Y | apply below_drew1 | refine E ?_ GE239.out) | exact HB.out)⟩⟩
  ·rw [if_neg c5] at H;have c5b0 : decide (a1 < 0) = false:=decide_eq_false c5;clear c5
   (first | rw [c5b0] | (simp only [i64_w,i32_w];rw [c5b0]) | skip)
   have H':=O H;clear H;have hcz6_0 : w4.cell? ⟨gb239,0,none⟩ = some (.slice A0_0 l0_0.length c0_0):=(J BK239.out 0).trans rfl;have hcz6_1 : w4.cell? ⟨gb239,1,none⟩ = some (.slice A0_1 l0_1.length c0_1):=(J BK239.out 1).trans rfl;have hcz6_2 : w4.cell? ⟨gb239,2,none⟩ = some (.slice A0_2 l0_2.length c0_2):=(J BK239.out 2).trans rfl;have hcz6_3 : w4.cell? ⟨gb239,3,none⟩ = some (.slice A0_3 l0_3.length c0_3):=(J BK239.out 3).trans rfl;have hcz6_4 : w4.cell? ⟨gb239,4,none⟩ = some (.slice A0_4 l0_4.length c0_4):=(J BK239.out 4).trans rfl;have hfz6_0:=Z BK239.out 0;have hfz6_1:=Z BK239.out 1;have hfz6_2:=Z BK239.out 2;have hfz6_3:=Z BK239.out 3;have hfz6_4:=Z BK239.out 4
   go_wp2
   repeat (go_quiet (fail);try go_wp2)
   go_meet
   case rel=>exact ⟨_,(decide (a1 ≥ (l0_0.length : Int))),(by first | rfl | (simp;done) | (simp [*];done)),H',⟨by first | omega | exact Nat.le_refl _⟩,⟨by (with_reducible repeat (first | refine blk_drewN ?_ _ | refine blk_drew ?_ | refine blk_alloc ?_ _));exact BK239.out⟩,⟨by repeat (first | (with_reducible first | exact HB.out | apply below_alloc | apply Y | apply below_drew1 | refine E ?_ GE239.out) | exact HB.out)⟩⟩
 case rest =>
  clear HC3;(try clear p2);(try clear c3);(try clear c5);(try clear c5b0);(try clear hcz6_0);(try clear hcz6_1);(try clear hcz6_2);(try clear hcz6_3);(try clear hcz6_4);(try clear hfz6_0);(try clear hfz6_1);(try clear hfz6_2);(try clear hfz6_3);(try clear hfz6_4);obtain ⟨kq,x14_2,rfl,HA,HJ2,BK239,HB⟩:=hcut
  cases kq with
  | zero=>exact absurd HA.out (by simp [spec_l3Code.j0])
  | succ kj2 =>
   have H:=HA.out;clear HA;simp only [spec_l3Code.j0] at H
   by_cases c7 : x14_2 = true
   ·subst c7
    have H1 : (some 3) = some r:=by rw [if_pos rfl] at H;exact H
    clear H;have H:=H1;clear H1;obtain rfl:=U H
    go_wp2
    repeat (go_quiet (fail);try go_wp2)
    go_ret
    exact ⟨by first | rfl | (simp [errW_none,errW_some] <;> rfl) | (simp [*,errW_none,errW_some] <;> rfl),by repeat (first | (with_reducible first | exact HB.out | apply below_alloc | apply Y | apply below_drew1 | refine E ?_ GE239.out) | exact HB.out)⟩
   ·replace c7:=Bool.eq_false_iff.mpr c7;subst c7
    have H1 : (if 0 ≤ a1 then (if a1 < (l0_0.length : Int) then (if ((rd_T51 l0_0 a1).f2) = 1 then (spec_l3Code.j1 kj2 true l0_0 l0_1 l0_2 l0_3 l0_4 ((rd_T51 l0_0 a1).f0) ((rd_T51 l0_0 a1).f1) ((rd_T51 l0_0 a1).f2) ((rd_T51 l0_0 a1).f3) ((rd_T51 l0_0 a1).f4)) else (if ((rd_T51 l0_0 a1).f2) = 2 then (if 0 ≤ ((rd_T51 l0_0 a1).f4) then (if ((rd_T51 l0_0 a1).f4) < (l0_2.length : Int) then (spec_l3Code.j1 kj2 (decide ((rd l0_2 ((rd_T51 l0_0 a1).f4)) > 0)) l0_0 l0_1 l0_2 l0_3 l0_4 ((rd_T51 l0_0 a1).f0) ((rd_T51 l0_0 a1).f1) ((rd_T51 l0_0 a1).f2) ((rd_T51 l0_0 a1).f3) ((rd_T51 l0_0 a1).f4)) else (none)) else (none)) else (spec_l3Code.j1 kj2 false l0_0 l0_1 l0_2 l0_3 l0_4 ((rd_T51 l0_0 a1).f0) ((rd_T51 l0_0 a1).f1) ((rd_T51 l0_0 a1).f2) ((rd_T51 l0_0 a1).f3) ((rd_T51 l0_0 a1).f4)))) else (none)) else (none)) = some r:=by rw [if_neg (show ¬ (false = true) by decide)] at H;exact H
    clear H;have H:=H1;clear H1
    by_cases c8 : 0 ≤ a1
    ·rw [if_pos c8] at H;have c8b0 : decide (0 ≤ a1) = true:=decide_eq_true c8;clear c8
     by_cases c9 : a1 < (l0_0.length : Int)
     ·rw [if_pos c9] at H;have c9b0 : decide (a1 < (l0_0.length : Int)) = true:=decide_eq_true c9;clear c9;have HC10:=O H;clear H;have hcz11_0 : wc.cell? ⟨gb239,0,none⟩ = some (.slice A0_0 l0_0.length c0_0):=(J BK239.out 0).trans rfl;have hcz11_1 : wc.cell? ⟨gb239,1,none⟩ = some (.slice A0_1 l0_1.length c0_1):=(J BK239.out 1).trans rfl;have hcz11_2 : wc.cell? ⟨gb239,2,none⟩ = some (.slice A0_2 l0_2.length c0_2):=(J BK239.out 2).trans rfl;have hcz11_3 : wc.cell? ⟨gb239,3,none⟩ = some (.slice A0_3 l0_3.length c0_3):=(J BK239.out 3).trans rfl;have hcz11_4 : wc.cell? ⟨gb239,4,none⟩ = some (.slice A0_4 l0_4.length c0_4):=(J BK239.out 4).trans rfl;have hfz11_0:=Z BK239.out 0;have hfz11_1:=Z BK239.out 1;have hfz11_2:=Z BK239.out 2;have hfz11_3:=Z BK239.out 3;have hfz11_4:=Z BK239.out 4
      have p240 : 0 ≤ (a1 : Int):=of_decide_eq_true (by first | (with_reducible assumption) | assumption)
      have q240 : a1 < (l0_0.length : Int):=of_decide_eq_true (by first | (with_reducible assumption) | assumption)
      obtain ⟨ad240,A240_0,c240_0,A240_1,c240_1,e240,hx240_0,hx240_1,hx240_2,hx240_3,hx240_4,hl240_0,hi240_0,hl240_1,hi240_1⟩:=at_T51 HR0_0.out a1 p240 q240
      cases e240
      replace hx240_0:=(HB.out.cell (G w _ hx240_0)).trans hx240_0;replace hx240_1:=(HB.out.cell (G w _ hx240_1)).trans hx240_1;replace hx240_2:=(HB.out.cell (G w _ hx240_2)).trans hx240_2;replace hx240_3:=(HB.out.cell (G w _ hx240_3)).trans hx240_3;replace hx240_4:=(HB.out.cell (G w _ hx240_4)).trans hx240_4;have HR240_0:=O hi240_0;have HC240_0:=O hl240_0;clear hi240_0 hl240_0;have HR240_1:=O hi240_1;have HC240_1:=O hl240_1;clear hi240_1 hl240_1;replace p240:=eq_true p240;replace q240:=eq_true q240
      go_upto_region 4 with (first | ((with_reducible refine gate_dst (N:=5) rfl ?_);(try (refine gate_guard (by rfl) ?_;dsimp only));refine box_event ?hg (N:=5) ?hd (cs:=#[.slice none 0 0,.slice none 0 0,.int .i64 0,.int .i64 0,.int .i64 0]) (t:=51) ?hr ?_;(case hd=>rfl);(case hg=>rfl);(case hr=>first | (go_simp;done) | (go_simp;rfl));intro gb241 hg w12 hbox hb;have n0_:=O (blk_below (g:=gb239) (o:=.cells #[.slice (some ad240) l0_0.length c0_0,.slice A0_1 l0_1.length c0_1,.slice A0_2 l0_2.length c0_2,.slice A0_3 l0_3.length c0_3,.slice A0_4 l0_4.length c0_4] 33 (0,0)) (q6_ BK239) hb);have n1_:=O (below_step (q10_ HB GE239) hb);have n2_:=O (hbox);have n3_:=O ((by rw [hg];exact (below_size (q10_ HB GE239)) : w.heap.size ≤ gb241));have n4_:=O ((by rw [hg];exact (below_size (q10_ HB GE239)) : w.heap.size ≤ gb241));have n5_:=O ((by rw [hg];exact Nat.ne_of_lt (blk_lt (g:=gb239) (o:=.cells #[.slice (some ad240) l0_0.length c0_0,.slice A0_1 l0_1.length c0_1,.slice A0_2 l0_2.length c0_2,.slice A0_3 l0_3.length c0_3,.slice A0_4 l0_4.length c0_4] 33 (0,0)) (q6_ BK239)) : gb239 ≠ gb241));have n6_:=O ((by rw [hg];exact Nat.ne_of_gt (blk_lt (g:=gb239) (o:=.cells #[.slice (some ad240) l0_0.length c0_0,.slice A0_1 l0_1.length c0_1,.slice A0_2 l0_2.length c0_2,.slice A0_3 l0_3.length c0_3,.slice A0_4 l0_4.length c0_4] 33 (0,0)) (q6_ BK239)) : gb241 ≠ gb239));clear BK239 HB;have BK239:=n0_;have HB:=n1_;have BK241:=n2_;have GW241:=n3_;have GE241:=n4_;have NB239_241:=n5_;have NB241_239:=n6_;clear n0_ n1_ n2_ n3_ n4_ n5_ n6_ hb hbox hg;have hnb13:=NB241_239.out;have hnc13:=NB239_241.out;obtain ⟨hcz14_0,hcz14_1,hcz14_2,hcz14_3,hcz14_4,hfz14_0,hfz14_1,hfz14_2,hfz14_3,hfz14_4⟩:=bz5_ BK241))
      repeat (go_quiet (first | ((with_reducible refine gate_dst (N:=5) rfl ?_);(try (refine gate_guard (by rfl) ?_;dsimp only));refine box_event ?hg (N:=5) ?hd (cs:=#[.slice none 0 0,.slice none 0 0,.int .i64 0,.int .i64 0,.int .i64 0]) (t:=51) ?hr ?_;(case hd=>rfl);(case hg=>rfl);(case hr=>first | (go_simp;done) | (go_simp;rfl));intro gb241 hg w12 hbox hb;have n0_:=O (blk_below (g:=gb239) (o:=.cells #[.slice (some ad240) l0_0.length c0_0,.slice A0_1 l0_1.length c0_1,.slice A0_2 l0_2.length c0_2,.slice A0_3 l0_3.length c0_3,.slice A0_4 l0_4.length c0_4] 33 (0,0)) (q6_ BK239) hb);have n1_:=O (below_step (q10_ HB GE239) hb);have n2_:=O (hbox);have n3_:=O ((by rw [hg];exact (below_size (q10_ HB GE239)) : w.heap.size ≤ gb241));have n4_:=O ((by rw [hg];exact (below_size (q10_ HB GE239)) : w.heap.size ≤ gb241));have n5_:=O ((by rw [hg];exact Nat.ne_of_lt (blk_lt (g:=gb239) (o:=.cells #[.slice (some ad240) l0_0.length c0_0,.slice A0_1 l0_1.length c0_1,.slice A0_2 l0_2.length c0_2,.slice A0_3 l0_3.length c0_3,.slice A0_4 l0_4.length c0_4] 33 (0,0)) (q6_ BK239)) : gb239 ≠ gb241));have n6_:=O ((by rw [hg];exact Nat.ne_of_gt (blk_lt (g:=gb239) (o:=.cells #[.slice (some ad240) l0_0.length c0_0,.slice A0_1 l0_1.length c0_1,.slice A0_2 l0_2.length c0_2,.slice A0_3 l0_3.length c0_3,.slice A0_4 l0_4.length c0_4] 33 (0,0)) (q6_ BK239)) : gb241 ≠ gb239));clear BK239 HB;have BK239:=n0_;have HB:=n1_;have BK241:=n2_;have GW241:=n3_;have GE241:=n4_;have NB239_241:=n5_;have NB241_239:=n6_;clear n0_ n1_ n2_ n3_ n4_ n5_ n6_ hb hbox hg;have hnb13:=NB241_239.out;have hnc13:=NB239_241.out;have hcz14_0 : w12.cell? ⟨gb241,0,none⟩ = some (.slice none 0 0):=(J BK241.out 0).trans rfl;have hcz14_1 : w12.cell? ⟨gb241,1,none⟩ = some (.slice none 0 0):=(J BK241.out 1).trans rfl;have hcz14_2 : w12.cell? ⟨gb241,2,none⟩ = some (.int .i64 0):=(J BK241.out 2).trans rfl;have hcz14_3 : w12.cell? ⟨gb241,3,none⟩ = some (.int .i64 0):=(J BK241.out 3).trans rfl;have hcz14_4 : w12.cell? ⟨gb241,4,none⟩ = some (.int .i64 0):=(J BK241.out 4).trans rfl;have hfz14_0:=Z BK241.out 0;have hfz14_1:=Z BK241.out 1;have hfz14_2:=Z BK241.out 2;have hfz14_3:=Z BK241.out 3;have hfz14_4:=Z BK241.out 4));go_upto_region 4 with (first | ((with_reducible refine gate_dst (N:=5) rfl ?_);(try (refine gate_guard (by rfl) ?_;dsimp only));refine box_event ?hg (N:=5) ?hd (cs:=#[.slice none 0 0,.slice none 0 0,.int .i64 0,.int .i64 0,.int .i64 0]) (t:=51) ?hr ?_;(case hd=>rfl);(case hg=>rfl);(case hr=>first | (go_simp;done) | (go_simp;rfl));intro gb241 hg w12 hbox hb;have n0_:=O (blk_below (g:=gb239) (o:=.cells #[.slice (some ad240) l0_0.length c0_0,.slice A0_1 l0_1.length c0_1,.slice A0_2 l0_2.length c0_2,.slice A0_3 l0_3.length c0_3,.slice A0_4 l0_4.length c0_4] 33 (0,0)) (q6_ BK239) hb);have n1_:=O (below_step (q10_ HB GE239) hb);have n2_:=O (hbox);have n3_:=O ((by rw [hg];exact (below_size (q10_ HB GE239)) : w.heap.size ≤ gb241));have n4_:=O ((by rw [hg];exact (below_size (q10_ HB GE239)) : w.heap.size ≤ gb241));have n5_:=O ((by rw [hg];exact Nat.ne_of_lt (blk_lt (g:=gb239) (o:=.cells #[.slice (some ad240) l0_0.length c0_0,.slice A0_1 l0_1.length c0_1,.slice A0_2 l0_2.length c0_2,.slice A0_3 l0_3.length c0_3,.slice A0_4 l0_4.length c0_4] 33 (0,0)) (q6_ BK239)) : gb239 ≠ gb241));have n6_:=O ((by rw [hg];exact Nat.ne_of_gt (blk_lt (g:=gb239) (o:=.cells #[.slice (some ad240) l0_0.length c0_0,.slice A0_1 l0_1.length c0_1,.slice A0_2 l0_2.length c0_2,.slice A0_3 l0_3.length c0_3,.slice A0_4 l0_4.length c0_4] 33 (0,0)) (q6_ BK239)) : gb241 ≠ gb239));clear BK239 HB;have BK239:=n0_;have HB:=n1_;have BK241:=n2_;have GW241:=n3_;have GE241:=n4_;have NB239_241:=n5_;have NB241_239:=n6_;clear n0_ n1_ n2_ n3_ n4_ n5_ n6_ hb hbox hg;have hnb13:=NB241_239.out;have hnc13:=NB239_241.out;have hcz14_0 : w12.cell? ⟨gb241,0,none⟩ = some (.slice none 0 0):=(J BK241.out 0).trans rfl;have hcz14_1 : w12.cell? ⟨gb241,1,none⟩ = some (.slice none 0 0):=(J BK241.out 1).trans rfl;have hcz14_2 : w12.cell? ⟨gb241,2,none⟩ = some (.int .i64 0):=(J BK241.out 2).trans rfl;have hcz14_3 : w12.cell? ⟨gb241,3,none⟩ = some (.int .i64 0):=(J BK241.out 3).trans rfl;have hcz14_4 : w12.cell? ⟨gb241,4,none⟩ = some (.int .i64 0):=(J BK241.out 4).trans rfl;have hfz14_0:=Z BK241.out 0;have hfz14_1:=Z BK241.out 1;have hfz14_2:=Z BK241.out 2;have hfz14_3:=Z BK241.out 3;have hfz14_4:=Z BK241.out 4)))
      (try simp only [Act.put,List.setIfInBounds_toArray,List.set_cons_zero,List.set_cons_succ])
      go_cut [20] (fun v20 wc=>∃ (kq : Nat) (x20_9 : Bool),v20 = .bool x20_9 ∧ Aside0 (spec_l3Code.j1 kq x20_9 l0_0 l0_1 l0_2 l0_3 l0_4 ((rd_T51 l0_0 a1).f0) ((rd_T51 l0_0 a1).f1) ((rd_T51 l0_0 a1).f2) ((rd_T51 l0_0 a1).f3) ((rd_T51 l0_0 a1).f4) = some r) ∧ Aside0 (kq ≤ kj2) ∧ Aside0 (wc.heap[gb239]? = some (.cells #[(.slice (some ad240) l0_0.length c0_0),(.slice A0_1 l0_1.length c0_1),(.slice A0_2 l0_2.length c0_2),(.slice A0_3 l0_3.length c0_3),(.slice A0_4 l0_4.length c0_4)] 33 (0,0))) ∧ Aside0 (wc.heap[gb241]? = some (.cells #[(.slice A240_0 ((rd_T51 l0_0 a1).f0).length c240_0),(.slice A240_1 ((rd_T51 l0_0 a1).f1).length c240_1),.int .i64 ((rd_T51 l0_0 a1).f2),.int .i64 ((rd_T51 l0_0 a1).f3),.int .i64 ((rd_T51 l0_0 a1).f4)] 51 (0,0))) ∧ Aside0 (Below w.heap.size w wc))
      case first =>
       have H:=HC10.out;clear HC10
       by_cases c15 : ((rd_T51 l0_0 a1).f2) = 1
       ·rw [if_pos c15] at H;have c15b0 : (((rd_T51 l0_0 a1).f2) == 1) = true:=beq_iff_eq.mpr c15;have c15b1 : (((rd_T51 l0_0 a1).f2) != 1) = false:=bne_eq_false_iff_eq.mpr c15;clear c15
        (first | rw [c15b0] | (simp only [i64_w,i32_w];rw [c15b0]) | skip)
        have H':=O H;clear H;have hnb16:=NB241_239.out;have hnc16:=NB239_241.out;have hcz17_0 : w12.cell? ⟨gb241,0,none⟩ = some (.slice none 0 0):=(J BK241.out 0).trans rfl;have hcz17_1 : w12.cell? ⟨gb241,1,none⟩ = some (.slice none 0 0):=(J BK241.out 1).trans rfl;have hcz17_2 : w12.cell? ⟨gb241,2,none⟩ = some (.int .i64 0):=(J BK241.out 2).trans rfl;have hcz17_3 : w12.cell? ⟨gb241,3,none⟩ = some (.int .i64 0):=(J BK241.out 3).trans rfl;have hcz17_4 : w12.cell? ⟨gb241,4,none⟩ = some (.int .i64 0):=(J BK241.out 4).trans rfl;have hfz17_0:=Z BK241.out 0;have hfz17_1:=Z BK241.out 1;have hfz17_2:=Z BK241.out 2;have hfz17_3:=Z BK241.out 3;have hfz17_4:=Z BK241.out 4
        go_wp2
        repeat (go_quiet (fail);try go_wp2)
        go_meet
        case rel=>exact ⟨_,(true),(by first | rfl | (simp;done) | (simp [*];done)),H',⟨by have:=HJ2.out;first | omega | exact Nat.le_refl _⟩,⟨by (with_reducible repeat (first | refine blk_drewN ?_ _ | refine blk_drew ?_ | refine blk_alloc ?_ _));refine blk_far ?_ NB239_241.out _;(with_reducible repeat (first | refine blk_drewN ?_ _ | refine blk_drew ?_ | refine blk_alloc ?_ _));refine blk_far ?_ NB239_241.out _;(with_reducible repeat (first | refine blk_drewN ?_ _ | refine blk_drew ?_ | refine blk_alloc ?_ _));refine blk_far ?_ NB239_241.out _;(with_reducible repeat (first | refine blk_drewN ?_ _ | refine blk_drew ?_ | refine blk_alloc ?_ _));refine blk_far ?_ NB239_241.out _;(with_reducible repeat (first | refine blk_drewN ?_ _ | refine blk_drew ?_ | refine blk_alloc ?_ _));refine blk_far ?_ NB239_241.out _;(with_reducible repeat (first | refine blk_drewN ?_ _ | refine blk_drew ?_ | refine blk_alloc ?_ _));exact BK239.out⟩,⟨by (with_reducible repeat (first | refine blk_drewN ?_ _ | refine blk_drew ?_ | refine blk_alloc ?_ _));apply bp5_4_;(with_reducible repeat (first | refine blk_drewN ?_ _ | refine blk_drew ?_ | refine blk_alloc ?_ _));apply bp5_3_;(with_reducible repeat (first | refine blk_drewN ?_ _ | refine blk_drew ?_ | refine blk_alloc ?_ _));apply bp5_2_;(with_reducible repeat (first | refine blk_drewN ?_ _ | refine blk_drew ?_ | refine blk_alloc ?_ _));apply bp5_1_;(with_reducible repeat (first | refine blk_drewN ?_ _ | refine blk_drew ?_ | refine blk_alloc ?_ _));apply bp5_0_;(with_reducible repeat (first | refine blk_drewN ?_ _ | refine blk_drew ?_ | refine blk_alloc ?_ _));exact BK241.out⟩,⟨by repeat (first | (with_reducible first | exact HB.out | apply below_alloc | apply Y | apply below_drew1 | refine E ?_ GE239.out | refine E ?_ GE241.out) | exact HB.out)⟩⟩
       ·rw [if_neg c15] at H;have c15b0 : (((rd_T51 l0_0 a1).f2) == 1) = false:=beq_eq_false_iff_ne.mpr c15;have c15b1 : (((rd_T51 l0_0 a1).f2) != 1) = true:=bne_iff_ne.mpr c15
        (first | rw [c15b0] | (simp only [i64_w,i32_w];rw [c15b0]) | skip)
        by_cases c18 : ((rd_T51 l0_0 a1).f2) = 2
        ·rw [if_pos c18] at H;have c18b0 : (((rd_T51 l0_0 a1).f2) == 2) = true:=beq_iff_eq.mpr c18;have c18b1 : (((rd_T51 l0_0 a1).f2) != 2) = false:=bne_eq_false_iff_eq.mpr c18;clear c18
         by_cases c19 : 0 ≤ ((rd_T51 l0_0 a1).f4)
         ·rw [if_pos c19] at H;have c19b0 : decide (0 ≤ ((rd_T51 l0_0 a1).f4)) = true:=decide_eq_true c19;clear c19
          by_cases c20 : ((rd_T51 l0_0 a1).f4) < (l0_2.length : Int)
          ·rw [if_pos c20] at H;have c20b0 : decide (((rd_T51 l0_0 a1).f4) < (l0_2.length : Int)) = true:=decide_eq_true c20;clear c20;have H':=O H;clear H;have hnb21:=NB241_239.out;have hnc21:=NB239_241.out;have hcz22_0 : w12.cell? ⟨gb241,0,none⟩ = some (.slice none 0 0):=(J BK241.out 0).trans rfl;have hcz22_1 : w12.cell? ⟨gb241,1,none⟩ = some (.slice none 0 0):=(J BK241.out 1).trans rfl;have hcz22_2 : w12.cell? ⟨gb241,2,none⟩ = some (.int .i64 0):=(J BK241.out 2).trans rfl;have hcz22_3 : w12.cell? ⟨gb241,3,none⟩ = some (.int .i64 0):=(J BK241.out 3).trans rfl;have hcz22_4 : w12.cell? ⟨gb241,4,none⟩ = some (.int .i64 0):=(J BK241.out 4).trans rfl;have hfz22_0:=Z BK241.out 0;have hfz22_1:=Z BK241.out 1;have hfz22_2:=Z BK241.out 2;have hfz22_3:=Z BK241.out 3;have hfz22_4:=Z BK241.out 4;have hcz23_0 : w12.cell? ⟨gb239,0,none⟩ = some (.slice (some ad240) l0_0.length c0_0):=(J BK239.out 0).trans rfl;have hcz23_1 : w12.cell? ⟨gb239,1,none⟩ = some (.slice A0_1 l0_1.length c0_1):=(J BK239.out 1).trans rfl;have hcz23_2 : w12.cell? ⟨gb239,2,none⟩ = some (.slice A0_2 l0_2.length c0_2):=(J BK239.out 2).trans rfl;have hcz23_3 : w12.cell? ⟨gb239,3,none⟩ = some (.slice A0_3 l0_3.length c0_3):=(J BK239.out 3).trans rfl;have hcz23_4 : w12.cell? ⟨gb239,4,none⟩ = some (.slice A0_4 l0_4.length c0_4):=(J BK239.out 4).trans rfl;have hfz23_0:=Z BK239.out 0;have hfz23_1:=Z BK239.out 1;have hfz23_2:=Z BK239.out 2;have hfz23_3:=Z BK239.out 3;have hfz23_4:=Z BK239.out 4
           have p242 : 0 ≤ (((rd_T51 l0_0 a1).f4) : Int):=of_decide_eq_true (by first | (with_reducible assumption) | assumption)
           have q242 : ((rd_T51 l0_0 a1).f4) < (l0_2.length : Int):=of_decide_eq_true (by first | (with_reducible assumption) | assumption)
           obtain ⟨ad242,e242,hx242_0⟩:=Kd.at_int HR0_2.out ((rd_T51 l0_0 a1).f4) p242 q242
           cases e242
           have hn242_0 : ad242.block ≠ gb241:=Nat.ne_of_lt (Nat.lt_of_lt_of_le (by have:=G _ _ hx242_0;first | rwa [add_block] at this | exact this) GW241.out)
           have hn242_1 : ad242.block ≠ gb241:=Nat.ne_of_lt (Nat.lt_of_lt_of_le (by have:=G _ _ hx242_0;first | rwa [add_block] at this | exact this) GW241.out)
           have hn242_2 : ad242.block ≠ gb241:=Nat.ne_of_lt (Nat.lt_of_lt_of_le (by have:=G _ _ hx242_0;first | rwa [add_block] at this | exact this) GW241.out)
           have hn242_3 : ad242.block ≠ gb241:=Nat.ne_of_lt (Nat.lt_of_lt_of_le (by have:=G _ _ hx242_0;first | rwa [add_block] at this | exact this) GW241.out)
           have hn242_4 : ad242.block ≠ gb241:=Nat.ne_of_lt (Nat.lt_of_lt_of_le (by have:=G _ _ hx242_0;first | rwa [add_block] at this | exact this) GW241.out)
           replace hx242_0:=(HB.out.cell (G w _ hx242_0)).trans hx242_0
           replace hx242_0:=(cell_far (p:=⟨gb241,0,none⟩) (by first | (rw [add_block];exact hn242_0) | (show (Addr.add _ _).block ≠ _;rw [add_block];exact hn242_0) | exact hn242_0) (.slice A240_0 ((rd_T51 l0_0 a1).f0).length c240_0)).trans hx242_0
           replace hx242_0:=(cell_far (p:=⟨gb241,1,none⟩) (by first | (rw [add_block];exact hn242_1) | (show (Addr.add _ _).block ≠ _;rw [add_block];exact hn242_1) | exact hn242_1) (.slice A240_1 ((rd_T51 l0_0 a1).f1).length c240_1)).trans hx242_0
           replace hx242_0:=(cell_far (p:=⟨gb241,2,none⟩) (by first | (rw [add_block];exact hn242_2) | (show (Addr.add _ _).block ≠ _;rw [add_block];exact hn242_2) | exact hn242_2) (.int .i64 ((rd_T51 l0_0 a1).f2))).trans hx242_0
           replace hx242_0:=(cell_far (p:=⟨gb241,3,none⟩) (by first | (rw [add_block];exact hn242_3) | (show (Addr.add _ _).block ≠ _;rw [add_block];exact hn242_3) | exact hn242_3) (.int .i64 ((rd_T51 l0_0 a1).f3))).trans hx242_0
           replace hx242_0:=(cell_far (p:=⟨gb241,4,none⟩) (by first | (rw [add_block];exact hn242_4) | (show (Addr.add _ _).block ≠ _;rw [add_block];exact hn242_4) | exact hn242_4) (.int .i64 ((rd_T51 l0_0 a1).f4))).trans hx242_0
           (try have hy242_0:=fun (n_ : Nat)=>(show (((((((w12.drewN n_).setCell ⟨gb241,0,none⟩ (.slice A240_0 ((rd_T51 l0_0 a1).f0).length c240_0)).setCell ⟨gb241,1,none⟩ (.slice A240_1 ((rd_T51 l0_0 a1).f1).length c240_1)).setCell ⟨gb241,2,none⟩ (.int .i64 ((rd_T51 l0_0 a1).f2))).setCell ⟨gb241,3,none⟩ (.int .i64 ((rd_T51 l0_0 a1).f3))).setCell ⟨gb241,4,none⟩ (.int .i64 ((rd_T51 l0_0 a1).f4)))).cell? _ = some _ from hx242_0))
           clear hn242_0 hn242_1 hn242_2 hn242_3 hn242_4;replace p242:=eq_true p242;replace q242:=eq_true q242
           go_wp2
           repeat (go_quiet (fail);try go_wp2)
           go_meet
           case rel=>exact ⟨_,(decide ((rd l0_2 ((rd_T51 l0_0 a1).f4)) > 0)),(by first | rfl | (simp;done) | (simp [*];done)),H',⟨by have:=HJ2.out;first | omega | exact Nat.le_refl _⟩,⟨by (with_reducible repeat (first | refine blk_drewN ?_ _ | refine blk_drew ?_ | refine blk_alloc ?_ _));refine blk_far ?_ NB239_241.out _;(with_reducible repeat (first | refine blk_drewN ?_ _ | refine blk_drew ?_ | refine blk_alloc ?_ _));refine blk_far ?_ NB239_241.out _;(with_reducible repeat (first | refine blk_drewN ?_ _ | refine blk_drew ?_ | refine blk_alloc ?_ _));refine blk_far ?_ NB239_241.out _;(with_reducible repeat (first | refine blk_drewN ?_ _ | refine blk_drew ?_ | refine blk_alloc ?_ _));refine blk_far ?_ NB239_241.out _;(with_reducible repeat (first | refine blk_drewN ?_ _ | refine blk_drew ?_ | refine blk_alloc ?_ _));refine blk_far ?_ NB239_241.out _;(with_reducible repeat (first | refine blk_drewN ?_ _ | refine blk_drew ?_ | refine blk_alloc ?_ _));exact BK239.out⟩,⟨by (with_reducible repeat (first | refine blk_drewN ?_ _ | refine blk_drew ?_ | refine blk_alloc ?_ _));apply bp5_4_;(with_reducible repeat (first | refine blk_drewN ?_ _ | refine blk_drew ?_ | refine blk_alloc ?_ _));apply bp5_3_;(with_reducible repeat (first | refine blk_drewN ?_ _ | refine blk_drew ?_ | refine blk_alloc ?_ _));apply bp5_2_;(with_reducible repeat (first | refine blk_drewN ?_ _ | refine blk_drew ?_ | refine blk_alloc ?_ _));apply bp5_1_;(with_reducible repeat (first | refine blk_drewN ?_ _ | refine blk_drew ?_ | refine blk_alloc ?_ _));apply bp5_0_;(with_reducible repeat (first | refine blk_drewN ?_ _ | refine blk_drew ?_ | refine blk_alloc ?_ _));exact BK241.out⟩,⟨by repeat (first | (with_reducible first | exact HB.out | apply below_alloc | apply Y | apply below_drew1 | refine E ?_ GE239.out | refine E ?_ GE241.out) | exact HB.out)⟩⟩
          ·rw [if_neg c20] at H
           exact absurd H (by simp)
         ·rw [if_neg c19] at H
          exact absurd H (by simp)
        ·rw [if_neg c18] at H;have c18b0 : (((rd_T51 l0_0 a1).f2) == 2) = false:=beq_eq_false_iff_ne.mpr c18;have c18b1 : (((rd_T51 l0_0 a1).f2) != 2) = true:=bne_iff_ne.mpr c18;have H':=O H;clear H;have hnb24:=NB241_239.out;have hnc24:=NB239_241.out;have hcz25_0 : w12.cell? ⟨gb241,0,none⟩ = some (.slice none 0 0):=(J BK241.out 0).trans rfl;have hcz25_1 : w12.cell? ⟨gb241,1,none⟩ = some (.slice none 0 0):=(J BK241.out 1).trans rfl;have hcz25_2 : w12.cell? ⟨gb241,2,none⟩ = some (.int .i64 0):=(J BK241.out 2).trans rfl;have hcz25_3 : w12.cell? ⟨gb241,3,none⟩ = some (.int .i64 0):=(J BK241.out 3).trans rfl;have hcz25_4 : w12.cell? ⟨gb241,4,none⟩ = some (.int .i64 0):=(J BK241.out 4).trans rfl;have hfz25_0:=Z BK241.out 0;have hfz25_1:=Z BK241.out 1;have hfz25_2:=Z BK241.out 2;have hfz25_3:=Z BK241.out 3;have hfz25_4:=Z BK241.out 4
         go_wp2
         repeat (go_quiet (fail);try go_wp2)
         go_meet
         case rel=>exact ⟨_,(false),(by first | rfl | (simp;done) | (simp [*];done)),H',⟨by have:=HJ2.out;first | omega | exact Nat.le_refl _⟩,⟨by (with_reducible repeat (first | refine blk_drewN ?_ _ | refine blk_drew ?_ | refine blk_alloc ?_ _));refine blk_far ?_ NB239_241.out _;(with_reducible repeat (first | refine blk_drewN ?_ _ | refine blk_drew ?_ | refine blk_alloc ?_ _));refine blk_far ?_ NB239_241.out _;(with_reducible repeat (first | refine blk_drewN ?_ _ | refine blk_drew ?_ | refine blk_alloc ?_ _));refine blk_far ?_ NB239_241.out _;(with_reducible repeat (first | refine blk_drewN ?_ _ | refine blk_drew ?_ | refine blk_alloc ?_ _));refine blk_far ?_ NB239_241.out _;(with_reducible repeat (first | refine blk_drewN ?_ _ | refine blk_drew ?_ | refine blk_alloc ?_ _));refine blk_far ?_ NB239_241.out _;(with_reducible repeat (first | refine blk_drewN ?_ _ | refine blk_drew ?_ | refine blk_alloc ?_ _));exact BK239.out⟩,⟨by (with_reducible repeat (first | refine blk_drewN ?_ _ | refine blk_drew ?_ | refine blk_alloc ?_ _));apply bp5_4_;(with_reducible repeat (first | refine blk_drewN ?_ _ | refine blk_drew ?_ | refine blk_alloc ?_ _));apply bp5_3_;(with_reducible repeat (first | refine blk_drewN ?_ _ | refine blk_drew ?_ | refine blk_alloc ?_ _));apply bp5_2_;(with_reducible repeat (first | refine blk_drewN ?_ _ | refine blk_drew ?_ | refine blk_alloc ?_ _));apply bp5_1_;(with_reducible repeat (first | refine blk_drewN ?_ _ | refine blk_drew ?_ | refine blk_alloc ?_ _));apply bp5_0_;(with_reducible repeat (first | refine blk_drewN ?_ _ | refine blk_drew ?_ | refine blk_alloc ?_ _));exact BK241.out⟩,⟨by repeat (first | (with_reducible first | exact HB.out | apply below_alloc | apply Y | apply below_drew1 | refine E ?_ GE239.out | refine E ?_ GE241.out) | exact HB.out)⟩⟩
      case rest =>
       clear HC10;(try clear c1);(try clear c2);(try clear p2);(try clear q2);(try clear hx2);(try clear c3);(try clear c5);(try clear c5b0);(try clear c7);(try clear c8);(try clear c8b0);(try clear c9);(try clear c9b0);(try clear c13);(try clear c15);(try clear c15b0);(try clear c15b1);(try clear c16);(try clear c18);(try clear c18b0);(try clear c18b1);(try clear c19);(try clear c19b0);(try clear c20);(try clear c20b0);(try clear c21);(try clear c24);(try clear p24);(try clear q24);(try clear hx24);(try clear hcz11_0);(try clear hcz11_1);(try clear hcz11_2);(try clear hcz11_3);(try clear hcz11_4);(try clear hcz14_0);(try clear hcz14_1);(try clear hcz14_2);(try clear hcz14_3);(try clear hcz14_4);(try clear hcz17_0);(try clear hcz17_1);(try clear hcz17_2);(try clear hcz17_3);(try clear hcz17_4);(try clear hcz22_0);(try clear hcz22_1);(try clear hcz22_2);(try clear hcz22_3);(try clear hcz22_4);(try clear hcz23_0);(try clear hcz23_1);(try clear hcz23_2);(try clear hcz23_3);(try clear hcz23_4);(try clear hcz25_0);(try clear hcz25_1);(try clear hcz25_2);(try clear hcz25_3);(try clear hcz25_4);(try clear hcz6_0);(try clear hcz6_1);(try clear hcz6_2);(try clear hcz6_3);(try clear hcz6_4);(try clear hfz11_0);(try clear hfz11_1);(try clear hfz11_2);(try clear hfz11_3);(try clear hfz11_4);(try clear hfz14_0);(try clear hfz14_1);(try clear hfz14_2);(try clear hfz14_3);(try clear hfz14_4);(try clear hfz17_0);(try clear hfz17_1);(try clear hfz17_2);(try clear hfz17_3);(try clear hfz17_4);(try clear hfz22_0);(try clear hfz22_1);(try clear hfz22_2);(try clear hfz22_3);(try clear hfz22_4);(try clear hfz23_0);(try clear hfz23_1);(try clear hfz23_2);(try clear hfz23_3);(try clear hfz23_4);(try clear hfz25_0);(try clear hfz25_1);(try clear hfz25_2);(try clear hfz25_3);(try clear hfz25_4);(try clear hfz6_0);(try clear hfz6_1);(try clear hfz6_2);(try clear hfz6_3);(try clear hfz6_4);(try clear hx240_0);(try clear hx240_1);(try clear hx240_2);(try clear hx240_3);(try clear hx240_4);(try clear hx242_0);(try clear p2);(try clear p240);(try clear p242);(try clear q240);(try clear q242);obtain ⟨kq,x20_9,rfl,HA,HJ9,BK239,BK241,HB⟩:=hcut
       cases kq with
       | zero=>exact absurd HA.out (by simp [spec_l3Code.j1])
       | succ kj9 =>
        have H:=HA.out;clear HA;simp only [spec_l3Code.j1] at H
        by_cases c26 : x20_9 = true
        ·subst c26
         have H1 : (some 2) = some r:=by rw [if_pos rfl] at H;exact H
         clear H;have H:=H1;clear H1;obtain rfl:=U H
         go_wp2
         repeat (go_quiet (fail);try go_wp2)
         go_ret
         exact ⟨by first | rfl | (simp [errW_none,errW_some] <;> rfl) | (simp [*,errW_none,errW_some] <;> rfl),by repeat (first | (with_reducible first | exact HB.out | apply below_alloc | apply Y | apply below_drew1 | refine E ?_ GE239.out | refine E ?_ GE241.out) | exact HB.out)⟩
        ·replace c26:=Bool.eq_false_iff.mpr c26;subst c26
         have H1 : (if ((rd_T51 l0_0 a1).f2) = 2 then (some 0) else (if (((rd_T51 l0_0 a1).f1).length : Int) = 0 then (some 1) else (if 0 < (((rd_T51 l0_0 a1).f1).length : Int) then (if ((rd_T69 ((rd_T51 l0_0 a1).f1) 0).f0) = 8 then (if 0 ≤ ((rd_T69 ((rd_T51 l0_0 a1).f1) 0).f1) then (if ((rd_T69 ((rd_T51 l0_0 a1).f1) 0).f1) < (l0_2.length : Int) then (if (rd l0_2 ((rd_T69 ((rd_T51 l0_0 a1).f1) 0).f1)) > 0 then (some 2) else (some 0)) else (none)) else (none)) else (some 0)) else (none)))) = some r:=by rw [if_neg (show ¬ (false = true) by decide)] at H;exact H
         clear H;have H:=H1;clear H1
         by_cases c27 : ((rd_T51 l0_0 a1).f2) = 2
         ·rw [if_pos c27] at H;have c27b0 : (((rd_T51 l0_0 a1).f2) == 2) = true:=beq_iff_eq.mpr c27;have c27b1 : (((rd_T51 l0_0 a1).f2) != 2) = false:=bne_eq_false_iff_eq.mpr c27;clear c27;obtain rfl:=U H;have hnb28:=NB241_239.out;have hnc28:=NB239_241.out;have hcz29_0 : wc.cell? ⟨gb241,0,none⟩ = some (.slice A240_0 ((rd_T51 l0_0 a1).f0).length c240_0):=(J BK241.out 0).trans rfl;have hcz29_1 : wc.cell? ⟨gb241,1,none⟩ = some (.slice A240_1 ((rd_T51 l0_0 a1).f1).length c240_1):=(J BK241.out 1).trans rfl;have hcz29_2 : wc.cell? ⟨gb241,2,none⟩ = some (.int .i64 ((rd_T51 l0_0 a1).f2)):=(J BK241.out 2).trans rfl;have hcz29_3 : wc.cell? ⟨gb241,3,none⟩ = some (.int .i64 ((rd_T51 l0_0 a1).f3)):=(J BK241.out 3).trans rfl;have hcz29_4 : wc.cell? ⟨gb241,4,none⟩ = some (.int .i64 ((rd_T51 l0_0 a1).f4)):=(J BK241.out 4).trans rfl;have hfz29_0:=Z BK241.out 0;have hfz29_1:=Z BK241.out 1;have hfz29_2:=Z BK241.out 2;have hfz29_3:=Z BK241.out 3;have hfz29_4:=Z BK241.out 4
          go_wp2
          repeat (go_quiet (fail);try go_wp2)
          go_ret
          exact ⟨by first | rfl | (simp [errW_none,errW_some] <;> rfl) | (simp [*,errW_none,errW_some] <;> rfl),by repeat (first | (with_reducible first | exact HB.out | apply below_alloc | apply Y | apply below_drew1 | refine E ?_ GE239.out | refine E ?_ GE241.out) | exact HB.out)⟩
         ·rw [if_neg c27] at H;have c27b0 : (((rd_T51 l0_0 a1).f2) == 2) = false:=beq_eq_false_iff_ne.mpr c27;have c27b1 : (((rd_T51 l0_0 a1).f2) != 2) = true:=bne_iff_ne.mpr c27
          by_cases c30 : (((rd_T51 l0_0 a1).f1).length : Int) = 0
          ·rw [if_pos c30] at H;have c30b0 : ((((rd_T51 l0_0 a1).f1).length : Int) == 0) = true:=beq_iff_eq.mpr c30;have c30b1 : ((((rd_T51 l0_0 a1).f1).length : Int) != 0) = false:=bne_eq_false_iff_eq.mpr c30;clear c30;obtain rfl:=U H;have hnb31:=NB241_239.out;have hnc31:=NB239_241.out;have hcz32_0 : wc.cell? ⟨gb241,0,none⟩ = some (.slice A240_0 ((rd_T51 l0_0 a1).f0).length c240_0):=(J BK241.out 0).trans rfl;have hcz32_1 : wc.cell? ⟨gb241,1,none⟩ = some (.slice A240_1 ((rd_T51 l0_0 a1).f1).length c240_1):=(J BK241.out 1).trans rfl;have hcz32_2 : wc.cell? ⟨gb241,2,none⟩ = some (.int .i64 ((rd_T51 l0_0 a1).f2)):=(J BK241.out 2).trans rfl;have hcz32_3 : wc.cell? ⟨gb241,3,none⟩ = some (.int .i64 ((rd_T51 l0_0 a1).f3)):=(J BK241.out 3).trans rfl;have hcz32_4 : wc.cell? ⟨gb241,4,none⟩ = some (.int .i64 ((rd_T51 l0_0 a1).f4)):=(J BK241.out 4).trans rfl;have hfz32_0:=Z BK241.out 0;have hfz32_1:=Z BK241.out 1;have hfz32_2:=Z BK241.out 2;have hfz32_3:=Z BK241.out 3;have hfz32_4:=Z BK241.out 4
           go_wp2
           repeat (go_quiet (fail);try go_wp2)
           go_ret
           exact ⟨by first | rfl | (simp [errW_none,errW_some] <;> rfl) | (simp [*,errW_none,errW_some] <;> rfl),by repeat (first | (with_reducible first | exact HB.out | apply below_alloc | apply Y | apply below_drew1 | refine E ?_ GE239.out | refine E ?_ GE241.out) | exact HB.out)⟩
          ·rw [if_neg c30] at H;have c30b0 : ((((rd_T51 l0_0 a1).f1).length : Int) == 0) = false:=beq_eq_false_iff_ne.mpr c30;have c30b1 : ((((rd_T51 l0_0 a1).f1).length : Int) != 0) = true:=bne_iff_ne.mpr c30
           have c30b2 : ¬ (((rd_T51 l0_0 a1).f1) = []):=fun h_=>c30 (by rw [h_];rfl)
           by_cases c33 : 0 < (((rd_T51 l0_0 a1).f1).length : Int)
           ·rw [if_pos c33] at H;have c33b0 : decide (0 < (((rd_T51 l0_0 a1).f1).length : Int)) = true:=decide_eq_true c33
            have c33b1 : decide (0 < ((rd_T51 l0_0 a1).f1).length) = true:=decide_eq_true (by omega)
            clear c33
            by_cases c34 : ((rd_T69 ((rd_T51 l0_0 a1).f1) 0).f0) = 8
            ·rw [if_pos c34] at H;have c34b0 : (((rd_T69 ((rd_T51 l0_0 a1).f1) 0).f0) == 8) = true:=beq_iff_eq.mpr c34;have c34b1 : (((rd_T69 ((rd_T51 l0_0 a1).f1) 0).f0) != 8) = false:=bne_eq_false_iff_eq.mpr c34;clear c34
             by_cases c35 : 0 ≤ ((rd_T69 ((rd_T51 l0_0 a1).f1) 0).f1)
             ·rw [if_pos c35] at H;have c35b0 : decide (0 ≤ ((rd_T69 ((rd_T51 l0_0 a1).f1) 0).f1)) = true:=decide_eq_true c35;clear c35
              by_cases c36 : ((rd_T69 ((rd_T51 l0_0 a1).f1) 0).f1) < (l0_2.length : Int)
              ·rw [if_pos c36] at H;have c36b0 : decide (((rd_T69 ((rd_T51 l0_0 a1).f1) 0).f1) < (l0_2.length : Int)) = true:=decide_eq_true c36;clear c36
               by_cases c37 : (rd l0_2 ((rd_T69 ((rd_T51 l0_0 a1).f1) 0).f1)) > 0
               ·rw [if_pos c37] at H;have c37b0 : decide (0 < (rd l0_2 ((rd_T69 ((rd_T51 l0_0 a1).f1) 0).f1))) = true:=decide_eq_true c37;clear c37;obtain rfl:=U H;have hnb38:=NB241_239.out;have hnc38:=NB239_241.out;have hcz39_0 : wc.cell? ⟨gb241,0,none⟩ = some (.slice A240_0 ((rd_T51 l0_0 a1).f0).length c240_0):=(J BK241.out 0).trans rfl;have hcz39_1 : wc.cell? ⟨gb241,1,none⟩ = some (.slice A240_1 ((rd_T51 l0_0 a1).f1).length c240_1):=(J BK241.out 1).trans rfl;have hcz39_2 : wc.cell? ⟨gb241,2,none⟩ = some (.int .i64 ((rd_T51 l0_0 a1).f2)):=(J BK241.out 2).trans rfl;have hcz39_3 : wc.cell? ⟨gb241,3,none⟩ = some (.int .i64 ((rd_T51 l0_0 a1).f3)):=(J BK241.out 3).trans rfl;have hcz39_4 : wc.cell? ⟨gb241,4,none⟩ = some (.int .i64 ((rd_T51 l0_0 a1).f4)):=(J BK241.out 4).trans rfl;have hfz39_0:=Z BK241.out 0;have hfz39_1:=Z BK241.out 1;have hfz39_2:=Z BK241.out 2;have hfz39_3:=Z BK241.out 3;have hfz39_4:=Z BK241.out 4
                have p243 : 0 ≤ (0 : Int):=(by omega)
                have q243 : 0 < (((rd_T51 l0_0 a1).f1).length : Int):=of_decide_eq_true (by first | (with_reducible assumption) | assumption)
                obtain ⟨ad243,A243_4,c243_4,A243_5,c243_5,e243,hx243_0,hx243_1,hx243_2,hx243_3,hx243_4,hx243_5,hl243_4,hi243_4,hl243_5,hi243_5⟩:=at_T69 HR240_1.out 0 p243 q243
                cases e243
                have qi243 : (0 < ((rd_T51 l0_0 a1).f1).length) = True:=eq_true (by omega)
                (try rw [show ((0 : Int)).toNat = 0 from rfl] at hx243_0)
                (try rw [show 0 * 6 = 0 from rfl] at hx243_0)
                (try rw [Addr.add_zero'] at hx243_0)
                (try rw [show ((0 : Int)).toNat = 0 from rfl] at hx243_1)
                (try rw [show 0 * 6 = 0 from rfl] at hx243_1)
                (try rw [Addr.add_zero'] at hx243_1)
                (try rw [show ((0 : Int)).toNat = 0 from rfl] at hx243_2)
                (try rw [show 0 * 6 = 0 from rfl] at hx243_2)
                (try rw [Addr.add_zero'] at hx243_2)
                (try rw [show ((0 : Int)).toNat = 0 from rfl] at hx243_3)
                (try rw [show 0 * 6 = 0 from rfl] at hx243_3)
                (try rw [Addr.add_zero'] at hx243_3)
                (try rw [show ((0 : Int)).toNat = 0 from rfl] at hx243_4)
                (try rw [show 0 * 6 = 0 from rfl] at hx243_4)
                (try rw [Addr.add_zero'] at hx243_4)
                (try rw [show ((0 : Int)).toNat = 0 from rfl] at hx243_5)
                (try rw [show 0 * 6 = 0 from rfl] at hx243_5)
                (try rw [Addr.add_zero'] at hx243_5)
                replace hx243_0:=(HB.out.cell (G w _ hx243_0)).trans hx243_0;replace hx243_1:=(HB.out.cell (G w _ hx243_1)).trans hx243_1;replace hx243_2:=(HB.out.cell (G w _ hx243_2)).trans hx243_2;replace hx243_3:=(HB.out.cell (G w _ hx243_3)).trans hx243_3;replace hx243_4:=(HB.out.cell (G w _ hx243_4)).trans hx243_4;replace hx243_5:=(HB.out.cell (G w _ hx243_5)).trans hx243_5;have HR243_4:=O hi243_4;have HC243_4:=O hl243_4;clear hi243_4 hl243_4;have HR243_5:=O hi243_5;have HC243_5:=O hl243_5;clear hi243_5 hl243_5;replace p243:=eq_true p243;replace q243:=eq_true q243;have hcz40_0 : wc.cell? ⟨gb239,0,none⟩ = some (.slice (some ad240) l0_0.length c0_0):=(J BK239.out 0).trans rfl;have hcz40_1 : wc.cell? ⟨gb239,1,none⟩ = some (.slice A0_1 l0_1.length c0_1):=(J BK239.out 1).trans rfl;have hcz40_2 : wc.cell? ⟨gb239,2,none⟩ = some (.slice A0_2 l0_2.length c0_2):=(J BK239.out 2).trans rfl;have hcz40_3 : wc.cell? ⟨gb239,3,none⟩ = some (.slice A0_3 l0_3.length c0_3):=(J BK239.out 3).trans rfl;have hcz40_4 : wc.cell? ⟨gb239,4,none⟩ = some (.slice A0_4 l0_4.length c0_4):=(J BK239.out 4).trans rfl;have hfz40_0:=Z BK239.out 0;have hfz40_1:=Z BK239.out 1;have hfz40_2:=Z BK239.out 2;have hfz40_3:=Z BK239.out 3;have hfz40_4:=Z BK239.out 4
                have p244 : 0 ≤ (0 : Int):=(by omega)
                have q244 : 0 < (((rd_T51 l0_0 a1).f1).length : Int):=of_decide_eq_true (by first | (with_reducible assumption) | assumption)
                obtain ⟨ad244,A244_4,c244_4,A244_5,c244_5,e244,hx244_0,hx244_1,hx244_2,hx244_3,hx244_4,hx244_5,hl244_4,hi244_4,hl244_5,hi244_5⟩:=at_T69 HR240_1.out 0 p244 q244
                obtain rfl : ad243 = ad244:=(by injection e244)
                have qi244 : (0 < ((rd_T51 l0_0 a1).f1).length) = True:=eq_true (by omega)
                (try rw [show ((0 : Int)).toNat = 0 from rfl] at hx244_0)
                (try rw [show 0 * 6 = 0 from rfl] at hx244_0)
                (try rw [Addr.add_zero'] at hx244_0)
                (try rw [show ((0 : Int)).toNat = 0 from rfl] at hx244_1)
                (try rw [show 0 * 6 = 0 from rfl] at hx244_1)
                (try rw [Addr.add_zero'] at hx244_1)
                (try rw [show ((0 : Int)).toNat = 0 from rfl] at hx244_2)
                (try rw [show 0 * 6 = 0 from rfl] at hx244_2)
                (try rw [Addr.add_zero'] at hx244_2)
                (try rw [show ((0 : Int)).toNat = 0 from rfl] at hx244_3)
                (try rw [show 0 * 6 = 0 from rfl] at hx244_3)
                (try rw [Addr.add_zero'] at hx244_3)
                (try rw [show ((0 : Int)).toNat = 0 from rfl] at hx244_4)
                (try rw [show 0 * 6 = 0 from rfl] at hx244_4)
                (try rw [Addr.add_zero'] at hx244_4)
                (try rw [show ((0 : Int)).toNat = 0 from rfl] at hx244_5)
                (try rw [show 0 * 6 = 0 from rfl] at hx244_5)
                (try rw [Addr.add_zero'] at hx244_5)
                replace hx244_0:=(HB.out.cell (G w _ hx244_0)).trans hx244_0;replace hx244_1:=(HB.out.cell (G w _ hx244_1)).trans hx244_1;replace hx244_2:=(HB.out.cell (G w _ hx244_2)).trans hx244_2;replace hx244_3:=(HB.out.cell (G w _ hx244_3)).trans hx244_3;replace hx244_4:=(HB.out.cell (G w _ hx244_4)).trans hx244_4;replace hx244_5:=(HB.out.cell (G w _ hx244_5)).trans hx244_5;have HR244_4:=O hi244_4;have HC244_4:=O hl244_4;clear hi244_4 hl244_4;have HR244_5:=O hi244_5;have HC244_5:=O hl244_5;clear hi244_5 hl244_5;replace p244:=eq_true p244;replace q244:=eq_true q244;have ea_:=U (hx243_4.symm.trans hx244_4)
                injection ea_ with ea_ en_ ec_
                subst ea_;subst ec_;clear en_;have ea_:=U (hx243_5.symm.trans hx244_5)
                injection ea_ with ea_ en_ ec_
                subst ea_;subst ec_;clear en_
                have p245 : 0 ≤ (((rd_T69 ((rd_T51 l0_0 a1).f1) 0).f1) : Int):=of_decide_eq_true (by first | (with_reducible assumption) | assumption)
                have q245 : ((rd_T69 ((rd_T51 l0_0 a1).f1) 0).f1) < (l0_2.length : Int):=of_decide_eq_true (by first | (with_reducible assumption) | assumption)
                obtain ⟨ad245,e245,hx245_0⟩:=Kd.at_int HR0_2.out ((rd_T69 ((rd_T51 l0_0 a1).f1) 0).f1) p245 q245
                cases e245
                replace hx245_0:=(HB.out.cell (G w _ hx245_0)).trans hx245_0;replace p245:=eq_true p245;replace q245:=eq_true q245
                go_wp2
                repeat (go_quiet (fail);try go_wp2)
                go_ret
                exact ⟨by first | rfl | (simp [errW_none,errW_some] <;> rfl) | (simp [*,errW_none,errW_some] <;> rfl),by repeat (first | (with_reducible first | exact HB.out | apply below_alloc | apply Y | apply below_drew1 | refine E ?_ GE239.out | refine E ?_ GE241.out) | exact HB.out)⟩
               ·rw [if_neg c37] at H;have c37b0 : decide (0 < (rd l0_2 ((rd_T69 ((rd_T51 l0_0 a1).f1) 0).f1))) = false:=decide_eq_false c37;clear c37;obtain rfl:=U H;have hnb41:=NB241_239.out;have hnc41:=NB239_241.out;have hcz42_0 : wc.cell? ⟨gb241,0,none⟩ = some (.slice A240_0 ((rd_T51 l0_0 a1).f0).length c240_0):=(J BK241.out 0).trans rfl;have hcz42_1 : wc.cell? ⟨gb241,1,none⟩ = some (.slice A240_1 ((rd_T51 l0_0 a1).f1).length c240_1):=(J BK241.out 1).trans rfl;have hcz42_2 : wc.cell? ⟨gb241,2,none⟩ = some (.int .i64 ((rd_T51 l0_0 a1).f2)):=(J BK241.out 2).trans rfl;have hcz42_3 : wc.cell? ⟨gb241,3,none⟩ = some (.int .i64 ((rd_T51 l0_0 a1).f3)):=(J BK241.out 3).trans rfl;have hcz42_4 : wc.cell? ⟨gb241,4,none⟩ = some (.int .i64 ((rd_T51 l0_0 a1).f4)):=(J BK241.out 4).trans rfl;have hfz42_0:=Z BK241.out 0;have hfz42_1:=Z BK241.out 1;have hfz42_2:=Z BK241.out 2;have hfz42_3:=Z BK241.out 3;have hfz42_4:=Z BK241.out 4
                have p243 : 0 ≤ (0 : Int):=(by omega)
                have q243 : 0 < (((rd_T51 l0_0 a1).f1).length : Int):=of_decide_eq_true (by first | (with_reducible assumption) | assumption)
                obtain ⟨ad243,A243_4,c243_4,A243_5,c243_5,e243,hx243_0,hx243_1,hx243_2,hx243_3,hx243_4,hx243_5,hl243_4,hi243_4,hl243_5,hi243_5⟩:=at_T69 HR240_1.out 0 p243 q243
                cases e243
                have qi243 : (0 < ((rd_T51 l0_0 a1).f1).length) = True:=eq_true (by omega)
                (try rw [show ((0 : Int)).toNat = 0 from rfl] at hx243_0)
                (try rw [show 0 * 6 = 0 from rfl] at hx243_0)
                (try rw [Addr.add_zero'] at hx243_0)
                (try rw [show ((0 : Int)).toNat = 0 from rfl] at hx243_1)
                (try rw [show 0 * 6 = 0 from rfl] at hx243_1)
                (try rw [Addr.add_zero'] at hx243_1)
                (try rw [show ((0 : Int)).toNat = 0 from rfl] at hx243_2)
                (try rw [show 0 * 6 = 0 from rfl] at hx243_2)
                (try rw [Addr.add_zero'] at hx243_2)
                (try rw [show ((0 : Int)).toNat = 0 from rfl] at hx243_3)
                (try rw [show 0 * 6 = 0 from rfl] at hx243_3)
                (try rw [Addr.add_zero'] at hx243_3)
                (try rw [show ((0 : Int)).toNat = 0 from rfl] at hx243_4)
                (try rw [show 0 * 6 = 0 from rfl] at hx243_4)
                (try rw [Addr.add_zero'] at hx243_4)
                (try rw [show ((0 : Int)).toNat = 0 from rfl] at hx243_5)
                (try rw [show 0 * 6 = 0 from rfl] at hx243_5)
                (try rw [Addr.add_zero'] at hx243_5)
                replace hx243_0:=(HB.out.cell (G w _ hx243_0)).trans hx243_0;replace hx243_1:=(HB.out.cell (G w _ hx243_1)).trans hx243_1;replace hx243_2:=(HB.out.cell (G w _ hx243_2)).trans hx243_2;replace hx243_3:=(HB.out.cell (G w _ hx243_3)).trans hx243_3;replace hx243_4:=(HB.out.cell (G w _ hx243_4)).trans hx243_4;replace hx243_5:=(HB.out.cell (G w _ hx243_5)).trans hx243_5;have HR243_4:=O hi243_4;have HC243_4:=O hl243_4;clear hi243_4 hl243_4;have HR243_5:=O hi243_5;have HC243_5:=O hl243_5;clear hi243_5 hl243_5;replace p243:=eq_true p243;replace q243:=eq_true q243;have hcz43_0 : wc.cell? ⟨gb239,0,none⟩ = some (.slice (some ad240) l0_0.length c0_0):=(J BK239.out 0).trans rfl;have hcz43_1 : wc.cell? ⟨gb239,1,none⟩ = some (.slice A0_1 l0_1.length c0_1):=(J BK239.out 1).trans rfl;have hcz43_2 : wc.cell? ⟨gb239,2,none⟩ = some (.slice A0_2 l0_2.length c0_2):=(J BK239.out 2).trans rfl;have hcz43_3 : wc.cell? ⟨gb239,3,none⟩ = some (.slice A0_3 l0_3.length c0_3):=(J BK239.out 3).trans rfl;have hcz43_4 : wc.cell? ⟨gb239,4,none⟩ = some (.slice A0_4 l0_4.length c0_4):=(J BK239.out 4).trans rfl;have hfz43_0:=Z BK239.out 0;have hfz43_1:=Z BK239.out 1;have hfz43_2:=Z BK239.out 2;have hfz43_3:=Z BK239.out 3;have hfz43_4:=Z BK239.out 4
                have p244 : 0 ≤ (0 : Int):=(by omega)
                have q244 : 0 < (((rd_T51 l0_0 a1).f1).length : Int):=of_decide_eq_true (by first | (with_reducible assumption) | assumption)
                obtain ⟨ad244,A244_4,c244_4,A244_5,c244_5,e244,hx244_0,hx244_1,hx244_2,hx244_3,hx244_4,hx244_5,hl244_4,hi244_4,hl244_5,hi244_5⟩:=at_T69 HR240_1.out 0 p244 q244
                obtain rfl : ad243 = ad244:=(by injection e244)
                have qi244 : (0 < ((rd_T51 l0_0 a1).f1).length) = True:=eq_true (by omega)
                (try rw [show ((0 : Int)).toNat = 0 from rfl] at hx244_0)
                (try rw [show 0 * 6 = 0 from rfl] at hx244_0)
                (try rw [Addr.add_zero'] at hx244_0)
                (try rw [show ((0 : Int)).toNat = 0 from rfl] at hx244_1)
                (try rw [show 0 * 6 = 0 from rfl] at hx244_1)
                (try rw [Addr.add_zero'] at hx244_1)
                (try rw [show ((0 : Int)).toNat = 0 from rfl] at hx244_2)
                (try rw [show 0 * 6 = 0 from rfl] at hx244_2)
                (try rw [Addr.add_zero'] at hx244_2)
                (try rw [show ((0 : Int)).toNat = 0 from rfl] at hx244_3)
                (try rw [show 0 * 6 = 0 from rfl] at hx244_3)
                (try rw [Addr.add_zero'] at hx244_3)
                (try rw [show ((0 : Int)).toNat = 0 from rfl] at hx244_4)
                (try rw [show 0 * 6 = 0 from rfl] at hx244_4)
                (try rw [Addr.add_zero'] at hx244_4)
                (try rw [show ((0 : Int)).toNat = 0 from rfl] at hx244_5)
                (try rw [show 0 * 6 = 0 from rfl] at hx244_5)
                (try rw [Addr.add_zero'] at hx244_5)
                replace hx244_0:=(HB.out.cell (G w _ hx244_0)).trans hx244_0;replace hx244_1:=(HB.out.cell (G w _ hx244_1)).trans hx244_1;replace hx244_2:=(HB.out.cell (G w _ hx244_2)).trans hx244_2;replace hx244_3:=(HB.out.cell (G w _ hx244_3)).trans hx244_3;replace hx244_4:=(HB.out.cell (G w _ hx244_4)).trans hx244_4;replace hx244_5:=(HB.out.cell (G w _ hx244_5)).trans hx244_5;have HR244_4:=O hi244_4;have HC244_4:=O hl244_4;clear hi244_4 hl244_4;have HR244_5:=O hi244_5;have HC244_5:=O hl244_5;clear hi244_5 hl244_5;replace p244:=eq_true p244;replace q244:=eq_true q244;have ea_:=U (hx243_4.symm.trans hx244_4)
                injection ea_ with ea_ en_ ec_
                subst ea_;subst ec_;clear en_;have ea_:=U (hx243_5.symm.trans hx244_5)
                injection ea_ with ea_ en_ ec_
                subst ea_;subst ec_;clear en_
                have p245 : 0 ≤ (((rd_T69 ((rd_T51 l0_0 a1).f1) 0).f1) : Int):=of_decide_eq_true (by first | (with_reducible assumption) | assumption)
                have q245 : ((rd_T69 ((rd_T51 l0_0 a1).f1) 0).f1) < (l0_2.length : Int):=of_decide_eq_true (by first | (with_reducible assumption) | assumption)
                obtain ⟨ad245,e245,hx245_0⟩:=Kd.at_int HR0_2.out ((rd_T69 ((rd_T51 l0_0 a1).f1) 0).f1) p245 q245
                cases e245
                replace hx245_0:=(HB.out.cell (G w _ hx245_0)).trans hx245_0;replace p245:=eq_true p245;replace q245:=eq_true q245
                go_wp2
                repeat (go_quiet (fail);try go_wp2)
                go_ret
                exact ⟨by first | rfl | (simp [errW_none,errW_some] <;> rfl) | (simp [*,errW_none,errW_some] <;> rfl),by repeat (first | (with_reducible first | exact HB.out | apply below_alloc | apply Y | apply below_drew1 | refine E ?_ GE239.out | refine E ?_ GE241.out) | exact HB.out)⟩
              ·rw [if_neg c36] at H
               exact absurd H (by simp)
             ·rw [if_neg c35] at H
              exact absurd H (by simp)
            ·rw [if_neg c34] at H;have c34b0 : (((rd_T69 ((rd_T51 l0_0 a1).f1) 0).f0) == 8) = false:=beq_eq_false_iff_ne.mpr c34;have c34b1 : (((rd_T69 ((rd_T51 l0_0 a1).f1) 0).f0) != 8) = true:=bne_iff_ne.mpr c34;obtain rfl:=U H;have hnb44:=NB241_239.out;have hnc44:=NB239_241.out;have hcz45_0 : wc.cell? ⟨gb241,0,none⟩ = some (.slice A240_0 ((rd_T51 l0_0 a1).f0).length c240_0):=(J BK241.out 0).trans rfl;have hcz45_1 : wc.cell? ⟨gb241,1,none⟩ = some (.slice A240_1 ((rd_T51 l0_0 a1).f1).length c240_1):=(J BK241.out 1).trans rfl;have hcz45_2 : wc.cell? ⟨gb241,2,none⟩ = some (.int .i64 ((rd_T51 l0_0 a1).f2)):=(J BK241.out 2).trans rfl;have hcz45_3 : wc.cell? ⟨gb241,3,none⟩ = some (.int .i64 ((rd_T51 l0_0 a1).f3)):=(J BK241.out 3).trans rfl;have hcz45_4 : wc.cell? ⟨gb241,4,none⟩ = some (.int .i64 ((rd_T51 l0_0 a1).f4)):=(J BK241.out 4).trans rfl;have hfz45_0:=Z BK241.out 0;have hfz45_1:=Z BK241.out 1;have hfz45_2:=Z BK241.out 2;have hfz45_3:=Z BK241.out 3;have hfz45_4:=Z BK241.out 4
             have p243 : 0 ≤ (0 : Int):=(by omega)
             have q243 : 0 < (((rd_T51 l0_0 a1).f1).length : Int):=of_decide_eq_true (by first | (with_reducible assumption) | assumption)
             obtain ⟨ad243,A243_4,c243_4,A243_5,c243_5,e243,hx243_0,hx243_1,hx243_2,hx243_3,hx243_4,hx243_5,hl243_4,hi243_4,hl243_5,hi243_5⟩:=at_T69 HR240_1.out 0 p243 q243
             cases e243
             have qi243 : (0 < ((rd_T51 l0_0 a1).f1).length) = True:=eq_true (by omega)
             (try rw [show ((0 : Int)).toNat = 0 from rfl] at hx243_0)
             (try rw [show 0 * 6 = 0 from rfl] at hx243_0)
             (try rw [Addr.add_zero'] at hx243_0)
             (try rw [show ((0 : Int)).toNat = 0 from rfl] at hx243_1)
             (try rw [show 0 * 6 = 0 from rfl] at hx243_1)
             (try rw [Addr.add_zero'] at hx243_1)
             (try rw [show ((0 : Int)).toNat = 0 from rfl] at hx243_2)
             (try rw [show 0 * 6 = 0 from rfl] at hx243_2)
             (try rw [Addr.add_zero'] at hx243_2)
             (try rw [show ((0 : Int)).toNat = 0 from rfl] at hx243_3)
             (try rw [show 0 * 6 = 0 from rfl] at hx243_3)
             (try rw [Addr.add_zero'] at hx243_3)
             (try rw [show ((0 : Int)).toNat = 0 from rfl] at hx243_4)
             (try rw [show 0 * 6 = 0 from rfl] at hx243_4)
             (try rw [Addr.add_zero'] at hx243_4)
             (try rw [show ((0 : Int)).toNat = 0 from rfl] at hx243_5)
             (try rw [show 0 * 6 = 0 from rfl] at hx243_5)
             (try rw [Addr.add_zero'] at hx243_5)
             replace hx243_0:=(HB.out.cell (G w _ hx243_0)).trans hx243_0;replace hx243_1:=(HB.out.cell (G w _ hx243_1)).trans hx243_1;replace hx243_2:=(HB.out.cell (G w _ hx243_2)).trans hx243_2;replace hx243_3:=(HB.out.cell (G w _ hx243_3)).trans hx243_3;replace hx243_4:=(HB.out.cell (G w _ hx243_4)).trans hx243_4;replace hx243_5:=(HB.out.cell (G w _ hx243_5)).trans hx243_5;have HR243_4:=O hi243_4;have HC243_4:=O hl243_4;clear hi243_4 hl243_4;have HR243_5:=O hi243_5;have HC243_5:=O hl243_5;clear hi243_5 hl243_5;replace p243:=eq_true p243;replace q243:=eq_true q243
             go_wp2
             repeat (go_quiet (fail);try go_wp2)
             go_ret
             exact ⟨by first | rfl | (simp [errW_none,errW_some] <;> rfl) | (simp [*,errW_none,errW_some] <;> rfl),by repeat (first | (with_reducible first | exact HB.out | apply below_alloc | apply Y | apply below_drew1 | refine E ?_ GE239.out | refine E ?_ GE241.out) | exact HB.out)⟩
           ·rw [if_neg c33] at H
            exact absurd H (by simp)
     ·rw [if_neg c9] at H
      exact absurd H (by simp)
    ·rw [if_neg c8] at H
     exact absurd H (by simp)
end Go.Proofs.Ytfbocgagfodgnaa.P

namespace Go.Proofs.Ytfbocgagfodgnaa.P
open Go.RowKit Go.Proofs.YtfbocgagfodgnaaW.PrintWords Go.Proofs.YtfbocgagfodgnaaW.PrintLast Go.Proofs.YtfbocgagfodgnaaW.PrintMore
open Go.Proofs.YtfbocgagfodgnaaW.PrintWords renaming Aside0.mk → O
attribute [local go_sem] max2_int min2_int max_two min_two max_three min_three max_four min_four
set_option linter.unusedVariables false
set_option linter.unusedSimpArgs false
def spec_l3Can.l0 : Nat → List Int → Int → List (S51) → List Int → List Int → List (List Int) → List (S38) → Option (List Int)
 | 0,_,_,_,_,_,_,_=>none
 | k + 1,x3,x4,x429000,x429001,x429002,x429003,x429004=>if x4 < (x429000.length : Int) then ((spec_l3Code.f k x429000 x429001 x429002 x429003 x429004 x4).bind fun t432=>(if t432 = 0 then (if x3.length < 17592186044416 then (spec_l3Can.l0 k (x3 ++ [x4]) (wrap64 (x4 + 1)) x429000 x429001 x429002 x429003 x429004) else (none)) else (spec_l3Can.l0 k x3 (wrap64 (x4 + 1)) x429000 x429001 x429002 x429003 x429004))) else (some x3)
def spec_l3Can.f (k : Nat) (l0_0 : List (S51)) (l0_1 : List Int) (l0_2 : List Int) (l0_3 : List (List Int)) (l0_4 : List (S38)) : Option (List Int):=spec_l3Can.l0 k (([] : List Int)) 0 l0_0 l0_1 l0_2 l0_3 l0_4
set_option maxHeartbeats 8000000 in
set_option maxRecDepth 100000 in
theorem spec_l3Can.calls (k : Nat) (A0_0 : Option Addr) (c0_0 : Nat) (l0_0 : List (S51)) (A0_1 : Option Addr) (c0_1 : Nat) (l0_1 : List Int) (A0_2 : Option Addr) (c0_2 : Nat) (l0_2 : List Int) (A0_3 : Option Addr) (c0_3 : Nat) (l0_3 : List (List Int)) (A0_4 : Option Addr) (c0_4 : Nat) (l0_4 : List (S38)) (r : List Int) (w : World) (hr0_0 : Kd.C k51 w A0_0 l0_0.length l0_0) (hc0_0 : l0_0.length ≤ c0_0) (hr0_1 : Kd.C (Kd.int .i64) w A0_1 l0_1.length l0_1) (hc0_1 : l0_1.length ≤ c0_1) (hr0_2 : Kd.C (Kd.int .i64) w A0_2 l0_2.length l0_2) (hc0_2 : l0_2.length ≤ c0_2) (hr0_3 : Kd.C (Kd.slice 3 (Kd.int .i64)) w A0_3 l0_3.length l0_3) (hc0_3 : l0_3.length ≤ c0_3) (hr0_4 : Kd.C k38 w A0_4 l0_4.length l0_4) (hc0_4 : l0_4.length ≤ c0_4) (h : spec_l3Can.f k l0_0 l0_1 l0_2 l0_3 l0_4 = some r) :
  Calls Try.prog 29 #[.agg #[.slice A0_0 l0_0.length c0_0,.slice A0_1 l0_1.length c0_1,.slice A0_2 l0_2.length c0_2,.slice A0_3 l0_3.length c0_3,.slice A0_4 l0_4.length c0_4]] w fun e w'=>∃ v0_ : Value,e = .returned (v0_) ∧ Kd.R (Kd.int .i64) 3 w' w.heap.size (fun _=>True) v0_ r ∧ Below w.heap.size w w':=by
 have hu33:=Try.underlying33;have HR0_0:=O hr0_0;have HC0_0:=O hc0_0;clear hr0_0 hc0_0;have HR0_1:=O hr0_1;have HC0_1:=O hc0_1;clear hr0_1 hc0_1;have HR0_2:=O hr0_2;have HC0_2:=O hc0_2;clear hr0_2 hc0_2;have HR0_3:=O hr0_3;have HC0_3:=O hc0_3;clear hr0_3 hc0_3;have HR0_4:=O hr0_4;have HC0_4:=O hc0_4;clear hr0_4 hc0_4;have HB:=O (Below.refl w.heap.size w);have H : (spec_l3Can.l0 k (([] : List Int)) 0 l0_0 l0_1 l0_2 l0_3 l0_4) = some r:=h;clear h;obtain ⟨y429,hy429⟩ : ∃ y_ : List Int,y_ = (([] : List Int)):=⟨_,rfl⟩
 replace H : (spec_l3Can.l0 k y429 0 l0_0 l0_1 l0_2 l0_3 l0_4) = some r:=by first | (rw [hy429];with_reducible exact H) | (have H2_:=(Option.bind_some _ _).symm.trans H;rw [hy429];with_reducible exact H2_) | (have H2_:=(Option.bind_some _ _).symm.trans H;with_reducible exact H2_) | with_reducible exact H | (rw [hy429];exact H) | exact H
 have Ny429:=O hy429;clear hy429;have H':=O H;clear H;go_enter Try.func29,Try.ntmps29
 go_wp2_with (first | ((with_reducible refine gate_dst (N:=1) rfl ?_);refine box_event ?hg (N:=1) ?hd (cs:=#[.slice A0_0 l0_0.length c0_0,.slice A0_1 l0_1.length c0_1,.slice A0_2 l0_2.length c0_2,.slice A0_3 l0_3.length c0_3,.slice A0_4 l0_4.length c0_4]) (t:=33) ?hr ?_;(case hd=>rfl);(case hg=>rfl);(case hr=>first | (go_simp;done) | (go_simp;rfl));intro gb428 hg w2 hbox hb;have n0_:=O (below_step (q0_ HB) hb);have n1_:=O (hbox);have n2_:=O ((by rw [hg];exact (below_size (q0_ HB)) : w.heap.size ≤ gb428));have n3_:=O ((by rw [hg];exact (below_size (q0_ HB)) : w.heap.size ≤ gb428));clear HB;have HB:=n0_;have BK428:=n1_;have GW428:=n2_;have GE428:=n3_;clear n0_ n1_ n2_ n3_ hb hbox hg) | ((with_reducible refine gate_dst (N:=5) rfl ?_);refine Kd.R_lit (Kd.int .i64) _ 3 ?hg (N:=5) ?hd (xs:=([] : List Int)) (inner:=[]) (ok:=fun _=>True) (okp:=fun _=>True) ?hr ?hp (fun _ hk=>hk) trivial (Below.refl _ _) (Nat.le_refl _) (by simp) ?_;(case hd=>rfl);(case hg=>rfl);(case hr=>first | (go_simp;done) | (go_simp;rfl));(case hp=>exact (Reps.none _ _));intro v430 w3 ho4 hb hg_ hnew_;clear hg_ hnew_;(first | rw [← Ny429.out] at ho4 | (simp only [Int.reduceToNat] at ho4;rw [← Ny429.out] at ho4));have n0_:=O (Kd.R_lower ho4 (below_size (q10_ HB GE428)));have n1_:=O (blk_below (g:=gb428) (o:=.cells #[.slice A0_0 l0_0.length c0_0,.slice A0_1 l0_1.length c0_1,.slice A0_2 l0_2.length c0_2,.slice A0_3 l0_3.length c0_3,.slice A0_4 l0_4.length c0_4] 33 (0,0)) (q6_ BK428) hb);have n2_:=O (below_step (q10_ HB GE428) hb);clear BK428 HB;have HO431:=n0_;have BK428:=n1_;have HB:=n2_;clear n0_ n1_ n2_ hb ho4))
 go_loopg [3,4] k (fun kq v3 v4 w'=>∃ (x3_1 : List Int) (x4_1 : Int),v4 = .int .i64 x4_1 ∧ Aside0 (spec_l3Can.l0 kq x3_1 x4_1 l0_0 l0_1 l0_2 l0_3 l0_4 = some r) ∧ Aside0 (kq ≤ k) ∧ Aside0 (Kd.R (Kd.int .i64) 3 w' w.heap.size (fun _=>True) v3 x3_1) ∧ Aside0 (w'.heap[gb428]? = some (.cells #[(.slice A0_0 l0_0.length c0_0),(.slice A0_1 l0_1.length c0_1),(.slice A0_2 l0_2.length c0_2),(.slice A0_3 l0_3.length c0_3),(.slice A0_4 l0_4.length c0_4)] 33 (0,0))) ∧ Aside0 (Below w.heap.size w w'))
 case atStart=>exact ⟨(y429),(0),(by first | rfl | (simp;done) | (simp [*];done)),H',⟨Nat.le_refl _⟩,⟨by (with_reducible repeat (first | apply Kd.R_alloc | apply Kd.R_drewN | apply Kd.R_drew));exact HO431.out⟩,⟨by (with_reducible repeat (first | refine blk_drewN ?_ _ | refine blk_drew ?_ | refine blk_alloc ?_ _));exact BK428.out⟩,⟨by repeat (first | (with_reducible first | exact HB.out | apply below_alloc | apply pw_below_drewN | apply below_drew1 | refine below_set ?_ GE428.out) | exact HB.out)⟩⟩
 case round =>
  clear H';(try clear c2);(try clear p2);obtain ⟨x3_1,x4_1,rfl,HA,HK1,HO_3,BK428,HB⟩:=hrel
  cases gk with
  | zero=>exact absurd HA.out (by simp [spec_l3Can.l0])
  | succ k1 =>
   have H:=HA.out;clear HA;simp only [spec_l3Can.l0] at H
   by_cases c5 : x4_1 < (l0_0.length : Int)
   ·rw [if_pos c5] at H;have c5b0 : decide (x4_1 < (l0_0.length : Int)) = true:=decide_eq_true c5;clear c5;replace H:=Option.bind_eq_some_iff.mp H;obtain ⟨t432,A60,H⟩:=H;replace H : (if t432 = 0 then (if x3_1.length < 17592186044416 then (spec_l3Can.l0 k1 (x3_1 ++ [x4_1]) (wrap64 (x4_1 + 1)) l0_0 l0_1 l0_2 l0_3 l0_4) else (none)) else (spec_l3Can.l0 k1 x3_1 (wrap64 (x4_1 + 1)) l0_0 l0_1 l0_2 l0_3 l0_4)) = some r:=H;have A6:=O A60;clear A60
    by_cases c7 : t432 = 0
    ·rw [if_pos c7] at H;have c7b0 : (t432 == 0) = true:=beq_iff_eq.mpr c7;have c7b1 : (t432 != 0) = false:=bne_eq_false_iff_eq.mpr c7;clear c7
     by_cases c8 : x3_1.length < 17592186044416
     ·rw [if_pos c8] at H;have LMc8:=O c8;clear c8;obtain ⟨y433,hy433⟩ : ∃ y_ : List Int,y_ = (x3_1 ++ [x4_1]):=⟨_,rfl⟩
      replace H : (spec_l3Can.l0 k1 y433 (wrap64 (x4_1 + 1)) l0_0 l0_1 l0_2 l0_3 l0_4) = some r:=by first | (rw [hy433];with_reducible exact H) | (have H2_:=(Option.bind_some _ _).symm.trans H;rw [hy433];with_reducible exact H2_) | (have H2_:=(Option.bind_some _ _).symm.trans H;with_reducible exact H2_) | with_reducible exact H | (rw [hy433];exact H) | exact H
      have Ny433:=O hy433;clear hy433;have H':=O H;clear H;have hcz9_0 : wr.cell? ⟨gb428,0,none⟩ = some (.slice A0_0 l0_0.length c0_0):=(blk_cell BK428.out 0).trans rfl;have hcz9_1 : wr.cell? ⟨gb428,1,none⟩ = some (.slice A0_1 l0_1.length c0_1):=(blk_cell BK428.out 1).trans rfl;have hcz9_2 : wr.cell? ⟨gb428,2,none⟩ = some (.slice A0_2 l0_2.length c0_2):=(blk_cell BK428.out 2).trans rfl;have hcz9_3 : wr.cell? ⟨gb428,3,none⟩ = some (.slice A0_3 l0_3.length c0_3):=(blk_cell BK428.out 3).trans rfl;have hcz9_4 : wr.cell? ⟨gb428,4,none⟩ = some (.slice A0_4 l0_4.length c0_4):=(blk_cell BK428.out 4).trans rfl;have hfz9_0:=blk_frozen BK428.out 0;have hfz9_1:=blk_frozen BK428.out 1;have hfz9_2:=blk_frozen BK428.out 2;have hfz9_3:=blk_frozen BK428.out 3;have hfz9_4:=blk_frozen BK428.out 4
      go_wp2_with (first | ((with_reducible refine gate_callee (f:=30) rfl ?_);refine goesM_ (some 15) Try.func30 #[.agg #[.slice A0_0 l0_0.length c0_0,.slice A0_1 l0_1.length c0_1,.slice A0_2 l0_2.length c0_2,.slice A0_3 l0_3.length c0_3,.slice A0_4 l0_4.length c0_4],.int .i64 x4_1] ?_;(with_reducible refine (spec_l3Code.calls k1 _ _ l0_0 _ _ l0_1 _ _ l0_2 _ _ l0_3 _ _ l0_4 x4_1 t432 _ ?side1 ?side2 ?side3 ?side4 ?side5 ?side6 ?side7 ?side8 ?side9 ?side10 A6.out).mono ?_);(case side1=>repeat (first | exact (Kd.C_below HR0_0.out HB.out) | (with_reducible refine Kd.C_alloc ?_ _) | (with_reducible refine Kd.C_drewN ?_ _) | (with_reducible refine Kd.C_drew ?_)));(case side2=>exact HC0_0.out);(case side3=>repeat (first | exact (Kd.C_below HR0_1.out HB.out) | (with_reducible refine Kd.C_alloc ?_ _) | (with_reducible refine Kd.C_drewN ?_ _) | (with_reducible refine Kd.C_drew ?_)));(case side4=>exact HC0_1.out);(case side5=>repeat (first | exact (Kd.C_below HR0_2.out HB.out) | (with_reducible refine Kd.C_alloc ?_ _) | (with_reducible refine Kd.C_drewN ?_ _) | (with_reducible refine Kd.C_drew ?_)));(case side6=>exact HC0_2.out);(case side7=>repeat (first | exact (Kd.C_below HR0_3.out HB.out) | (with_reducible refine Kd.C_alloc ?_ _) | (with_reducible refine Kd.C_drewN ?_ _) | (with_reducible refine Kd.C_drew ?_)));(case side8=>exact HC0_3.out);(case side9=>repeat (first | exact (Kd.C_below HR0_4.out HB.out) | (with_reducible refine Kd.C_alloc ?_ _) | (with_reducible refine Kd.C_drewN ?_ _) | (with_reducible refine Kd.C_drew ?_)));(case side10=>exact HC0_4.out);rintro e w10 ⟨rfl,hb⟩;refine ⟨_,rfl,?_⟩;have n0_:=O (Kd.R_below (q8_ HO_3) hb);have n1_:=O (blk_below (g:=gb428) (o:=.cells #[.slice A0_0 l0_0.length c0_0,.slice A0_1 l0_1.length c0_1,.slice A0_2 l0_2.length c0_2,.slice A0_3 l0_3.length c0_3,.slice A0_4 l0_4.length c0_4] 33 (0,0)) (q6_ BK428) hb);have n2_:=O (below_step (q10_ HB GE428) hb);clear HO_3 BK428 HB;have HO_3:=n0_;have BK428:=n1_;have HB:=n2_;clear n0_ n1_ n2_;(try clear hb);(try clear hk)) | ((with_reducible refine gate_builtin (b:=.append) (xs:=#[.tmp 17,.tmp 19]) rfl ?_);at_builtin;refine Kd.R_append (Kd.int .i64) (w0:=w) w.heap.size rfl (.tmp 17) (.tmp 19) 26 3 (.int .i64 0) 8 rfl Try.underlying26 info3 rfl (by decide) (by omega) u3 x3_1 x4_1 [.int .i64 x4_1] (fun _=>True) (fun _=>False) rfl rfl ?aP (fun _ hk=>hk.elim) ?aF ?aO ?aB ?aS ?aL ?_;(case aP=>exact rfl);(case aB=>exact q10_ HB GE428);(case aF=>exact (fun _ _=>trivial));(case aO=>exact q8_ HO_3);(case aS=>exact (below_size (q10_ HB GE428)));(case aL=>have:=LMc8.out;omega);intro v434 w11 ho hb hg hat;rw [← Ny433.out] at ho;have n0_:=O (blk_grown (g:=gb428) (o:=.cells #[.slice A0_0 l0_0.length c0_0,.slice A0_1 l0_1.length c0_1,.slice A0_2 l0_2.length c0_2,.slice A0_3 l0_3.length c0_3,.slice A0_4 l0_4.length c0_4] 33 (0,0)) (q6_ BK428) hg (Kd.R_ne HO_3.out BK428.out (by decide)));have n1_:=O (hb);have n2_:=O (ho);clear BK428 HB HO_3;have BK428:=n0_;have HB:=n1_;have HO435:=n2_;clear n0_ n1_ n2_ ho hb hg hat))
      go_roundg k1
      case measure=>have:=HK1.out;omega
      case rel=>exact ⟨(y433),(wrap64 (x4_1 + 1)),(by first | rfl | (simp;done) | (simp [*];done)),H',⟨by have:=HK1.out;omega⟩,⟨by (with_reducible repeat (first | apply Kd.R_alloc | apply Kd.R_drewN | apply Kd.R_drew));exact HO435.out⟩,⟨by (with_reducible repeat (first | refine blk_drewN ?_ _ | refine blk_drew ?_ | refine blk_alloc ?_ _));exact BK428.out⟩,⟨by repeat (first | (with_reducible first | exact HB.out | apply below_alloc | apply pw_below_drewN | apply below_drew1 | refine below_set ?_ GE428.out) | exact HB.out)⟩⟩
     ·rw [if_neg c8] at H
      exact absurd H (by simp)
    ·rw [if_neg c7] at H;have c7b0 : (t432 == 0) = false:=beq_eq_false_iff_ne.mpr c7;have c7b1 : (t432 != 0) = true:=bne_iff_ne.mpr c7;have H':=O H;clear H;have hcz12_0 : wr.cell? ⟨gb428,0,none⟩ = some (.slice A0_0 l0_0.length c0_0):=(blk_cell BK428.out 0).trans rfl;have hcz12_1 : wr.cell? ⟨gb428,1,none⟩ = some (.slice A0_1 l0_1.length c0_1):=(blk_cell BK428.out 1).trans rfl;have hcz12_2 : wr.cell? ⟨gb428,2,none⟩ = some (.slice A0_2 l0_2.length c0_2):=(blk_cell BK428.out 2).trans rfl;have hcz12_3 : wr.cell? ⟨gb428,3,none⟩ = some (.slice A0_3 l0_3.length c0_3):=(blk_cell BK428.out 3).trans rfl;have hcz12_4 : wr.cell? ⟨gb428,4,none⟩ = some (.slice A0_4 l0_4.length c0_4):=(blk_cell BK428.out 4).trans rfl;have hfz12_0:=blk_frozen BK428.out 0;have hfz12_1:=blk_frozen BK428.out 1;have hfz12_2:=blk_frozen BK428.out 2;have hfz12_3:=blk_frozen BK428.out 3;have hfz12_4:=blk_frozen BK428.out 4
     go_wp2_with (first | ((with_reducible refine gate_callee (f:=30) rfl ?_);refine goesM_ (some 15) Try.func30 #[.agg #[.slice A0_0 l0_0.length c0_0,.slice A0_1 l0_1.length c0_1,.slice A0_2 l0_2.length c0_2,.slice A0_3 l0_3.length c0_3,.slice A0_4 l0_4.length c0_4],.int .i64 x4_1] ?_;(with_reducible refine (spec_l3Code.calls k1 _ _ l0_0 _ _ l0_1 _ _ l0_2 _ _ l0_3 _ _ l0_4 x4_1 t432 _ ?side1 ?side2 ?side3 ?side4 ?side5 ?side6 ?side7 ?side8 ?side9 ?side10 A6.out).mono ?_);(case side1=>repeat (first | exact (Kd.C_below HR0_0.out HB.out) | (with_reducible refine Kd.C_alloc ?_ _) | (with_reducible refine Kd.C_drewN ?_ _) | (with_reducible refine Kd.C_drew ?_)));(case side2=>exact HC0_0.out);(case side3=>repeat (first | exact (Kd.C_below HR0_1.out HB.out) | (with_reducible refine Kd.C_alloc ?_ _) | (with_reducible refine Kd.C_drewN ?_ _) | (with_reducible refine Kd.C_drew ?_)));(case side4=>exact HC0_1.out);(case side5=>repeat (first | exact (Kd.C_below HR0_2.out HB.out) | (with_reducible refine Kd.C_alloc ?_ _) | (with_reducible refine Kd.C_drewN ?_ _) | (with_reducible refine Kd.C_drew ?_)));(case side6=>exact HC0_2.out);(case side7=>repeat (first | exact (Kd.C_below HR0_3.out HB.out) | (with_reducible refine Kd.C_alloc ?_ _) | (with_reducible refine Kd.C_drewN ?_ _) | (with_reducible refine Kd.C_drew ?_)));(case side8=>exact HC0_3.out);(case side9=>repeat (first | exact (Kd.C_below HR0_4.out HB.out) | (with_reducible refine Kd.C_alloc ?_ _) | (with_reducible refine Kd.C_drewN ?_ _) | (with_reducible refine Kd.C_drew ?_)));(case side10=>exact HC0_4.out);rintro e w13 ⟨rfl,hb⟩;refine ⟨_,rfl,?_⟩;have n0_:=O (Kd.R_below (q8_ HO_3) hb);have n1_:=O (blk_below (g:=gb428) (o:=.cells #[.slice A0_0 l0_0.length c0_0,.slice A0_1 l0_1.length c0_1,.slice A0_2 l0_2.length c0_2,.slice A0_3 l0_3.length c0_3,.slice A0_4 l0_4.length c0_4] 33 (0,0)) (q6_ BK428) hb);have n2_:=O (below_step (q10_ HB GE428) hb);clear HO_3 BK428 HB;have HO_3:=n0_;have BK428:=n1_;have HB:=n2_;clear n0_ n1_ n2_;(try clear hb)))
     go_roundg k1
     case measure=>have:=HK1.out;omega
     case rel=>exact ⟨(x3_1),(wrap64 (x4_1 + 1)),(by first | rfl | (simp;done) | (simp [*];done)),H',⟨by have:=HK1.out;omega⟩,⟨by (with_reducible repeat (first | apply Kd.R_alloc | apply Kd.R_drewN | apply Kd.R_drew));exact HO_3.out⟩,⟨by (with_reducible repeat (first | refine blk_drewN ?_ _ | refine blk_drew ?_ | refine blk_alloc ?_ _));exact BK428.out⟩,⟨by repeat (first | (with_reducible first | exact HB.out | apply below_alloc | apply pw_below_drewN | apply below_drew1 | refine below_set ?_ GE428.out) | exact HB.out)⟩⟩
   ·rw [if_neg c5] at H;have c5b0 : decide (x4_1 < (l0_0.length : Int)) = false:=decide_eq_false c5;clear c5;obtain rfl:=Option.some.inj H;have hcz14_0 : wr.cell? ⟨gb428,0,none⟩ = some (.slice A0_0 l0_0.length c0_0):=(blk_cell BK428.out 0).trans rfl;have hcz14_1 : wr.cell? ⟨gb428,1,none⟩ = some (.slice A0_1 l0_1.length c0_1):=(blk_cell BK428.out 1).trans rfl;have hcz14_2 : wr.cell? ⟨gb428,2,none⟩ = some (.slice A0_2 l0_2.length c0_2):=(blk_cell BK428.out 2).trans rfl;have hcz14_3 : wr.cell? ⟨gb428,3,none⟩ = some (.slice A0_3 l0_3.length c0_3):=(blk_cell BK428.out 3).trans rfl;have hcz14_4 : wr.cell? ⟨gb428,4,none⟩ = some (.slice A0_4 l0_4.length c0_4):=(blk_cell BK428.out 4).trans rfl;have hfz14_0:=blk_frozen BK428.out 0;have hfz14_1:=blk_frozen BK428.out 1;have hfz14_2:=blk_frozen BK428.out 2;have hfz14_3:=blk_frozen BK428.out 3;have hfz14_4:=blk_frozen BK428.out 4
    go_wp2
    go_ret
    exact ⟨_,by first | rfl | (simp [errW_none,errW_some] <;> rfl) | (simp [*,errW_none,errW_some] <;> rfl),by (with_reducible repeat (first | apply Kd.R_alloc | apply Kd.R_drewN | apply Kd.R_drew));exact HO_3.out,by repeat (first | (with_reducible first | exact HB.out | apply below_alloc | apply pw_below_drewN | apply below_drew1 | refine below_set ?_ GE428.out) | exact HB.out)⟩
end Go.Proofs.Ytfbocgagfodgnaa.P

namespace Go.Proofs.Ytfbocgagfodgnaa.P
open Go.RowKit Go.Proofs.YtfbocgagfodgnaaW.PrintWords Go.Proofs.YtfbocgagfodgnaaW.PrintLast Go.Proofs.YtfbocgagfodgnaaW.PrintMore
open Go.Proofs.YtfbocgagfodgnaaW.PrintWords renaming Aside0.mk → O
open Go.RowKit renaming wrap64 → Z
attribute [local go_sem] max2_int min2_int max_two min_two max_three min_three max_four min_four
set_option linter.unusedVariables false
set_option linter.unusedSimpArgs false
def IsS53 (w0 W : World) (g : Nat) (f0 : List Int) (f1 : Int) : Prop:=∃ A0 c0,W.heap[g]? = some (.cells #[.slice A0 f0.length c0,.int .i64 f1] 53 (0,0)) ∧ w0.heap.size ≤ g ∧ Kd.C (Kd.int .u8) w0 A0 f0.length f0
theorem IsS53.grown {w0 W : World} {g : Nat} {f0 : List Int} {f1 : Int} {W1 : World} {row : Option Nat} (h : IsS53 w0 W g f0 f1) (hw : W.grownBy W1 row) (hne : some g ≠ row) : IsS53 w0 W1 g f0 f1:=by
 obtain ⟨A0,c0,hb,hg,hr0⟩:=h
 exact ⟨A0,c0,blk_grown hb hw hne,hg,hr0⟩
theorem IsS53.own_neN {w0 W : World} {g : Nat} {f0 : List Int} {f1 : Int} {α : Type} {d : Kd α} {e : Nat} {base : Nat} {ok : Nat → Prop} {v : Value} {xs : List α} (h : IsS53 w0 W g f0 f1) (ho : Kd.N d e W base ok v xs) (ht : e ≠ 53) : some g ≠ v.ownBlock:=by
 obtain ⟨A0,c0,hb,hg,hr0⟩:=h
 exact Kd.N_ne ho hb ht
theorem IsS53.fresh {w0 W : World} {g : Nat} {f0 : List Int} {f1 : Int} (h : IsS53 w0 W g f0 f1) : ∀ k,W.heap.size ≤ k → k ≠ g:=by
 obtain ⟨A0,c0,hb,hg,hr0⟩:=h
 exact Kd.freshB hb
theorem IsS53.kept {w0 W : World} {g : Nat} {f0 : List Int} {f1 : Int} {W1 : World} {S : Nat → Prop} (h : IsS53 w0 W g f0 f1) (hk : Kept W W1 S) (hne : ¬ S g) : IsS53 w0 W1 g f0 f1:=by
 obtain ⟨A0,c0,hb,hg,hr0⟩:=h
 exact ⟨A0,c0,blk_kept hb hk hne,hg,hr0⟩
theorem IsS53.below {w0 W : World} {g : Nat} {f0 : List Int} {f1 : Int} {W1 : World} (h : IsS53 w0 W g f0 f1) (hw : Below W.heap.size W W1) : IsS53 w0 W1 g f0 f1:=h.grown (grown_of_below hw none) (by simp)
theorem IsS53.alloc {w0 W : World} {g : Nat} {f0 : List Int} {f1 : Int} (h : IsS53 w0 W g f0 f1) (o : Obj) : IsS53 w0 (W.alloc o) g f0 f1:=h.below (below_alloc (Below.refl _ _) o)
theorem IsS53.drewN {w0 W : World} {g : Nat} {f0 : List Int} {f1 : Int} (h : IsS53 w0 W g f0 f1) (m : Nat) : IsS53 w0 (W.drewN m) g f0 f1:=h
theorem IsS53.drew {w0 W : World} {g : Nat} {f0 : List Int} {f1 : Int} (h : IsS53 w0 W g f0 f1) : IsS53 w0 W.drew g f0 f1:=h
theorem IsS53.at_ {w0 W : World} {g : Nat} {f0 : List Int} {f1 : Int} {w' : World} {m : Nat} (hq : W.drewN m = w') (h : IsS53 w0 W g f0 f1) : IsS53 w0 w' g f0 f1:=by subst hq;exact IsS53.drewN h m
theorem IsS53.apart {w0 W : World} {g : Nat} {f0 : List Int} {f1 : Int} {α : Type} {d : Kd α} {e : Nat} {base : Nat} {ok : Nat → Prop} {v : Value} {xs : List α} (h : IsS53 w0 W g f0 f1) (ho : d.R e W base ok v xs) (ht : ∀ q,q ∈ e :: d.E → q ≠ 53) : d.R e W base (fun k=>ok k ∧ k ≠ g) v xs:=by
 obtain ⟨A0,c0,hb,hg,hr0⟩:=h
 exact Kd.R_types ho hb ht
theorem IsS53.own_ne {w0 W : World} {g : Nat} {f0 : List Int} {f1 : Int} {α : Type} {d : Kd α} {e : Nat} {base : Nat} {ok : Nat → Prop} {v : Value} {xs : List α} (h : IsS53 w0 W g f0 f1) (ho : d.R e W base ok v xs) (ht : e ≠ 53) : some g ≠ v.ownBlock:=by
 obtain ⟨A0,c0,hb,hg,hr0⟩:=h
 exact Kd.R_ne ho hb ht
theorem IsS53.lt {w0 W : World} {g : Nat} {f0 : List Int} {f1 : Int} (h : IsS53 w0 W g f0 f1) : g < W.heap.size:=by
 obtain ⟨A0,c0,hb,hg,hr0⟩:=h
 exact blk_lt hb
theorem IsS53.ge {w0 W : World} {g : Nat} {f0 : List Int} {f1 : Int} (h : IsS53 w0 W g f0 f1) : w0.heap.size ≤ g:=by
 obtain ⟨A0,c0,hb,hg,hr0⟩:=h
 exact hg
theorem IsS53.far {w0 W : World} {g : Nat} {f0 : List Int} {f1 : Int} {p : Addr} (h : IsS53 w0 W g f0 f1) (hne : g ≠ p.block) (u : Value) : IsS53 w0 (W.setCell p u) g f0 f1:=by
 obtain ⟨A0,c0,hb,hg,hr0⟩:=h
 exact ⟨A0,c0,blk_far hb hne u,hg,hr0⟩
theorem cellS53_0 {W : World} {g : Nat} {A0 : Option Addr} {c0 : Nat} {f0 : List Int} {f1 : Int} (h : W.heap[g]? = some (.cells #[.slice A0 f0.length c0,.int .i64 f1] 53 (0,0))) : W.cell? ⟨g,0,none⟩ = some (.slice A0 f0.length c0):=(blk_cell h 0).trans rfl
theorem cellS53_1 {W : World} {g : Nat} {A0 : Option Addr} {c0 : Nat} {f0 : List Int} {f1 : Int} (h : W.heap[g]? = some (.cells #[.slice A0 f0.length c0,.int .i64 f1] 53 (0,0))) : W.cell? ⟨g,1,none⟩ = some (.int .i64 f1):=(blk_cell h 1).trans rfl
theorem IsS53.set_1 {w0 W : World} {g : Nat} {f0 : List Int} {f1 : Int} (h : IsS53 w0 W g f0 f1) (x : Int) : IsS53 w0 (W.setCell ⟨g,1,none⟩ (.int .i64 x)) g f0 x:=by
 obtain ⟨A0,c0,hb,hg,hr0⟩:=h
 exact ⟨A0,c0,by simpa using blk_set hb 1 (.int .i64 x),hg,hr0⟩
def spec_l11Open.f (l0 : List Int) : Option (List Int × Int):=if (l0.length : Int) > 2000 then (if 2000 ≤ (l0.length : Int) then (some (l0.take 2000,0)) else (none)) else (some (l0,0))
set_option maxHeartbeats 8000000 in
set_option maxRecDepth 100000 in
theorem spec_l11Open.calls (A0 : Option Addr) (c0 : Nat) (l0 : List Int) (r1 : List Int) (r2 : Int) (w0 w : World) (hB : Below w0.heap.size w0 w) (hr0 : Kd.C (Kd.int .u8) w0 A0 l0.length l0) (hc0 : l0.length ≤ c0) (h : spec_l11Open.f l0 = some (r1,r2)) :
  Calls Try.prog 12 #[.slice A0 l0.length c0] w fun e w'=>∃ g_ : Nat,e = .returned (.pointer (some ⟨g_,0,none⟩)) ∧ IsS53 w0 w' g_ r1 r2 ∧ Below w0.heap.size w0 w' ∧ Below w.heap.size w w':=by
 have hu53:=Try.underlying53;have HR0:=O hr0;have HC0:=O hc0;clear hr0 hc0;have HBW:=O (Below.refl w.heap.size w);have HW0:=O hB.size;have HB:=O hB;clear hB;have H : (if (l0.length : Int) > 2000 then (if 2000 ≤ (l0.length : Int) then (some (l0.take 2000,0)) else (none)) else (some (l0,0))) = some (r1,r2):=h;clear h
 by_cases c2 : (l0.length : Int) > 2000
 ·rw [if_pos c2] at H;have c2b0 : decide (2000 < (l0.length : Int)) = true:=decide_eq_true c2
  have c2b1 : decide (2000 < l0.length) = true:=decide_eq_true (by omega)
  clear c2
  by_cases c3 : 2000 ≤ (l0.length : Int)
  ·rw [if_pos c3] at H;have c3b0:=eq_true c3;have c3b1 : decide (2000 ≤ (l0.length : Int)) = true:=decide_eq_true c3;clear c3;simp only [Option.some.injEq,Prod.mk.injEq] at H;obtain ⟨rfl,rfl⟩:=H;obtain ⟨i04,hi04,_,hsz4,_⟩:=info_parts info5
   obtain ⟨hcut4,hA4,hC4⟩:=print_take_of (P:=Try.prog) (Value.int .u8) 0 22 5 .i64 Try.underlying22 hi04 hsz4 A0 c0 l0 2000 (by omega) (of_decide_eq_true (by first | (with_reducible assumption) | assumption)) HC0.out
   have HR101:=O (Kd.C_of_reads (h1:=fun _=>rfl) (hA4 _ (Kd.reads_of_C HR0.out)));have HC101:=O hC4;clear hA4 hC4 hi04 hsz4;go_enter Try.func12,Try.ntmps12
   go_wp2_with (first | ((with_reducible refine gate_dst (N:=10) rfl ?_);refine box_event ?hg (N:=10) ?hd (cs:=#[.slice A0 (l0.take 2000).length c0,.int .i64 0]) (t:=53) ?hr ?_;(case hd=>rfl);(case hg=>rfl);(case hr=>first | (go_simp;done) | (go_simp;rfl));intro gb102 hg w5 hbox hb;have n0_:=O (below_step HBW.out hb);have n1_:=O (below_step (q0_ HB) hb);have n2_:=O (hbox);have n3_:=O ((by rw [hg];exact (below_size (q0_ HBW)) : w.heap.size ≤ gb102));have n4_:=O ((Nat.le_trans HW0.out (by rw [hg];exact (below_size (q0_ HBW)) : w.heap.size ≤ gb102) : w0.heap.size ≤ gb102));clear HBW HB;have HBW:=n0_;have HB:=n1_;have BK102:=n2_;have GW102:=n3_;have GE102:=n4_;clear n0_ n1_ n2_ n3_ n4_ hb hbox hg))
   go_ret
   exact ⟨_,rfl,(show IsS53 w0 _ gb102 (l0.take 2000) 0 from ⟨_,_,by (with_reducible repeat (first | refine blk_drewN ?_ _ | refine blk_drew ?_ | refine blk_alloc ?_ _));exact BK102.out,GE102.out,HR101.out⟩),by repeat (first | (with_reducible first | exact HB.out | apply below_alloc | apply pw_below_drewN | apply below_drew1 | refine below_set ?_ GE102.out) | exact HB.out),by repeat (first | (with_reducible first | exact HBW.out | apply below_alloc | apply pw_below_drewN | apply below_drew1 | refine below_set ?_ GW102.out) | exact HBW.out)⟩
  ·rw [if_neg c3] at H
   exact absurd H (by simp)
 ·rw [if_neg c2] at H;have c2b0 : decide (2000 < (l0.length : Int)) = false:=decide_eq_false c2
  have c2b1 : decide (2000 < l0.length) = false:=decide_eq_false (by omega)
  clear c2;simp only [Option.some.injEq,Prod.mk.injEq] at H;obtain ⟨rfl,rfl⟩:=H;go_enter Try.func12,Try.ntmps12
  go_wp2_with (first | ((with_reducible refine gate_dst (N:=10) rfl ?_);refine box_event ?hg (N:=10) ?hd (cs:=#[.slice A0 l0.length c0,.int .i64 0]) (t:=53) ?hr ?_;(case hd=>rfl);(case hg=>rfl);(case hr=>first | (go_simp;done) | (go_simp;rfl));intro gb103 hg w6 hbox hb;have n0_:=O (below_step HBW.out hb);have n1_:=O (below_step (q0_ HB) hb);have n2_:=O (hbox);have n3_:=O ((by rw [hg];exact (below_size (q0_ HBW)) : w.heap.size ≤ gb103));have n4_:=O ((Nat.le_trans HW0.out (by rw [hg];exact (below_size (q0_ HBW)) : w.heap.size ≤ gb103) : w0.heap.size ≤ gb103));clear HBW HB;have HBW:=n0_;have HB:=n1_;have BK103:=n2_;have GW103:=n3_;have GE103:=n4_;clear n0_ n1_ n2_ n3_ n4_ hb hbox hg))
  go_ret
  exact ⟨_,rfl,(show IsS53 w0 _ gb103 l0 0 from ⟨_,_,by (with_reducible repeat (first | refine blk_drewN ?_ _ | refine blk_drew ?_ | refine blk_alloc ?_ _));exact BK103.out,GE103.out,HR0.out⟩),by repeat (first | (with_reducible first | exact HB.out | apply below_alloc | apply pw_below_drewN | apply below_drew1 | refine below_set ?_ GE103.out) | exact HB.out),by repeat (first | (with_reducible first | exact HBW.out | apply below_alloc | apply pw_below_drewN | apply below_drew1 | refine below_set ?_ GW103.out) | exact HBW.out)⟩
def spec_l11Rd_pick.j0 : Nat → Int → Bool → List Int → Int → Option (Int × Int)
 | 0,_,_,_,_=>none
 | k + 1,x1,x24,x1000,x1001=>if x24 = true then (some (0,x1001)) else (if (Z (x1001 - 1)) < (x1000.length : Int) then (if 0 ≤ (Z (x1001 - 1)) then (if x1 = 0 then (none) else (some (Int.tmod (Z (rd x1000 (Z (x1001 - 1)))) x1,x1001))) else (none)) else (if (x1000.length : Int) = 0 then (none) else (if 0 ≤ (Int.tmod (Z (x1001 - 1)) (x1000.length : Int)) then (if (Int.tmod (Z (x1001 - 1)) (x1000.length : Int)) < (x1000.length : Int) then (if 0 ≤ (Int.tmod (Z ((Z ((Z (x1001 - 1)) * 7)) + 3)) (x1000.length : Int)) then (if (Int.tmod (Z ((Z ((Z (x1001 - 1)) * 7)) + 3)) (x1000.length : Int)) < (x1000.length : Int) then (if x1 = 0 then (none) else (some (Int.tmod (Go.bits .xor .i64 (Z ((Z ((Z ((Z ((Z (rd x1000 (Int.tmod (Z (x1001 - 1)) (x1000.length : Int)))) * 131)) + (Z ((Z (rd x1000 (Int.tmod (Z ((Z ((Z (x1001 - 1)) * 7)) + 3)) (x1000.length : Int)))) * 1117)))) + (Z ((Z (x1001 - 1)) * 29)))) + (Z ((Z (Int.tdiv (Z (x1001 - 1)) (x1000.length : Int))) * 53)))) (Z (Int.tdiv (Z ((Z ((Z ((Z ((Z (rd x1000 (Int.tmod (Z (x1001 - 1)) (x1000.length : Int)))) * 131)) + (Z ((Z (rd x1000 (Int.tmod (Z ((Z ((Z (x1001 - 1)) * 7)) + 3)) (x1000.length : Int)))) * 1117)))) + (Z ((Z (x1001 - 1)) * 29)))) + (Z ((Z (Int.tdiv (Z (x1001 - 1)) (x1000.length : Int))) * 53)))) 64))) x1,x1001))) else (none)) else (none)) else (none)) else (none))))
def spec_l11Rd_pick.f (k : Nat) (s0_0 : List Int) (s0_1 : Int) (a1 : Int) : Option (Int × Int):=if a1 < 1 then (spec_l11Rd_pick.j0 k a1 true s0_0 (Z (s0_1 + 1))) else (spec_l11Rd_pick.j0 k a1 ((s0_0.length : Int) == 0) s0_0 (Z (s0_1 + 1)))
set_option maxHeartbeats 8000000 in
set_option maxRecDepth 100000 in
theorem spec_l11Rd_pick.calls (k : Nat) (g : Nat) (s0_0 : List Int) (s0_1 : Int) (a1 : Int) (r1 : Int) (r2 : Int) (w0 w : World) (hI : IsS53 w0 w g s0_0 s0_1) (hB : Below w0.heap.size w0 w) (h : spec_l11Rd_pick.f k s0_0 s0_1 a1 = some (r1,r2)) :
  Calls Try.prog 16 #[.pointer (some ⟨g,0,none⟩),.int .i64 a1] w fun e w'=>e = .returned (.int .i64 r1) ∧ IsS53 w0 w' g s0_0 r2 ∧ Below w0.heap.size w0 w' ∧ KeepBut w w' g none:=by
 have HI0:=O hI;have HK:=O (KeepBut.refl w g none);have HL:=O hB.size;clear hI;have HW0:=O hB.size;have HB:=O hB;clear hB;have H : (if a1 < 1 then (spec_l11Rd_pick.j0 k a1 true s0_0 (Z (s0_1 + 1))) else (spec_l11Rd_pick.j0 k a1 ((s0_0.length : Int) == 0) s0_0 (Z (s0_1 + 1)))) = some (r1,r2):=h;clear h;have HC3:=O H;clear H;obtain ⟨ASz4_0,cSz4_0,HGz4,hgz4,HSz4_0⟩:=HI0.out;have hcz4_0:=cellS53_0 HGz4;have hcz4_1:=cellS53_1 HGz4;have hfz4_1:=blk_frozen HGz4 1;clear HGz4 hgz4;go_enter Try.func16,Try.ntmps16
 go_upto_region 2 with (fail)
 repeat (go_quiet (fail);go_upto_region 2 with (fail))
 go_cut [24] (fun v24 wc=>∃ (kq : Nat) (x24_2 : Bool),v24 = .bool x24_2 ∧ Aside0 (spec_l11Rd_pick.j0 kq a1 x24_2 s0_0 (Z (s0_1 + 1)) = some (r1,r2)) ∧ Aside0 (kq ≤ k) ∧ Aside0 (IsS53 w0 wc g s0_0 (Z (s0_1 + 1))) ∧ Aside0 (KeepBut w wc g none) ∧ Aside0 (Below w0.heap.size w0 wc))
 case first =>
  have H:=HC3.out;clear HC3
  by_cases c5 : a1 < 1
  ·rw [if_pos c5] at H;have c5b0 : decide (a1 < 1) = true:=decide_eq_true c5;clear c5
   (first | rw [c5b0] | (simp only [i64_w,i32_w];rw [c5b0]) | skip)
   have H':=O H;clear H
   go_wp2
   repeat (go_quiet (fail);try go_wp2)
   go_meet
   case rel=>exact ⟨_,(true),(by first | rfl | (simp;done) | (simp [*];done)),H',⟨by first | omega | exact Nat.le_refl _⟩,⟨by repeat (first | (with_reducible first | exact HI0.out | apply IsS53.alloc | apply IsS53.drewN | apply IsS53.drew | apply IsS53.set_1) | exact HI0.out)⟩,⟨by repeat (first | (with_reducible first | exact HK.out | apply KeepBut.set_ | apply keep_drewN | apply keep_drew | apply keep_alloc) | exact HK.out)⟩,⟨by repeat (first | (with_reducible first | exact HB.out | apply below_alloc | apply pw_below_drewN | apply below_drew1 | refine below_set ?_ (IsS53.ge HI0.out)) | exact HB.out)⟩⟩
  ·rw [if_neg c5] at H;have c5b0 : decide (a1 < 1) = false:=decide_eq_false c5;clear c5
   (first | rw [c5b0] | (simp only [i64_w,i32_w];rw [c5b0]) | skip)
   have H':=O H;clear H;obtain ⟨ASz6_0,cSz6_0,HGz6,hgz6,HSz6_0⟩:=HI0.out;have hcz6_0:=cellS53_0 HGz6;have hcz6_1:=cellS53_1 HGz6;have hfz6_1:=blk_frozen HGz6 1;clear HGz6 hgz6
   go_wp2
   repeat (go_quiet (fail);try go_wp2)
   go_meet
   case rel=>exact ⟨_,(((s0_0.length : Int) == 0)),(by first | rfl | (simp;done) | (simp [*];done)),H',⟨by first | omega | exact Nat.le_refl _⟩,⟨by repeat (first | (with_reducible first | exact HI0.out | apply IsS53.alloc | apply IsS53.drewN | apply IsS53.drew | apply IsS53.set_1) | exact HI0.out)⟩,⟨by repeat (first | (with_reducible first | exact HK.out | apply KeepBut.set_ | apply keep_drewN | apply keep_drew | apply keep_alloc) | exact HK.out)⟩,⟨by repeat (first | (with_reducible first | exact HB.out | apply below_alloc | apply pw_below_drewN | apply below_drew1 | refine below_set ?_ (IsS53.ge HI0.out)) | exact HB.out)⟩⟩
 case rest =>
  clear HC3;(try clear c1);(try clear p2);(try clear c5);(try clear c5b0);(try clear p6);(try clear hcz4_0);(try clear hcz4_1);(try clear hcz6_0);(try clear hcz6_1);(try clear hfz4_1);(try clear hfz6_1);obtain ⟨kq,x24_2,rfl,HA,HJ2,HI0,HK,HB⟩:=hcut
  cases kq with
  | zero=>exact absurd HA.out (by simp [spec_l11Rd_pick.j0])
  | succ kj2 =>
   have H:=HA.out;clear HA;simp only [spec_l11Rd_pick.j0] at H
   by_cases c7 : x24_2 = true
   ·subst c7
    have H1 : (some (0,(Z (s0_1 + 1)))) = some (r1,r2):=by rw [if_pos rfl] at H;exact H
    clear H;have H:=H1;clear H1;simp only [Option.some.injEq,Prod.mk.injEq] at H;obtain ⟨rfl,rfl⟩:=H
    go_wp2
    repeat (go_quiet (fail);try go_wp2)
    go_ret
    exact ⟨by first | rfl | (simp [errW_none,errW_some] <;> rfl) | (simp [*,errW_none,errW_some] <;> rfl),by repeat (first | (with_reducible first | exact HI0.out | apply IsS53.alloc | apply IsS53.drewN | apply IsS53.drew | apply IsS53.set_1) | exact HI0.out),by repeat (first | (with_reducible first | exact HB.out | apply below_alloc | apply pw_below_drewN | apply below_drew1 | refine below_set ?_ (IsS53.ge HI0.out)) | exact HB.out),by repeat (first | (with_reducible first | exact HK.out | apply KeepBut.set_ | apply keep_drewN | apply keep_drew | apply keep_alloc) | exact HK.out)⟩
   ·replace c7:=Bool.eq_false_iff.mpr c7;subst c7
    have H1 : (if (Z ((Z (s0_1 + 1)) - 1)) < (s0_0.length : Int) then (if 0 ≤ (Z ((Z (s0_1 + 1)) - 1)) then (if a1 = 0 then (none) else (some (Int.tmod (Z (rd s0_0 (Z ((Z (s0_1 + 1)) - 1)))) a1,(Z (s0_1 + 1))))) else (none)) else (if (s0_0.length : Int) = 0 then (none) else (if 0 ≤ (Int.tmod (Z ((Z (s0_1 + 1)) - 1)) (s0_0.length : Int)) then (if (Int.tmod (Z ((Z (s0_1 + 1)) - 1)) (s0_0.length : Int)) < (s0_0.length : Int) then (if 0 ≤ (Int.tmod (Z ((Z ((Z ((Z (s0_1 + 1)) - 1)) * 7)) + 3)) (s0_0.length : Int)) then (if (Int.tmod (Z ((Z ((Z ((Z (s0_1 + 1)) - 1)) * 7)) + 3)) (s0_0.length : Int)) < (s0_0.length : Int) then (if a1 = 0 then (none) else (some (Int.tmod (Go.bits .xor .i64 (Z ((Z ((Z ((Z ((Z (rd s0_0 (Int.tmod (Z ((Z (s0_1 + 1)) - 1)) (s0_0.length : Int)))) * 131)) + (Z ((Z (rd s0_0 (Int.tmod (Z ((Z ((Z ((Z (s0_1 + 1)) - 1)) * 7)) + 3)) (s0_0.length : Int)))) * 1117)))) + (Z ((Z ((Z (s0_1 + 1)) - 1)) * 29)))) + (Z ((Z (Int.tdiv (Z ((Z (s0_1 + 1)) - 1)) (s0_0.length : Int))) * 53)))) (Z (Int.tdiv (Z ((Z ((Z ((Z ((Z (rd s0_0 (Int.tmod (Z ((Z (s0_1 + 1)) - 1)) (s0_0.length : Int)))) * 131)) + (Z ((Z (rd s0_0 (Int.tmod (Z ((Z ((Z ((Z (s0_1 + 1)) - 1)) * 7)) + 3)) (s0_0.length : Int)))) * 1117)))) + (Z ((Z ((Z (s0_1 + 1)) - 1)) * 29)))) + (Z ((Z (Int.tdiv (Z ((Z (s0_1 + 1)) - 1)) (s0_0.length : Int))) * 53)))) 64))) a1,(Z (s0_1 + 1))))) else (none)) else (none)) else (none)) else (none)))) = some (r1,r2):=by rw [if_neg (show ¬ (false = true) by decide)] at H;exact H
    clear H;have H:=H1;clear H1
    by_cases c8 : (Z ((Z (s0_1 + 1)) - 1)) < (s0_0.length : Int)
    ·rw [if_pos c8] at H;have c8b0 : decide ((Z ((Z (s0_1 + 1)) - 1)) < (s0_0.length : Int)) = true:=decide_eq_true c8;clear c8;obtain ⟨ji9,hji9⟩ : ∃ j_ : Int,(Z ((Z (s0_1 + 1)) - 1)) = j_:=⟨_,rfl⟩
     replace H : (if 0 ≤ (ji9) then (if a1 = 0 then (none) else (some (Int.tmod (Z (rd s0_0 (ji9))) a1,(Z (s0_1 + 1))))) else (none)) = some (r1,r2):=by first | (rw [hji9] at H;exact H) | (simp only [hji9] at H ⊢;exact H)
     (try rw [hji9] at c8b0)
     have hji9w : (IntKind.i64.wrap ((Z (s0_1 + 1)) - 1)) = ji9:=(i64_w _).trans hji9
     by_cases c10 : 0 ≤ (ji9)
     ·rw [if_pos c10] at H;have c10b0 : decide (0 ≤ (ji9)) = true:=decide_eq_true c10;clear c10
      by_cases c11 : a1 = 0
      ·rw [if_pos c11] at H
       exact absurd H (by simp)
      ·rw [if_neg c11] at H;have c11b0 : (a1 == 0) = false:=beq_eq_false_iff_ne.mpr c11;have c11b1 : (a1 != 0) = true:=bne_iff_ne.mpr c11;simp only [Option.some.injEq,Prod.mk.injEq] at H;obtain ⟨rfl,rfl⟩:=H;obtain ⟨ASz12_0,cSz12_0,HGz12,hgz12,HSz12_0⟩:=HI0.out;have hcz12_0:=cellS53_0 HGz12;have hcz12_1:=cellS53_1 HGz12;have hfz12_1:=blk_frozen HGz12 1;clear HGz12 hgz12
       have p104 : 0 ≤ ((ji9) : Int):=of_decide_eq_true (by first | (with_reducible assumption) | assumption)
       have q104 : (ji9) < (s0_0.length : Int):=of_decide_eq_true (by first | (with_reducible assumption) | assumption)
       obtain ⟨ad104,e104,hx104_0⟩:=Kd.at_int HSz12_0 (ji9) p104 q104
       cases e104
       replace hx104_0:=pw_cell_below HB.out hx104_0;replace p104:=eq_true p104;replace q104:=eq_true q104
       go_wp2
       repeat (go_quiet (fail);try go_wp2)
       go_ret
       exact ⟨by first | rfl | (simp [errW_none,errW_some] <;> rfl) | (simp only [← hji9];first | rfl | (simp [errW_none,errW_some] <;> rfl)) | (simp [*,errW_none,errW_some] <;> rfl),by repeat (first | (with_reducible first | exact HI0.out | apply IsS53.alloc | apply IsS53.drewN | apply IsS53.drew | apply IsS53.set_1) | exact HI0.out),by repeat (first | (with_reducible first | exact HB.out | apply below_alloc | apply pw_below_drewN | apply below_drew1 | refine below_set ?_ (IsS53.ge HI0.out)) | exact HB.out),by repeat (first | (with_reducible first | exact HK.out | apply KeepBut.set_ | apply keep_drewN | apply keep_drew | apply keep_alloc) | exact HK.out)⟩
     ·rw [if_neg c10] at H
      exact absurd H (by simp)
    ·rw [if_neg c8] at H;have c8b0 : decide ((Z ((Z (s0_1 + 1)) - 1)) < (s0_0.length : Int)) = false:=decide_eq_false c8;clear c8
     by_cases c13 : (s0_0.length : Int) = 0
     ·rw [if_pos c13] at H
      exact absurd H (by simp)
     ·rw [if_neg c13] at H;have c13b0 : ((s0_0.length : Int) == 0) = false:=beq_eq_false_iff_ne.mpr c13;have c13b1 : ((s0_0.length : Int) != 0) = true:=bne_iff_ne.mpr c13
      have c13b2 : ¬ (s0_0 = []):=fun h_=>c13 (by rw [h_];rfl)
      obtain ⟨ji14,hji14⟩ : ∃ j_ : Int,(Int.tmod (Z ((Z (s0_1 + 1)) - 1)) (s0_0.length : Int)) = j_:=⟨_,rfl⟩
      replace H : (if 0 ≤ (ji14) then (if (ji14) < (s0_0.length : Int) then (if 0 ≤ (Int.tmod (Z ((Z ((Z ((Z (s0_1 + 1)) - 1)) * 7)) + 3)) (s0_0.length : Int)) then (if (Int.tmod (Z ((Z ((Z ((Z (s0_1 + 1)) - 1)) * 7)) + 3)) (s0_0.length : Int)) < (s0_0.length : Int) then (if a1 = 0 then (none) else (some (Int.tmod (Go.bits .xor .i64 (Z ((Z ((Z ((Z ((Z (rd s0_0 (ji14))) * 131)) + (Z ((Z (rd s0_0 (Int.tmod (Z ((Z ((Z ((Z (s0_1 + 1)) - 1)) * 7)) + 3)) (s0_0.length : Int)))) * 1117)))) + (Z ((Z ((Z (s0_1 + 1)) - 1)) * 29)))) + (Z ((Z (Int.tdiv (Z ((Z (s0_1 + 1)) - 1)) (s0_0.length : Int))) * 53)))) (Z (Int.tdiv (Z ((Z ((Z ((Z ((Z (rd s0_0 (ji14))) * 131)) + (Z ((Z (rd s0_0 (Int.tmod (Z ((Z ((Z ((Z (s0_1 + 1)) - 1)) * 7)) + 3)) (s0_0.length : Int)))) * 1117)))) + (Z ((Z ((Z (s0_1 + 1)) - 1)) * 29)))) + (Z ((Z (Int.tdiv (Z ((Z (s0_1 + 1)) - 1)) (s0_0.length : Int))) * 53)))) 64))) a1,(Z (s0_1 + 1))))) else (none)) else (none)) else (none)) else (none)) = some (r1,r2):=by first | (rw [hji14] at H;exact H) | (simp only [hji14] at H ⊢;exact H)
      by_cases c15 : 0 ≤ (ji14)
      ·rw [if_pos c15] at H;have c15b0 : decide (0 ≤ (ji14)) = true:=decide_eq_true c15;clear c15
       by_cases c16 : (ji14) < (s0_0.length : Int)
       ·rw [if_pos c16] at H;have c16b0 : decide ((ji14) < (s0_0.length : Int)) = true:=decide_eq_true c16;clear c16;obtain ⟨ji17,hji17⟩ : ∃ j_ : Int,(Int.tmod (Z ((Z ((Z ((Z (s0_1 + 1)) - 1)) * 7)) + 3)) (s0_0.length : Int)) = j_:=⟨_,rfl⟩
        replace H : (if 0 ≤ (ji17) then (if (ji17) < (s0_0.length : Int) then (if a1 = 0 then (none) else (some (Int.tmod (Go.bits .xor .i64 (Z ((Z ((Z ((Z ((Z (rd s0_0 (ji14))) * 131)) + (Z ((Z (rd s0_0 (ji17))) * 1117)))) + (Z ((Z ((Z (s0_1 + 1)) - 1)) * 29)))) + (Z ((Z (Int.tdiv (Z ((Z (s0_1 + 1)) - 1)) (s0_0.length : Int))) * 53)))) (Z (Int.tdiv (Z ((Z ((Z ((Z ((Z (rd s0_0 (ji14))) * 131)) + (Z ((Z (rd s0_0 (ji17))) * 1117)))) + (Z ((Z ((Z (s0_1 + 1)) - 1)) * 29)))) + (Z ((Z (Int.tdiv (Z ((Z (s0_1 + 1)) - 1)) (s0_0.length : Int))) * 53)))) 64))) a1,(Z (s0_1 + 1))))) else (none)) else (none)) = some (r1,r2):=by first | (rw [hji17] at H;exact H) | (simp only [hji17] at H ⊢;exact H)
        by_cases c18 : 0 ≤ (ji17)
        ·rw [if_pos c18] at H;have c18b0 : decide (0 ≤ (ji17)) = true:=decide_eq_true c18;clear c18
         by_cases c19 : (ji17) < (s0_0.length : Int)
         ·rw [if_pos c19] at H;have c19b0 : decide ((ji17) < (s0_0.length : Int)) = true:=decide_eq_true c19;clear c19
          by_cases c20 : a1 = 0
          ·rw [if_pos c20] at H
           exact absurd H (by simp)
          ·rw [if_neg c20] at H;have c20b0 : (a1 == 0) = false:=beq_eq_false_iff_ne.mpr c20;have c20b1 : (a1 != 0) = true:=bne_iff_ne.mpr c20;simp only [Option.some.injEq,Prod.mk.injEq] at H;obtain ⟨rfl,rfl⟩:=H;obtain ⟨ASz21_0,cSz21_0,HGz21,hgz21,HSz21_0⟩:=HI0.out;have hcz21_0:=cellS53_0 HGz21;have hcz21_1:=cellS53_1 HGz21;have hfz21_1:=blk_frozen HGz21 1;clear HGz21 hgz21
           have p105 : 0 ≤ ((ji14) : Int):=of_decide_eq_true (by first | (with_reducible assumption) | assumption)
           have q105 : (ji14) < (s0_0.length : Int):=of_decide_eq_true (by first | (with_reducible assumption) | assumption)
           obtain ⟨ad105,e105,hx105_0⟩:=Kd.at_int HSz21_0 (ji14) p105 q105
           cases e105
           replace hx105_0:=pw_cell_below HB.out hx105_0;replace p105:=eq_true p105;replace q105:=eq_true q105
           have p106 : 0 ≤ ((ji17) : Int):=of_decide_eq_true (by first | (with_reducible assumption) | assumption)
           have q106 : (ji17) < (s0_0.length : Int):=of_decide_eq_true (by first | (with_reducible assumption) | assumption)
           obtain ⟨ad106,e106,hx106_0⟩:=Kd.at_int HSz21_0 (ji17) p106 q106
           obtain rfl : ad105 = ad106:=(by injection e106)
           replace hx106_0:=pw_cell_below HB.out hx106_0;replace p106:=eq_true p106;replace q106:=eq_true q106
           go_wp2
           repeat (go_quiet (fail);try go_wp2)
           go_ret
           exact ⟨by first | rfl | (simp [errW_none,errW_some] <;> rfl) | (simp only [← hji14,← hji17];first | rfl | (simp [errW_none,errW_some] <;> rfl)) | (simp [*,errW_none,errW_some] <;> rfl),by repeat (first | (with_reducible first | exact HI0.out | apply IsS53.alloc | apply IsS53.drewN | apply IsS53.drew | apply IsS53.set_1) | exact HI0.out),by repeat (first | (with_reducible first | exact HB.out | apply below_alloc | apply pw_below_drewN | apply below_drew1 | refine below_set ?_ (IsS53.ge HI0.out)) | exact HB.out),by repeat (first | (with_reducible first | exact HK.out | apply KeepBut.set_ | apply keep_drewN | apply keep_drew | apply keep_alloc) | exact HK.out)⟩
         ·rw [if_neg c19] at H
          exact absurd H (by simp)
        ·rw [if_neg c18] at H
         exact absurd H (by simp)
       ·rw [if_neg c16] at H
        exact absurd H (by simp)
      ·rw [if_neg c15] at H
       exact absurd H (by simp)
def spec_l11Rd_num.f (k : Nat) (s0_0 : List Int) (s0_1 : Int) (l1 : List Int) : Option (Int × Int):=(spec_l11Rd_pick.f k s0_0 s0_1 (l1.length : Int)).bind fun bt107=>(if 0 ≤ bt107.1 then (if bt107.1 < (l1.length : Int) then (some (rd l1 bt107.1,bt107.2)) else (none)) else (none))
set_option maxHeartbeats 8000000 in
set_option maxRecDepth 100000 in
theorem spec_l11Rd_num.calls (k : Nat) (g : Nat) (s0_0 : List Int) (s0_1 : Int) (A1 : Option Addr) (c1 : Nat) (l1 : List Int) (r1 : Int) (r2 : Int) (w0 w : World) (hI : IsS53 w0 w g s0_0 s0_1) (hB : Below w0.heap.size w0 w) (hr1 : Kd.C (Kd.int .i64) w A1 l1.length l1) (hc1 : l1.length ≤ c1) (hf1 : ∀ ad,A1 = some ad → 0 < l1.length → ad.block ≠ g) (h : spec_l11Rd_num.f k s0_0 s0_1 l1 = some (r1,r2)) :
  Calls Try.prog 27 #[.pointer (some ⟨g,0,none⟩),.slice A1 l1.length c1] w fun e w'=>e = .returned (.int .i64 r1) ∧ IsS53 w0 w' g s0_0 r2 ∧ Below w0.heap.size w0 w' ∧ KeepBut w w' g none:=by
 have HR1:=O hr1;have HC1:=O hc1;clear hr1 hc1;have HI0:=O hI;have HK:=O (KeepBut.refl w g none);have HL:=O hB.size;clear hI;have HW0:=O hB.size;have HB:=O hB;clear hB;have H : ((spec_l11Rd_pick.f k s0_0 s0_1 (l1.length : Int)).bind fun bt107=>(if 0 ≤ bt107.1 then (if bt107.1 < (l1.length : Int) then (some (rd l1 bt107.1,bt107.2)) else (none)) else (none))) = some (r1,r2):=h;clear h;replace H:=Option.bind_eq_some_iff.mp H;obtain ⟨⟨t107,t108⟩,A30,H⟩:=H;replace H : (if 0 ≤ t107 then (if t107 < (l1.length : Int) then (some (rd l1 t107,t108)) else (none)) else (none)) = some (r1,r2):=H;have A3:=O A30;clear A30
 by_cases c4 : 0 ≤ t107
 ·rw [if_pos c4] at H;have c4b0 : decide (0 ≤ t107) = true:=decide_eq_true c4;clear c4
  by_cases c5 : t107 < (l1.length : Int)
  ·rw [if_pos c5] at H;have c5b0 : decide (t107 < (l1.length : Int)) = true:=decide_eq_true c5;clear c5;simp only [Option.some.injEq,Prod.mk.injEq] at H;obtain ⟨rfl,rfl⟩:=H;go_enter Try.func27,Try.ntmps27
   go_wp2_with (first | ((with_reducible refine gate_callee (f:=16) rfl ?_);refine goesM_ (some 9) Try.func16 #[.pointer (some ⟨g,0,none⟩),.int .i64 (l1.length : Int)] ?_;(with_reducible refine (spec_l11Rd_pick.calls k g s0_0 s0_1 (l1.length : Int) t107 t108 w0 _ ?side1 ?side2 A3.out).mono ?_);(case side1=>exact q1_ HI0);(case side2=>exact q2_ HB HI0);rintro e w6 ⟨rfl,hi,hb,hk⟩;refine ⟨_,rfl,?_⟩;have n0_:=O (KeepBut.trans (q3_ HK) hk (.inl rfl));have n1_:=O (hb);have n2_:=O (hi);clear HK HB HI0;have HK:=n0_;have HB:=n1_;have HI0:=n2_;clear n0_ n1_ n2_;(try clear hb);(try clear hk);(try clear hi);have p109 : 0 ≤ (t107 : Int):=of_decide_eq_true (by first | (with_reducible assumption) | assumption);have q109 : t107 < (l1.length : Int):=of_decide_eq_true (by first | (with_reducible assumption) | assumption);obtain ⟨ad109,e109,hx109_0⟩:=Kd.at_int HR1.out t107 p109 q109;cases e109;replace hx109_0:=keep_cell HK.out hx109_0 (by first | (rw [add_block];exact hf1 _ rfl (by omega)) | exact hf1 _ rfl (by omega) | exact hf1 ad109 rfl (by omega));replace p109:=eq_true p109;replace q109:=eq_true q109))
   go_ret
   exact ⟨by first | rfl | (simp [errW_none,errW_some] <;> rfl) | (simp [*,errW_none,errW_some] <;> rfl),by repeat (first | (with_reducible first | exact HI0.out | apply IsS53.alloc | apply IsS53.drewN | apply IsS53.drew | apply IsS53.set_1) | exact HI0.out),by repeat (first | (with_reducible first | exact HB.out | apply below_alloc | apply pw_below_drewN | apply below_drew1 | refine below_set ?_ (IsS53.ge HI0.out)) | exact HB.out),by repeat (first | (with_reducible first | exact HK.out | apply KeepBut.set_ | apply keep_drewN | apply keep_drew | apply keep_alloc) | exact HK.out)⟩
  ·rw [if_neg c5] at H
   exact absurd H (by simp)
 ·rw [if_neg c4] at H
  exact absurd H (by simp)
end Go.Proofs.Ytfbocgagfodgnaa.P

namespace Go.Proofs.Ytfbocgagfodgnaa.P
open Go.RowKit Go.Proofs.YtfbocgagfodgnaaW.PrintWords Go.Proofs.YtfbocgagfodgnaaW.PrintLast Go.Proofs.YtfbocgagfodgnaaW.PrintMore
attribute [local go_sem] max2_int min2_int max_two min_two max_three min_three max_four min_four
set_option linter.unusedVariables false
set_option linter.unusedSimpArgs false
def spec_l1Max.f (a0 : Int) (a1 : Int) : Option (Int):=if a0 > a1 then (some a0) else (some a1)
set_option maxHeartbeats 8000000 in
set_option maxRecDepth 100000 in
theorem spec_l1Max.calls (a0 : Int) (a1 : Int) (r : Int) (w : World) (h : spec_l1Max.f a0 a1 = some r) :
  Calls Try.prog 28 #[.int .i64 a0,.int .i64 a1] w fun e w'=>e = .returned (.int .i64 r) ∧ Drawn0 w w':=by
 have H : (if a0 > a1 then (some a0) else (some a1)) = some r:=h;clear h
 by_cases c3 : a0 > a1
 ·rw [if_pos c3] at H;have c3b0 : decide (a1 < a0) = true:=decide_eq_true c3;clear c3;obtain rfl:=Option.some.inj H;go_enter Try.func28,Try.ntmps28
  go_wp2
  go_ret
  exact ⟨by first | rfl | (simp;done) | (simp [*];done),by repeat (first | exact Drawn0.refl _ | apply Drawn0.step)⟩
 ·rw [if_neg c3] at H;have c3b0 : decide (a1 < a0) = false:=decide_eq_false c3;clear c3;obtain rfl:=Option.some.inj H;go_enter Try.func28,Try.ntmps28
  go_wp2
  go_ret
  exact ⟨by first | rfl | (simp;done) | (simp [*];done),by repeat (first | exact Drawn0.refl _ | apply Drawn0.step)⟩
def laws_wpInts.l0 : Nat → List Int → List Int → Int → Option (Bool)
 | 0,_,_,_=>none
 | k + 1,x0,x1,x5=>if x5 < (x0.length : Int) then (if 0 ≤ x5 then (if x5 < (x1.length : Int) then (if (rd x0 x5) = (rd x1 x5) then (laws_wpInts.l0 k x0 x1 (wrap64 (x5 + 1))) else (some false)) else (none)) else (none)) else (some true)
def laws_wpInts.f (k : Nat) (l0 : List Int) (l1 : List Int) : Option (Bool):=if (l0.length : Int) = (l1.length : Int) then (laws_wpInts.l0 k l0 l1 0) else (some false)
set_option maxHeartbeats 8000000 in
set_option maxRecDepth 100000 in
theorem laws_wpInts.calls (k : Nat) (A0 : Option Addr) (c0 : Nat) (l0 : List Int) (A1 : Option Addr) (c1 : Nat) (l1 : List Int) (r : Bool) (w : World) (hr0 : Kd.C (Kd.int .i64) w A0 l0.length l0) (hc0 : l0.length ≤ c0) (hr1 : Kd.C (Kd.int .i64) w A1 l1.length l1) (hc1 : l1.length ≤ c1) (h : laws_wpInts.f k l0 l1 = some r) :
  Calls Try.prog 7 #[.slice A0 l0.length c0,.slice A1 l1.length c1] w fun e w'=>e = .returned (.bool r) ∧ Drawn0 w w':=by
 have HR0:=Aside0.mk hr0;have HC0:=Aside0.mk hc0;clear hr0 hc0;have HR1:=Aside0.mk hr1;have HC1:=Aside0.mk hc1;clear hr1 hc1;have H : (if (l0.length : Int) = (l1.length : Int) then (laws_wpInts.l0 k l0 l1 0) else (some false)) = some r:=h;clear h
 by_cases c3 : (l0.length : Int) = (l1.length : Int)
 ·rw [if_pos c3] at H;have c3b0 : ((l0.length : Int) == (l1.length : Int)) = true:=beq_iff_eq.mpr c3;have c3b1 : ((l0.length : Int) != (l1.length : Int)) = false:=bne_eq_false_iff_eq.mpr c3
  have c3b2 : (l0.length == l1.length) = true:=by first | simpa using c3 | (simp at c3 ⊢;omega)
  clear c3;have H':=Aside0.mk H;clear H;go_enter Try.func7,Try.ntmps7
  go_wp2
  repeat (go_quiet (fail);try go_wp2)
  go_loopg [5] k (fun kq v5 w'=>∃ (x5_1 : Int),v5 = .int .i64 x5_1 ∧ Aside0 (laws_wpInts.l0 kq l0 l1 x5_1 = some r) ∧ Aside0 (kq ≤ k) ∧ Drawn0 w w')
  case atStart=>exact ⟨(0),(by first | rfl | (simp;done) | (simp [*];done)),H',⟨Nat.le_refl _⟩,by repeat (first | exact Drawn0.refl _ | apply Drawn0.step)⟩
  case round =>
   clear H';(try clear c1);(try clear p2);(try clear c3);(try clear c3b0);(try clear c3b1);(try clear c3b2);obtain ⟨x5_1,rfl,HA,HK1,⟨m1,rfl⟩⟩:=hrel
   cases gk with
   | zero=>exact absurd HA.out (by simp [laws_wpInts.l0])
   | succ k1 =>
    have H:=HA.out;clear HA;simp only [laws_wpInts.l0] at H
    by_cases c4 : x5_1 < (l0.length : Int)
    ·rw [if_pos c4] at H;have c4b0 : decide (x5_1 < (l0.length : Int)) = true:=decide_eq_true c4;clear c4
     by_cases c5 : 0 ≤ x5_1
     ·rw [if_pos c5] at H;have c5b0 : decide (0 ≤ x5_1) = true:=decide_eq_true c5;clear c5
      by_cases c6 : x5_1 < (l1.length : Int)
      ·rw [if_pos c6] at H;have c6b0 : decide (x5_1 < (l1.length : Int)) = true:=decide_eq_true c6;clear c6
       by_cases c7 : (rd l0 x5_1) = (rd l1 x5_1)
       ·rw [if_pos c7] at H;have c7b0 : ((rd l0 x5_1) == (rd l1 x5_1)) = true:=beq_iff_eq.mpr c7;have c7b1 : ((rd l0 x5_1) != (rd l1 x5_1)) = false:=bne_eq_false_iff_eq.mpr c7;clear c7;have H':=Aside0.mk H;clear H
        have p451 : 0 ≤ (x5_1 : Int):=of_decide_eq_true (by first | (with_reducible assumption) | assumption)
        have q451 : x5_1 < (l0.length : Int):=of_decide_eq_true (by first | (with_reducible assumption) | assumption)
        obtain ⟨ad451,e451,hx451_0⟩:=Kd.at_int HR0.out x5_1 p451 q451
        cases e451
        replace p451:=eq_true p451;replace q451:=eq_true q451
        have p452 : 0 ≤ (x5_1 : Int):=of_decide_eq_true (by first | (with_reducible assumption) | assumption)
        have q452 : x5_1 < (l1.length : Int):=of_decide_eq_true (by first | (with_reducible assumption) | assumption)
        obtain ⟨ad452,e452,hx452_0⟩:=Kd.at_int HR1.out x5_1 p452 q452
        cases e452
        replace p452:=eq_true p452;replace q452:=eq_true q452
        go_wp2
        repeat (go_quiet (fail);try go_wp2)
        go_roundg k1
        case measure=>have:=HK1.out;omega
        case rel=>exact ⟨(wrap64 (x5_1 + 1)),(by first | rfl | (simp;done) | (simp [*];done)),H',⟨by have:=HK1.out;omega⟩,by repeat (first | exact Drawn0.refl _ | apply Drawn0.step)⟩
       ·rw [if_neg c7] at H;have c7b0 : ((rd l0 x5_1) == (rd l1 x5_1)) = false:=beq_eq_false_iff_ne.mpr c7;have c7b1 : ((rd l0 x5_1) != (rd l1 x5_1)) = true:=bne_iff_ne.mpr c7;obtain rfl:=Option.some.inj H
        have p451 : 0 ≤ (x5_1 : Int):=of_decide_eq_true (by first | (with_reducible assumption) | assumption)
        have q451 : x5_1 < (l0.length : Int):=of_decide_eq_true (by first | (with_reducible assumption) | assumption)
        obtain ⟨ad451,e451,hx451_0⟩:=Kd.at_int HR0.out x5_1 p451 q451
        cases e451
        replace p451:=eq_true p451;replace q451:=eq_true q451
        have p452 : 0 ≤ (x5_1 : Int):=of_decide_eq_true (by first | (with_reducible assumption) | assumption)
        have q452 : x5_1 < (l1.length : Int):=of_decide_eq_true (by first | (with_reducible assumption) | assumption)
        obtain ⟨ad452,e452,hx452_0⟩:=Kd.at_int HR1.out x5_1 p452 q452
        cases e452
        replace p452:=eq_true p452;replace q452:=eq_true q452
        go_wp2
        repeat (go_quiet (fail);try go_wp2)
        go_ret
        exact ⟨by first | rfl | (simp;done) | (simp [*];done),by repeat (first | exact Drawn0.refl _ | apply Drawn0.step)⟩
      ·rw [if_neg c6] at H
       exact absurd H (by simp)
     ·rw [if_neg c5] at H
      exact absurd H (by simp)
    ·rw [if_neg c4] at H;have c4b0 : decide (x5_1 < (l0.length : Int)) = false:=decide_eq_false c4;clear c4;obtain rfl:=Option.some.inj H
     go_wp2
     repeat (go_quiet (fail);try go_wp2)
     go_ret
     exact ⟨by first | rfl | (simp;done) | (simp [*];done),by repeat (first | exact Drawn0.refl _ | apply Drawn0.step)⟩
 ·rw [if_neg c3] at H;have c3b0 : ((l0.length : Int) == (l1.length : Int)) = false:=beq_eq_false_iff_ne.mpr c3;have c3b1 : ((l0.length : Int) != (l1.length : Int)) = true:=bne_iff_ne.mpr c3
  have c3b2 : (l0.length == l1.length) = false:=by first | simpa using c3 | (simp at c3 ⊢;omega)
  obtain rfl:=Option.some.inj H;go_enter Try.func7,Try.ntmps7
  go_wp2
  repeat (go_quiet (fail);try go_wp2)
  go_ret
  exact ⟨by first | rfl | (simp;done) | (simp [*];done),by repeat (first | exact Drawn0.refl _ | apply Drawn0.step)⟩
end Go.Proofs.Ytfbocgagfodgnaa.P
