/- Plain Lean functions for functions of the Go text, and that each call comes to what its function says; written by a program of this workplace (wip/gen.py) out of the translation; no condition beyond those that each theorem names. -/
import Derived.Test.YthbflhimmmfonaaZFnExactCpuTwin4
import Derived.Test.YthbflhimmmfonaaZFnExactCpuTwin6
namespace Go.Proofs.Ythbflhimmmfonaa.P
open Go.RowKit Go.Proofs.YthbflhimmmfonaaW.PrintWords Go.Proofs.YthbflhimmmfonaaW.PrintLast Go.Proofs.YthbflhimmmfonaaW.PrintMore
open Bool renaming true → O, false → Z
open Go.Proofs.YthbflhimmmfonaaW.PrintWords renaming Aside0.mk → J, pw_below_drewN → Y, below_drew1 → E, below_step → U, below_size → G, Kd.C_alloc → X, Kd.C_drewN → Q, Kd.C_drew → W
open List renaming setIfInBounds_toArray → V, set_cons_zero → D, set_cons_succ → L
open Option renaming some.inj → M, bind_eq_some_iff → T
open Go renaming World.block_lt_of_cell? → R, Act.put → A
open Go.Proofs.Ythbflhimmmfonaa.P renaming errW_some → B, errW_none → F
attribute [local go_sem] max2_int min2_int max_two min_two max_three min_three max_four min_four
set_option linter.unusedVariables false
set_option linter.unusedSimpArgs false
def laws_eqIntS.l0 : Nat → List Int → List Int → Int → Option (Bool)
 | 0,_,_,_=>none
 | k + 1,x0,x1,x5=>if x5 < (x0.length : Int) then (if 0 ≤ x5 then (if x5 < (x1.length : Int) then (if (rd x0 x5) = (rd x1 x5) then (laws_eqIntS.l0 k x0 x1 (wrap64 (x5 + 1))) else (some false)) else (none)) else (none)) else (some true)
def laws_eqIntS.f (k : Nat) (l0 : List Int) (l1 : List Int) : Option (Bool):=if (l0.length : Int) = (l1.length : Int) then (laws_eqIntS.l0 k l0 l1 0) else (some false)
set_option maxHeartbeats 8000000 in
set_option maxRecDepth 100000 in
theorem laws_eqIntS.calls (k : Nat) (A0 : Option Addr) (c0 : Nat) (l0 : List Int) (A1 : Option Addr) (c1 : Nat) (l1 : List Int) (r : Bool) (w : World) (hr0 : Kd.C (Kd.int .i64) w A0 l0.length l0) (hc0 : l0.length ≤ c0) (hr1 : Kd.C (Kd.int .i64) w A1 l1.length l1) (hc1 : l1.length ≤ c1) (h : laws_eqIntS.f k l0 l1 = some r) :
  Calls Try.prog 34 #[.slice A0 l0.length c0,.slice A1 l1.length c1] w fun e w'=>e = .returned (.bool r) ∧ Drawn0 w w':=by
 have HR0:=J hr0;have HC0:=J hc0;clear hr0 hc0;have HR1:=J hr1;have HC1:=J hc1;clear hr1 hc1;have H : (if (l0.length : Int) = (l1.length : Int) then (laws_eqIntS.l0 k l0 l1 0) else (some false)) = some r:=h;clear h
 by_cases c3 : (l0.length : Int) = (l1.length : Int)
 ·rw [if_pos c3] at H;have c3b0 : ((l0.length : Int) == (l1.length : Int)) = true:=beq_iff_eq.mpr c3;have c3b1 : ((l0.length : Int) != (l1.length : Int)) = false:=bne_eq_false_iff_eq.mpr c3
  have c3b2 : (l0.length == l1.length) = true:=by first | simpa using c3 | (simp at c3 ⊢;omega)
  clear c3;have H':=J H;clear H;go_enter Try.func34,Try.ntmps34
  go_wp2
  repeat (go_quiet (fail);try go_wp2)
  go_loopg [5] k (fun kq v5 w'=>∃ (x5_1 : Int),v5 = .int .i64 x5_1 ∧ Aside0 (laws_eqIntS.l0 kq l0 l1 x5_1 = some r) ∧ Aside0 (kq ≤ k) ∧ Drawn0 w w')
  case atStart=>exact ⟨(0),(by first | rfl | (simp;done) | (simp [*];done)),H',⟨Nat.le_refl _⟩,by repeat (first | exact Drawn0.refl _ | apply Drawn0.step)⟩
  case round =>
   clear H';(try clear c1);(try clear p2);(try clear c3);(try clear c3b0);(try clear c3b1);(try clear c3b2);obtain ⟨x5_1,rfl,HA,HK1,⟨m1,rfl⟩⟩:=hrel
   cases gk with
   | zero=>exact absurd HA.out (by simp [laws_eqIntS.l0])
   | succ k1 =>
    have H:=HA.out;clear HA;simp only [laws_eqIntS.l0] at H
    by_cases c4 : x5_1 < (l0.length : Int)
    ·rw [if_pos c4] at H;have c4b0 : decide (x5_1 < (l0.length : Int)) = true:=decide_eq_true c4;clear c4
     by_cases c5 : 0 ≤ x5_1
     ·rw [if_pos c5] at H;have c5b0 : decide (0 ≤ x5_1) = true:=decide_eq_true c5;clear c5
      by_cases c6 : x5_1 < (l1.length : Int)
      ·rw [if_pos c6] at H;have c6b0 : decide (x5_1 < (l1.length : Int)) = true:=decide_eq_true c6;clear c6
       by_cases c7 : (rd l0 x5_1) = (rd l1 x5_1)
       ·rw [if_pos c7] at H;have c7b0 : ((rd l0 x5_1) == (rd l1 x5_1)) = true:=beq_iff_eq.mpr c7;have c7b1 : ((rd l0 x5_1) != (rd l1 x5_1)) = false:=bne_eq_false_iff_eq.mpr c7;clear c7;have H':=J H;clear H
        have p210 : 0 ≤ (x5_1 : Int):=of_decide_eq_true (by first | (with_reducible assumption) | assumption)
        have q210 : x5_1 < (l0.length : Int):=of_decide_eq_true (by first | (with_reducible assumption) | assumption)
        obtain ⟨ad210,e210,hx210_0⟩:=Kd.at_int HR0.out x5_1 p210 q210
        cases e210
        replace p210:=eq_true p210;replace q210:=eq_true q210
        have p211 : 0 ≤ (x5_1 : Int):=of_decide_eq_true (by first | (with_reducible assumption) | assumption)
        have q211 : x5_1 < (l1.length : Int):=of_decide_eq_true (by first | (with_reducible assumption) | assumption)
        obtain ⟨ad211,e211,hx211_0⟩:=Kd.at_int HR1.out x5_1 p211 q211
        cases e211
        replace p211:=eq_true p211;replace q211:=eq_true q211
        go_wp2
        repeat (go_quiet (fail);try go_wp2)
        go_roundg k1
        case measure=>have:=HK1.out;omega
        case rel=>exact ⟨(wrap64 (x5_1 + 1)),(by first | rfl | (simp;done) | (simp [*];done)),H',⟨by have:=HK1.out;omega⟩,by repeat (first | exact Drawn0.refl _ | apply Drawn0.step)⟩
       ·rw [if_neg c7] at H;have c7b0 : ((rd l0 x5_1) == (rd l1 x5_1)) = false:=beq_eq_false_iff_ne.mpr c7;have c7b1 : ((rd l0 x5_1) != (rd l1 x5_1)) = true:=bne_iff_ne.mpr c7;obtain rfl:=M H
        have p210 : 0 ≤ (x5_1 : Int):=of_decide_eq_true (by first | (with_reducible assumption) | assumption)
        have q210 : x5_1 < (l0.length : Int):=of_decide_eq_true (by first | (with_reducible assumption) | assumption)
        obtain ⟨ad210,e210,hx210_0⟩:=Kd.at_int HR0.out x5_1 p210 q210
        cases e210
        replace p210:=eq_true p210;replace q210:=eq_true q210
        have p211 : 0 ≤ (x5_1 : Int):=of_decide_eq_true (by first | (with_reducible assumption) | assumption)
        have q211 : x5_1 < (l1.length : Int):=of_decide_eq_true (by first | (with_reducible assumption) | assumption)
        obtain ⟨ad211,e211,hx211_0⟩:=Kd.at_int HR1.out x5_1 p211 q211
        cases e211
        replace p211:=eq_true p211;replace q211:=eq_true q211
        go_wp2
        repeat (go_quiet (fail);try go_wp2)
        go_ret
        exact ⟨by first | rfl | (simp;done) | (simp [*];done),by repeat (first | exact Drawn0.refl _ | apply Drawn0.step)⟩
      ·rw [if_neg c6] at H
       exact absurd H (by simp)
     ·rw [if_neg c5] at H
      exact absurd H (by simp)
    ·rw [if_neg c4] at H;have c4b0 : decide (x5_1 < (l0.length : Int)) = false:=decide_eq_false c4;clear c4;obtain rfl:=M H
     go_wp2
     repeat (go_quiet (fail);try go_wp2)
     go_ret
     exact ⟨by first | rfl | (simp;done) | (simp [*];done),by repeat (first | exact Drawn0.refl _ | apply Drawn0.step)⟩
 ·rw [if_neg c3] at H;have c3b0 : ((l0.length : Int) == (l1.length : Int)) = false:=beq_eq_false_iff_ne.mpr c3;have c3b1 : ((l0.length : Int) != (l1.length : Int)) = true:=bne_iff_ne.mpr c3
  have c3b2 : (l0.length == l1.length) = false:=by first | simpa using c3 | (simp at c3 ⊢;omega)
  obtain rfl:=M H;go_enter Try.func34,Try.ntmps34
  go_wp2
  repeat (go_quiet (fail);try go_wp2)
  go_ret
  exact ⟨by first | rfl | (simp;done) | (simp [*];done),by repeat (first | exact Drawn0.refl _ | apply Drawn0.step)⟩
def laws_eqIntSS.l0 : Nat → List (List Int) → List (List Int) → Int → Option (Bool)
 | 0,_,_,_=>none
 | k + 1,x0,x1,x5=>if x5 < (x0.length : Int) then (if 0 ≤ x5 then (if x5 < (x1.length : Int) then ((laws_eqIntS.f k (rd_L1 x0 x5) (rd_L1 x1 x5)).bind fun t220=>(if t220 = true then (laws_eqIntSS.l0 k x0 x1 (wrap64 (x5 + 1))) else (some false))) else (none)) else (none)) else (some true)
def laws_eqIntSS.f (k : Nat) (l0 : List (List Int)) (l1 : List (List Int)) : Option (Bool):=if (l0.length : Int) = (l1.length : Int) then (laws_eqIntSS.l0 k l0 l1 0) else (some false)
set_option maxHeartbeats 8000000 in
set_option maxRecDepth 100000 in
theorem laws_eqIntSS.calls (k : Nat) (A0 : Option Addr) (c0 : Nat) (l0 : List (List Int)) (A1 : Option Addr) (c1 : Nat) (l1 : List (List Int)) (r : Bool) (w : World) (hr0 : Kd.C (Kd.slice 3 (Kd.int .i64)) w A0 l0.length l0) (hc0 : l0.length ≤ c0) (hr1 : Kd.C (Kd.slice 3 (Kd.int .i64)) w A1 l1.length l1) (hc1 : l1.length ≤ c1) (h : laws_eqIntSS.f k l0 l1 = some r) :
  Calls Try.prog 51 #[.slice A0 l0.length c0,.slice A1 l1.length c1] w fun e w'=>e = .returned (.bool r) ∧ Drawn0 w w':=by
 have HR0:=J hr0;have HC0:=J hc0;clear hr0 hc0;have HR1:=J hr1;have HC1:=J hc1;clear hr1 hc1;have H : (if (l0.length : Int) = (l1.length : Int) then (laws_eqIntSS.l0 k l0 l1 0) else (some false)) = some r:=h;clear h
 by_cases c3 : (l0.length : Int) = (l1.length : Int)
 ·rw [if_pos c3] at H;have c3b0 : ((l0.length : Int) == (l1.length : Int)) = true:=beq_iff_eq.mpr c3;have c3b1 : ((l0.length : Int) != (l1.length : Int)) = false:=bne_eq_false_iff_eq.mpr c3
  have c3b2 : (l0.length == l1.length) = true:=by first | simpa using c3 | (simp at c3 ⊢;omega)
  clear c3;have H':=J H;clear H;go_enter Try.func51,Try.ntmps51
  go_wp2
  repeat (go_quiet (fail);try go_wp2)
  go_loopg [5] k (fun kq v5 w'=>∃ (x5_1 : Int),v5 = .int .i64 x5_1 ∧ Aside0 (laws_eqIntSS.l0 kq l0 l1 x5_1 = some r) ∧ Aside0 (kq ≤ k) ∧ Drawn0 w w')
  case atStart=>exact ⟨(0),(by first | rfl | (simp;done) | (simp [*];done)),H',⟨Nat.le_refl _⟩,by repeat (first | exact Drawn0.refl _ | apply Drawn0.step)⟩
  case round =>
   clear H';(try clear c1);(try clear p2);(try clear c3);(try clear c3b0);(try clear c3b1);(try clear c3b2);obtain ⟨x5_1,rfl,HA,HK1,⟨m1,rfl⟩⟩:=hrel
   cases gk with
   | zero=>exact absurd HA.out (by simp [laws_eqIntSS.l0])
   | succ k1 =>
    have H:=HA.out;clear HA;simp only [laws_eqIntSS.l0] at H
    by_cases c_1 : x5_1 < (l0.length : Int)
    rw [if_pos c_1] at H;have c_1b0 : decide (x5_1 < (l0.length : Int)) = true:=decide_eq_true c_1;clear c_1
    by_cases c_2 : 0 ≤ x5_1
    rw [if_pos c_2] at H;have c_2b0 : decide (0 ≤ x5_1) = true:=decide_eq_true c_2;clear c_2
    by_cases c_3 : x5_1 < (l1.length : Int)
    rw [if_pos c_3] at H;have c_3b0 : decide (x5_1 < (l1.length : Int)) = true:=decide_eq_true c_3;clear c_3;replace H:=T.mp H;obtain ⟨t_1,A_1,H⟩:=H;replace H : (if t_1 = true then (laws_eqIntSS.l0 k1 l0 l1 (wrap64 (x5_1 + 1))) else (some false)) = some r:=H;have A_2:=J A_1;clear A_1
    by_cases c_4 : t_1 = true
    subst c_4
    have H_1 : (laws_eqIntSS.l0 k1 l0 l1 (wrap64 (x5_1 + 1))) = some r:=by rw [if_pos rfl] at H;exact H
    clear H;have H:=H_1;clear H_1;have H':=J H;clear H
    have fk0_:=trivial
    rotate_left
    replace c_4:=Bool.eq_false_iff.mpr c_4;subst c_4
    have H_1 : (some false) = some r:=by rw [if_neg (show ¬ (false = true) by decide)] at H;exact H
    clear H;have H:=H_1;clear H_1;obtain rfl:=M H
    have fk1_:=trivial
    rotate_left
    ·rw [if_neg c_3] at H
     exact absurd H (by simp)
    ·rw [if_neg c_2] at H
     exact absurd H (by simp)
    ·rw [if_neg c_1] at H;have c_1b0 : decide (x5_1 < (l0.length : Int)) = false:=decide_eq_false c_1;clear c_1;obtain rfl:=M H
     go_wp2
     repeat (go_quiet (fail);try go_wp2)
     go_ret
     exact ⟨by first | rfl | (simp;done) | (simp [*];done),by repeat (first | exact Drawn0.refl _ | apply Drawn0.step)⟩
    all_goals
     have p_1 : 0 ≤ (x5_1 : Int):=of_decide_eq_true (by first | (with_reducible assumption) | assumption)
     have q_1 : x5_1 < (l0.length : Int):=of_decide_eq_true (by first | (with_reducible assumption) | assumption)
     obtain ⟨ad_1,A_1__2,c_1__2,e_1,hx_1__2,hl_1__2,hi_1__2⟩:=at_L1 HR0.out x5_1 p_1 q_1
     cases e_1
     have HR_1__2:=J hi_1__2;have HC_1__2:=J hl_1__2;clear hi_1__2 hl_1__2;replace p_1:=eq_true p_1;replace q_1:=eq_true q_1
     have p_2 : 0 ≤ (x5_1 : Int):=of_decide_eq_true (by first | (with_reducible assumption) | assumption)
     have q_2 : x5_1 < (l1.length : Int):=of_decide_eq_true (by first | (with_reducible assumption) | assumption)
     obtain ⟨ad_2,A_3__2,c_3__2,e_2,hx_3__2,hl_3__2,hi_3__2⟩:=at_L1 HR1.out x5_1 p_2 q_2
     cases e_2
     have HR_3__2:=J hi_3__2;have HC_3__2:=J hl_3__2;clear hi_3__2 hl_3__2;replace p_2:=eq_true p_2;replace q_2:=eq_true q_2
     go_wp2_with (first | (go_at_call 34;(with_reducible refine (laws_eqIntS.calls k1 _ _ (rd_L1 l0 x5_1) _ _ (rd_L1 l1 x5_1) _ _ ?side_1 ?side_2 ?side_3 ?side_4 A_2.out).mono ?_);(case side_1=>repeat (first | exact HR_1__2.out | (with_reducible refine X ?_ _) | (with_reducible refine Q ?_ _) | (with_reducible refine W ?_)));(case side_2=>exact HC_1__2.out);(case side_3=>repeat (first | exact HR_3__2.out | (with_reducible refine X ?_ _) | (with_reducible refine Q ?_ _) | (with_reducible refine W ?_)));(case side_4=>exact HC_3__2.out);rintro e w' ⟨rfl,⟨nd,rfl⟩⟩;(try first | exact ⟨rfl,_,World.drewN_drewN _ _ _⟩ | exact ⟨rfl,_,Eq.trans (World.drewN_drewN _ _ _) (congrArg (World.drewN _) (Nat.add_assoc _ _ _))⟩)))
    all_goals first
     |
      clear fk0_
      repeat (go_quiet (first | (go_at_call 34;(with_reducible refine (laws_eqIntS.calls k1 _ _ (rd_L1 l0 x5_1) _ _ (rd_L1 l1 x5_1) true _ ?side_1 ?side_2 ?side_3 ?side_4 A_2.out).mono ?_);(case side_1=>repeat (first | exact HR_1__2.out | (with_reducible refine X ?_ _) | (with_reducible refine Q ?_ _) | (with_reducible refine W ?_)));(case side_2=>exact HC_1__2.out);(case side_3=>repeat (first | exact HR_3__2.out | (with_reducible refine X ?_ _) | (with_reducible refine Q ?_ _) | (with_reducible refine W ?_)));(case side_4=>exact HC_3__2.out);rintro e w' ⟨rfl,⟨nd,rfl⟩⟩;(try first | exact ⟨rfl,_,World.drewN_drewN _ _ _⟩ | exact ⟨rfl,_,Eq.trans (World.drewN_drewN _ _ _) (congrArg (World.drewN _) (Nat.add_assoc _ _ _))⟩)));try go_wp2_with (first | (go_at_call 34;(with_reducible refine (laws_eqIntS.calls k1 _ _ (rd_L1 l0 x5_1) _ _ (rd_L1 l1 x5_1) true _ ?side_1 ?side_2 ?side_3 ?side_4 A_2.out).mono ?_);(case side_1=>repeat (first | exact HR_1__2.out | (with_reducible refine X ?_ _) | (with_reducible refine Q ?_ _) | (with_reducible refine W ?_)));(case side_2=>exact HC_1__2.out);(case side_3=>repeat (first | exact HR_3__2.out | (with_reducible refine X ?_ _) | (with_reducible refine Q ?_ _) | (with_reducible refine W ?_)));(case side_4=>exact HC_3__2.out);rintro e w' ⟨rfl,⟨nd,rfl⟩⟩;(try first | exact ⟨rfl,_,World.drewN_drewN _ _ _⟩ | exact ⟨rfl,_,Eq.trans (World.drewN_drewN _ _ _) (congrArg (World.drewN _) (Nat.add_assoc _ _ _))⟩))))
      go_roundg k1
      case measure=>have:=HK1.out;omega
      case rel=>exact ⟨(wrap64 (x5_1 + 1)),(by first | rfl | (simp;done) | (simp [*];done)),H',⟨by have:=HK1.out;omega⟩,by repeat (first | exact Drawn0.refl _ | apply Drawn0.step)⟩
     |
      clear fk1_
      repeat (go_quiet (first | (go_at_call 34;(with_reducible refine (laws_eqIntS.calls k1 _ _ (rd_L1 l0 x5_1) _ _ (rd_L1 l1 x5_1) false _ ?side_1 ?side_2 ?side_3 ?side_4 A_2.out).mono ?_);(case side_1=>repeat (first | exact HR_1__2.out | (with_reducible refine X ?_ _) | (with_reducible refine Q ?_ _) | (with_reducible refine W ?_)));(case side_2=>exact HC_1__2.out);(case side_3=>repeat (first | exact HR_3__2.out | (with_reducible refine X ?_ _) | (with_reducible refine Q ?_ _) | (with_reducible refine W ?_)));(case side_4=>exact HC_3__2.out);rintro e w' ⟨rfl,⟨nd,rfl⟩⟩;(try first | exact ⟨rfl,_,World.drewN_drewN _ _ _⟩ | exact ⟨rfl,_,Eq.trans (World.drewN_drewN _ _ _) (congrArg (World.drewN _) (Nat.add_assoc _ _ _))⟩)));try go_wp2_with (first | (go_at_call 34;(with_reducible refine (laws_eqIntS.calls k1 _ _ (rd_L1 l0 x5_1) _ _ (rd_L1 l1 x5_1) false _ ?side_1 ?side_2 ?side_3 ?side_4 A_2.out).mono ?_);(case side_1=>repeat (first | exact HR_1__2.out | (with_reducible refine X ?_ _) | (with_reducible refine Q ?_ _) | (with_reducible refine W ?_)));(case side_2=>exact HC_1__2.out);(case side_3=>repeat (first | exact HR_3__2.out | (with_reducible refine X ?_ _) | (with_reducible refine Q ?_ _) | (with_reducible refine W ?_)));(case side_4=>exact HC_3__2.out);rintro e w' ⟨rfl,⟨nd,rfl⟩⟩;(try first | exact ⟨rfl,_,World.drewN_drewN _ _ _⟩ | exact ⟨rfl,_,Eq.trans (World.drewN_drewN _ _ _) (congrArg (World.drewN _) (Nat.add_assoc _ _ _))⟩))))
      go_ret
      exact ⟨by first | rfl | (simp;done) | (simp [*];done),by repeat (first | exact Drawn0.refl _ | apply Drawn0.step)⟩
 ·rw [if_neg c3] at H;have c3b0 : ((l0.length : Int) == (l1.length : Int)) = false:=beq_eq_false_iff_ne.mpr c3;have c3b1 : ((l0.length : Int) != (l1.length : Int)) = true:=bne_iff_ne.mpr c3
  have c3b2 : (l0.length == l1.length) = false:=by first | simpa using c3 | (simp at c3 ⊢;omega)
  obtain rfl:=M H;go_enter Try.func51,Try.ntmps51
  go_wp2
  repeat (go_quiet (fail);try go_wp2)
  go_ret
  exact ⟨by first | rfl | (simp;done) | (simp [*];done),by repeat (first | exact Drawn0.refl _ | apply Drawn0.step)⟩
def laws_eqSay.f (a0_0 : Int) (a0_1 : Int) (a1_0 : Int) (a1_1 : Int) : Option (Bool):=if a0_0 = a1_0 then (if a0_1 = a1_1 then (some true) else (some false)) else (some false)
set_option maxHeartbeats 8000000 in
set_option maxRecDepth 100000 in
theorem laws_eqSay.calls (a0_0 : Int) (a0_1 : Int) (a1_0 : Int) (a1_1 : Int) (r : Bool) (w : World) (h : laws_eqSay.f a0_0 a0_1 a1_0 a1_1 = some r) :
  Calls Try.prog 89 #[.agg #[.int .i64 a0_0,.int .i64 a0_1],.agg #[.int .i64 a1_0,.int .i64 a1_1]] w fun e w'=>e = .returned (.bool r) ∧ Below w.heap.size w w':=by
 have hu74:=Try.underlying74;have HB:=J (Below.refl w.heap.size w);have H : (if a0_0 = a1_0 then (if a0_1 = a1_1 then (some true) else (some false)) else (some false)) = some r:=h;clear h
 by_cases c_1 : a0_0 = a1_0
 rw [if_pos c_1] at H;have c_1b_2 : (a0_0 == a1_0) = true:=beq_iff_eq.mpr c_1;have c_1b_3 : (a0_0 != a1_0) = false:=bne_eq_false_iff_eq.mpr c_1;clear c_1
 by_cases c_2 : a0_1 = a1_1
 rw [if_pos c_2] at H;have c_4b_2 : (a0_1 == a1_1) = true:=beq_iff_eq.mpr c_2;have c_4b_3 : (a0_1 != a1_1) = false:=bne_eq_false_iff_eq.mpr c_2;clear c_2;obtain rfl:=M H;go_enter Try.func89,Try.ntmps89
 rotate_left
 rw [if_neg c_2] at H;have c_4b_2 : (a0_1 == a1_1) = false:=beq_eq_false_iff_ne.mpr c_2;have c_4b_3 : (a0_1 != a1_1) = true:=bne_iff_ne.mpr c_2;obtain rfl:=M H;go_enter Try.func89,Try.ntmps89
 rotate_left
 rw [if_neg c_1] at H;have c_1b_2 : (a0_0 == a1_0) = false:=beq_eq_false_iff_ne.mpr c_1;have c_1b_3 : (a0_0 != a1_0) = true:=bne_iff_ne.mpr c_1;obtain rfl:=M H;go_enter Try.func89,Try.ntmps89
 rotate_left
 all_goals
  go_wp2_with (first | ((with_reducible refine gate_dst (N:=2) rfl ?_);refine box_event ?hg (N:=2) ?hd (cs:=#[.int .i64 a0_0,.int .i64 a0_1]) (t:=74) ?hr ?_;(case hd=>rfl);(case hg=>rfl);(case hr=>first | (go_simp;done) | (go_simp;rfl));intro gb_1 hg w_1 hbox hb;have n_1_:=J (U (q0_ HB) hb);have n_2_:=J (hbox);have n_3_:=J ((by rw [hg];exact (G (q0_ HB)) : w.heap.size ≤ gb_1));have n_4_:=J ((by rw [hg];exact (G (q0_ HB)) : w.heap.size ≤ gb_1));clear HB;have HB:=n_1_;have BK_1:=n_2_;have GW_1:=n_3_;have GE_1:=n_4_;clear n_1_ n_2_ n_3_ n_4_ hb hbox hg) | ((with_reducible refine gate_dst (N:=3) rfl ?_);refine box_event ?hg (N:=3) ?hd (cs:=#[.int .i64 a1_0,.int .i64 a1_1]) (t:=74) ?hr ?_;(case hd=>rfl);(case hg=>rfl);(case hr=>first | (go_simp;done) | (go_simp;rfl));intro gb_2 hg w_2 hbox hb;have n_1_:=J (blk_below (g:=gb_1) (o:=.cells #[.int .i64 a0_0,.int .i64 a0_1] 74 (0,0)) (q1_ BK_1) hb);have n_2_:=J (U (q2_ HB GE_1) hb);have n_3_:=J (hbox);have n_4_:=J ((by rw [hg];exact (G (q2_ HB GE_1)) : w.heap.size ≤ gb_2));have n_5_:=J ((by rw [hg];exact (G (q2_ HB GE_1)) : w.heap.size ≤ gb_2));have n_6_:=J ((by rw [hg];exact Nat.ne_of_lt (blk_lt (g:=gb_1) (o:=.cells #[.int .i64 a0_0,.int .i64 a0_1] 74 (0,0)) (q1_ BK_1)) : gb_1 ≠ gb_2));have n_7_:=J ((by rw [hg];exact Nat.ne_of_gt (blk_lt (g:=gb_1) (o:=.cells #[.int .i64 a0_0,.int .i64 a0_1] 74 (0,0)) (q1_ BK_1)) : gb_2 ≠ gb_1));clear BK_1 HB;have BK_1:=n_1_;have HB:=n_2_;have BK_2:=n_3_;have GW_2:=n_4_;have GE_2:=n_5_;have NB_1__2:=n_6_;have NB_2__1:=n_7_;clear n_1_ n_2_ n_3_ n_4_ n_5_ n_6_ n_7_ hb hbox hg;have hnb_1:=NB_1__2.out;have hnc_1:=NB_2__1.out;obtain ⟨hcz_1__2,hcz_1__3,hfz_1__2,hfz_1__3⟩:=bz2_ BK_1;obtain ⟨hcz_4__2,hcz_4__3,hfz_4__2,hfz_4__3⟩:=bz2_ BK_2))
 all_goals
  go_ret
  exact ⟨by first | rfl | (simp [F,B] <;> rfl) | (simp [*,F,B] <;> rfl),by repeat (first | (with_reducible first | exact HB.out | apply below_alloc | apply Y | apply E | refine below_set ?_ GE_1.out | refine below_set ?_ GE_2.out) | exact HB.out)⟩
def laws_eqSayS.l0 : Nat → List (S74) → List (S74) → Int → Option (Bool)
 | 0,_,_,_=>none
 | k + 1,x0,x1,x5=>if x5 < (x0.length : Int) then (if 0 ≤ x5 then (if x5 < (x1.length : Int) then ((laws_eqSay.f ((rd_T74 x0 x5).f0) ((rd_T74 x0 x5).f1) ((rd_T74 x1 x5).f0) ((rd_T74 x1 x5).f1)).bind fun t225=>(if t225 = true then (laws_eqSayS.l0 k x0 x1 (wrap64 (x5 + 1))) else (some false))) else (none)) else (none)) else (some true)
def laws_eqSayS.f (k : Nat) (l0 : List (S74)) (l1 : List (S74)) : Option (Bool):=if (l0.length : Int) = (l1.length : Int) then (laws_eqSayS.l0 k l0 l1 0) else (some false)
def laws_eqSayS.T6 : Bool × List (List Nat × List Nat):=(true,[([],[]),([],[]),([0,1],[0,1]),([2],[2]),([],[]),([],[]),([4,5],[4,5]),([6],[6]),([3,7],[3,7]),([8],[8])])
def laws_eqSayS.B6 : List Nat:=[0,0,3,7,0,0,48,112,255,511]
theorem laws_eqSayS.tab6 : rtab .any (opsOf Try.f52 6) = laws_eqSayS.T6:=by kernel_rfl
theorem laws_eqSayS.bits6 : waitsOk laws_eqSayS.T6.2 laws_eqSayS.B6 = true:=by kernel_rfl
set_option maxHeartbeats 8000000 in
set_option maxRecDepth 100000 in
theorem laws_eqSayS.calls (k : Nat) (A0 : Option Addr) (c0 : Nat) (l0 : List (S74)) (A1 : Option Addr) (c1 : Nat) (l1 : List (S74)) (r : Bool) (w : World) (hr0 : Kd.C k74 w A0 l0.length l0) (hc0 : l0.length ≤ c0) (hr1 : Kd.C k74 w A1 l1.length l1) (hc1 : l1.length ≤ c1) (h : laws_eqSayS.f k l0 l1 = some r) :
  Calls Try.prog 52 #[.slice A0 l0.length c0,.slice A1 l1.length c1] w fun e w'=>e = .returned (.bool r) ∧ Below w.heap.size w w':=by
 have hu74:=Try.underlying74;have HR0:=J hr0;have HC0:=J hc0;clear hr0 hc0;have HR1:=J hr1;have HC1:=J hc1;clear hr1 hc1;have HB:=J (Below.refl w.heap.size w);have H : (if (l0.length : Int) = (l1.length : Int) then (laws_eqSayS.l0 k l0 l1 0) else (some false)) = some r:=h;clear h
 by_cases c3 : (l0.length : Int) = (l1.length : Int)
 ·rw [if_pos c3] at H;have c3b0 : ((l0.length : Int) == (l1.length : Int)) = true:=beq_iff_eq.mpr c3;have c3b1 : ((l0.length : Int) != (l1.length : Int)) = false:=bne_eq_false_iff_eq.mpr c3
  have c3b2 : (l0.length == l1.length) = true:=by first | simpa using c3 | (simp at c3 ⊢;omega)
  clear c3;have H':=J H;clear H;go_enter Try.func52,Try.ntmps52
  go_wp2
  go_loopg [5] k (fun kq v5 w'=>∃ (x5_1 : Int),v5 = .int .i64 x5_1 ∧ Aside0 (laws_eqSayS.l0 kq l0 l1 x5_1 = some r) ∧ Aside0 (kq ≤ k) ∧ Aside0 (Below w.heap.size w w'))
  case atStart=>exact ⟨(0),(by first | rfl | (simp;done) | (simp [*];done)),H',⟨Nat.le_refl _⟩,⟨by repeat (first | (with_reducible first | exact HB.out | apply below_alloc | apply Y | apply E) | exact HB.out)⟩⟩
  case round =>
   clear H';(try clear c1);(try clear p2);(try clear c3);(try clear c3b0);(try clear c3b1);(try clear c3b2);obtain ⟨x5_1,rfl,HA,HK1,HB⟩:=hrel
   cases gk with
   | zero=>exact absurd HA.out (by simp [laws_eqSayS.l0])
   | succ k1 =>
    have H:=HA.out;clear HA;simp only [laws_eqSayS.l0] at H
    by_cases c4 : x5_1 < (l0.length : Int)
    ·rw [if_pos c4] at H;have c4b0 : decide (x5_1 < (l0.length : Int)) = true:=decide_eq_true c4;clear c4
     by_cases c5 : 0 ≤ x5_1
     ·rw [if_pos c5] at H;have c5b0 : decide (0 ≤ x5_1) = true:=decide_eq_true c5;clear c5
      by_cases c6 : x5_1 < (l1.length : Int)
      ·rw [if_pos c6] at H;have c6b0 : decide (x5_1 < (l1.length : Int)) = true:=decide_eq_true c6;clear c6;replace H:=T.mp H;obtain ⟨t225,A70,H⟩:=H;replace H : (if t225 = true then (laws_eqSayS.l0 k1 l0 l1 (wrap64 (x5_1 + 1))) else (some false)) = some r:=H;have A7:=J A70;clear A70
       by_cases c8 : t225 = true
       ·subst c8
        have H1 : (laws_eqSayS.l0 k1 l0 l1 (wrap64 (x5_1 + 1))) = some r:=by rw [if_pos rfl] at H;exact H
        clear H;have H:=H1;clear H1;have H':=J H;clear H
        try go_wp2
        have n0_:=J (E HB.out);clear HB;have HB:=n0_;clear n0_
        have p223 : 0 ≤ (x5_1 : Int):=of_decide_eq_true (by first | (with_reducible assumption) | assumption)
        have q223 : x5_1 < (l0.length : Int):=of_decide_eq_true (by first | (with_reducible assumption) | assumption)
        obtain ⟨ad223,e223,hx223_0,hx223_1⟩:=at_T74 HR0.out x5_1 p223 q223;have hw223_1:=hx223_1;have hw223_0:=hx223_0
        cases e223
        replace hx223_0:=(HB.out.cell (R w _ hx223_0)).trans hx223_0;replace hx223_1:=(HB.out.cell (R w _ hx223_1)).trans hx223_1;replace p223:=eq_true p223;replace q223:=eq_true q223
        have p224 : 0 ≤ (x5_1 : Int):=of_decide_eq_true (by first | (with_reducible assumption) | assumption)
        have q224 : x5_1 < (l1.length : Int):=of_decide_eq_true (by first | (with_reducible assumption) | assumption)
        obtain ⟨ad224,e224,hx224_0,hx224_1⟩:=at_T74 HR1.out x5_1 p224 q224;have hw224_1:=hx224_1;have hw224_0:=hx224_0
        cases e224
        replace hx224_0:=(HB.out.cell (R w _ hx224_0)).trans hx224_0;replace hx224_1:=(HB.out.cell (R w _ hx224_1)).trans hx224_1;replace p224:=eq_true p224;replace q224:=eq_true q224
        refine start_ (n:=10) (S:=fun w'=>w'.cell? (ad223.add ((x5_1).toNat * 2)) = some (.int .i64 ((rd_T74 l0 x5_1).f0)) ∧ w'.cell? ⟨(ad223.add ((x5_1).toNat * 2)).block,(ad223.add ((x5_1).toNat * 2)).off + 1,none⟩ = some (.int .i64 ((rd_T74 l0 x5_1).f1)) ∧ w'.cell? (ad224.add ((x5_1).toNat * 2)) = some (.int .i64 ((rd_T74 l1 x5_1).f0)) ∧ w'.cell? ⟨(ad224.add ((x5_1).toNat * 2)).block,(ad224.add ((x5_1).toNat * 2)).off + 1,none⟩ = some (.int .i64 ((rd_T74 l1 x5_1).f1))) (ds:=[]) #[Z,Z,Z,Z,Z,Z,Z,Z,Z,Z] (by kernel_rfl) rfl rfl ⟨((HB.out.cell (R w _ hw223_0)).trans hw223_0),((HB.out.cell (R w _ hw223_1)).trans hw223_1),((HB.out.cell (R w _ hw224_0)).trans hw224_0),((HB.out.cell (R w _ hw224_1)).trans hw224_1)⟩ (fun hHeld=>?_);refine with_tabW laws_eqSayS.tab6 laws_eqSayS.bits6 (fun HT_ HW_=>?_)
        generalize wr.drew = w9 at HB hx223_0 hx223_1 hx224_0 hx224_1 hHeld ⊢
        refine pure_ (i:=0) (N:=some 17) (v:=?_) (a':=?_) #[O,Z,Z,Z,Z,Z,Z,Z,Z,Z] rfl rfl (any_of HT_.out (by kernel_rfl)) (fun _ _ _ h=>h) (Or.inl ⟨by rfl,?_⟩) ?_ ?_;rotate_left;(intro w';go_simp;with_reducible rfl);rotate_left;((try simp only [A,V,D,L,i64_w,i32_w]);rfl)
        refine pure_ (i:=1) (N:=some 18) (v:=?_) (a':=?_) #[O,O,Z,Z,Z,Z,Z,Z,Z,Z] rfl rfl (any_of HT_.out (by kernel_rfl)) (fun _ _ _ h=>h) (Or.inl ⟨by rfl,?_⟩) ?_ ?_;rotate_left;(intro w';go_simp;with_reducible rfl);rotate_left;((try simp only [A,V,D,L,i64_w,i32_w]);rfl)
        refine pure_ (i:=2) (N:=some 19) (v:=?_) (a':=?_) #[O,O,O,Z,Z,Z,Z,Z,Z,Z] rfl rfl (any_of HT_.out (by kernel_rfl)) (fun _ _ _ h=>h) (Or.inl ⟨by rfl,?_⟩) ?_ ?_;rotate_left;(intro w';go_simp;with_reducible rfl);rotate_left;((try simp only [A,V,D,L,i64_w,i32_w]);rfl)
        refine pure_ (i:=4) (N:=some 21) (v:=?_) (a':=?_) #[O,O,O,Z,O,Z,Z,Z,Z,Z] rfl rfl (any_of HT_.out (by kernel_rfl)) (fun _ _ _ h=>h) (Or.inl ⟨by rfl,?_⟩) ?_ ?_;rotate_left;(intro w';go_simp;with_reducible rfl);rotate_left;((try simp only [A,V,D,L,i64_w,i32_w]);rfl)
        refine pure_ (i:=5) (N:=some 22) (v:=?_) (a':=?_) #[O,O,O,Z,O,O,Z,Z,Z,Z] rfl rfl (any_of HT_.out (by kernel_rfl)) (fun _ _ _ h=>h) (Or.inl ⟨by rfl,?_⟩) ?_ ?_;rotate_left;(intro w';go_simp;with_reducible rfl);rotate_left;((try simp only [A,V,D,L,i64_w,i32_w]);rfl)
        refine pure_ (i:=6) (N:=some 23) (v:=?_) (a':=?_) #[O,O,O,Z,O,O,O,Z,Z,Z] rfl rfl (any_of HT_.out (by kernel_rfl)) (fun _ _ _ h=>h) (Or.inl ⟨by rfl,?_⟩) ?_ ?_;rotate_left;(intro w';go_simp;with_reducible rfl);rotate_left;((try simp only [A,V,D,L,i64_w,i32_w]);rfl)
        refine take_ (i:=3) (N:=some 20) (v:=?_) (a':=?_) #[O,O,O,O,O,O,O,Z,Z,Z] rfl rfl (take_ofW HT_.out HW_.out (by kernel_rfl)) (fun _ _ _ h=>h) (Or.inl ⟨by rfl,?_⟩) hHeld ?_ ?_;rotate_left;(rintro w' ⟨s0,s1,s2,s3⟩;go_simp;with_reducible rfl);rotate_left;((try simp only [A,V,D,L,i64_w,i32_w]);rfl)
        refine take_ (i:=7) (N:=some 24) (v:=?_) (a':=?_) #[O,O,O,O,O,O,O,O,Z,Z] rfl rfl (take_ofW HT_.out HW_.out (by kernel_rfl)) (fun _ _ _ h=>h) (Or.inl ⟨by rfl,?_⟩) hHeld ?_ ?_;rotate_left;(rintro w' ⟨s0,s1,s2,s3⟩;go_simp;with_reducible rfl);rotate_left;((try simp only [A,V,D,L,i64_w,i32_w]);rfl)
        refine one_ (i:=8) (N:=some 25) #[O,O,O,O,O,O,O,O,O,Z] rfl rfl (one_of HT_.out (by kernel_rfl)) (by decide) (fun K hK=>?_)
        refine goes_ Try.func89 (by kernel_rfl) rfl #[.agg #[.int .i64 ((rd_T74 l0 x5_1).f0),.int .i64 ((rd_T74 l0 x5_1).f1)],.agg #[.int .i64 ((rd_T74 l1 x5_1).f0),.int .i64 ((rd_T74 l1 x5_1).f1)]] (by rfl) rfl rfl (by (try simp only [List.map_toArray,List.map_cons,List.map_nil]);first | done | rfl | (simp only [List.length_drop,List.length_take];rfl)) ?_
        with_reducible refine (laws_eqSay.calls ((rd_T74 l0 x5_1).f0) ((rd_T74 l0 x5_1).f1) ((rd_T74 l1 x5_1).f0) ((rd_T74 l1 x5_1).f1) true _ A7.out).mono ?_
        rintro e w10 ⟨rfl,hb⟩
        refine ⟨_,rfl,?_⟩
        have n0_:=J (U (q0_ HB) hb)
        clear HB;have HB:=n0_;clear n0_
        refine hK.out _ _ ⟨((HB.out.cell (R w _ hw223_0)).trans hw223_0),((HB.out.cell (R w _ hw223_1)).trans hw223_1),((HB.out.cell (R w _ hw224_0)).trans hw224_0),((HB.out.cell (R w _ hw224_1)).trans hw224_1)⟩ (fun hHeld=>?_)
        clear hK K
        refine norm_ (a':=?_) ?_ ?_
        rotate_left
        ·show A _ (some 25) _ = _
         simp only [A,V,D,L,i64_w,i32_w]
         rfl
        refine pure_ (i:=9) (N:=some 26) (v:=?_) (a':=?_) #[O,O,O,O,O,O,O,O,O,O] rfl rfl (any_of HT_.out (by kernel_rfl)) (fun _ _ _ h=>h) (Or.inl ⟨by rfl,?_⟩) ?_ ?_;rotate_left;(intro w';go_simp;with_reducible rfl);rotate_left;((try simp only [A,V,D,L,i64_w,i32_w]);rfl)
        refine done_ (done_of HT_.out (by kernel_rfl)) ?_
        try go_wp2
        go_roundg k1
        case measure=>have:=HK1.out;omega
        case rel=>exact ⟨(wrap64 (x5_1 + 1)),(by first | rfl | (simp;done) | (simp [*];done)),H',⟨by have:=HK1.out;omega⟩,⟨by repeat (first | (with_reducible first | exact HB.out | apply below_alloc | apply Y | apply E) | exact HB.out)⟩⟩
       ·replace c8:=Bool.eq_false_iff.mpr c8;subst c8
        have H1 : (some false) = some r:=by rw [if_neg (show ¬ (false = true) by decide)] at H;exact H
        clear H;have H:=H1;clear H1;obtain rfl:=M H
        try go_wp2
        have n0_:=J (E HB.out);clear HB;have HB:=n0_;clear n0_
        have p223 : 0 ≤ (x5_1 : Int):=of_decide_eq_true (by first | (with_reducible assumption) | assumption)
        have q223 : x5_1 < (l0.length : Int):=of_decide_eq_true (by first | (with_reducible assumption) | assumption)
        obtain ⟨ad223,e223,hx223_0,hx223_1⟩:=at_T74 HR0.out x5_1 p223 q223;have hw223_1:=hx223_1;have hw223_0:=hx223_0
        cases e223
        replace hx223_0:=(HB.out.cell (R w _ hx223_0)).trans hx223_0;replace hx223_1:=(HB.out.cell (R w _ hx223_1)).trans hx223_1;replace p223:=eq_true p223;replace q223:=eq_true q223
        have p224 : 0 ≤ (x5_1 : Int):=of_decide_eq_true (by first | (with_reducible assumption) | assumption)
        have q224 : x5_1 < (l1.length : Int):=of_decide_eq_true (by first | (with_reducible assumption) | assumption)
        obtain ⟨ad224,e224,hx224_0,hx224_1⟩:=at_T74 HR1.out x5_1 p224 q224;have hw224_1:=hx224_1;have hw224_0:=hx224_0
        cases e224
        replace hx224_0:=(HB.out.cell (R w _ hx224_0)).trans hx224_0;replace hx224_1:=(HB.out.cell (R w _ hx224_1)).trans hx224_1;replace p224:=eq_true p224;replace q224:=eq_true q224
        refine start_ (n:=10) (S:=fun w'=>w'.cell? (ad223.add ((x5_1).toNat * 2)) = some (.int .i64 ((rd_T74 l0 x5_1).f0)) ∧ w'.cell? ⟨(ad223.add ((x5_1).toNat * 2)).block,(ad223.add ((x5_1).toNat * 2)).off + 1,none⟩ = some (.int .i64 ((rd_T74 l0 x5_1).f1)) ∧ w'.cell? (ad224.add ((x5_1).toNat * 2)) = some (.int .i64 ((rd_T74 l1 x5_1).f0)) ∧ w'.cell? ⟨(ad224.add ((x5_1).toNat * 2)).block,(ad224.add ((x5_1).toNat * 2)).off + 1,none⟩ = some (.int .i64 ((rd_T74 l1 x5_1).f1))) (ds:=[]) #[Z,Z,Z,Z,Z,Z,Z,Z,Z,Z] (by kernel_rfl) rfl rfl ⟨((HB.out.cell (R w _ hw223_0)).trans hw223_0),((HB.out.cell (R w _ hw223_1)).trans hw223_1),((HB.out.cell (R w _ hw224_0)).trans hw224_0),((HB.out.cell (R w _ hw224_1)).trans hw224_1)⟩ (fun hHeld=>?_);refine with_tabW laws_eqSayS.tab6 laws_eqSayS.bits6 (fun HT_ HW_=>?_)
        generalize wr.drew = w11 at HB hx223_0 hx223_1 hx224_0 hx224_1 hHeld ⊢
        refine pure_ (i:=0) (N:=some 17) (v:=?_) (a':=?_) #[O,Z,Z,Z,Z,Z,Z,Z,Z,Z] rfl rfl (any_of HT_.out (by kernel_rfl)) (fun _ _ _ h=>h) (Or.inl ⟨by rfl,?_⟩) ?_ ?_;rotate_left;(intro w';go_simp;with_reducible rfl);rotate_left;((try simp only [A,V,D,L,i64_w,i32_w]);rfl)
        refine pure_ (i:=1) (N:=some 18) (v:=?_) (a':=?_) #[O,O,Z,Z,Z,Z,Z,Z,Z,Z] rfl rfl (any_of HT_.out (by kernel_rfl)) (fun _ _ _ h=>h) (Or.inl ⟨by rfl,?_⟩) ?_ ?_;rotate_left;(intro w';go_simp;with_reducible rfl);rotate_left;((try simp only [A,V,D,L,i64_w,i32_w]);rfl)
        refine pure_ (i:=2) (N:=some 19) (v:=?_) (a':=?_) #[O,O,O,Z,Z,Z,Z,Z,Z,Z] rfl rfl (any_of HT_.out (by kernel_rfl)) (fun _ _ _ h=>h) (Or.inl ⟨by rfl,?_⟩) ?_ ?_;rotate_left;(intro w';go_simp;with_reducible rfl);rotate_left;((try simp only [A,V,D,L,i64_w,i32_w]);rfl)
        refine pure_ (i:=4) (N:=some 21) (v:=?_) (a':=?_) #[O,O,O,Z,O,Z,Z,Z,Z,Z] rfl rfl (any_of HT_.out (by kernel_rfl)) (fun _ _ _ h=>h) (Or.inl ⟨by rfl,?_⟩) ?_ ?_;rotate_left;(intro w';go_simp;with_reducible rfl);rotate_left;((try simp only [A,V,D,L,i64_w,i32_w]);rfl)
        refine pure_ (i:=5) (N:=some 22) (v:=?_) (a':=?_) #[O,O,O,Z,O,O,Z,Z,Z,Z] rfl rfl (any_of HT_.out (by kernel_rfl)) (fun _ _ _ h=>h) (Or.inl ⟨by rfl,?_⟩) ?_ ?_;rotate_left;(intro w';go_simp;with_reducible rfl);rotate_left;((try simp only [A,V,D,L,i64_w,i32_w]);rfl)
        refine pure_ (i:=6) (N:=some 23) (v:=?_) (a':=?_) #[O,O,O,Z,O,O,O,Z,Z,Z] rfl rfl (any_of HT_.out (by kernel_rfl)) (fun _ _ _ h=>h) (Or.inl ⟨by rfl,?_⟩) ?_ ?_;rotate_left;(intro w';go_simp;with_reducible rfl);rotate_left;((try simp only [A,V,D,L,i64_w,i32_w]);rfl)
        refine take_ (i:=3) (N:=some 20) (v:=?_) (a':=?_) #[O,O,O,O,O,O,O,Z,Z,Z] rfl rfl (take_ofW HT_.out HW_.out (by kernel_rfl)) (fun _ _ _ h=>h) (Or.inl ⟨by rfl,?_⟩) hHeld ?_ ?_;rotate_left;(rintro w' ⟨s0,s1,s2,s3⟩;go_simp;with_reducible rfl);rotate_left;((try simp only [A,V,D,L,i64_w,i32_w]);rfl)
        refine take_ (i:=7) (N:=some 24) (v:=?_) (a':=?_) #[O,O,O,O,O,O,O,O,Z,Z] rfl rfl (take_ofW HT_.out HW_.out (by kernel_rfl)) (fun _ _ _ h=>h) (Or.inl ⟨by rfl,?_⟩) hHeld ?_ ?_;rotate_left;(rintro w' ⟨s0,s1,s2,s3⟩;go_simp;with_reducible rfl);rotate_left;((try simp only [A,V,D,L,i64_w,i32_w]);rfl)
        refine one_ (i:=8) (N:=some 25) #[O,O,O,O,O,O,O,O,O,Z] rfl rfl (one_of HT_.out (by kernel_rfl)) (by decide) (fun K hK=>?_)
        refine goes_ Try.func89 (by kernel_rfl) rfl #[.agg #[.int .i64 ((rd_T74 l0 x5_1).f0),.int .i64 ((rd_T74 l0 x5_1).f1)],.agg #[.int .i64 ((rd_T74 l1 x5_1).f0),.int .i64 ((rd_T74 l1 x5_1).f1)]] (by rfl) rfl rfl (by (try simp only [List.map_toArray,List.map_cons,List.map_nil]);first | done | rfl | (simp only [List.length_drop,List.length_take];rfl)) ?_
        with_reducible refine (laws_eqSay.calls ((rd_T74 l0 x5_1).f0) ((rd_T74 l0 x5_1).f1) ((rd_T74 l1 x5_1).f0) ((rd_T74 l1 x5_1).f1) false _ A7.out).mono ?_
        rintro e w12 ⟨rfl,hb⟩
        refine ⟨_,rfl,?_⟩
        have n0_:=J (U (q0_ HB) hb)
        clear HB;have HB:=n0_;clear n0_
        refine hK.out _ _ ⟨((HB.out.cell (R w _ hw223_0)).trans hw223_0),((HB.out.cell (R w _ hw223_1)).trans hw223_1),((HB.out.cell (R w _ hw224_0)).trans hw224_0),((HB.out.cell (R w _ hw224_1)).trans hw224_1)⟩ (fun hHeld=>?_)
        clear hK K
        refine norm_ (a':=?_) ?_ ?_
        rotate_left
        ·show A _ (some 25) _ = _
         simp only [A,V,D,L,i64_w,i32_w]
         rfl
        refine pure_ (i:=9) (N:=some 26) (v:=?_) (a':=?_) #[O,O,O,O,O,O,O,O,O,O] rfl rfl (any_of HT_.out (by kernel_rfl)) (fun _ _ _ h=>h) (Or.inl ⟨by rfl,?_⟩) ?_ ?_;rotate_left;(intro w';go_simp;with_reducible rfl);rotate_left;((try simp only [A,V,D,L,i64_w,i32_w]);rfl)
        refine done_ (done_of HT_.out (by kernel_rfl)) ?_
        try go_wp2
        go_ret
        exact ⟨by first | rfl | (simp [F,B] <;> rfl) | (simp [*,F,B] <;> rfl),by repeat (first | (with_reducible first | exact HB.out | apply below_alloc | apply Y | apply E) | exact HB.out)⟩
      ·rw [if_neg c6] at H
       exact absurd H (by simp)
     ·rw [if_neg c5] at H
      exact absurd H (by simp)
    ·rw [if_neg c4] at H;have c4b0 : decide (x5_1 < (l0.length : Int)) = false:=decide_eq_false c4;clear c4;obtain rfl:=M H
     go_wp2
     go_ret
     exact ⟨by first | rfl | (simp [F,B] <;> rfl) | (simp [*,F,B] <;> rfl),by repeat (first | (with_reducible first | exact HB.out | apply below_alloc | apply Y | apply E) | exact HB.out)⟩
 ·rw [if_neg c3] at H;have c3b0 : ((l0.length : Int) == (l1.length : Int)) = false:=beq_eq_false_iff_ne.mpr c3;have c3b1 : ((l0.length : Int) != (l1.length : Int)) = true:=bne_iff_ne.mpr c3
  have c3b2 : (l0.length == l1.length) = false:=by first | simpa using c3 | (simp at c3 ⊢;omega)
  obtain rfl:=M H;go_enter Try.func52,Try.ntmps52
  go_wp2
  go_ret
  exact ⟨by first | rfl | (simp [F,B] <;> rfl) | (simp [*,F,B] <;> rfl),by repeat (first | (with_reducible first | exact HB.out | apply below_alloc | apply Y | apply E) | exact HB.out)⟩
def laws_eqProc.f (k : Nat) (l0_0 : List Int) (l0_1 : List (S104)) (a0_2 : Int) (a0_3 : Int) (a0_4 : Int) (l1_0 : List Int) (l1_1 : List (S104)) (a1_2 : Int) (a1_3 : Int) (a1_4 : Int) : Option (Bool):=(laws_eqIntS.f k l0_0 l1_0).bind fun t546=>(if t546 = true then ((laws_eqStmtS.f k l0_1 l1_1).bind fun t547=>(if t547 = true then (if a0_2 = a1_2 then (if a0_3 = a1_3 then (if a0_4 = a1_4 then (some true) else (some false)) else (some false)) else (some false)) else (some false))) else (some false))
set_option maxHeartbeats 8000000 in
set_option maxRecDepth 100000 in
theorem laws_eqProc.calls (k : Nat) (A0_0 : Option Addr) (c0_0 : Nat) (l0_0 : List Int) (A0_1 : Option Addr) (c0_1 : Nat) (l0_1 : List (S104)) (a0_2 : Int) (a0_3 : Int) (a0_4 : Int) (A1_0 : Option Addr) (c1_0 : Nat) (l1_0 : List Int) (A1_1 : Option Addr) (c1_1 : Nat) (l1_1 : List (S104)) (a1_2 : Int) (a1_3 : Int) (a1_4 : Int) (r : Bool) (w : World) (hr0_0 : Kd.C (Kd.int .i64) w A0_0 l0_0.length l0_0) (hc0_0 : l0_0.length ≤ c0_0) (hr0_1 : Kd.C k104 w A0_1 l0_1.length l0_1) (hc0_1 : l0_1.length ≤ c0_1) (hr1_0 : Kd.C (Kd.int .i64) w A1_0 l1_0.length l1_0) (hc1_0 : l1_0.length ≤ c1_0) (hr1_1 : Kd.C k104 w A1_1 l1_1.length l1_1) (hc1_1 : l1_1.length ≤ c1_1) (h : laws_eqProc.f k l0_0 l0_1 a0_2 a0_3 a0_4 l1_0 l1_1 a1_2 a1_3 a1_4 = some r) :
  Calls Try.prog 92 #[.agg #[.slice A0_0 l0_0.length c0_0,.slice A0_1 l0_1.length c0_1,.int .i64 a0_2,.int .i64 a0_3,.int .i64 a0_4],.agg #[.slice A1_0 l1_0.length c1_0,.slice A1_1 l1_1.length c1_1,.int .i64 a1_2,.int .i64 a1_3,.int .i64 a1_4]] w fun e w'=>e = .returned (.bool r) ∧ Below w.heap.size w w':=by
 have hu84:=Try.underlying84;have HR0_0:=J hr0_0;have HC0_0:=J hc0_0;clear hr0_0 hc0_0;have HR0_1:=J hr0_1;have HC0_1:=J hc0_1;clear hr0_1 hc0_1;have HR1_0:=J hr1_0;have HC1_0:=J hc1_0;clear hr1_0 hc1_0;have HR1_1:=J hr1_1;have HC1_1:=J hc1_1;clear hr1_1 hc1_1;have HB:=J (Below.refl w.heap.size w);have H : ((laws_eqIntS.f k l0_0 l1_0).bind fun t546=>(if t546 = true then ((laws_eqStmtS.f k l0_1 l1_1).bind fun t547=>(if t547 = true then (if a0_2 = a1_2 then (if a0_3 = a1_3 then (if a0_4 = a1_4 then (some true) else (some false)) else (some false)) else (some false)) else (some false))) else (some false))) = some r:=h;clear h;replace H:=T.mp H;obtain ⟨t546,A30,H⟩:=H;replace H : (if t546 = true then ((laws_eqStmtS.f k l0_1 l1_1).bind fun t547=>(if t547 = true then (if a0_2 = a1_2 then (if a0_3 = a1_3 then (if a0_4 = a1_4 then (some true) else (some false)) else (some false)) else (some false)) else (some false))) else (some false)) = some r:=H;have A3:=J A30;clear A30
 by_cases c_1 : t546 = true
 subst c_1
 have H_1 : ((laws_eqStmtS.f k l0_1 l1_1).bind fun t547=>(if t547 = true then (if a0_2 = a1_2 then (if a0_3 = a1_3 then (if a0_4 = a1_4 then (some true) else (some false)) else (some false)) else (some false)) else (some false))) = some r:=by rw [if_pos rfl] at H;exact H
 clear H;have H:=H_1;clear H_1;replace H:=T.mp H;obtain ⟨t547,A_1,H⟩:=H;replace H : (if t547 = true then (if a0_2 = a1_2 then (if a0_3 = a1_3 then (if a0_4 = a1_4 then (some true) else (some false)) else (some false)) else (some false)) else (some false)) = some r:=H;have A_2:=J A_1;clear A_1
 by_cases c_2 : t547 = true
 subst c_2
 have H_1 : (if a0_2 = a1_2 then (if a0_3 = a1_3 then (if a0_4 = a1_4 then (some true) else (some false)) else (some false)) else (some false)) = some r:=by rw [if_pos rfl] at H;exact H
 clear H;have H:=H_1;clear H_1
 by_cases c_3 : a0_2 = a1_2
 rw [if_pos c_3] at H;have c_1b_2 : (a0_2 == a1_2) = true:=beq_iff_eq.mpr c_3;have c_1b_3 : (a0_2 != a1_2) = false:=bne_eq_false_iff_eq.mpr c_3;clear c_3
 by_cases c_4 : a0_3 = a1_3
 rw [if_pos c_4] at H;have c_4b_2 : (a0_3 == a1_3) = true:=beq_iff_eq.mpr c_4;have c_4b_3 : (a0_3 != a1_3) = false:=bne_eq_false_iff_eq.mpr c_4;clear c_4
 by_cases c_5 : a0_4 = a1_4
 rw [if_pos c_5] at H;have c_5b_2 : (a0_4 == a1_4) = true:=beq_iff_eq.mpr c_5;have c_5b_3 : (a0_4 != a1_4) = false:=bne_eq_false_iff_eq.mpr c_5;clear c_5;obtain rfl:=M H;go_enter Try.func92,Try.ntmps92
 rotate_left
 rw [if_neg c_5] at H;have c_5b_2 : (a0_4 == a1_4) = false:=beq_eq_false_iff_ne.mpr c_5;have c_5b_3 : (a0_4 != a1_4) = true:=bne_iff_ne.mpr c_5;obtain rfl:=M H;go_enter Try.func92,Try.ntmps92
 rotate_left
 rw [if_neg c_4] at H;have c_4b_2 : (a0_3 == a1_3) = false:=beq_eq_false_iff_ne.mpr c_4;have c_4b_3 : (a0_3 != a1_3) = true:=bne_iff_ne.mpr c_4;obtain rfl:=M H;go_enter Try.func92,Try.ntmps92
 rotate_left
 rw [if_neg c_3] at H;have c_1b_2 : (a0_2 == a1_2) = false:=beq_eq_false_iff_ne.mpr c_3;have c_1b_3 : (a0_2 != a1_2) = true:=bne_iff_ne.mpr c_3;obtain rfl:=M H;go_enter Try.func92,Try.ntmps92
 rotate_left
 ·replace c_2:=Bool.eq_false_iff.mpr c_2;subst c_2
  have H_1 : (some false) = some r:=by rw [if_neg (show ¬ (false = true) by decide)] at H;exact H
  clear H;have H:=H_1;clear H_1;obtain rfl:=M H;go_enter Try.func92,Try.ntmps92
  go_wp2_with (first | ((with_reducible refine gate_dst (N:=2) rfl ?_);refine box_event ?hg (N:=2) ?hd (cs:=#[.slice A0_0 l0_0.length c0_0,.slice A0_1 l0_1.length c0_1,.int .i64 a0_2,.int .i64 a0_3,.int .i64 a0_4]) (t:=84) ?hr ?_;(case hd=>rfl);(case hg=>rfl);(case hr=>first | (go_simp;done) | (go_simp;rfl));intro gb_1 hg w_1 hbox hb;have n_1_:=J (U (q0_ HB) hb);have n_2_:=J (hbox);have n_3_:=J ((by rw [hg];exact (G (q0_ HB)) : w.heap.size ≤ gb_1));have n_4_:=J ((by rw [hg];exact (G (q0_ HB)) : w.heap.size ≤ gb_1));clear HB;have HB:=n_1_;have BK_1:=n_2_;have GW_1:=n_3_;have GE_1:=n_4_;clear n_1_ n_2_ n_3_ n_4_ hb hbox hg) | ((with_reducible refine gate_dst (N:=3) rfl ?_);refine box_event ?hg (N:=3) ?hd (cs:=#[.slice A1_0 l1_0.length c1_0,.slice A1_1 l1_1.length c1_1,.int .i64 a1_2,.int .i64 a1_3,.int .i64 a1_4]) (t:=84) ?hr ?_;(case hd=>rfl);(case hg=>rfl);(case hr=>first | (go_simp;done) | (go_simp;rfl));intro gb_2 hg w_2 hbox hb;have n_1_:=J (blk_below (g:=gb_1) (o:=.cells #[.slice A0_0 l0_0.length c0_0,.slice A0_1 l0_1.length c0_1,.int .i64 a0_2,.int .i64 a0_3,.int .i64 a0_4] 84 (0,0)) (q1_ BK_1) hb);have n_2_:=J (U (q2_ HB GE_1) hb);have n_3_:=J (hbox);have n_4_:=J ((by rw [hg];exact (G (q2_ HB GE_1)) : w.heap.size ≤ gb_2));have n_5_:=J ((by rw [hg];exact (G (q2_ HB GE_1)) : w.heap.size ≤ gb_2));have n_6_:=J ((by rw [hg];exact Nat.ne_of_lt (blk_lt (g:=gb_1) (o:=.cells #[.slice A0_0 l0_0.length c0_0,.slice A0_1 l0_1.length c0_1,.int .i64 a0_2,.int .i64 a0_3,.int .i64 a0_4] 84 (0,0)) (q1_ BK_1)) : gb_1 ≠ gb_2));have n_7_:=J ((by rw [hg];exact Nat.ne_of_gt (blk_lt (g:=gb_1) (o:=.cells #[.slice A0_0 l0_0.length c0_0,.slice A0_1 l0_1.length c0_1,.int .i64 a0_2,.int .i64 a0_3,.int .i64 a0_4] 84 (0,0)) (q1_ BK_1)) : gb_2 ≠ gb_1));clear BK_1 HB;have BK_1:=n_1_;have HB:=n_2_;have BK_2:=n_3_;have GW_2:=n_4_;have GE_2:=n_5_;have NB_1__2:=n_6_;have NB_2__1:=n_7_;clear n_1_ n_2_ n_3_ n_4_ n_5_ n_6_ n_7_ hb hbox hg;have hnb_1:=NB_1__2.out;have hnc_1:=NB_2__1.out;obtain ⟨hcz_1__2,hcz_1__3,hcz_1__4,hcz_1__5,hcz_1__6,hfz_1__2,hfz_1__3,hfz_1__4,hfz_1__5,hfz_1__6⟩:=bz5_ BK_1;obtain ⟨hcz_7__2,hcz_7__3,hcz_7__4,hcz_7__5,hcz_7__6,hfz_7__2,hfz_7__3,hfz_7__4,hfz_7__5,hfz_7__6⟩:=bz5_ BK_2) | ((with_reducible refine gate_callee (f:=34) rfl ?_);refine goesM_ (some 9) Try.func34 #[.slice A0_0 l0_0.length c0_0,.slice A1_0 l1_0.length c1_0] ?_;(with_reducible refine (laws_eqIntS.calls k _ _ l0_0 _ _ l1_0 true _ ?side_1 ?side_2 ?side_3 ?side_4 A3.out).mono ?_);(case side_1=>repeat (first | exact (Kd.C_below HR0_0.out HB.out) | (with_reducible refine X ?_ _) | (with_reducible refine Q ?_ _) | (with_reducible refine W ?_)));(case side_2=>exact HC0_0.out);(case side_3=>repeat (first | exact (Kd.C_below HR1_0.out HB.out) | (with_reducible refine X ?_ _) | (with_reducible refine Q ?_ _) | (with_reducible refine W ?_)));(case side_4=>exact HC1_0.out);rintro e w' ⟨rfl,⟨nd,rfl⟩⟩;refine ⟨_,rfl,?_⟩) | ((with_reducible refine gate_callee (f:=68) rfl ?_);refine goesM_ (some 15) Try.func68 #[.slice A0_1 l0_1.length c0_1,.slice A1_1 l1_1.length c1_1] ?_;(with_reducible refine (laws_eqStmtS.calls k _ _ l0_1 _ _ l1_1 false _ ?side_1 ?side_2 ?side_3 ?side_4 A_2.out).mono ?_);(case side_1=>repeat (first | exact (Kd.C_below HR0_1.out (q3_ HB GE_1 GE_2)) | (with_reducible refine X ?_ _) | (with_reducible refine Q ?_ _) | (with_reducible refine W ?_)));(case side_2=>exact HC0_1.out);(case side_3=>repeat (first | exact (Kd.C_below HR1_1.out (q3_ HB GE_1 GE_2)) | (with_reducible refine X ?_ _) | (with_reducible refine Q ?_ _) | (with_reducible refine W ?_)));(case side_4=>exact HC1_1.out);rintro e w_3 ⟨rfl,hb⟩;refine ⟨_,rfl,?_⟩;have n_1_:=J (blk_below (g:=gb_1) (o:=.cells #[.slice A0_0 l0_0.length c0_0,.slice A0_1 l0_1.length c0_1,.int .i64 a0_2,.int .i64 a0_3,.int .i64 a0_4] 84 (0,0)) (q1_ BK_1) hb);have n_2_:=J (blk_below (g:=gb_2) (o:=.cells #[.slice A1_0 l1_0.length c1_0,.slice A1_1 l1_1.length c1_1,.int .i64 a1_2,.int .i64 a1_3,.int .i64 a1_4] 84 (0,0)) (q1_ BK_2) hb);have n_3_:=J (U (q3_ HB GE_1 GE_2) hb);clear BK_1 BK_2 HB;have BK_1:=n_1_;have BK_2:=n_2_;have HB:=n_3_;clear n_1_ n_2_ n_3_;(try clear hb);(try clear hb_1)))
  go_ret
  exact ⟨by first | rfl | (simp [F,B] <;> rfl) | (simp [*,F,B] <;> rfl),by repeat (first | (with_reducible first | exact HB.out | apply below_alloc | apply Y | apply E | refine below_set ?_ GE_1.out | refine below_set ?_ GE_2.out) | exact HB.out)⟩
 replace c_1:=Bool.eq_false_iff.mpr c_1;subst c_1
 have H_1 : (some false) = some r:=by rw [if_neg (show ¬ (false = true) by decide)] at H;exact H
 clear H;have H:=H_1;clear H_1;obtain rfl:=M H;go_enter Try.func92,Try.ntmps92
 rotate_left
 all_goals
  go_wp2_with (first | ((with_reducible refine gate_dst (N:=2) rfl ?_);refine box_event ?hg (N:=2) ?hd (cs:=#[.slice A0_0 l0_0.length c0_0,.slice A0_1 l0_1.length c0_1,.int .i64 a0_2,.int .i64 a0_3,.int .i64 a0_4]) (t:=84) ?hr ?_;(case hd=>rfl);(case hg=>rfl);(case hr=>first | (go_simp;done) | (go_simp;rfl));intro gb_1 hg w_1 hbox hb;have n_1_:=J (U (q0_ HB) hb);have n_2_:=J (hbox);have n_3_:=J ((by rw [hg];exact (G (q0_ HB)) : w.heap.size ≤ gb_1));have n_4_:=J ((by rw [hg];exact (G (q0_ HB)) : w.heap.size ≤ gb_1));clear HB;have HB:=n_1_;have BK_1:=n_2_;have GW_1:=n_3_;have GE_1:=n_4_;clear n_1_ n_2_ n_3_ n_4_ hb hbox hg) | ((with_reducible refine gate_dst (N:=3) rfl ?_);refine box_event ?hg (N:=3) ?hd (cs:=#[.slice A1_0 l1_0.length c1_0,.slice A1_1 l1_1.length c1_1,.int .i64 a1_2,.int .i64 a1_3,.int .i64 a1_4]) (t:=84) ?hr ?_;(case hd=>rfl);(case hg=>rfl);(case hr=>first | (go_simp;done) | (go_simp;rfl));intro gb_2 hg w_2 hbox hb;have n_1_:=J (blk_below (g:=gb_1) (o:=.cells #[.slice A0_0 l0_0.length c0_0,.slice A0_1 l0_1.length c0_1,.int .i64 a0_2,.int .i64 a0_3,.int .i64 a0_4] 84 (0,0)) (q1_ BK_1) hb);have n_2_:=J (U (q2_ HB GE_1) hb);have n_3_:=J (hbox);have n_4_:=J ((by rw [hg];exact (G (q2_ HB GE_1)) : w.heap.size ≤ gb_2));have n_5_:=J ((by rw [hg];exact (G (q2_ HB GE_1)) : w.heap.size ≤ gb_2));have n_6_:=J ((by rw [hg];exact Nat.ne_of_lt (blk_lt (g:=gb_1) (o:=.cells #[.slice A0_0 l0_0.length c0_0,.slice A0_1 l0_1.length c0_1,.int .i64 a0_2,.int .i64 a0_3,.int .i64 a0_4] 84 (0,0)) (q1_ BK_1)) : gb_1 ≠ gb_2));have n_7_:=J ((by rw [hg];exact Nat.ne_of_gt (blk_lt (g:=gb_1) (o:=.cells #[.slice A0_0 l0_0.length c0_0,.slice A0_1 l0_1.length c0_1,.int .i64 a0_2,.int .i64 a0_3,.int .i64 a0_4] 84 (0,0)) (q1_ BK_1)) : gb_2 ≠ gb_1));clear BK_1 HB;have BK_1:=n_1_;have HB:=n_2_;have BK_2:=n_3_;have GW_2:=n_4_;have GE_2:=n_5_;have NB_1__2:=n_6_;have NB_2__1:=n_7_;clear n_1_ n_2_ n_3_ n_4_ n_5_ n_6_ n_7_ hb hbox hg;have hnb_1:=NB_1__2.out;have hnc_1:=NB_2__1.out;obtain ⟨hcz_1__2,hcz_1__3,hcz_1__4,hcz_1__5,hcz_1__6,hfz_1__2,hfz_1__3,hfz_1__4,hfz_1__5,hfz_1__6⟩:=bz5_ BK_1;obtain ⟨hcz_7__2,hcz_7__3,hcz_7__4,hcz_7__5,hcz_7__6,hfz_7__2,hfz_7__3,hfz_7__4,hfz_7__5,hfz_7__6⟩:=bz5_ BK_2) | ((with_reducible refine gate_callee (f:=34) rfl ?_);refine goesM_ (some 9) Try.func34 #[.slice A0_0 l0_0.length c0_0,.slice A1_0 l1_0.length c1_0] ?_;(with_reducible refine (laws_eqIntS.calls k _ _ l0_0 _ _ l1_0 _ _ ?side_1 ?side_2 ?side_3 ?side_4 A3.out).mono ?_);(case side_1=>repeat (first | exact (Kd.C_below HR0_0.out HB.out) | (with_reducible refine X ?_ _) | (with_reducible refine Q ?_ _) | (with_reducible refine W ?_)));(case side_2=>exact HC0_0.out);(case side_3=>repeat (first | exact (Kd.C_below HR1_0.out HB.out) | (with_reducible refine X ?_ _) | (with_reducible refine Q ?_ _) | (with_reducible refine W ?_)));(case side_4=>exact HC1_0.out);rintro e w' ⟨rfl,⟨nd,rfl⟩⟩;refine ⟨_,rfl,?_⟩) | ((with_reducible refine gate_callee (f:=68) rfl ?_);refine goesM_ (some 15) Try.func68 #[.slice A0_1 l0_1.length c0_1,.slice A1_1 l1_1.length c1_1] ?_;(with_reducible refine (laws_eqStmtS.calls k _ _ l0_1 _ _ l1_1 _ _ ?side_1 ?side_2 ?side_3 ?side_4 A_2.out).mono ?_);(case side_1=>repeat (first | exact (Kd.C_below HR0_1.out (q3_ HB GE_1 GE_2)) | (with_reducible refine X ?_ _) | (with_reducible refine Q ?_ _) | (with_reducible refine W ?_)));(case side_2=>exact HC0_1.out);(case side_3=>repeat (first | exact (Kd.C_below HR1_1.out (q3_ HB GE_1 GE_2)) | (with_reducible refine X ?_ _) | (with_reducible refine Q ?_ _) | (with_reducible refine W ?_)));(case side_4=>exact HC1_1.out);rintro e w_3 ⟨rfl,hb⟩;refine ⟨_,rfl,?_⟩;have n_1_:=J (blk_below (g:=gb_1) (o:=.cells #[.slice A0_0 l0_0.length c0_0,.slice A0_1 l0_1.length c0_1,.int .i64 a0_2,.int .i64 a0_3,.int .i64 a0_4] 84 (0,0)) (q1_ BK_1) hb);have n_2_:=J (blk_below (g:=gb_2) (o:=.cells #[.slice A1_0 l1_0.length c1_0,.slice A1_1 l1_1.length c1_1,.int .i64 a1_2,.int .i64 a1_3,.int .i64 a1_4] 84 (0,0)) (q1_ BK_2) hb);have n_3_:=J (U (q3_ HB GE_1 GE_2) hb);clear BK_1 BK_2 HB;have BK_1:=n_1_;have BK_2:=n_2_;have HB:=n_3_;clear n_1_ n_2_ n_3_;(try clear hb);(try clear hb_1);obtain ⟨hcz_8__2,hcz_8__3,hcz_8__4,hcz_8__5,hcz_8__6,hfz_8__2,hfz_8__3,hfz_8__4,hfz_8__5,hfz_8__6⟩:=bz5_ BK_1;obtain ⟨hcz_9__2,hcz_9__3,hcz_9__4,hcz_9__5,hcz_9__6,hfz_9__2,hfz_9__3,hfz_9__4,hfz_9__5,hfz_9__6⟩:=bz5_ BK_2))
 all_goals
  go_ret
  exact ⟨by first | rfl | (simp [F,B] <;> rfl) | (simp [*,F,B] <;> rfl),by repeat (first | (with_reducible first | exact HB.out | apply below_alloc | apply Y | apply E | refine below_set ?_ GE_1.out | refine below_set ?_ GE_2.out) | exact HB.out)⟩
def laws_eqProcS.l0 : Nat → List (S84) → List (S84) → Int → Option (Bool)
 | 0,_,_,_=>none
 | k + 1,x0,x1,x5=>if x5 < (x0.length : Int) then (if 0 ≤ x5 then (if x5 < (x1.length : Int) then ((laws_eqProc.f k ((rd_T84 x0 x5).f0) ((rd_T84 x0 x5).f1) ((rd_T84 x0 x5).f2) ((rd_T84 x0 x5).f3) ((rd_T84 x0 x5).f4) ((rd_T84 x1 x5).f0) ((rd_T84 x1 x5).f1) ((rd_T84 x1 x5).f2) ((rd_T84 x1 x5).f3) ((rd_T84 x1 x5).f4)).bind fun t550=>(if t550 = true then (laws_eqProcS.l0 k x0 x1 (wrap64 (x5 + 1))) else (some false))) else (none)) else (none)) else (some true)
def laws_eqProcS.f (k : Nat) (l0 : List (S84)) (l1 : List (S84)) : Option (Bool):=if (l0.length : Int) = (l1.length : Int) then (laws_eqProcS.l0 k l0 l1 0) else (some false)
def laws_eqProcS.T6 : Bool × List (List Nat × List Nat):=(true,[([],[]),([],[]),([0,1],[0,1]),([2],[2]),([],[]),([],[]),([4,5],[4,5]),([6],[6]),([3,7],[3,7]),([8],[8])])
def laws_eqProcS.B6 : List Nat:=[0,0,3,7,0,0,48,112,255,511]
theorem laws_eqProcS.tab6 : rtab .any (opsOf Try.f57 6) = laws_eqProcS.T6:=by kernel_rfl
theorem laws_eqProcS.bits6 : waitsOk laws_eqProcS.T6.2 laws_eqProcS.B6 = true:=by kernel_rfl
set_option maxHeartbeats 8000000 in
set_option maxRecDepth 100000 in
theorem laws_eqProcS.calls (k : Nat) (A0 : Option Addr) (c0 : Nat) (l0 : List (S84)) (A1 : Option Addr) (c1 : Nat) (l1 : List (S84)) (r : Bool) (w : World) (hr0 : Kd.C k84 w A0 l0.length l0) (hc0 : l0.length ≤ c0) (hr1 : Kd.C k84 w A1 l1.length l1) (hc1 : l1.length ≤ c1) (h : laws_eqProcS.f k l0 l1 = some r) :
  Calls Try.prog 57 #[.slice A0 l0.length c0,.slice A1 l1.length c1] w fun e w'=>e = .returned (.bool r) ∧ Below w.heap.size w w':=by
 have hu84:=Try.underlying84;have HR0:=J hr0;have HC0:=J hc0;clear hr0 hc0;have HR1:=J hr1;have HC1:=J hc1;clear hr1 hc1;have HB:=J (Below.refl w.heap.size w);have H : (if (l0.length : Int) = (l1.length : Int) then (laws_eqProcS.l0 k l0 l1 0) else (some false)) = some r:=h;clear h
 by_cases c3 : (l0.length : Int) = (l1.length : Int)
 ·rw [if_pos c3] at H;have c3b0 : ((l0.length : Int) == (l1.length : Int)) = true:=beq_iff_eq.mpr c3;have c3b1 : ((l0.length : Int) != (l1.length : Int)) = false:=bne_eq_false_iff_eq.mpr c3
  have c3b2 : (l0.length == l1.length) = true:=by first | simpa using c3 | (simp at c3 ⊢;omega)
  clear c3;have H':=J H;clear H;go_enter Try.func57,Try.ntmps57
  go_wp2
  go_loopg [5] k (fun kq v5 w'=>∃ (x5_1 : Int),v5 = .int .i64 x5_1 ∧ Aside0 (laws_eqProcS.l0 kq l0 l1 x5_1 = some r) ∧ Aside0 (kq ≤ k) ∧ Aside0 (Below w.heap.size w w'))
  case atStart=>exact ⟨(0),(by first | rfl | (simp;done) | (simp [*];done)),H',⟨Nat.le_refl _⟩,⟨by repeat (first | (with_reducible first | exact HB.out | apply below_alloc | apply Y | apply E) | exact HB.out)⟩⟩
  case round =>
   clear H';(try clear c1);(try clear p2);(try clear c3);(try clear c3b0);(try clear c3b1);(try clear c3b2);obtain ⟨x5_1,rfl,HA,HK1,HB⟩:=hrel
   cases gk with
   | zero=>exact absurd HA.out (by simp [laws_eqProcS.l0])
   | succ k1 =>
    have H:=HA.out;clear HA;simp only [laws_eqProcS.l0] at H
    by_cases c4 : x5_1 < (l0.length : Int)
    ·rw [if_pos c4] at H;have c4b0 : decide (x5_1 < (l0.length : Int)) = true:=decide_eq_true c4;clear c4
     by_cases c5 : 0 ≤ x5_1
     ·rw [if_pos c5] at H;have c5b0 : decide (0 ≤ x5_1) = true:=decide_eq_true c5;clear c5
      by_cases c6 : x5_1 < (l1.length : Int)
      ·rw [if_pos c6] at H;have c6b0 : decide (x5_1 < (l1.length : Int)) = true:=decide_eq_true c6;clear c6;replace H:=T.mp H;obtain ⟨t550,A70,H⟩:=H;replace H : (if t550 = true then (laws_eqProcS.l0 k1 l0 l1 (wrap64 (x5_1 + 1))) else (some false)) = some r:=H;have A7:=J A70;clear A70
       by_cases c8 : t550 = true
       ·subst c8
        have H1 : (laws_eqProcS.l0 k1 l0 l1 (wrap64 (x5_1 + 1))) = some r:=by rw [if_pos rfl] at H;exact H
        clear H;have H:=H1;clear H1;have H':=J H;clear H
        try go_wp2
        have n0_:=J (E HB.out);clear HB;have HB:=n0_;clear n0_
        have p548 : 0 ≤ (x5_1 : Int):=of_decide_eq_true (by first | (with_reducible assumption) | assumption)
        have q548 : x5_1 < (l0.length : Int):=of_decide_eq_true (by first | (with_reducible assumption) | assumption)
        obtain ⟨ad548,A548_0,c548_0,A548_1,c548_1,e548,hx548_0,hx548_1,hx548_2,hx548_3,hx548_4,hl548_0,hi548_0,hl548_1,hi548_1⟩:=at_T84 HR0.out x5_1 p548 q548;have hw548_4:=hx548_4;have hw548_3:=hx548_3;have hw548_2:=hx548_2;have hw548_1:=hx548_1;have hw548_0:=hx548_0
        cases e548
        replace hx548_0:=(HB.out.cell (R w _ hx548_0)).trans hx548_0;replace hx548_1:=(HB.out.cell (R w _ hx548_1)).trans hx548_1;replace hx548_2:=(HB.out.cell (R w _ hx548_2)).trans hx548_2;replace hx548_3:=(HB.out.cell (R w _ hx548_3)).trans hx548_3;replace hx548_4:=(HB.out.cell (R w _ hx548_4)).trans hx548_4;have HR548_0:=J hi548_0;have HC548_0:=J hl548_0;clear hi548_0 hl548_0;have HR548_1:=J hi548_1;have HC548_1:=J hl548_1;clear hi548_1 hl548_1;replace p548:=eq_true p548;replace q548:=eq_true q548
        have p549 : 0 ≤ (x5_1 : Int):=of_decide_eq_true (by first | (with_reducible assumption) | assumption)
        have q549 : x5_1 < (l1.length : Int):=of_decide_eq_true (by first | (with_reducible assumption) | assumption)
        obtain ⟨ad549,A549_0,c549_0,A549_1,c549_1,e549,hx549_0,hx549_1,hx549_2,hx549_3,hx549_4,hl549_0,hi549_0,hl549_1,hi549_1⟩:=at_T84 HR1.out x5_1 p549 q549;have hw549_4:=hx549_4;have hw549_3:=hx549_3;have hw549_2:=hx549_2;have hw549_1:=hx549_1;have hw549_0:=hx549_0
        cases e549
        replace hx549_0:=(HB.out.cell (R w _ hx549_0)).trans hx549_0;replace hx549_1:=(HB.out.cell (R w _ hx549_1)).trans hx549_1;replace hx549_2:=(HB.out.cell (R w _ hx549_2)).trans hx549_2;replace hx549_3:=(HB.out.cell (R w _ hx549_3)).trans hx549_3;replace hx549_4:=(HB.out.cell (R w _ hx549_4)).trans hx549_4;have HR549_0:=J hi549_0;have HC549_0:=J hl549_0;clear hi549_0 hl549_0;have HR549_1:=J hi549_1;have HC549_1:=J hl549_1;clear hi549_1 hl549_1;replace p549:=eq_true p549;replace q549:=eq_true q549
        refine start_ (n:=10) (S:=fun w'=>w'.cell? (ad548.add ((x5_1).toNat * 5)) = some (.slice A548_0 ((rd_T84 l0 x5_1).f0).length c548_0) ∧ w'.cell? ⟨(ad548.add ((x5_1).toNat * 5)).block,(ad548.add ((x5_1).toNat * 5)).off + 1,none⟩ = some (.slice A548_1 ((rd_T84 l0 x5_1).f1).length c548_1) ∧ w'.cell? ⟨(ad548.add ((x5_1).toNat * 5)).block,(ad548.add ((x5_1).toNat * 5)).off + 2,none⟩ = some (.int .i64 ((rd_T84 l0 x5_1).f2)) ∧ w'.cell? ⟨(ad548.add ((x5_1).toNat * 5)).block,(ad548.add ((x5_1).toNat * 5)).off + 3,none⟩ = some (.int .i64 ((rd_T84 l0 x5_1).f3)) ∧ w'.cell? ⟨(ad548.add ((x5_1).toNat * 5)).block,(ad548.add ((x5_1).toNat * 5)).off + 4,none⟩ = some (.int .i64 ((rd_T84 l0 x5_1).f4)) ∧ w'.cell? (ad549.add ((x5_1).toNat * 5)) = some (.slice A549_0 ((rd_T84 l1 x5_1).f0).length c549_0) ∧ w'.cell? ⟨(ad549.add ((x5_1).toNat * 5)).block,(ad549.add ((x5_1).toNat * 5)).off + 1,none⟩ = some (.slice A549_1 ((rd_T84 l1 x5_1).f1).length c549_1) ∧ w'.cell? ⟨(ad549.add ((x5_1).toNat * 5)).block,(ad549.add ((x5_1).toNat * 5)).off + 2,none⟩ = some (.int .i64 ((rd_T84 l1 x5_1).f2)) ∧ w'.cell? ⟨(ad549.add ((x5_1).toNat * 5)).block,(ad549.add ((x5_1).toNat * 5)).off + 3,none⟩ = some (.int .i64 ((rd_T84 l1 x5_1).f3)) ∧ w'.cell? ⟨(ad549.add ((x5_1).toNat * 5)).block,(ad549.add ((x5_1).toNat * 5)).off + 4,none⟩ = some (.int .i64 ((rd_T84 l1 x5_1).f4))) (ds:=[]) #[Z,Z,Z,Z,Z,Z,Z,Z,Z,Z] (by kernel_rfl) rfl rfl ⟨((HB.out.cell (R w _ hw548_0)).trans hw548_0),((HB.out.cell (R w _ hw548_1)).trans hw548_1),((HB.out.cell (R w _ hw548_2)).trans hw548_2),((HB.out.cell (R w _ hw548_3)).trans hw548_3),((HB.out.cell (R w _ hw548_4)).trans hw548_4),((HB.out.cell (R w _ hw549_0)).trans hw549_0),((HB.out.cell (R w _ hw549_1)).trans hw549_1),((HB.out.cell (R w _ hw549_2)).trans hw549_2),((HB.out.cell (R w _ hw549_3)).trans hw549_3),((HB.out.cell (R w _ hw549_4)).trans hw549_4)⟩ (fun hHeld=>?_);refine with_tabW laws_eqProcS.tab6 laws_eqProcS.bits6 (fun HT_ HW_=>?_)
        generalize wr.drew = w9 at HB HR548_0 HR548_1 HR549_0 HR549_1 hx548_0 hx548_1 hx548_2 hx548_3 hx548_4 hx549_0 hx549_1 hx549_2 hx549_3 hx549_4 hHeld ⊢
        refine pure_ (i:=0) (N:=some 17) (v:=?_) (a':=?_) #[O,Z,Z,Z,Z,Z,Z,Z,Z,Z] rfl rfl (any_of HT_.out (by kernel_rfl)) (fun _ _ _ h=>h) (Or.inl ⟨by rfl,?_⟩) ?_ ?_;rotate_left;(intro w';go_simp;with_reducible rfl);rotate_left;((try simp only [A,V,D,L,i64_w,i32_w]);rfl)
        refine pure_ (i:=1) (N:=some 18) (v:=?_) (a':=?_) #[O,O,Z,Z,Z,Z,Z,Z,Z,Z] rfl rfl (any_of HT_.out (by kernel_rfl)) (fun _ _ _ h=>h) (Or.inl ⟨by rfl,?_⟩) ?_ ?_;rotate_left;(intro w';go_simp;with_reducible rfl);rotate_left;((try simp only [A,V,D,L,i64_w,i32_w]);rfl)
        refine pure_ (i:=2) (N:=some 19) (v:=?_) (a':=?_) #[O,O,O,Z,Z,Z,Z,Z,Z,Z] rfl rfl (any_of HT_.out (by kernel_rfl)) (fun _ _ _ h=>h) (Or.inl ⟨by rfl,?_⟩) ?_ ?_;rotate_left;(intro w';go_simp;with_reducible rfl);rotate_left;((try simp only [A,V,D,L,i64_w,i32_w]);rfl)
        refine pure_ (i:=4) (N:=some 21) (v:=?_) (a':=?_) #[O,O,O,Z,O,Z,Z,Z,Z,Z] rfl rfl (any_of HT_.out (by kernel_rfl)) (fun _ _ _ h=>h) (Or.inl ⟨by rfl,?_⟩) ?_ ?_;rotate_left;(intro w';go_simp;with_reducible rfl);rotate_left;((try simp only [A,V,D,L,i64_w,i32_w]);rfl)
        refine pure_ (i:=5) (N:=some 22) (v:=?_) (a':=?_) #[O,O,O,Z,O,O,Z,Z,Z,Z] rfl rfl (any_of HT_.out (by kernel_rfl)) (fun _ _ _ h=>h) (Or.inl ⟨by rfl,?_⟩) ?_ ?_;rotate_left;(intro w';go_simp;with_reducible rfl);rotate_left;((try simp only [A,V,D,L,i64_w,i32_w]);rfl)
        refine pure_ (i:=6) (N:=some 23) (v:=?_) (a':=?_) #[O,O,O,Z,O,O,O,Z,Z,Z] rfl rfl (any_of HT_.out (by kernel_rfl)) (fun _ _ _ h=>h) (Or.inl ⟨by rfl,?_⟩) ?_ ?_;rotate_left;(intro w';go_simp;with_reducible rfl);rotate_left;((try simp only [A,V,D,L,i64_w,i32_w]);rfl)
        refine take_ (i:=3) (N:=some 20) (v:=?_) (a':=?_) #[O,O,O,O,O,O,O,Z,Z,Z] rfl rfl (take_ofW HT_.out HW_.out (by kernel_rfl)) (fun _ _ _ h=>h) (Or.inl ⟨by rfl,?_⟩) hHeld ?_ ?_;rotate_left;(rintro w' ⟨s0,s1,s2,s3,s4,s5,s6,s7,s8,s9⟩;go_simp;with_reducible rfl);rotate_left;((try simp only [A,V,D,L,i64_w,i32_w]);rfl)
        refine take_ (i:=7) (N:=some 24) (v:=?_) (a':=?_) #[O,O,O,O,O,O,O,O,Z,Z] rfl rfl (take_ofW HT_.out HW_.out (by kernel_rfl)) (fun _ _ _ h=>h) (Or.inl ⟨by rfl,?_⟩) hHeld ?_ ?_;rotate_left;(rintro w' ⟨s0,s1,s2,s3,s4,s5,s6,s7,s8,s9⟩;go_simp;with_reducible rfl);rotate_left;((try simp only [A,V,D,L,i64_w,i32_w]);rfl)
        refine one_ (i:=8) (N:=some 25) #[O,O,O,O,O,O,O,O,O,Z] rfl rfl (one_of HT_.out (by kernel_rfl)) (by decide) (fun K hK=>?_)
        refine goes_ Try.func92 (by kernel_rfl) rfl #[.agg #[.slice A548_0 ((rd_T84 l0 x5_1).f0).length c548_0,.slice A548_1 ((rd_T84 l0 x5_1).f1).length c548_1,.int .i64 ((rd_T84 l0 x5_1).f2),.int .i64 ((rd_T84 l0 x5_1).f3),.int .i64 ((rd_T84 l0 x5_1).f4)],.agg #[.slice A549_0 ((rd_T84 l1 x5_1).f0).length c549_0,.slice A549_1 ((rd_T84 l1 x5_1).f1).length c549_1,.int .i64 ((rd_T84 l1 x5_1).f2),.int .i64 ((rd_T84 l1 x5_1).f3),.int .i64 ((rd_T84 l1 x5_1).f4)]] (by rfl) rfl rfl (by (try simp only [List.map_toArray,List.map_cons,List.map_nil]);first | done | rfl | (simp only [List.length_drop,List.length_take];rfl)) ?_
        with_reducible refine (laws_eqProc.calls k1 _ _ ((rd_T84 l0 x5_1).f0) _ _ ((rd_T84 l0 x5_1).f1) ((rd_T84 l0 x5_1).f2) ((rd_T84 l0 x5_1).f3) ((rd_T84 l0 x5_1).f4) _ _ ((rd_T84 l1 x5_1).f0) _ _ ((rd_T84 l1 x5_1).f1) ((rd_T84 l1 x5_1).f2) ((rd_T84 l1 x5_1).f3) ((rd_T84 l1 x5_1).f4) true _ ?side1 ?side2 ?side3 ?side4 ?side5 ?side6 ?side7 ?side8 A7.out).mono ?_
        (case side1=>repeat (first | exact (Kd.C_below HR548_0.out HB.out) | (with_reducible refine X ?_ _) | (with_reducible refine Q ?_ _) | (with_reducible refine W ?_)))
        (case side2=>exact HC548_0.out)
        (case side3=>repeat (first | exact (Kd.C_below HR548_1.out HB.out) | (with_reducible refine X ?_ _) | (with_reducible refine Q ?_ _) | (with_reducible refine W ?_)))
        (case side4=>exact HC548_1.out)
        (case side5=>repeat (first | exact (Kd.C_below HR549_0.out HB.out) | (with_reducible refine X ?_ _) | (with_reducible refine Q ?_ _) | (with_reducible refine W ?_)))
        (case side6=>exact HC549_0.out)
        (case side7=>repeat (first | exact (Kd.C_below HR549_1.out HB.out) | (with_reducible refine X ?_ _) | (with_reducible refine Q ?_ _) | (with_reducible refine W ?_)))
        (case side8=>exact HC549_1.out)
        rintro e w10 ⟨rfl,hb⟩
        refine ⟨_,rfl,?_⟩
        have n0_:=J (U (q0_ HB) hb)
        clear HB;have HB:=n0_;clear n0_
        refine hK.out _ _ ⟨((HB.out.cell (R w _ hw548_0)).trans hw548_0),((HB.out.cell (R w _ hw548_1)).trans hw548_1),((HB.out.cell (R w _ hw548_2)).trans hw548_2),((HB.out.cell (R w _ hw548_3)).trans hw548_3),((HB.out.cell (R w _ hw548_4)).trans hw548_4),((HB.out.cell (R w _ hw549_0)).trans hw549_0),((HB.out.cell (R w _ hw549_1)).trans hw549_1),((HB.out.cell (R w _ hw549_2)).trans hw549_2),((HB.out.cell (R w _ hw549_3)).trans hw549_3),((HB.out.cell (R w _ hw549_4)).trans hw549_4)⟩ (fun hHeld=>?_)
        clear hK K
        refine norm_ (a':=?_) ?_ ?_
        rotate_left
        ·show A _ (some 25) _ = _
         simp only [A,V,D,L,i64_w,i32_w]
         rfl
        refine pure_ (i:=9) (N:=some 26) (v:=?_) (a':=?_) #[O,O,O,O,O,O,O,O,O,O] rfl rfl (any_of HT_.out (by kernel_rfl)) (fun _ _ _ h=>h) (Or.inl ⟨by rfl,?_⟩) ?_ ?_;rotate_left;(intro w';go_simp;with_reducible rfl);rotate_left;((try simp only [A,V,D,L,i64_w,i32_w]);rfl)
        refine done_ (done_of HT_.out (by kernel_rfl)) ?_
        try go_wp2
        go_roundg k1
        case measure=>have:=HK1.out;omega
        case rel=>exact ⟨(wrap64 (x5_1 + 1)),(by first | rfl | (simp;done) | (simp [*];done)),H',⟨by have:=HK1.out;omega⟩,⟨by repeat (first | (with_reducible first | exact HB.out | apply below_alloc | apply Y | apply E) | exact HB.out)⟩⟩
       ·replace c8:=Bool.eq_false_iff.mpr c8;subst c8
        have H1 : (some false) = some r:=by rw [if_neg (show ¬ (false = true) by decide)] at H;exact H
        clear H;have H:=H1;clear H1;obtain rfl:=M H
        try go_wp2
        have n0_:=J (E HB.out);clear HB;have HB:=n0_;clear n0_
        have p548 : 0 ≤ (x5_1 : Int):=of_decide_eq_true (by first | (with_reducible assumption) | assumption)
        have q548 : x5_1 < (l0.length : Int):=of_decide_eq_true (by first | (with_reducible assumption) | assumption)
        obtain ⟨ad548,A548_0,c548_0,A548_1,c548_1,e548,hx548_0,hx548_1,hx548_2,hx548_3,hx548_4,hl548_0,hi548_0,hl548_1,hi548_1⟩:=at_T84 HR0.out x5_1 p548 q548;have hw548_4:=hx548_4;have hw548_3:=hx548_3;have hw548_2:=hx548_2;have hw548_1:=hx548_1;have hw548_0:=hx548_0
        cases e548
        replace hx548_0:=(HB.out.cell (R w _ hx548_0)).trans hx548_0;replace hx548_1:=(HB.out.cell (R w _ hx548_1)).trans hx548_1;replace hx548_2:=(HB.out.cell (R w _ hx548_2)).trans hx548_2;replace hx548_3:=(HB.out.cell (R w _ hx548_3)).trans hx548_3;replace hx548_4:=(HB.out.cell (R w _ hx548_4)).trans hx548_4;have HR548_0:=J hi548_0;have HC548_0:=J hl548_0;clear hi548_0 hl548_0;have HR548_1:=J hi548_1;have HC548_1:=J hl548_1;clear hi548_1 hl548_1;replace p548:=eq_true p548;replace q548:=eq_true q548
        have p549 : 0 ≤ (x5_1 : Int):=of_decide_eq_true (by first | (with_reducible assumption) | assumption)
        have q549 : x5_1 < (l1.length : Int):=of_decide_eq_true (by first | (with_reducible assumption) | assumption)
        obtain ⟨ad549,A549_0,c549_0,A549_1,c549_1,e549,hx549_0,hx549_1,hx549_2,hx549_3,hx549_4,hl549_0,hi549_0,hl549_1,hi549_1⟩:=at_T84 HR1.out x5_1 p549 q549;have hw549_4:=hx549_4;have hw549_3:=hx549_3;have hw549_2:=hx549_2;have hw549_1:=hx549_1;have hw549_0:=hx549_0
        cases e549
        replace hx549_0:=(HB.out.cell (R w _ hx549_0)).trans hx549_0;replace hx549_1:=(HB.out.cell (R w _ hx549_1)).trans hx549_1;replace hx549_2:=(HB.out.cell (R w _ hx549_2)).trans hx549_2;replace hx549_3:=(HB.out.cell (R w _ hx549_3)).trans hx549_3;replace hx549_4:=(HB.out.cell (R w _ hx549_4)).trans hx549_4;have HR549_0:=J hi549_0;have HC549_0:=J hl549_0;clear hi549_0 hl549_0;have HR549_1:=J hi549_1;have HC549_1:=J hl549_1;clear hi549_1 hl549_1;replace p549:=eq_true p549;replace q549:=eq_true q549
        refine start_ (n:=10) (S:=fun w'=>w'.cell? (ad548.add ((x5_1).toNat * 5)) = some (.slice A548_0 ((rd_T84 l0 x5_1).f0).length c548_0) ∧ w'.cell? ⟨(ad548.add ((x5_1).toNat * 5)).block,(ad548.add ((x5_1).toNat * 5)).off + 1,none⟩ = some (.slice A548_1 ((rd_T84 l0 x5_1).f1).length c548_1) ∧ w'.cell? ⟨(ad548.add ((x5_1).toNat * 5)).block,(ad548.add ((x5_1).toNat * 5)).off + 2,none⟩ = some (.int .i64 ((rd_T84 l0 x5_1).f2)) ∧ w'.cell? ⟨(ad548.add ((x5_1).toNat * 5)).block,(ad548.add ((x5_1).toNat * 5)).off + 3,none⟩ = some (.int .i64 ((rd_T84 l0 x5_1).f3)) ∧ w'.cell? ⟨(ad548.add ((x5_1).toNat * 5)).block,(ad548.add ((x5_1).toNat * 5)).off + 4,none⟩ = some (.int .i64 ((rd_T84 l0 x5_1).f4)) ∧ w'.cell? (ad549.add ((x5_1).toNat * 5)) = some (.slice A549_0 ((rd_T84 l1 x5_1).f0).length c549_0) ∧ w'.cell? ⟨(ad549.add ((x5_1).toNat * 5)).block,(ad549.add ((x5_1).toNat * 5)).off + 1,none⟩ = some (.slice A549_1 ((rd_T84 l1 x5_1).f1).length c549_1) ∧ w'.cell? ⟨(ad549.add ((x5_1).toNat * 5)).block,(ad549.add ((x5_1).toNat * 5)).off + 2,none⟩ = some (.int .i64 ((rd_T84 l1 x5_1).f2)) ∧ w'.cell? ⟨(ad549.add ((x5_1).toNat * 5)).block,(ad549.add ((x5_1).toNat * 5)).off + 3,none⟩ = some (.int .i64 ((rd_T84 l1 x5_1).f3)) ∧ w'.cell? ⟨(ad549.add ((x5_1).toNat * 5)).block,(ad549.add ((x5_1).toNat * 5)).off + 4,none⟩ = some (.int .i64 ((rd_T84 l1 x5_1).f4))) (ds:=[]) #[Z,Z,Z,Z,Z,Z,Z,Z,Z,Z] (by kernel_rfl) rfl rfl ⟨((HB.out.cell (R w _ hw548_0)).trans hw548_0),((HB.out.cell (R w _ hw548_1)).trans hw548_1),((HB.out.cell (R w _ hw548_2)).trans hw548_2),((HB.out.cell (R w _ hw548_3)).trans hw548_3),((HB.out.cell (R w _ hw548_4)).trans hw548_4),((HB.out.cell (R w _ hw549_0)).trans hw549_0),((HB.out.cell (R w _ hw549_1)).trans hw549_1),((HB.out.cell (R w _ hw549_2)).trans hw549_2),((HB.out.cell (R w _ hw549_3)).trans hw549_3),((HB.out.cell (R w _ hw549_4)).trans hw549_4)⟩ (fun hHeld=>?_);refine with_tabW laws_eqProcS.tab6 laws_eqProcS.bits6 (fun HT_ HW_=>?_)
        generalize wr.drew = w11 at HB HR548_0 HR548_1 HR549_0 HR549_1 hx548_0 hx548_1 hx548_2 hx548_3 hx548_4 hx549_0 hx549_1 hx549_2 hx549_3 hx549_4 hHeld ⊢
        refine pure_ (i:=0) (N:=some 17) (v:=?_) (a':=?_) #[O,Z,Z,Z,Z,Z,Z,Z,Z,Z] rfl rfl (any_of HT_.out (by kernel_rfl)) (fun _ _ _ h=>h) (Or.inl ⟨by rfl,?_⟩) ?_ ?_;rotate_left;(intro w';go_simp;with_reducible rfl);rotate_left;((try simp only [A,V,D,L,i64_w,i32_w]);rfl)
        refine pure_ (i:=1) (N:=some 18) (v:=?_) (a':=?_) #[O,O,Z,Z,Z,Z,Z,Z,Z,Z] rfl rfl (any_of HT_.out (by kernel_rfl)) (fun _ _ _ h=>h) (Or.inl ⟨by rfl,?_⟩) ?_ ?_;rotate_left;(intro w';go_simp;with_reducible rfl);rotate_left;((try simp only [A,V,D,L,i64_w,i32_w]);rfl)
        refine pure_ (i:=2) (N:=some 19) (v:=?_) (a':=?_) #[O,O,O,Z,Z,Z,Z,Z,Z,Z] rfl rfl (any_of HT_.out (by kernel_rfl)) (fun _ _ _ h=>h) (Or.inl ⟨by rfl,?_⟩) ?_ ?_;rotate_left;(intro w';go_simp;with_reducible rfl);rotate_left;((try simp only [A,V,D,L,i64_w,i32_w]);rfl)
        refine pure_ (i:=4) (N:=some 21) (v:=?_) (a':=?_) #[O,O,O,Z,O,Z,Z,Z,Z,Z] rfl rfl (any_of HT_.out (by kernel_rfl)) (fun _ _ _ h=>h) (Or.inl ⟨by rfl,?_⟩) ?_ ?_;rotate_left;(intro w';go_simp;with_reducible rfl);rotate_left;((try simp only [A,V,D,L,i64_w,i32_w]);rfl)
        refine pure_ (i:=5) (N:=some 22) (v:=?_) (a':=?_) #[O,O,O,Z,O,O,Z,Z,Z,Z] rfl rfl (any_of HT_.out (by kernel_rfl)) (fun _ _ _ h=>h) (Or.inl ⟨by rfl,?_⟩) ?_ ?_;rotate_left;(intro w';go_simp;with_reducible rfl);rotate_left;((try simp only [A,V,D,L,i64_w,i32_w]);rfl)
        refine pure_ (i:=6) (N:=some 23) (v:=?_) (a':=?_) #[O,O,O,Z,O,O,O,Z,Z,Z] rfl rfl (any_of HT_.out (by kernel_rfl)) (fun _ _ _ h=>h) (Or.inl ⟨by rfl,?_⟩) ?_ ?_;rotate_left;(intro w';go_simp;with_reducible rfl);rotate_left;((try simp only [A,V,D,L,i64_w,i32_w]);rfl)
        refine take_ (i:=3) (N:=some 20) (v:=?_) (a':=?_) #[O,O,O,O,O,O,O,Z,Z,Z] rfl rfl (take_ofW HT_.out HW_.out (by kernel_rfl)) (fun _ _ _ h=>h) (Or.inl ⟨by rfl,?_⟩) hHeld ?_ ?_;rotate_left;(rintro w' ⟨s0,s1,s2,s3,s4,s5,s6,s7,s8,s9⟩;go_simp;with_reducible rfl);rotate_left;((try simp only [A,V,D,L,i64_w,i32_w]);rfl)
        refine take_ (i:=7) (N:=some 24) (v:=?_) (a':=?_) #[O,O,O,O,O,O,O,O,Z,Z] rfl rfl (take_ofW HT_.out HW_.out (by kernel_rfl)) (fun _ _ _ h=>h) (Or.inl ⟨by rfl,?_⟩) hHeld ?_ ?_;rotate_left;(rintro w' ⟨s0,s1,s2,s3,s4,s5,s6,s7,s8,s9⟩;go_simp;with_reducible rfl);rotate_left;((try simp only [A,V,D,L,i64_w,i32_w]);rfl)
        refine one_ (i:=8) (N:=some 25) #[O,O,O,O,O,O,O,O,O,Z] rfl rfl (one_of HT_.out (by kernel_rfl)) (by decide) (fun K hK=>?_)
        refine goes_ Try.func92 (by kernel_rfl) rfl #[.agg #[.slice A548_0 ((rd_T84 l0 x5_1).f0).length c548_0,.slice A548_1 ((rd_T84 l0 x5_1).f1).length c548_1,.int .i64 ((rd_T84 l0 x5_1).f2),.int .i64 ((rd_T84 l0 x5_1).f3),.int .i64 ((rd_T84 l0 x5_1).f4)],.agg #[.slice A549_0 ((rd_T84 l1 x5_1).f0).length c549_0,.slice A549_1 ((rd_T84 l1 x5_1).f1).length c549_1,.int .i64 ((rd_T84 l1 x5_1).f2),.int .i64 ((rd_T84 l1 x5_1).f3),.int .i64 ((rd_T84 l1 x5_1).f4)]] (by rfl) rfl rfl (by (try simp only [List.map_toArray,List.map_cons,List.map_nil]);first | done | rfl | (simp only [List.length_drop,List.length_take];rfl)) ?_
        with_reducible refine (laws_eqProc.calls k1 _ _ ((rd_T84 l0 x5_1).f0) _ _ ((rd_T84 l0 x5_1).f1) ((rd_T84 l0 x5_1).f2) ((rd_T84 l0 x5_1).f3) ((rd_T84 l0 x5_1).f4) _ _ ((rd_T84 l1 x5_1).f0) _ _ ((rd_T84 l1 x5_1).f1) ((rd_T84 l1 x5_1).f2) ((rd_T84 l1 x5_1).f3) ((rd_T84 l1 x5_1).f4) false _ ?side1 ?side2 ?side3 ?side4 ?side5 ?side6 ?side7 ?side8 A7.out).mono ?_
        (case side1=>repeat (first | exact (Kd.C_below HR548_0.out HB.out) | (with_reducible refine X ?_ _) | (with_reducible refine Q ?_ _) | (with_reducible refine W ?_)))
        (case side2=>exact HC548_0.out)
        (case side3=>repeat (first | exact (Kd.C_below HR548_1.out HB.out) | (with_reducible refine X ?_ _) | (with_reducible refine Q ?_ _) | (with_reducible refine W ?_)))
        (case side4=>exact HC548_1.out)
        (case side5=>repeat (first | exact (Kd.C_below HR549_0.out HB.out) | (with_reducible refine X ?_ _) | (with_reducible refine Q ?_ _) | (with_reducible refine W ?_)))
        (case side6=>exact HC549_0.out)
        (case side7=>repeat (first | exact (Kd.C_below HR549_1.out HB.out) | (with_reducible refine X ?_ _) | (with_reducible refine Q ?_ _) | (with_reducible refine W ?_)))
        (case side8=>exact HC549_1.out)
        rintro e w12 ⟨rfl,hb⟩
        refine ⟨_,rfl,?_⟩
        have n0_:=J (U (q0_ HB) hb)
        clear HB;have HB:=n0_;clear n0_
        refine hK.out _ _ ⟨((HB.out.cell (R w _ hw548_0)).trans hw548_0),((HB.out.cell (R w _ hw548_1)).trans hw548_1),((HB.out.cell (R w _ hw548_2)).trans hw548_2),((HB.out.cell (R w _ hw548_3)).trans hw548_3),((HB.out.cell (R w _ hw548_4)).trans hw548_4),((HB.out.cell (R w _ hw549_0)).trans hw549_0),((HB.out.cell (R w _ hw549_1)).trans hw549_1),((HB.out.cell (R w _ hw549_2)).trans hw549_2),((HB.out.cell (R w _ hw549_3)).trans hw549_3),((HB.out.cell (R w _ hw549_4)).trans hw549_4)⟩ (fun hHeld=>?_)
        clear hK K
        refine norm_ (a':=?_) ?_ ?_
        rotate_left
        ·show A _ (some 25) _ = _
         simp only [A,V,D,L,i64_w,i32_w]
         rfl
        refine pure_ (i:=9) (N:=some 26) (v:=?_) (a':=?_) #[O,O,O,O,O,O,O,O,O,O] rfl rfl (any_of HT_.out (by kernel_rfl)) (fun _ _ _ h=>h) (Or.inl ⟨by rfl,?_⟩) ?_ ?_;rotate_left;(intro w';go_simp;with_reducible rfl);rotate_left;((try simp only [A,V,D,L,i64_w,i32_w]);rfl)
        refine done_ (done_of HT_.out (by kernel_rfl)) ?_
        try go_wp2
        go_ret
        exact ⟨by first | rfl | (simp [F,B] <;> rfl) | (simp [*,F,B] <;> rfl),by repeat (first | (with_reducible first | exact HB.out | apply below_alloc | apply Y | apply E) | exact HB.out)⟩
      ·rw [if_neg c6] at H
       exact absurd H (by simp)
     ·rw [if_neg c5] at H
      exact absurd H (by simp)
    ·rw [if_neg c4] at H;have c4b0 : decide (x5_1 < (l0.length : Int)) = false:=decide_eq_false c4;clear c4;obtain rfl:=M H
     go_wp2
     go_ret
     exact ⟨by first | rfl | (simp [F,B] <;> rfl) | (simp [*,F,B] <;> rfl),by repeat (first | (with_reducible first | exact HB.out | apply below_alloc | apply Y | apply E) | exact HB.out)⟩
 ·rw [if_neg c3] at H;have c3b0 : ((l0.length : Int) == (l1.length : Int)) = false:=beq_eq_false_iff_ne.mpr c3;have c3b1 : ((l0.length : Int) != (l1.length : Int)) = true:=bne_iff_ne.mpr c3
  have c3b2 : (l0.length == l1.length) = false:=by first | simpa using c3 | (simp at c3 ⊢;omega)
  obtain rfl:=M H;go_enter Try.func57,Try.ntmps57
  go_wp2
  go_ret
  exact ⟨by first | rfl | (simp [F,B] <;> rfl) | (simp [*,F,B] <;> rfl),by repeat (first | (with_reducible first | exact HB.out | apply below_alloc | apply Y | apply E) | exact HB.out)⟩
def laws_eqWorld.f (k : Nat) (l0_0 : List (S84)) (l0_1 : List Int) (l0_2 : List Int) (l0_3 : List (List Int)) (l0_4 : List (S74)) (l1_0 : List (S84)) (l1_1 : List Int) (l1_2 : List Int) (l1_3 : List (List Int)) (l1_4 : List (S74)) : Option (Bool):=(laws_eqProcS.f k l0_0 l1_0).bind fun t553=>(if t553 = true then ((laws_eqIntS.f k l0_1 l1_1).bind fun t554=>(if t554 = true then ((laws_eqIntS.f k l0_2 l1_2).bind fun t555=>(if t555 = true then ((laws_eqIntSS.f k l0_3 l1_3).bind fun t556=>(if t556 = true then ((laws_eqSayS.f k l0_4 l1_4).bind fun t557=>(if t557 = true then (some true) else (some false))) else (some false))) else (some false))) else (some false))) else (some false))
set_option maxHeartbeats 8000000 in
set_option maxRecDepth 100000 in
theorem laws_eqWorld.calls (k : Nat) (A0_0 : Option Addr) (c0_0 : Nat) (l0_0 : List (S84)) (A0_1 : Option Addr) (c0_1 : Nat) (l0_1 : List Int) (A0_2 : Option Addr) (c0_2 : Nat) (l0_2 : List Int) (A0_3 : Option Addr) (c0_3 : Nat) (l0_3 : List (List Int)) (A0_4 : Option Addr) (c0_4 : Nat) (l0_4 : List (S74)) (A1_0 : Option Addr) (c1_0 : Nat) (l1_0 : List (S84)) (A1_1 : Option Addr) (c1_1 : Nat) (l1_1 : List Int) (A1_2 : Option Addr) (c1_2 : Nat) (l1_2 : List Int) (A1_3 : Option Addr) (c1_3 : Nat) (l1_3 : List (List Int)) (A1_4 : Option Addr) (c1_4 : Nat) (l1_4 : List (S74)) (r : Bool) (w : World) (hr0_0 : Kd.C k84 w A0_0 l0_0.length l0_0) (hc0_0 : l0_0.length ≤ c0_0) (hr0_1 : Kd.C (Kd.int .i64) w A0_1 l0_1.length l0_1) (hc0_1 : l0_1.length ≤ c0_1) (hr0_2 : Kd.C (Kd.int .i64) w A0_2 l0_2.length l0_2) (hc0_2 : l0_2.length ≤ c0_2) (hr0_3 : Kd.C (Kd.slice 3 (Kd.int .i64)) w A0_3 l0_3.length l0_3) (hc0_3 : l0_3.length ≤ c0_3) (hr0_4 : Kd.C k74 w A0_4 l0_4.length l0_4) (hc0_4 : l0_4.length ≤ c0_4) (hr1_0 : Kd.C k84 w A1_0 l1_0.length l1_0) (hc1_0 : l1_0.length ≤ c1_0) (hr1_1 : Kd.C (Kd.int .i64) w A1_1 l1_1.length l1_1) (hc1_1 : l1_1.length ≤ c1_1) (hr1_2 : Kd.C (Kd.int .i64) w A1_2 l1_2.length l1_2) (hc1_2 : l1_2.length ≤ c1_2) (hr1_3 : Kd.C (Kd.slice 3 (Kd.int .i64)) w A1_3 l1_3.length l1_3) (hc1_3 : l1_3.length ≤ c1_3) (hr1_4 : Kd.C k74 w A1_4 l1_4.length l1_4) (hc1_4 : l1_4.length ≤ c1_4) (h : laws_eqWorld.f k l0_0 l0_1 l0_2 l0_3 l0_4 l1_0 l1_1 l1_2 l1_3 l1_4 = some r) :
  Calls Try.prog 18 #[.agg #[.slice A0_0 l0_0.length c0_0,.slice A0_1 l0_1.length c0_1,.slice A0_2 l0_2.length c0_2,.slice A0_3 l0_3.length c0_3,.slice A0_4 l0_4.length c0_4],.agg #[.slice A1_0 l1_0.length c1_0,.slice A1_1 l1_1.length c1_1,.slice A1_2 l1_2.length c1_2,.slice A1_3 l1_3.length c1_3,.slice A1_4 l1_4.length c1_4]] w fun e w'=>e = .returned (.bool r) ∧ Below w.heap.size w w':=by
 have hu43:=Try.underlying43;have HR0_0:=J hr0_0;have HC0_0:=J hc0_0;clear hr0_0 hc0_0;have HR0_1:=J hr0_1;have HC0_1:=J hc0_1;clear hr0_1 hc0_1;have HR0_2:=J hr0_2;have HC0_2:=J hc0_2;clear hr0_2 hc0_2;have HR0_3:=J hr0_3;have HC0_3:=J hc0_3;clear hr0_3 hc0_3;have HR0_4:=J hr0_4;have HC0_4:=J hc0_4;clear hr0_4 hc0_4;have HR1_0:=J hr1_0;have HC1_0:=J hc1_0;clear hr1_0 hc1_0;have HR1_1:=J hr1_1;have HC1_1:=J hc1_1;clear hr1_1 hc1_1;have HR1_2:=J hr1_2;have HC1_2:=J hc1_2;clear hr1_2 hc1_2;have HR1_3:=J hr1_3;have HC1_3:=J hc1_3;clear hr1_3 hc1_3;have HR1_4:=J hr1_4;have HC1_4:=J hc1_4;clear hr1_4 hc1_4;have HB:=J (Below.refl w.heap.size w);have H : ((laws_eqProcS.f k l0_0 l1_0).bind fun t553=>(if t553 = true then ((laws_eqIntS.f k l0_1 l1_1).bind fun t554=>(if t554 = true then ((laws_eqIntS.f k l0_2 l1_2).bind fun t555=>(if t555 = true then ((laws_eqIntSS.f k l0_3 l1_3).bind fun t556=>(if t556 = true then ((laws_eqSayS.f k l0_4 l1_4).bind fun t557=>(if t557 = true then (some true) else (some false))) else (some false))) else (some false))) else (some false))) else (some false))) = some r:=h;clear h;replace H:=T.mp H;obtain ⟨t553,A30,H⟩:=H;replace H : (if t553 = true then ((laws_eqIntS.f k l0_1 l1_1).bind fun t554=>(if t554 = true then ((laws_eqIntS.f k l0_2 l1_2).bind fun t555=>(if t555 = true then ((laws_eqIntSS.f k l0_3 l1_3).bind fun t556=>(if t556 = true then ((laws_eqSayS.f k l0_4 l1_4).bind fun t557=>(if t557 = true then (some true) else (some false))) else (some false))) else (some false))) else (some false))) else (some false)) = some r:=H;have A3:=J A30;clear A30
 by_cases c_1 : t553 = true
 subst c_1
 have H_1 : ((laws_eqIntS.f k l0_1 l1_1).bind fun t554=>(if t554 = true then ((laws_eqIntS.f k l0_2 l1_2).bind fun t555=>(if t555 = true then ((laws_eqIntSS.f k l0_3 l1_3).bind fun t556=>(if t556 = true then ((laws_eqSayS.f k l0_4 l1_4).bind fun t557=>(if t557 = true then (some true) else (some false))) else (some false))) else (some false))) else (some false))) = some r:=by rw [if_pos rfl] at H;exact H
 clear H;have H:=H_1;clear H_1;replace H:=T.mp H;obtain ⟨t554,A_1,H⟩:=H;replace H : (if t554 = true then ((laws_eqIntS.f k l0_2 l1_2).bind fun t555=>(if t555 = true then ((laws_eqIntSS.f k l0_3 l1_3).bind fun t556=>(if t556 = true then ((laws_eqSayS.f k l0_4 l1_4).bind fun t557=>(if t557 = true then (some true) else (some false))) else (some false))) else (some false))) else (some false)) = some r:=H;have A_2:=J A_1;clear A_1
 by_cases c_2 : t554 = true
 subst c_2
 have H_1 : ((laws_eqIntS.f k l0_2 l1_2).bind fun t555=>(if t555 = true then ((laws_eqIntSS.f k l0_3 l1_3).bind fun t556=>(if t556 = true then ((laws_eqSayS.f k l0_4 l1_4).bind fun t557=>(if t557 = true then (some true) else (some false))) else (some false))) else (some false))) = some r:=by rw [if_pos rfl] at H;exact H
 clear H;have H:=H_1;clear H_1;replace H:=T.mp H;obtain ⟨t555,A_3,H⟩:=H;replace H : (if t555 = true then ((laws_eqIntSS.f k l0_3 l1_3).bind fun t556=>(if t556 = true then ((laws_eqSayS.f k l0_4 l1_4).bind fun t557=>(if t557 = true then (some true) else (some false))) else (some false))) else (some false)) = some r:=H;have A_4:=J A_3;clear A_3
 by_cases c_3 : t555 = true
 subst c_3
 have H_1 : ((laws_eqIntSS.f k l0_3 l1_3).bind fun t556=>(if t556 = true then ((laws_eqSayS.f k l0_4 l1_4).bind fun t557=>(if t557 = true then (some true) else (some false))) else (some false))) = some r:=by rw [if_pos rfl] at H;exact H
 clear H;have H:=H_1;clear H_1;replace H:=T.mp H;obtain ⟨t556,A_5,H⟩:=H;replace H : (if t556 = true then ((laws_eqSayS.f k l0_4 l1_4).bind fun t557=>(if t557 = true then (some true) else (some false))) else (some false)) = some r:=H;have A_6:=J A_5;clear A_5
 by_cases c_4 : t556 = true
 subst c_4
 have H_1 : ((laws_eqSayS.f k l0_4 l1_4).bind fun t557=>(if t557 = true then (some true) else (some false))) = some r:=by rw [if_pos rfl] at H;exact H
 clear H;have H:=H_1;clear H_1;replace H:=T.mp H;obtain ⟨t557,A_7,H⟩:=H;replace H : (if t557 = true then (some true) else (some false)) = some r:=H;have A_8:=J A_7;clear A_7
 by_cases c_5 : t557 = true
 subst c_5
 have H_1 : (some true) = some r:=by rw [if_pos rfl] at H;exact H
 rotate_left
 replace c_5:=Bool.eq_false_iff.mpr c_5;subst c_5
 have H_1 : (some false) = some r:=by rw [if_neg (show ¬ (false = true) by decide)] at H;exact H
 rotate_left
 replace c_4:=Bool.eq_false_iff.mpr c_4;subst c_4
 have H_1 : (some false) = some r:=by rw [if_neg (show ¬ (false = true) by decide)] at H;exact H
 rotate_left
 replace c_3:=Bool.eq_false_iff.mpr c_3;subst c_3
 have H_1 : (some false) = some r:=by rw [if_neg (show ¬ (false = true) by decide)] at H;exact H
 rotate_left
 replace c_2:=Bool.eq_false_iff.mpr c_2;subst c_2
 have H_1 : (some false) = some r:=by rw [if_neg (show ¬ (false = true) by decide)] at H;exact H
 rotate_left
 ·replace c_1:=Bool.eq_false_iff.mpr c_1;subst c_1
  have H_1 : (some false) = some r:=by rw [if_neg (show ¬ (false = true) by decide)] at H;exact H
  clear H;have H:=H_1;clear H_1;obtain rfl:=M H;go_enter Try.func18,Try.ntmps18
  go_wp2_with (first | ((with_reducible refine gate_dst (N:=2) rfl ?_);refine box_event ?hg (N:=2) ?hd (cs:=#[.slice A0_0 l0_0.length c0_0,.slice A0_1 l0_1.length c0_1,.slice A0_2 l0_2.length c0_2,.slice A0_3 l0_3.length c0_3,.slice A0_4 l0_4.length c0_4]) (t:=43) ?hr ?_;(case hd=>rfl);(case hg=>rfl);(case hr=>first | (go_simp;done) | (go_simp;rfl));intro gb_1 hg w_1 hbox hb;have n_1_:=J (U (q0_ HB) hb);have n_2_:=J (hbox);have n_3_:=J ((by rw [hg];exact (G (q0_ HB)) : w.heap.size ≤ gb_1));have n_4_:=J ((by rw [hg];exact (G (q0_ HB)) : w.heap.size ≤ gb_1));clear HB;have HB:=n_1_;have BK_1:=n_2_;have GW_1:=n_3_;have GE_1:=n_4_;clear n_1_ n_2_ n_3_ n_4_ hb hbox hg) | ((with_reducible refine gate_dst (N:=3) rfl ?_);refine box_event ?hg (N:=3) ?hd (cs:=#[.slice A1_0 l1_0.length c1_0,.slice A1_1 l1_1.length c1_1,.slice A1_2 l1_2.length c1_2,.slice A1_3 l1_3.length c1_3,.slice A1_4 l1_4.length c1_4]) (t:=43) ?hr ?_;(case hd=>rfl);(case hg=>rfl);(case hr=>first | (go_simp;done) | (go_simp;rfl));intro gb_2 hg w_2 hbox hb;have n_1_:=J (blk_below (g:=gb_1) (o:=.cells #[.slice A0_0 l0_0.length c0_0,.slice A0_1 l0_1.length c0_1,.slice A0_2 l0_2.length c0_2,.slice A0_3 l0_3.length c0_3,.slice A0_4 l0_4.length c0_4] 43 (0,0)) (q1_ BK_1) hb);have n_2_:=J (U (q2_ HB GE_1) hb);have n_3_:=J (hbox);have n_4_:=J ((by rw [hg];exact (G (q2_ HB GE_1)) : w.heap.size ≤ gb_2));have n_5_:=J ((by rw [hg];exact (G (q2_ HB GE_1)) : w.heap.size ≤ gb_2));have n_6_:=J ((by rw [hg];exact Nat.ne_of_lt (blk_lt (g:=gb_1) (o:=.cells #[.slice A0_0 l0_0.length c0_0,.slice A0_1 l0_1.length c0_1,.slice A0_2 l0_2.length c0_2,.slice A0_3 l0_3.length c0_3,.slice A0_4 l0_4.length c0_4] 43 (0,0)) (q1_ BK_1)) : gb_1 ≠ gb_2));have n_7_:=J ((by rw [hg];exact Nat.ne_of_gt (blk_lt (g:=gb_1) (o:=.cells #[.slice A0_0 l0_0.length c0_0,.slice A0_1 l0_1.length c0_1,.slice A0_2 l0_2.length c0_2,.slice A0_3 l0_3.length c0_3,.slice A0_4 l0_4.length c0_4] 43 (0,0)) (q1_ BK_1)) : gb_2 ≠ gb_1));clear BK_1 HB;have BK_1:=n_1_;have HB:=n_2_;have BK_2:=n_3_;have GW_2:=n_4_;have GE_2:=n_5_;have NB_1__2:=n_6_;have NB_2__1:=n_7_;clear n_1_ n_2_ n_3_ n_4_ n_5_ n_6_ n_7_ hb hbox hg;have hnb_1:=NB_1__2.out;have hnc_1:=NB_2__1.out;obtain ⟨hcz_1__2,hcz_1__3,hcz_1__4,hcz_1__5,hcz_1__6,hfz_1__2,hfz_1__3,hfz_1__4,hfz_1__5,hfz_1__6⟩:=bz5_ BK_1;obtain ⟨hcz_7__2,hcz_7__3,hcz_7__4,hcz_7__5,hcz_7__6,hfz_7__2,hfz_7__3,hfz_7__4,hfz_7__5,hfz_7__6⟩:=bz5_ BK_2) | ((with_reducible refine gate_callee (f:=57) rfl ?_);refine goesM_ (some 9) Try.func57 #[.slice A0_0 l0_0.length c0_0,.slice A1_0 l1_0.length c1_0] ?_;(with_reducible refine (laws_eqProcS.calls k _ _ l0_0 _ _ l1_0 false _ ?side_1 ?side_2 ?side_3 ?side_4 A3.out).mono ?_);(case side_1=>repeat (first | exact (Kd.C_below HR0_0.out HB.out) | (with_reducible refine X ?_ _) | (with_reducible refine Q ?_ _) | (with_reducible refine W ?_)));(case side_2=>exact HC0_0.out);(case side_3=>repeat (first | exact (Kd.C_below HR1_0.out HB.out) | (with_reducible refine X ?_ _) | (with_reducible refine Q ?_ _) | (with_reducible refine W ?_)));(case side_4=>exact HC1_0.out);rintro e w_3 ⟨rfl,hb⟩;refine ⟨_,rfl,?_⟩;have n_1_:=J (blk_below (g:=gb_1) (o:=.cells #[.slice A0_0 l0_0.length c0_0,.slice A0_1 l0_1.length c0_1,.slice A0_2 l0_2.length c0_2,.slice A0_3 l0_3.length c0_3,.slice A0_4 l0_4.length c0_4] 43 (0,0)) (q1_ BK_1) hb);have n_2_:=J (blk_below (g:=gb_2) (o:=.cells #[.slice A1_0 l1_0.length c1_0,.slice A1_1 l1_1.length c1_1,.slice A1_2 l1_2.length c1_2,.slice A1_3 l1_3.length c1_3,.slice A1_4 l1_4.length c1_4] 43 (0,0)) (q1_ BK_2) hb);have n_3_:=J (U (q3_ HB GE_1 GE_2) hb);clear BK_1 BK_2 HB;have BK_1:=n_1_;have BK_2:=n_2_;have HB:=n_3_;clear n_1_ n_2_ n_3_;(try clear hb);(try clear hb_1)))
  go_ret
  exact ⟨by first | rfl | (simp [F,B] <;> rfl) | (simp [*,F,B] <;> rfl),by repeat (first | (with_reducible first | exact HB.out | apply below_alloc | apply Y | apply E | refine below_set ?_ GE_1.out | refine below_set ?_ GE_2.out) | exact HB.out)⟩
 all_goals
  clear H;have H:=H_1;clear H_1;obtain rfl:=M H;go_enter Try.func18,Try.ntmps18
  go_wp2_with (first | ((with_reducible refine gate_dst (N:=2) rfl ?_);refine box_event ?hg (N:=2) ?hd (cs:=#[.slice A0_0 l0_0.length c0_0,.slice A0_1 l0_1.length c0_1,.slice A0_2 l0_2.length c0_2,.slice A0_3 l0_3.length c0_3,.slice A0_4 l0_4.length c0_4]) (t:=43) ?hr ?_;(case hd=>rfl);(case hg=>rfl);(case hr=>first | (go_simp;done) | (go_simp;rfl));intro gb_1 hg w_1 hbox hb;have n_1_:=J (U (q0_ HB) hb);have n_2_:=J (hbox);have n_3_:=J ((by rw [hg];exact (G (q0_ HB)) : w.heap.size ≤ gb_1));have n_4_:=J ((by rw [hg];exact (G (q0_ HB)) : w.heap.size ≤ gb_1));clear HB;have HB:=n_1_;have BK_1:=n_2_;have GW_1:=n_3_;have GE_1:=n_4_;clear n_1_ n_2_ n_3_ n_4_ hb hbox hg) | ((with_reducible refine gate_dst (N:=3) rfl ?_);refine box_event ?hg (N:=3) ?hd (cs:=#[.slice A1_0 l1_0.length c1_0,.slice A1_1 l1_1.length c1_1,.slice A1_2 l1_2.length c1_2,.slice A1_3 l1_3.length c1_3,.slice A1_4 l1_4.length c1_4]) (t:=43) ?hr ?_;(case hd=>rfl);(case hg=>rfl);(case hr=>first | (go_simp;done) | (go_simp;rfl));intro gb_2 hg w_2 hbox hb;have n_1_:=J (blk_below (g:=gb_1) (o:=.cells #[.slice A0_0 l0_0.length c0_0,.slice A0_1 l0_1.length c0_1,.slice A0_2 l0_2.length c0_2,.slice A0_3 l0_3.length c0_3,.slice A0_4 l0_4.length c0_4] 43 (0,0)) (q1_ BK_1) hb);have n_2_:=J (U (q2_ HB GE_1) hb);have n_3_:=J (hbox);have n_4_:=J ((by rw [hg];exact (G (q2_ HB GE_1)) : w.heap.size ≤ gb_2));have n_5_:=J ((by rw [hg];exact (G (q2_ HB GE_1)) : w.heap.size ≤ gb_2));have n_6_:=J ((by rw [hg];exact Nat.ne_of_lt (blk_lt (g:=gb_1) (o:=.cells #[.slice A0_0 l0_0.length c0_0,.slice A0_1 l0_1.length c0_1,.slice A0_2 l0_2.length c0_2,.slice A0_3 l0_3.length c0_3,.slice A0_4 l0_4.length c0_4] 43 (0,0)) (q1_ BK_1)) : gb_1 ≠ gb_2));have n_7_:=J ((by rw [hg];exact Nat.ne_of_gt (blk_lt (g:=gb_1) (o:=.cells #[.slice A0_0 l0_0.length c0_0,.slice A0_1 l0_1.length c0_1,.slice A0_2 l0_2.length c0_2,.slice A0_3 l0_3.length c0_3,.slice A0_4 l0_4.length c0_4] 43 (0,0)) (q1_ BK_1)) : gb_2 ≠ gb_1));clear BK_1 HB;have BK_1:=n_1_;have HB:=n_2_;have BK_2:=n_3_;have GW_2:=n_4_;have GE_2:=n_5_;have NB_1__2:=n_6_;have NB_2__1:=n_7_;clear n_1_ n_2_ n_3_ n_4_ n_5_ n_6_ n_7_ hb hbox hg;have hnb_1:=NB_1__2.out;have hnc_1:=NB_2__1.out;obtain ⟨hcz_1__2,hcz_1__3,hcz_1__4,hcz_1__5,hcz_1__6,hfz_1__2,hfz_1__3,hfz_1__4,hfz_1__5,hfz_1__6⟩:=bz5_ BK_1;obtain ⟨hcz_7__2,hcz_7__3,hcz_7__4,hcz_7__5,hcz_7__6,hfz_7__2,hfz_7__3,hfz_7__4,hfz_7__5,hfz_7__6⟩:=bz5_ BK_2) | ((with_reducible refine gate_callee (f:=57) rfl ?_);refine goesM_ (some 9) Try.func57 #[.slice A0_0 l0_0.length c0_0,.slice A1_0 l1_0.length c1_0] ?_;(with_reducible refine (laws_eqProcS.calls k _ _ l0_0 _ _ l1_0 _ _ ?side_1 ?side_2 ?side_3 ?side_4 A3.out).mono ?_);(case side_1=>repeat (first | exact (Kd.C_below HR0_0.out HB.out) | (with_reducible refine X ?_ _) | (with_reducible refine Q ?_ _) | (with_reducible refine W ?_)));(case side_2=>exact HC0_0.out);(case side_3=>repeat (first | exact (Kd.C_below HR1_0.out HB.out) | (with_reducible refine X ?_ _) | (with_reducible refine Q ?_ _) | (with_reducible refine W ?_)));(case side_4=>exact HC1_0.out);rintro e w_3 ⟨rfl,hb⟩;refine ⟨_,rfl,?_⟩;have n_1_:=J (blk_below (g:=gb_1) (o:=.cells #[.slice A0_0 l0_0.length c0_0,.slice A0_1 l0_1.length c0_1,.slice A0_2 l0_2.length c0_2,.slice A0_3 l0_3.length c0_3,.slice A0_4 l0_4.length c0_4] 43 (0,0)) (q1_ BK_1) hb);have n_2_:=J (blk_below (g:=gb_2) (o:=.cells #[.slice A1_0 l1_0.length c1_0,.slice A1_1 l1_1.length c1_1,.slice A1_2 l1_2.length c1_2,.slice A1_3 l1_3.length c1_3,.slice A1_4 l1_4.length c1_4] 43 (0,0)) (q1_ BK_2) hb);have n_3_:=J (U (q3_ HB GE_1 GE_2) hb);clear BK_1 BK_2 HB;have BK_1:=n_1_;have BK_2:=n_2_;have HB:=n_3_;clear n_1_ n_2_ n_3_;(try clear hb);(try clear hb_1);obtain ⟨hcz_8__2,hcz_8__3,hcz_8__4,hcz_8__5,hcz_8__6,hfz_8__2,hfz_8__3,hfz_8__4,hfz_8__5,hfz_8__6⟩:=bz5_ BK_1;obtain ⟨hcz_9__2,hcz_9__3,hcz_9__4,hcz_9__5,hcz_9__6,hfz_9__2,hfz_9__3,hfz_9__4,hfz_9__5,hfz_9__6⟩:=bz5_ BK_2) | ((with_reducible refine gate_callee (f:=34) rfl ?_);refine goesM_ (some 15) Try.func34 #[.slice A0_1 l0_1.length c0_1,.slice A1_1 l1_1.length c1_1] ?_;(with_reducible refine (laws_eqIntS.calls k _ _ l0_1 _ _ l1_1 _ _ ?side_1 ?side_2 ?side_3 ?side_4 A_2.out).mono ?_);(case side_1=>repeat (first | exact (Kd.C_below HR0_1.out HB.out) | (with_reducible refine X ?_ _) | (with_reducible refine Q ?_ _) | (with_reducible refine W ?_)));(case side_2=>exact HC0_1.out);(case side_3=>repeat (first | exact (Kd.C_below HR1_1.out HB.out) | (with_reducible refine X ?_ _) | (with_reducible refine Q ?_ _) | (with_reducible refine W ?_)));(case side_4=>exact HC1_1.out);rintro e w' ⟨rfl,⟨nd,rfl⟩⟩;refine ⟨_,rfl,?_⟩) | ((with_reducible refine gate_callee (f:=34) rfl ?_);refine goesM_ (some 21) Try.func34 #[.slice A0_2 l0_2.length c0_2,.slice A1_2 l1_2.length c1_2] ?_;(with_reducible refine (laws_eqIntS.calls k _ _ l0_2 _ _ l1_2 _ _ ?side_1 ?side_2 ?side_3 ?side_4 A_4.out).mono ?_);(case side_1=>repeat (first | exact (Kd.C_below HR0_2.out (q3_ HB GE_1 GE_2)) | (with_reducible refine X ?_ _) | (with_reducible refine Q ?_ _) | (with_reducible refine W ?_)));(case side_2=>exact HC0_2.out);(case side_3=>repeat (first | exact (Kd.C_below HR1_2.out (q3_ HB GE_1 GE_2)) | (with_reducible refine X ?_ _) | (with_reducible refine Q ?_ _) | (with_reducible refine W ?_)));(case side_4=>exact HC1_2.out);rintro e w' ⟨rfl,⟨nd,rfl⟩⟩;refine ⟨_,rfl,?_⟩) | ((with_reducible refine gate_callee (f:=51) rfl ?_);refine goesM_ (some 27) Try.func51 #[.slice A0_3 l0_3.length c0_3,.slice A1_3 l1_3.length c1_3] ?_;(with_reducible refine (laws_eqIntSS.calls k _ _ l0_3 _ _ l1_3 _ _ ?side_1 ?side_2 ?side_3 ?side_4 A_6.out).mono ?_);(case side_1=>repeat (first | exact (Kd.C_below HR0_3.out (q3_ HB GE_1 GE_2)) | (with_reducible refine X ?_ _) | (with_reducible refine Q ?_ _) | (with_reducible refine W ?_)));(case side_2=>exact HC0_3.out);(case side_3=>repeat (first | exact (Kd.C_below HR1_3.out (q3_ HB GE_1 GE_2)) | (with_reducible refine X ?_ _) | (with_reducible refine Q ?_ _) | (with_reducible refine W ?_)));(case side_4=>exact HC1_3.out);rintro e w' ⟨rfl,⟨nd,rfl⟩⟩;refine ⟨_,rfl,?_⟩) | ((with_reducible refine gate_callee (f:=52) rfl ?_);refine goesM_ (some 33) Try.func52 #[.slice A0_4 l0_4.length c0_4,.slice A1_4 l1_4.length c1_4] ?_;(with_reducible refine (laws_eqSayS.calls k _ _ l0_4 _ _ l1_4 _ _ ?side_1 ?side_2 ?side_3 ?side_4 A_8.out).mono ?_);(case side_1=>repeat (first | exact (Kd.C_below HR0_4.out (q3_ HB GE_1 GE_2)) | (with_reducible refine X ?_ _) | (with_reducible refine Q ?_ _) | (with_reducible refine W ?_)));(case side_2=>exact HC0_4.out);(case side_3=>repeat (first | exact (Kd.C_below HR1_4.out (q3_ HB GE_1 GE_2)) | (with_reducible refine X ?_ _) | (with_reducible refine Q ?_ _) | (with_reducible refine W ?_)));(case side_4=>exact HC1_4.out);rintro e w_4 ⟨rfl,hb⟩;refine ⟨_,rfl,?_⟩;have n_1_:=J (blk_below (g:=gb_1) (o:=.cells #[.slice A0_0 l0_0.length c0_0,.slice A0_1 l0_1.length c0_1,.slice A0_2 l0_2.length c0_2,.slice A0_3 l0_3.length c0_3,.slice A0_4 l0_4.length c0_4] 43 (0,0)) (q1_ BK_1) hb);have n_2_:=J (blk_below (g:=gb_2) (o:=.cells #[.slice A1_0 l1_0.length c1_0,.slice A1_1 l1_1.length c1_1,.slice A1_2 l1_2.length c1_2,.slice A1_3 l1_3.length c1_3,.slice A1_4 l1_4.length c1_4] 43 (0,0)) (q1_ BK_2) hb);have n_3_:=J (U (q3_ HB GE_1 GE_2) hb);clear BK_1 BK_2 HB;have BK_1:=n_1_;have BK_2:=n_2_;have HB:=n_3_;clear n_1_ n_2_ n_3_;(try clear hb);(try clear hb_1)))
 all_goals
  go_ret
  exact ⟨by first | rfl | (simp [F,B] <;> rfl) | (simp [*,F,B] <;> rfl),by repeat (first | (with_reducible first | exact HB.out | apply below_alloc | apply Y | apply E | refine below_set ?_ GE_1.out | refine below_set ?_ GE_2.out) | exact HB.out)⟩
end Go.Proofs.Ythbflhimmmfonaa.P
