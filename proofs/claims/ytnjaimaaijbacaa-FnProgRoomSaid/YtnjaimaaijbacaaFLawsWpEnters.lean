/- Plain Lean functions for functions of the Go text, and that each call comes to what its function says; written by a program of this workplace (wip/gen.py) out of the translation; no condition beyond those that each theorem names. -/
import Derived.Test.YtnjaimaaijbacaaK
namespace Go.Proofs.Ytnjaimaaijbacaa.P
open Go.RowKit Go.Proofs.YtnjaimaaijbacaaW.PrintWords Go.Proofs.YtnjaimaaijbacaaW.PrintLast Go.Proofs.YtnjaimaaijbacaaW.PrintMore
attribute [local go_sem] max2_int min2_int max_two min_two max_three min_three max_four min_four
set_option linter.unusedVariables false
set_option linter.unusedSimpArgs false

/-! ### laws_wpEnters: function 21 -/
mutual
def laws_wpEnters.l0 : Nat → List (S29) → Int → Int → Option (Bool)
  | 0, _, _, _ => none
  | k + 1, x0, x1, x5 => if x5 < (x0.length : Int) then (laws_wpEnters.j1 k x0 x1 x5 (decide (x1 > 0))) else (laws_wpEnters.j1 k x0 x1 x5 false)
def laws_wpEnters.j1 : Nat → List (S29) → Int → Int → Bool → Option (Bool)
  | 0, _, _, _, _ => none
  | k + 1, x0, x1, x5, x13 => if x13 = true then (if 0 ≤ x5 then (if x5 < (x0.length : Int) then (if ((rd_T29 x0 x5).f0) = 8 then (some true) else ((laws_wpEnters.f k ((rd_T29 x0 x5).f4) (wrap64 (x1 - 1))).bind fun t392 => (if t392 = true then (some true) else ((laws_wpEnters.f k ((rd_T29 x0 x5).f5) (wrap64 (x1 - 1))).bind fun t394 => (if t394 = true then (some true) else (laws_wpEnters.l0 k x0 x1 (wrap64 (x5 + 1)))))))) else (none)) else (none)) else (some false)
def laws_wpEnters.f : Nat → List (S29) → Int → Option (Bool)
  | 0, _, _ => none
  | k + 1, l0, a1 => laws_wpEnters.l0 k l0 a1 0
end
theorem laws_wpEnters.mono_l : ∀ k, (∀ y0 y1, LeO (laws_wpEnters.f k y0 y1) (laws_wpEnters.f (k + 1) y0 y1)) ∧ (∀ y0 y1 y2, LeO (laws_wpEnters.l0 k y0 y1 y2) (laws_wpEnters.l0 (k + 1) y0 y1 y2)) ∧ (∀ y0 y1 y2 y3, LeO (laws_wpEnters.j1 k y0 y1 y2 y3) (laws_wpEnters.j1 (k + 1) y0 y1 y2 y3))
  | 0 => ⟨fun _ _ r h => by simp [laws_wpEnters.f] at h, fun _ _ _ r h => by simp [laws_wpEnters.l0] at h, fun _ _ _ _ r h => by simp [laws_wpEnters.j1] at h⟩
  | k + 1 => by
    obtain ⟨ih0, ih1, ih2⟩ := laws_wpEnters.mono_l k
    refine ⟨?_, ?_, ?_⟩
    · intro y0 y1
      unfold laws_wpEnters.f
      repeat' first
      | (with_reducible exact ih0 _ _)
      | (with_reducible exact ih1 _ _ _)
      | (with_reducible exact ih2 _ _ _ _)
      | (with_reducible exact LeO.refl _)
      | (with_reducible exact LeO.none _)
      | (with_reducible refine LeO.ite ?_ ?_)
      | (with_reducible refine LeO.bind ?_ (fun _ => ?_))
      | exact ih0 _ _
      | exact ih1 _ _ _
      | exact ih2 _ _ _ _
      | exact LeO.none _
      | refine LeO.ite ?_ ?_
      | refine LeO.bind ?_ (fun _ => ?_)
    · intro y0 y1 y2
      unfold laws_wpEnters.l0
      repeat' first
      | (with_reducible exact ih0 _ _)
      | (with_reducible exact ih1 _ _ _)
      | (with_reducible exact ih2 _ _ _ _)
      | (with_reducible exact LeO.refl _)
      | (with_reducible exact LeO.none _)
      | (with_reducible refine LeO.ite ?_ ?_)
      | (with_reducible refine LeO.bind ?_ (fun _ => ?_))
      | exact ih0 _ _
      | exact ih1 _ _ _
      | exact ih2 _ _ _ _
      | exact LeO.none _
      | refine LeO.ite ?_ ?_
      | refine LeO.bind ?_ (fun _ => ?_)
    · intro y0 y1 y2 y3
      unfold laws_wpEnters.j1
      repeat' first
      | (with_reducible exact ih0 _ _)
      | (with_reducible exact ih1 _ _ _)
      | (with_reducible exact ih2 _ _ _ _)
      | (with_reducible exact LeO.refl _)
      | (with_reducible exact LeO.none _)
      | (with_reducible refine LeO.ite ?_ ?_)
      | (with_reducible refine LeO.bind ?_ (fun _ => ?_))
      | exact ih0 _ _
      | exact ih1 _ _ _
      | exact ih2 _ _ _ _
      | exact LeO.none _
      | refine LeO.ite ?_ ?_
      | refine LeO.bind ?_ (fun _ => ?_)
theorem laws_wpEnters.mono : ∀ a0 a1 k, LeO (laws_wpEnters.f k a0 a1) (laws_wpEnters.f (k + 1) a0 a1) := by
  intro a0 a1 k
  obtain ⟨ih0, ih1, ih2⟩ := laws_wpEnters.mono_l k
  exact ih0 a0 a1
set_option maxHeartbeats 8000000 in
set_option maxRecDepth 100000 in
theorem laws_wpEnters.calls (k : Nat) : ∀ (A0 : Option Addr) (c0 : Nat) (l0 : List (S29)) (a1 : Int) (r : Bool) (w : World) (hr0 : Kd.C k29 w A0 l0.length l0) (hc0 : l0.length ≤ c0) (h : laws_wpEnters.f k l0 a1 = some r),
    Calls Try.prog 21 #[.slice A0 l0.length c0, .int .i64 a1] w fun e w' => e = .returned (.bool r) ∧ Drawn0 w w' := by
  induction k using Nat.strongRecOn with
  | _ k ih =>
  intro A0 c0 l0 a1 r w hr0 hc0 h
  cases k with
  | zero => exact absurd h (by simp [laws_wpEnters.f])
  | succ k =>
  simp only [laws_wpEnters.f] at h; have HR0 := Aside0.mk hr0; have HC0 := Aside0.mk hc0; clear hr0 hc0; have H : (laws_wpEnters.l0 k l0 a1 0) = some r := h; clear h; have H' := Aside0.mk H; clear H; go_enter Try.func21, Try.ntmps21
  go_wp2
  go_loopg [5] k (fun kq v5 w' => ∃ (x5_1 : Int), v5 = .int .i64 x5_1 ∧ Aside0 (laws_wpEnters.l0 kq l0 a1 x5_1 = some r) ∧ Aside0 (kq ≤ k) ∧ Drawn0 w w')
  case atStart => exact ⟨(0), (by first | rfl | (simp; done) | (simp [*]; done)), H', ⟨Nat.le_refl _⟩, by repeat (first | exact Drawn0.refl _ | apply Drawn0.step)⟩
  case round =>
    clear H'; (try clear c2); (try clear p2); obtain ⟨x5_1, rfl, HA, HK1, ⟨m1, rfl⟩⟩ := hrel
    cases gk with
    | zero => exact absurd HA.out (by simp [laws_wpEnters.l0])
    | succ k1 =>
      have H := HA.out; clear HA; simp only [laws_wpEnters.l0] at H; have HC3 := Aside0.mk H; clear H
      go_upto_region 2 with (fail)
      go_cut [13] (fun v13 wc => ∃ (kq : Nat) (x13_2 : Bool), v13 = .bool x13_2 ∧ Aside0 (laws_wpEnters.j1 kq l0 a1 x5_1 x13_2 = some r) ∧ Aside0 (kq ≤ k1) ∧ Drawn0 w wc)
      case first =>
        have H := HC3.out; clear HC3
        by_cases c4 : x5_1 < (l0.length : Int)
        · rw [if_pos c4] at H; have c4b0 : decide (x5_1 < (l0.length : Int)) = true := decide_eq_true c4; clear c4
          (first | rw [c4b0] | (simp only [i64_w, i32_w]; rw [c4b0]) | skip)
          have H' := Aside0.mk H; clear H
          go_wp2
          go_meet
          case rel => exact ⟨_, (decide (a1 > 0)), (by first | rfl | (simp; done) | (simp [*]; done)), H', ⟨by have := HK1.out; first | omega | exact Nat.le_refl _⟩, by repeat (first | exact Drawn0.refl _ | apply Drawn0.step)⟩
        · rw [if_neg c4] at H; have c4b0 : decide (x5_1 < (l0.length : Int)) = false := decide_eq_false c4; clear c4
          (first | rw [c4b0] | (simp only [i64_w, i32_w]; rw [c4b0]) | skip)
          have H' := Aside0.mk H; clear H
          go_wp2
          go_meet
          case rel => exact ⟨_, (false), (by first | rfl | (simp; done) | (simp [*]; done)), H', ⟨by have := HK1.out; first | omega | exact Nat.le_refl _⟩, by repeat (first | exact Drawn0.refl _ | apply Drawn0.step)⟩
      case rest =>
        clear HC3; (try clear c2); (try clear p2); (try clear c4); (try clear c4b0); (try clear p2); obtain ⟨kq, x13_2, rfl, HA, HJ2, ⟨mc2, rfl⟩⟩ := hcut
        cases kq with
        | zero => exact absurd HA.out (by simp [laws_wpEnters.j1])
        | succ kj2 =>
          have H := HA.out; clear HA; simp only [laws_wpEnters.j1] at H
          by_cases c5 : x13_2 = true
          · subst c5
            have H1 : (if 0 ≤ x5_1 then (if x5_1 < (l0.length : Int) then (if ((rd_T29 l0 x5_1).f0) = 8 then (some true) else ((laws_wpEnters.f kj2 ((rd_T29 l0 x5_1).f4) (wrap64 (a1 - 1))).bind fun t392 => (if t392 = true then (some true) else ((laws_wpEnters.f kj2 ((rd_T29 l0 x5_1).f5) (wrap64 (a1 - 1))).bind fun t394 => (if t394 = true then (some true) else (laws_wpEnters.l0 kj2 l0 a1 (wrap64 (x5_1 + 1)))))))) else (none)) else (none)) = some r := by rw [if_pos rfl] at H; exact H
            clear H; have H := H1; clear H1
            by_cases c6 : 0 ≤ x5_1
            · rw [if_pos c6] at H; have c6b0 : decide (0 ≤ x5_1) = true := decide_eq_true c6; clear c6
              by_cases c7 : x5_1 < (l0.length : Int)
              · rw [if_pos c7] at H; have c7b0 : decide (x5_1 < (l0.length : Int)) = true := decide_eq_true c7; clear c7
                by_cases c8 : ((rd_T29 l0 x5_1).f0) = 8
                · rw [if_pos c8] at H; have c8b0 : (((rd_T29 l0 x5_1).f0) == 8) = true := beq_iff_eq.mpr c8; have c8b1 : (((rd_T29 l0 x5_1).f0) != 8) = false := bne_eq_false_iff_eq.mpr c8; clear c8; obtain rfl := Option.some.inj H
                  have p390 : 0 ≤ (x5_1 : Int) := of_decide_eq_true (by first | (with_reducible assumption) | assumption)
                  have q390 : x5_1 < (l0.length : Int) := of_decide_eq_true (by first | (with_reducible assumption) | assumption)
                  obtain ⟨ad390, A390_4, c390_4, A390_5, c390_5, e390, hx390_0, hx390_1, hx390_2, hx390_3, hx390_4, hx390_5, hl390_4, hi390_4, hl390_5, hi390_5⟩ := at_T29 HR0.out x5_1 p390 q390
                  cases e390
                  have HR390_4 := Aside0.mk hi390_4; have HC390_4 := Aside0.mk hl390_4; clear hi390_4 hl390_4; have HR390_5 := Aside0.mk hi390_5; have HC390_5 := Aside0.mk hl390_5; clear hi390_5 hl390_5; replace p390 := eq_true p390; replace q390 := eq_true q390
                  go_wp2
                  go_ret
                  exact ⟨by first | rfl | (simp; done) | (simp [*]; done), by repeat (first | exact Drawn0.refl _ | apply Drawn0.step)⟩
                · rw [if_neg c8] at H; have c8b0 : (((rd_T29 l0 x5_1).f0) == 8) = false := beq_eq_false_iff_ne.mpr c8; have c8b1 : (((rd_T29 l0 x5_1).f0) != 8) = true := bne_iff_ne.mpr c8; replace H := Option.bind_eq_some_iff.mp H; obtain ⟨t392, A90, H⟩ := H; replace H : (if t392 = true then (some true) else ((laws_wpEnters.f kj2 ((rd_T29 l0 x5_1).f5) (wrap64 (a1 - 1))).bind fun t394 => (if t394 = true then (some true) else (laws_wpEnters.l0 kj2 l0 a1 (wrap64 (x5_1 + 1)))))) = some r := H; have A9 := Aside0.mk A90; clear A90
                  by_cases c10 : t392 = true
                  · subst c10
                    have H1 : (some true) = some r := by rw [if_pos rfl] at H; exact H
                    clear H; have H := H1; clear H1; obtain rfl := Option.some.inj H
                    have p390 : 0 ≤ (x5_1 : Int) := of_decide_eq_true (by first | (with_reducible assumption) | assumption)
                    have q390 : x5_1 < (l0.length : Int) := of_decide_eq_true (by first | (with_reducible assumption) | assumption)
                    obtain ⟨ad390, A390_4, c390_4, A390_5, c390_5, e390, hx390_0, hx390_1, hx390_2, hx390_3, hx390_4, hx390_5, hl390_4, hi390_4, hl390_5, hi390_5⟩ := at_T29 HR0.out x5_1 p390 q390
                    cases e390
                    have HR390_4 := Aside0.mk hi390_4; have HC390_4 := Aside0.mk hl390_4; clear hi390_4 hl390_4; have HR390_5 := Aside0.mk hi390_5; have HC390_5 := Aside0.mk hl390_5; clear hi390_5 hl390_5; replace p390 := eq_true p390; replace q390 := eq_true q390
                    have p391 : 0 ≤ (x5_1 : Int) := of_decide_eq_true (by first | (with_reducible assumption) | assumption)
                    have q391 : x5_1 < (l0.length : Int) := of_decide_eq_true (by first | (with_reducible assumption) | assumption)
                    obtain ⟨ad391, A391_4, c391_4, A391_5, c391_5, e391, hx391_0, hx391_1, hx391_2, hx391_3, hx391_4, hx391_5, hl391_4, hi391_4, hl391_5, hi391_5⟩ := at_T29 HR0.out x5_1 p391 q391
                    obtain rfl : ad390 = ad391 := (by injection e391)
                    have HR391_4 := Aside0.mk hi391_4; have HC391_4 := Aside0.mk hl391_4; clear hi391_4 hl391_4; have HR391_5 := Aside0.mk hi391_5; have HC391_5 := Aside0.mk hl391_5; clear hi391_5 hl391_5; replace p391 := eq_true p391; replace q391 := eq_true q391; have ea_ := Option.some.inj (hx390_4.symm.trans hx391_4)
                    injection ea_ with ea_ en_ ec_
                    subst ea_; subst ec_; clear en_; have ea_ := Option.some.inj (hx390_5.symm.trans hx391_5)
                    injection ea_ with ea_ en_ ec_
                    subst ea_; subst ec_; clear en_
                    go_wp2_with (first | (go_at_call 21; (with_reducible refine (ih kj2 (by have := HK1.out; have := HJ2.out; omega) _ _ ((rd_T29 l0 x5_1).f4) (wrap64 (a1 - 1)) true _ ?side1 ?side2 A9.out).mono ?_); (case side1 => repeat (first | exact HR391_4.out | (with_reducible refine Kd.C_alloc ?_ _) | (with_reducible refine Kd.C_drewN ?_ _) | (with_reducible refine Kd.C_drew ?_))); (case side2 => exact HC391_4.out); rintro e w' ⟨rfl, ⟨nd, rfl⟩⟩))
                    go_ret
                    exact ⟨by first | rfl | (simp; done) | (simp [*]; done), by repeat (first | exact Drawn0.refl _ | apply Drawn0.step)⟩
                  · replace c10 := Bool.eq_false_iff.mpr c10; subst c10
                    have H1 : ((laws_wpEnters.f kj2 ((rd_T29 l0 x5_1).f5) (wrap64 (a1 - 1))).bind fun t394 => (if t394 = true then (some true) else (laws_wpEnters.l0 kj2 l0 a1 (wrap64 (x5_1 + 1))))) = some r := by rw [if_neg (show ¬ (false = true) by decide)] at H; exact H
                    clear H; have H := H1; clear H1; replace H := Option.bind_eq_some_iff.mp H; obtain ⟨t394, A110, H⟩ := H; replace H : (if t394 = true then (some true) else (laws_wpEnters.l0 kj2 l0 a1 (wrap64 (x5_1 + 1)))) = some r := H; have A11 := Aside0.mk A110; clear A110
                    by_cases c12 : t394 = true
                    · subst c12
                      have H1 : (some true) = some r := by rw [if_pos rfl] at H; exact H
                      clear H; have H := H1; clear H1; obtain rfl := Option.some.inj H
                      have p390 : 0 ≤ (x5_1 : Int) := of_decide_eq_true (by first | (with_reducible assumption) | assumption)
                      have q390 : x5_1 < (l0.length : Int) := of_decide_eq_true (by first | (with_reducible assumption) | assumption)
                      obtain ⟨ad390, A390_4, c390_4, A390_5, c390_5, e390, hx390_0, hx390_1, hx390_2, hx390_3, hx390_4, hx390_5, hl390_4, hi390_4, hl390_5, hi390_5⟩ := at_T29 HR0.out x5_1 p390 q390
                      cases e390
                      have HR390_4 := Aside0.mk hi390_4; have HC390_4 := Aside0.mk hl390_4; clear hi390_4 hl390_4; have HR390_5 := Aside0.mk hi390_5; have HC390_5 := Aside0.mk hl390_5; clear hi390_5 hl390_5; replace p390 := eq_true p390; replace q390 := eq_true q390
                      have p391 : 0 ≤ (x5_1 : Int) := of_decide_eq_true (by first | (with_reducible assumption) | assumption)
                      have q391 : x5_1 < (l0.length : Int) := of_decide_eq_true (by first | (with_reducible assumption) | assumption)
                      obtain ⟨ad391, A391_4, c391_4, A391_5, c391_5, e391, hx391_0, hx391_1, hx391_2, hx391_3, hx391_4, hx391_5, hl391_4, hi391_4, hl391_5, hi391_5⟩ := at_T29 HR0.out x5_1 p391 q391
                      obtain rfl : ad390 = ad391 := (by injection e391)
                      have HR391_4 := Aside0.mk hi391_4; have HC391_4 := Aside0.mk hl391_4; clear hi391_4 hl391_4; have HR391_5 := Aside0.mk hi391_5; have HC391_5 := Aside0.mk hl391_5; clear hi391_5 hl391_5; replace p391 := eq_true p391; replace q391 := eq_true q391; have ea_ := Option.some.inj (hx390_4.symm.trans hx391_4)
                      injection ea_ with ea_ en_ ec_
                      subst ea_; subst ec_; clear en_; have ea_ := Option.some.inj (hx390_5.symm.trans hx391_5)
                      injection ea_ with ea_ en_ ec_
                      subst ea_; subst ec_; clear en_
                      go_wp2_with (first | (go_at_call 21; (with_reducible refine (ih kj2 (by have := HK1.out; have := HJ2.out; omega) _ _ ((rd_T29 l0 x5_1).f4) (wrap64 (a1 - 1)) false _ ?side1 ?side2 A9.out).mono ?_); (case side1 => repeat (first | exact HR391_4.out | (with_reducible refine Kd.C_alloc ?_ _) | (with_reducible refine Kd.C_drewN ?_ _) | (with_reducible refine Kd.C_drew ?_))); (case side2 => exact HC391_4.out); rintro e w' ⟨rfl, ⟨nd, rfl⟩⟩; have p393 : 0 ≤ (x5_1 : Int) := of_decide_eq_true (by first | (with_reducible assumption) | assumption); have q393 : x5_1 < (l0.length : Int) := of_decide_eq_true (by first | (with_reducible assumption) | assumption); obtain ⟨ad393, A393_4, c393_4, A393_5, c393_5, e393, hx393_0, hx393_1, hx393_2, hx393_3, hx393_4, hx393_5, hl393_4, hi393_4, hl393_5, hi393_5⟩ := at_T29 HR0.out x5_1 p393 q393; obtain rfl : ad390 = ad393 := (by injection e393); have HR393_4 := Aside0.mk hi393_4; have HC393_4 := Aside0.mk hl393_4; clear hi393_4 hl393_4; have HR393_5 := Aside0.mk hi393_5; have HC393_5 := Aside0.mk hl393_5; clear hi393_5 hl393_5; replace p393 := eq_true p393; replace q393 := eq_true q393; have ea_ := Option.some.inj (hx390_4.symm.trans hx393_4); injection ea_ with ea_ en_ ec_; subst ea_; subst ec_; clear en_; have ea_ := Option.some.inj (hx390_5.symm.trans hx393_5); injection ea_ with ea_ en_ ec_; subst ea_; subst ec_; clear en_) | (go_at_call 21; (with_reducible refine (ih kj2 (by have := HK1.out; have := HJ2.out; omega) _ _ ((rd_T29 l0 x5_1).f5) (wrap64 (a1 - 1)) true _ ?side1 ?side2 A11.out).mono ?_); (case side1 => repeat (first | exact HR393_5.out | (with_reducible refine Kd.C_alloc ?_ _) | (with_reducible refine Kd.C_drewN ?_ _) | (with_reducible refine Kd.C_drew ?_))); (case side2 => exact HC393_5.out); rintro e w' ⟨rfl, ⟨nd, rfl⟩⟩))
                      go_ret
                      exact ⟨by first | rfl | (simp; done) | (simp [*]; done), by repeat (first | exact Drawn0.refl _ | apply Drawn0.step)⟩
                    · replace c12 := Bool.eq_false_iff.mpr c12; subst c12
                      have H1 : (laws_wpEnters.l0 kj2 l0 a1 (wrap64 (x5_1 + 1))) = some r := by rw [if_neg (show ¬ (false = true) by decide)] at H; exact H
                      clear H; have H := H1; clear H1; have H' := Aside0.mk H; clear H
                      have p390 : 0 ≤ (x5_1 : Int) := of_decide_eq_true (by first | (with_reducible assumption) | assumption)
                      have q390 : x5_1 < (l0.length : Int) := of_decide_eq_true (by first | (with_reducible assumption) | assumption)
                      obtain ⟨ad390, A390_4, c390_4, A390_5, c390_5, e390, hx390_0, hx390_1, hx390_2, hx390_3, hx390_4, hx390_5, hl390_4, hi390_4, hl390_5, hi390_5⟩ := at_T29 HR0.out x5_1 p390 q390
                      cases e390
                      have HR390_4 := Aside0.mk hi390_4; have HC390_4 := Aside0.mk hl390_4; clear hi390_4 hl390_4; have HR390_5 := Aside0.mk hi390_5; have HC390_5 := Aside0.mk hl390_5; clear hi390_5 hl390_5; replace p390 := eq_true p390; replace q390 := eq_true q390
                      have p391 : 0 ≤ (x5_1 : Int) := of_decide_eq_true (by first | (with_reducible assumption) | assumption)
                      have q391 : x5_1 < (l0.length : Int) := of_decide_eq_true (by first | (with_reducible assumption) | assumption)
                      obtain ⟨ad391, A391_4, c391_4, A391_5, c391_5, e391, hx391_0, hx391_1, hx391_2, hx391_3, hx391_4, hx391_5, hl391_4, hi391_4, hl391_5, hi391_5⟩ := at_T29 HR0.out x5_1 p391 q391
                      obtain rfl : ad390 = ad391 := (by injection e391)
                      have HR391_4 := Aside0.mk hi391_4; have HC391_4 := Aside0.mk hl391_4; clear hi391_4 hl391_4; have HR391_5 := Aside0.mk hi391_5; have HC391_5 := Aside0.mk hl391_5; clear hi391_5 hl391_5; replace p391 := eq_true p391; replace q391 := eq_true q391; have ea_ := Option.some.inj (hx390_4.symm.trans hx391_4)
                      injection ea_ with ea_ en_ ec_
                      subst ea_; subst ec_; clear en_; have ea_ := Option.some.inj (hx390_5.symm.trans hx391_5)
                      injection ea_ with ea_ en_ ec_
                      subst ea_; subst ec_; clear en_
                      go_wp2_with (first | (go_at_call 21; (with_reducible refine (ih kj2 (by have := HK1.out; have := HJ2.out; omega) _ _ ((rd_T29 l0 x5_1).f4) (wrap64 (a1 - 1)) false _ ?side1 ?side2 A9.out).mono ?_); (case side1 => repeat (first | exact HR391_4.out | (with_reducible refine Kd.C_alloc ?_ _) | (with_reducible refine Kd.C_drewN ?_ _) | (with_reducible refine Kd.C_drew ?_))); (case side2 => exact HC391_4.out); rintro e w' ⟨rfl, ⟨nd, rfl⟩⟩; have p393 : 0 ≤ (x5_1 : Int) := of_decide_eq_true (by first | (with_reducible assumption) | assumption); have q393 : x5_1 < (l0.length : Int) := of_decide_eq_true (by first | (with_reducible assumption) | assumption); obtain ⟨ad393, A393_4, c393_4, A393_5, c393_5, e393, hx393_0, hx393_1, hx393_2, hx393_3, hx393_4, hx393_5, hl393_4, hi393_4, hl393_5, hi393_5⟩ := at_T29 HR0.out x5_1 p393 q393; obtain rfl : ad390 = ad393 := (by injection e393); have HR393_4 := Aside0.mk hi393_4; have HC393_4 := Aside0.mk hl393_4; clear hi393_4 hl393_4; have HR393_5 := Aside0.mk hi393_5; have HC393_5 := Aside0.mk hl393_5; clear hi393_5 hl393_5; replace p393 := eq_true p393; replace q393 := eq_true q393; have ea_ := Option.some.inj (hx390_4.symm.trans hx393_4); injection ea_ with ea_ en_ ec_; subst ea_; subst ec_; clear en_; have ea_ := Option.some.inj (hx390_5.symm.trans hx393_5); injection ea_ with ea_ en_ ec_; subst ea_; subst ec_; clear en_) | (go_at_call 21; (with_reducible refine (ih kj2 (by have := HK1.out; have := HJ2.out; omega) _ _ ((rd_T29 l0 x5_1).f5) (wrap64 (a1 - 1)) false _ ?side1 ?side2 A11.out).mono ?_); (case side1 => repeat (first | exact HR393_5.out | (with_reducible refine Kd.C_alloc ?_ _) | (with_reducible refine Kd.C_drewN ?_ _) | (with_reducible refine Kd.C_drew ?_))); (case side2 => exact HC393_5.out); rintro e w' ⟨rfl, ⟨nd, rfl⟩⟩))
                      go_roundg kj2
                      case measure => have := HK1.out; have := HJ2.out; omega
                      case rel => exact ⟨(wrap64 (x5_1 + 1)), (by first | rfl | (simp; done) | (simp [*]; done)), H', ⟨by have := HK1.out; have := HJ2.out; omega⟩, by repeat (first | exact Drawn0.refl _ | apply Drawn0.step)⟩
              · rw [if_neg c7] at H
                exact absurd H (by simp)
            · rw [if_neg c6] at H
              exact absurd H (by simp)
          · replace c5 := Bool.eq_false_iff.mpr c5; subst c5
            have H1 : (some false) = some r := by rw [if_neg (show ¬ (false = true) by decide)] at H; exact H
            clear H; have H := H1; clear H1; obtain rfl := Option.some.inj H
            go_wp2
            go_ret
            exact ⟨by first | rfl | (simp; done) | (simp [*]; done), by repeat (first | exact Drawn0.refl _ | apply Drawn0.step)⟩

end Go.Proofs.Ytnjaimaaijbacaa.P
