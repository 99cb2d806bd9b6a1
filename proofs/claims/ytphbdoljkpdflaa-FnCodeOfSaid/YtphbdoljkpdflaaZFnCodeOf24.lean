/- Parts of the proof of FnCodeOf: plain Lean functions of Go functions, and that the calls come to what they say; no condition beyond those that each theorem names. -/
import Derived.Test.YtphbdoljkpdflaaZFnCodeOf5
import Derived.Test.YtphbdoljkpdflaaZFnCodeOf7
import Derived.Test.YtphbdoljkpdflaaZFnCodeOf10
import Derived.Test.YtphbdoljkpdflaaZFnCodeOf11
import Derived.Test.YtphbdoljkpdflaaZFnCodeOf14
import Derived.Test.YtphbdoljkpdflaaZFnCodeOf17
import Derived.Test.YtphbdoljkpdflaaZFnCodeOf22
import Derived.Test.YtphbdoljkpdflaaZFnCodeOf23
namespace Go.Proofs.Ytphbdoljkpdflaa.P
open Go.RowKit Go.Proofs.YtphbdoljkpdflaaW.PrintWords Go.Proofs.YtphbdoljkpdflaaW.PrintLast Go.Proofs.YtphbdoljkpdflaaW.PrintMore
attribute [local go_sem] max2_int min2_int max_two min_two max_three min_three max_four min_four
set_option linter.unusedVariables false
set_option linter.unusedSimpArgs false
def laws_FnCodeOf.f (k : Nat) (l0 : List Int) : Option (Bool) := if (l0.length : Int) > 1048576 then (some true) else ((spec_DrawCodeOf.f k l0).bind fun t640 => ((impl_CodeOf.f k t640).bind fun t643 => ((spec_CodeOf.f k t640).bind fun t646 => ((impl_CodeSame.f k t643 t646).bind fun t649 => (if t649 = true then ((spec_StmtsOk.f k t640).bind fun t650 => (if t650 = true then ((impl_CodeOk.f k t643).bind fun t651 => (if t651 = true then ((impl_StmtsMany.f k t640).bind fun t652 => (if (t643.length : Int) ≥ (wrap64 (t652 + 1)) then ((impl_StmtsMany.f k t640).bind fun t653 => (some (decide ((t643.length : Int) ≤ (wrap64 ((wrap64 (2 * t653)) + 1)))))) else (some false))) else (some false))) else (some ((t643.length : Int) == 0)))) else (some false))))))
set_option maxHeartbeats 8000000 in
set_option maxRecDepth 100000 in
theorem laws_FnCodeOf.calls (k : Nat) (A0 : Option Addr) (c0 : Nat) (l0 : List Int) (r : Bool) (w : World) (hr0 : Kd.C (Kd.int .u8) w A0 l0.length l0) (hc0 : l0.length ≤ c0) (h : laws_FnCodeOf.f k l0 = some r) :
    Calls Try.prog 8 #[.slice A0 l0.length c0] w fun e w' => e = .returned (.bool r) ∧ Below w.heap.size w w' := by
  have HR0 := Aside0.mk hr0; have HC0 := Aside0.mk hc0; clear hr0 hc0; have HB := Aside0.mk (Below.refl w.heap.size w)
  have H : (if (l0.length : Int) > 1048576 then (some true) else ((spec_DrawCodeOf.f k l0).bind fun t640 => ((impl_CodeOf.f k t640).bind fun t643 => ((spec_CodeOf.f k t640).bind fun t646 => ((impl_CodeSame.f k t643 t646).bind fun t649 => (if t649 = true then ((spec_StmtsOk.f k t640).bind fun t650 => (if t650 = true then ((impl_CodeOk.f k t643).bind fun t651 => (if t651 = true then ((impl_StmtsMany.f k t640).bind fun t652 => (if (t643.length : Int) ≥ (wrap64 (t652 + 1)) then ((impl_StmtsMany.f k t640).bind fun t653 => (some (decide ((t643.length : Int) ≤ (wrap64 ((wrap64 (2 * t653)) + 1)))))) else (some false))) else (some false))) else (some ((t643.length : Int) == 0)))) else (some false))))))) = some r := h
  clear h
  by_cases c2 : (l0.length : Int) > 1048576
  · rw [if_pos c2] at H; have c2b0 : decide (1048576 < (l0.length : Int)) = true := decide_eq_true c2
    have c2b1 : decide (1048576 < l0.length) = true := decide_eq_true (by omega)
    clear c2; obtain rfl := Option.some.inj H; go_enter Try.func8, Try.ntmps8
    go_wp2
    go_ret
    exact ⟨by first | rfl | (simp [errW_none, errW_some] <;> rfl) | (simp [*, errW_none, errW_some] <;> rfl), by repeat (first | (with_reducible first | exact HB.out | apply below_alloc | apply pw_below_drewN | apply below_drew1) | exact HB.out)⟩
  · rw [if_neg c2] at H; have c2b0 : decide (1048576 < (l0.length : Int)) = false := decide_eq_false c2
    have c2b1 : decide (1048576 < l0.length) = false := decide_eq_false (by omega)
    clear c2; replace H := Option.bind_eq_some_iff.mp H; obtain ⟨t640, A30, H⟩ := H
    replace H : ((impl_CodeOf.f k t640).bind fun t643 => ((spec_CodeOf.f k t640).bind fun t646 => ((impl_CodeSame.f k t643 t646).bind fun t649 => (if t649 = true then ((spec_StmtsOk.f k t640).bind fun t650 => (if t650 = true then ((impl_CodeOk.f k t643).bind fun t651 => (if t651 = true then ((impl_StmtsMany.f k t640).bind fun t652 => (if (t643.length : Int) ≥ (wrap64 (t652 + 1)) then ((impl_StmtsMany.f k t640).bind fun t653 => (some (decide ((t643.length : Int) ≤ (wrap64 ((wrap64 (2 * t653)) + 1)))))) else (some false))) else (some false))) else (some ((t643.length : Int) == 0)))) else (some false))))) = some r := H
    have A3 := Aside0.mk A30; clear A30; replace H := Option.bind_eq_some_iff.mp H; obtain ⟨t643, A40, H⟩ := H; replace H : ((spec_CodeOf.f k t640).bind fun t646 => ((impl_CodeSame.f k t643 t646).bind fun t649 => (if t649 = true then ((spec_StmtsOk.f k t640).bind fun t650 => (if t650 = true then ((impl_CodeOk.f k t643).bind fun t651 => (if t651 = true then ((impl_StmtsMany.f k t640).bind fun t652 => (if (t643.length : Int) ≥ (wrap64 (t652 + 1)) then ((impl_StmtsMany.f k t640).bind fun t653 => (some (decide ((t643.length : Int) ≤ (wrap64 ((wrap64 (2 * t653)) + 1)))))) else (some false))) else (some false))) else (some ((t643.length : Int) == 0)))) else (some false)))) = some r := H; have A4 := Aside0.mk A40; clear A40; replace H := Option.bind_eq_some_iff.mp H; obtain ⟨t646, A50, H⟩ := H; replace H : ((impl_CodeSame.f k t643 t646).bind fun t649 => (if t649 = true then ((spec_StmtsOk.f k t640).bind fun t650 => (if t650 = true then ((impl_CodeOk.f k t643).bind fun t651 => (if t651 = true then ((impl_StmtsMany.f k t640).bind fun t652 => (if (t643.length : Int) ≥ (wrap64 (t652 + 1)) then ((impl_StmtsMany.f k t640).bind fun t653 => (some (decide ((t643.length : Int) ≤ (wrap64 ((wrap64 (2 * t653)) + 1)))))) else (some false))) else (some false))) else (some ((t643.length : Int) == 0)))) else (some false))) = some r := H; have A5 := Aside0.mk A50; clear A50; replace H := Option.bind_eq_some_iff.mp H; obtain ⟨t649, A60, H⟩ := H; replace H : (if t649 = true then ((spec_StmtsOk.f k t640).bind fun t650 => (if t650 = true then ((impl_CodeOk.f k t643).bind fun t651 => (if t651 = true then ((impl_StmtsMany.f k t640).bind fun t652 => (if (t643.length : Int) ≥ (wrap64 (t652 + 1)) then ((impl_StmtsMany.f k t640).bind fun t653 => (some (decide ((t643.length : Int) ≤ (wrap64 ((wrap64 (2 * t653)) + 1)))))) else (some false))) else (some false))) else (some ((t643.length : Int) == 0)))) else (some false)) = some r := H; have A6 := Aside0.mk A60; clear A60
    by_cases c7 : t649 = true
    · subst c7
      have H1 : ((spec_StmtsOk.f k t640).bind fun t650 => (if t650 = true then ((impl_CodeOk.f k t643).bind fun t651 => (if t651 = true then ((impl_StmtsMany.f k t640).bind fun t652 => (if (t643.length : Int) ≥ (wrap64 (t652 + 1)) then ((impl_StmtsMany.f k t640).bind fun t653 => (some (decide ((t643.length : Int) ≤ (wrap64 ((wrap64 (2 * t653)) + 1)))))) else (some false))) else (some false))) else (some ((t643.length : Int) == 0)))) = some r := by rw [if_pos rfl] at H; exact H
      clear H; have H := H1; clear H1; replace H := Option.bind_eq_some_iff.mp H; obtain ⟨t650, A80, H⟩ := H; replace H : (if t650 = true then ((impl_CodeOk.f k t643).bind fun t651 => (if t651 = true then ((impl_StmtsMany.f k t640).bind fun t652 => (if (t643.length : Int) ≥ (wrap64 (t652 + 1)) then ((impl_StmtsMany.f k t640).bind fun t653 => (some (decide ((t643.length : Int) ≤ (wrap64 ((wrap64 (2 * t653)) + 1)))))) else (some false))) else (some false))) else (some ((t643.length : Int) == 0))) = some r := H; have A8 := Aside0.mk A80; clear A80
      by_cases c9 : t650 = true
      · subst c9
        have H1 : ((impl_CodeOk.f k t643).bind fun t651 => (if t651 = true then ((impl_StmtsMany.f k t640).bind fun t652 => (if (t643.length : Int) ≥ (wrap64 (t652 + 1)) then ((impl_StmtsMany.f k t640).bind fun t653 => (some (decide ((t643.length : Int) ≤ (wrap64 ((wrap64 (2 * t653)) + 1)))))) else (some false))) else (some false))) = some r := by rw [if_pos rfl] at H; exact H
        clear H; have H := H1; clear H1; replace H := Option.bind_eq_some_iff.mp H; obtain ⟨t651, A100, H⟩ := H; replace H : (if t651 = true then ((impl_StmtsMany.f k t640).bind fun t652 => (if (t643.length : Int) ≥ (wrap64 (t652 + 1)) then ((impl_StmtsMany.f k t640).bind fun t653 => (some (decide ((t643.length : Int) ≤ (wrap64 ((wrap64 (2 * t653)) + 1)))))) else (some false))) else (some false)) = some r := H; have A10 := Aside0.mk A100; clear A100
        by_cases c11 : t651 = true
        · subst c11
          have H1 : ((impl_StmtsMany.f k t640).bind fun t652 => (if (t643.length : Int) ≥ (wrap64 (t652 + 1)) then ((impl_StmtsMany.f k t640).bind fun t653 => (some (decide ((t643.length : Int) ≤ (wrap64 ((wrap64 (2 * t653)) + 1)))))) else (some false))) = some r := by rw [if_pos rfl] at H; exact H
          clear H; have H := H1; clear H1; replace H := Option.bind_eq_some_iff.mp H; obtain ⟨t652, A120, H⟩ := H; replace H : (if (t643.length : Int) ≥ (wrap64 (t652 + 1)) then ((impl_StmtsMany.f k t640).bind fun t653 => (some (decide ((t643.length : Int) ≤ (wrap64 ((wrap64 (2 * t653)) + 1)))))) else (some false)) = some r := H; have A12 := Aside0.mk A120; clear A120
          by_cases c13 : (t643.length : Int) ≥ (wrap64 (t652 + 1))
          · rw [if_pos c13] at H; have c13b0 : decide ((wrap64 (t652 + 1)) ≤ (t643.length : Int)) = true := decide_eq_true c13; clear c13; replace H := Option.bind_eq_some_iff.mp H; obtain ⟨t653, A140, H⟩ := H; replace H : (some (decide ((t643.length : Int) ≤ (wrap64 ((wrap64 (2 * t653)) + 1))))) = some r := H; have e_ : t652 = t653 := Option.some.inj (A12.out.symm.trans A140); subst e_; have A14 := Aside0.mk A140; clear A140; obtain rfl := Option.some.inj H; go_enter Try.func8, Try.ntmps8
            go_wp2_with (first | ((with_reducible refine gate_callee (f := 25) rfl ?_); refine goesM_ (some 9) Try.func25 #[.slice A0 l0.length c0] ?_; (with_reducible refine (spec_DrawCodeOf.calls k _ _ l0 t640 _ ?side1 ?side2 A3.out).mono ?_); (case side1 => repeat (first | exact HR0.out | (with_reducible refine Kd.C_alloc ?_ _) | (with_reducible refine Kd.C_drewN ?_ _) | (with_reducible refine Kd.C_drew ?_))); (case side2 => exact HC0.out); rintro e w15 ⟨v641, rfl, ho0, hb⟩; refine ⟨_, rfl, ?_⟩; have n0_ := Aside0.mk (Kd.N_lower (Kd.N_mono (ok' := fun k_ => True) ho0 (fun k_ hk_ => trivial)) (below_size (q0_ HB))); have n1_ := Aside0.mk (below_step (q0_ HB) hb); clear HB; have HO642 := n0_; have HB := n1_; clear n0_ n1_; (try clear hb); (try clear hb2); (try clear hk); (try clear hi); (try clear ho0); obtain ⟨Ao16, co16, eo16⟩ := Kd.N_slice HO642.out; subst eo16) | ((with_reducible refine gate_callee (f := 20) rfl ?_); refine goesM_ (some 11) Try.func20 #[.slice Ao16 t640.length co16] ?_; (with_reducible refine (impl_CodeOf.calls k _ _ t640 t643 _ ?side1 ?side2 A4.out).mono ?_); (case side1 => repeat (first | exact (Kd.N_reads' HO642.out).2.2 | (with_reducible refine Kd.C_alloc ?_ _) | (with_reducible refine Kd.C_drewN ?_ _) | (with_reducible refine Kd.C_drew ?_))); (case side2 => exact (Kd.N_reads' HO642.out).2.1); rintro e w17 ⟨v644, rfl, ho0, hb⟩; refine ⟨_, rfl, ?_⟩; have n0_ := Aside0.mk (Kd.N_elder' (q15_ HO642) (Kd.R_base ho0) hb); have n1_ := Aside0.mk (Kd.R_lower ho0 (below_size (q0_ HB))); have n2_ := Aside0.mk (below_step (q0_ HB) hb); clear HO642; clear HB; have HO642 := n0_; have HO645 := n1_; have HB := n2_; clear n0_ n1_ n2_; (try clear hb); (try clear hb2); (try clear hk); (try clear hi); (try clear ho0)) | ((with_reducible refine gate_callee (f := 18) rfl ?_); refine goesM_ (some 14) Try.func18 #[.slice Ao16 t640.length co16] ?_; (with_reducible refine (spec_CodeOf.calls k _ _ t640 t646 _ ?side1 ?side2 A5.out).mono ?_); (case side1 => repeat (first | exact (Kd.N_reads' HO642.out).2.2 | (with_reducible refine Kd.C_alloc ?_ _) | (with_reducible refine Kd.C_drewN ?_ _) | (with_reducible refine Kd.C_drew ?_))); (case side2 => exact (Kd.N_reads' HO642.out).2.1); rintro e w18 ⟨v647, rfl, ho0, hb⟩; refine ⟨_, rfl, ?_⟩; have n0_ := Aside0.mk (Kd.N_elder' (q15_ HO642) (Kd.R_base ho0) hb); have n1_ := Aside0.mk (Kd.R_elder' (q3_ HO645) (Kd.R_base ho0) hb); have n2_ := Aside0.mk (Kd.R_lower (Kd.R_new' ho0 (Kd.R_lt (q3_ HO645))) (below_size (q0_ HB))); have n3_ := Aside0.mk (below_step (q0_ HB) hb); clear HO642; clear HO645; clear HB; have HO642 := n0_; have HO645 := n1_; have HO648 := n2_; have HB := n3_; clear n0_ n1_ n2_ n3_; (try clear hb); (try clear hb2); (try clear hk); (try clear hi); (try clear ho0); obtain ⟨Ao19, co19, eo19⟩ := Kd.R_slice HO645.out; subst eo19; obtain ⟨Ao20, co20, eo20⟩ := Kd.R_slice HO648.out; subst eo20) | ((with_reducible refine gate_callee (f := 26) rfl ?_); refine goesM_ (some 15) Try.func26 #[.slice Ao19 t643.length co19, .slice Ao20 t646.length co20] ?_; (with_reducible refine (impl_CodeSame.calls k _ _ t643 _ _ t646 true _ ?side1 ?side2 ?side3 ?side4 A6.out).mono ?_); (case side1 => repeat (first | exact (Kd.R_reads' HO645.out).2.2 | (with_reducible refine Kd.C_alloc ?_ _) | (with_reducible refine Kd.C_drewN ?_ _) | (with_reducible refine Kd.C_drew ?_))); (case side2 => exact (Kd.R_reads' HO645.out).2.1); (case side3 => repeat (first | exact (Kd.R_reads' HO648.out).2.2 | (with_reducible refine Kd.C_alloc ?_ _) | (with_reducible refine Kd.C_drewN ?_ _) | (with_reducible refine Kd.C_drew ?_))); (case side4 => exact (Kd.R_reads' HO648.out).2.1); rintro e w' ⟨rfl, ⟨nd, rfl⟩⟩; refine ⟨_, rfl, ?_⟩) | ((with_reducible refine gate_callee (f := 27) rfl ?_); refine goesM_ (some 18) Try.func27 #[.slice Ao16 t640.length co16] ?_; (with_reducible refine (spec_StmtsOk.calls k _ _ t640 true _ ?side1 ?side2 A8.out).mono ?_); (case side1 => repeat (first | exact (Kd.N_reads' HO642.out).2.2 | (with_reducible refine Kd.C_alloc ?_ _) | (with_reducible refine Kd.C_drewN ?_ _) | (with_reducible refine Kd.C_drew ?_))); (case side2 => exact (Kd.N_reads' HO642.out).2.1); rintro e w21 ⟨rfl, hb⟩; refine ⟨_, rfl, ?_⟩; have n0_ := Aside0.mk (Kd.N_below (q15_ HO642) hb); have n1_ := Aside0.mk (Kd.R_below (q3_ HO645) hb); have n2_ := Aside0.mk (Kd.R_below (q3_ HO648) hb); have n3_ := Aside0.mk (below_step (q0_ HB) hb); clear HO642; clear HO645; clear HO648; clear HB; have HO642 := n0_; have HO645 := n1_; have HO648 := n2_; have HB := n3_; clear n0_ n1_ n2_ n3_; (try clear hb); (try clear hb2); (try clear hk); (try clear hi)) | ((with_reducible refine gate_callee (f := 15) rfl ?_); refine goesM_ (some 24) Try.func15 #[.slice Ao19 t643.length co19] ?_; (with_reducible refine (impl_CodeOk.calls k _ _ t643 true _ ?side1 ?side2 A10.out).mono ?_); (case side1 => repeat (first | exact (Kd.R_reads' HO645.out).2.2 | (with_reducible refine Kd.C_alloc ?_ _) | (with_reducible refine Kd.C_drewN ?_ _) | (with_reducible refine Kd.C_drew ?_))); (case side2 => exact (Kd.R_reads' HO645.out).2.1); rintro e w22 ⟨rfl, hb⟩; refine ⟨_, rfl, ?_⟩; have n0_ := Aside0.mk (Kd.N_below (q15_ HO642) hb); have n1_ := Aside0.mk (Kd.R_below (q3_ HO645) hb); have n2_ := Aside0.mk (Kd.R_below (q3_ HO648) hb); have n3_ := Aside0.mk (below_step (q0_ HB) hb); clear HO642; clear HO645; clear HO648; clear HB; have HO642 := n0_; have HO645 := n1_; have HO648 := n2_; have HB := n3_; clear n0_ n1_ n2_ n3_; (try clear hb); (try clear hb2); (try clear hk); (try clear hi)) | (go_at_call 28; (with_reducible refine (impl_StmtsMany.calls k _ _ t640 t652 _ ?side1 ?side2 A12.out).mono ?_); (case side1 => repeat (first | exact (Kd.N_reads' HO642.out).2.2 | (with_reducible refine Kd.C_alloc ?_ _) | (with_reducible refine Kd.C_drewN ?_ _) | (with_reducible refine Kd.C_drew ?_))); (case side2 => exact (Kd.N_reads' HO642.out).2.1); rintro e w23 ⟨rfl, hb⟩; have n0_ := Aside0.mk (Kd.N_below (q15_ HO642) hb); have n1_ := Aside0.mk (Kd.R_below (q3_ HO645) hb); have n2_ := Aside0.mk (Kd.R_below (q3_ HO648) hb); have n3_ := Aside0.mk (below_step (q0_ HB) hb); clear HO642; clear HO645; clear HO648; clear HB; have HO642 := n0_; have HO645 := n1_; have HO648 := n2_; have HB := n3_; clear n0_ n1_ n2_ n3_; (try clear hb); (try clear hb2); (try clear hk); (try clear hi)) | (go_at_call 28; (with_reducible refine (impl_StmtsMany.calls k _ _ t640 t653 _ ?side1 ?side2 A14.out).mono ?_); (case side1 => repeat (first | exact (Kd.N_reads' HO642.out).2.2 | (with_reducible refine Kd.C_alloc ?_ _) | (with_reducible refine Kd.C_drewN ?_ _) | (with_reducible refine Kd.C_drew ?_))); (case side2 => exact (Kd.N_reads' HO642.out).2.1); rintro e w24 ⟨rfl, hb⟩; have n0_ := Aside0.mk (Kd.N_below (q15_ HO642) hb); have n1_ := Aside0.mk (Kd.R_below (q3_ HO645) hb); have n2_ := Aside0.mk (Kd.R_below (q3_ HO648) hb); have n3_ := Aside0.mk (below_step (q0_ HB) hb); clear HO642; clear HO645; clear HO648; clear HB; have HO642 := n0_; have HO645 := n1_; have HO648 := n2_; have HB := n3_; clear n0_ n1_ n2_ n3_; (try clear hb); (try clear hb2); (try clear hk); (try clear hi)))
            go_ret
            exact ⟨by first | rfl | (simp [errW_none, errW_some] <;> rfl) | (simp [*, errW_none, errW_some] <;> rfl), by repeat (first | (with_reducible first | exact HB.out | apply below_alloc | apply pw_below_drewN | apply below_drew1) | exact HB.out)⟩
          · rw [if_neg c13] at H; have c13b0 : decide ((wrap64 (t652 + 1)) ≤ (t643.length : Int)) = false := decide_eq_false c13; clear c13; obtain rfl := Option.some.inj H; go_enter Try.func8, Try.ntmps8
            go_wp2_with (first | ((with_reducible refine gate_callee (f := 25) rfl ?_); refine goesM_ (some 9) Try.func25 #[.slice A0 l0.length c0] ?_; (with_reducible refine (spec_DrawCodeOf.calls k _ _ l0 t640 _ ?side1 ?side2 A3.out).mono ?_); (case side1 => repeat (first | exact HR0.out | (with_reducible refine Kd.C_alloc ?_ _) | (with_reducible refine Kd.C_drewN ?_ _) | (with_reducible refine Kd.C_drew ?_))); (case side2 => exact HC0.out); rintro e w25 ⟨v641, rfl, ho0, hb⟩; refine ⟨_, rfl, ?_⟩; have n0_ := Aside0.mk (Kd.N_lower (Kd.N_mono (ok' := fun k_ => True) ho0 (fun k_ hk_ => trivial)) (below_size (q0_ HB))); have n1_ := Aside0.mk (below_step (q0_ HB) hb); clear HB; have HO642 := n0_; have HB := n1_; clear n0_ n1_; (try clear hb); (try clear hb2); (try clear hk); (try clear hi); (try clear ho0); obtain ⟨Ao26, co26, eo26⟩ := Kd.N_slice HO642.out; subst eo26) | ((with_reducible refine gate_callee (f := 20) rfl ?_); refine goesM_ (some 11) Try.func20 #[.slice Ao26 t640.length co26] ?_; (with_reducible refine (impl_CodeOf.calls k _ _ t640 t643 _ ?side1 ?side2 A4.out).mono ?_); (case side1 => repeat (first | exact (Kd.N_reads' HO642.out).2.2 | (with_reducible refine Kd.C_alloc ?_ _) | (with_reducible refine Kd.C_drewN ?_ _) | (with_reducible refine Kd.C_drew ?_))); (case side2 => exact (Kd.N_reads' HO642.out).2.1); rintro e w27 ⟨v644, rfl, ho0, hb⟩; refine ⟨_, rfl, ?_⟩; have n0_ := Aside0.mk (Kd.N_elder' (q15_ HO642) (Kd.R_base ho0) hb); have n1_ := Aside0.mk (Kd.R_lower ho0 (below_size (q0_ HB))); have n2_ := Aside0.mk (below_step (q0_ HB) hb); clear HO642; clear HB; have HO642 := n0_; have HO645 := n1_; have HB := n2_; clear n0_ n1_ n2_; (try clear hb); (try clear hb2); (try clear hk); (try clear hi); (try clear ho0)) | ((with_reducible refine gate_callee (f := 18) rfl ?_); refine goesM_ (some 14) Try.func18 #[.slice Ao26 t640.length co26] ?_; (with_reducible refine (spec_CodeOf.calls k _ _ t640 t646 _ ?side1 ?side2 A5.out).mono ?_); (case side1 => repeat (first | exact (Kd.N_reads' HO642.out).2.2 | (with_reducible refine Kd.C_alloc ?_ _) | (with_reducible refine Kd.C_drewN ?_ _) | (with_reducible refine Kd.C_drew ?_))); (case side2 => exact (Kd.N_reads' HO642.out).2.1); rintro e w28 ⟨v647, rfl, ho0, hb⟩; refine ⟨_, rfl, ?_⟩; have n0_ := Aside0.mk (Kd.N_elder' (q15_ HO642) (Kd.R_base ho0) hb); have n1_ := Aside0.mk (Kd.R_elder' (q3_ HO645) (Kd.R_base ho0) hb); have n2_ := Aside0.mk (Kd.R_lower (Kd.R_new' ho0 (Kd.R_lt (q3_ HO645))) (below_size (q0_ HB))); have n3_ := Aside0.mk (below_step (q0_ HB) hb); clear HO642; clear HO645; clear HB; have HO642 := n0_; have HO645 := n1_; have HO648 := n2_; have HB := n3_; clear n0_ n1_ n2_ n3_; (try clear hb); (try clear hb2); (try clear hk); (try clear hi); (try clear ho0); obtain ⟨Ao29, co29, eo29⟩ := Kd.R_slice HO645.out; subst eo29; obtain ⟨Ao30, co30, eo30⟩ := Kd.R_slice HO648.out; subst eo30) | ((with_reducible refine gate_callee (f := 26) rfl ?_); refine goesM_ (some 15) Try.func26 #[.slice Ao29 t643.length co29, .slice Ao30 t646.length co30] ?_; (with_reducible refine (impl_CodeSame.calls k _ _ t643 _ _ t646 true _ ?side1 ?side2 ?side3 ?side4 A6.out).mono ?_); (case side1 => repeat (first | exact (Kd.R_reads' HO645.out).2.2 | (with_reducible refine Kd.C_alloc ?_ _) | (with_reducible refine Kd.C_drewN ?_ _) | (with_reducible refine Kd.C_drew ?_))); (case side2 => exact (Kd.R_reads' HO645.out).2.1); (case side3 => repeat (first | exact (Kd.R_reads' HO648.out).2.2 | (with_reducible refine Kd.C_alloc ?_ _) | (with_reducible refine Kd.C_drewN ?_ _) | (with_reducible refine Kd.C_drew ?_))); (case side4 => exact (Kd.R_reads' HO648.out).2.1); rintro e w' ⟨rfl, ⟨nd, rfl⟩⟩; refine ⟨_, rfl, ?_⟩) | ((with_reducible refine gate_callee (f := 27) rfl ?_); refine goesM_ (some 18) Try.func27 #[.slice Ao26 t640.length co26] ?_; (with_reducible refine (spec_StmtsOk.calls k _ _ t640 true _ ?side1 ?side2 A8.out).mono ?_); (case side1 => repeat (first | exact (Kd.N_reads' HO642.out).2.2 | (with_reducible refine Kd.C_alloc ?_ _) | (with_reducible refine Kd.C_drewN ?_ _) | (with_reducible refine Kd.C_drew ?_))); (case side2 => exact (Kd.N_reads' HO642.out).2.1); rintro e w31 ⟨rfl, hb⟩; refine ⟨_, rfl, ?_⟩; have n0_ := Aside0.mk (Kd.N_below (q15_ HO642) hb); have n1_ := Aside0.mk (Kd.R_below (q3_ HO645) hb); have n2_ := Aside0.mk (Kd.R_below (q3_ HO648) hb); have n3_ := Aside0.mk (below_step (q0_ HB) hb); clear HO642; clear HO645; clear HO648; clear HB; have HO642 := n0_; have HO645 := n1_; have HO648 := n2_; have HB := n3_; clear n0_ n1_ n2_ n3_; (try clear hb); (try clear hb2); (try clear hk); (try clear hi)) | ((with_reducible refine gate_callee (f := 15) rfl ?_); refine goesM_ (some 24) Try.func15 #[.slice Ao29 t643.length co29] ?_; (with_reducible refine (impl_CodeOk.calls k _ _ t643 true _ ?side1 ?side2 A10.out).mono ?_); (case side1 => repeat (first | exact (Kd.R_reads' HO645.out).2.2 | (with_reducible refine Kd.C_alloc ?_ _) | (with_reducible refine Kd.C_drewN ?_ _) | (with_reducible refine Kd.C_drew ?_))); (case side2 => exact (Kd.R_reads' HO645.out).2.1); rintro e w32 ⟨rfl, hb⟩; refine ⟨_, rfl, ?_⟩; have n0_ := Aside0.mk (Kd.N_below (q15_ HO642) hb); have n1_ := Aside0.mk (Kd.R_below (q3_ HO645) hb); have n2_ := Aside0.mk (Kd.R_below (q3_ HO648) hb); have n3_ := Aside0.mk (below_step (q0_ HB) hb); clear HO642; clear HO645; clear HO648; clear HB; have HO642 := n0_; have HO645 := n1_; have HO648 := n2_; have HB := n3_; clear n0_ n1_ n2_ n3_; (try clear hb); (try clear hb2); (try clear hk); (try clear hi)) | (go_at_call 28; (with_reducible refine (impl_StmtsMany.calls k _ _ t640 t652 _ ?side1 ?side2 A12.out).mono ?_); (case side1 => repeat (first | exact (Kd.N_reads' HO642.out).2.2 | (with_reducible refine Kd.C_alloc ?_ _) | (with_reducible refine Kd.C_drewN ?_ _) | (with_reducible refine Kd.C_drew ?_))); (case side2 => exact (Kd.N_reads' HO642.out).2.1); rintro e w33 ⟨rfl, hb⟩; have n0_ := Aside0.mk (Kd.N_below (q15_ HO642) hb); have n1_ := Aside0.mk (Kd.R_below (q3_ HO645) hb); have n2_ := Aside0.mk (Kd.R_below (q3_ HO648) hb); have n3_ := Aside0.mk (below_step (q0_ HB) hb); clear HO642; clear HO645; clear HO648; clear HB; have HO642 := n0_; have HO645 := n1_; have HO648 := n2_; have HB := n3_; clear n0_ n1_ n2_ n3_; (try clear hb); (try clear hb2); (try clear hk); (try clear hi)))
            go_ret
            exact ⟨by first | rfl | (simp [errW_none, errW_some] <;> rfl) | (simp [*, errW_none, errW_some] <;> rfl), by repeat (first | (with_reducible first | exact HB.out | apply below_alloc | apply pw_below_drewN | apply below_drew1) | exact HB.out)⟩
        · replace c11 := Bool.eq_false_iff.mpr c11; subst c11
          have H1 : (some false) = some r := by rw [if_neg (show ¬ (false = true) by decide)] at H; exact H
          clear H; have H := H1; clear H1; obtain rfl := Option.some.inj H; go_enter Try.func8, Try.ntmps8
          go_wp2_with (first | ((with_reducible refine gate_callee (f := 25) rfl ?_); refine goesM_ (some 9) Try.func25 #[.slice A0 l0.length c0] ?_; (with_reducible refine (spec_DrawCodeOf.calls k _ _ l0 t640 _ ?side1 ?side2 A3.out).mono ?_); (case side1 => repeat (first | exact HR0.out | (with_reducible refine Kd.C_alloc ?_ _) | (with_reducible refine Kd.C_drewN ?_ _) | (with_reducible refine Kd.C_drew ?_))); (case side2 => exact HC0.out); rintro e w34 ⟨v641, rfl, ho0, hb⟩; refine ⟨_, rfl, ?_⟩; have n0_ := Aside0.mk (Kd.N_lower (Kd.N_mono (ok' := fun k_ => True) ho0 (fun k_ hk_ => trivial)) (below_size (q0_ HB))); have n1_ := Aside0.mk (below_step (q0_ HB) hb); clear HB; have HO642 := n0_; have HB := n1_; clear n0_ n1_; (try clear hb); (try clear hb2); (try clear hk); (try clear hi); (try clear ho0); obtain ⟨Ao35, co35, eo35⟩ := Kd.N_slice HO642.out; subst eo35) | ((with_reducible refine gate_callee (f := 20) rfl ?_); refine goesM_ (some 11) Try.func20 #[.slice Ao35 t640.length co35] ?_; (with_reducible refine (impl_CodeOf.calls k _ _ t640 t643 _ ?side1 ?side2 A4.out).mono ?_); (case side1 => repeat (first | exact (Kd.N_reads' HO642.out).2.2 | (with_reducible refine Kd.C_alloc ?_ _) | (with_reducible refine Kd.C_drewN ?_ _) | (with_reducible refine Kd.C_drew ?_))); (case side2 => exact (Kd.N_reads' HO642.out).2.1); rintro e w36 ⟨v644, rfl, ho0, hb⟩; refine ⟨_, rfl, ?_⟩; have n0_ := Aside0.mk (Kd.N_elder' (q15_ HO642) (Kd.R_base ho0) hb); have n1_ := Aside0.mk (Kd.R_lower ho0 (below_size (q0_ HB))); have n2_ := Aside0.mk (below_step (q0_ HB) hb); clear HO642; clear HB; have HO642 := n0_; have HO645 := n1_; have HB := n2_; clear n0_ n1_ n2_; (try clear hb); (try clear hb2); (try clear hk); (try clear hi); (try clear ho0)) | ((with_reducible refine gate_callee (f := 18) rfl ?_); refine goesM_ (some 14) Try.func18 #[.slice Ao35 t640.length co35] ?_; (with_reducible refine (spec_CodeOf.calls k _ _ t640 t646 _ ?side1 ?side2 A5.out).mono ?_); (case side1 => repeat (first | exact (Kd.N_reads' HO642.out).2.2 | (with_reducible refine Kd.C_alloc ?_ _) | (with_reducible refine Kd.C_drewN ?_ _) | (with_reducible refine Kd.C_drew ?_))); (case side2 => exact (Kd.N_reads' HO642.out).2.1); rintro e w37 ⟨v647, rfl, ho0, hb⟩; refine ⟨_, rfl, ?_⟩; have n0_ := Aside0.mk (Kd.N_elder' (q15_ HO642) (Kd.R_base ho0) hb); have n1_ := Aside0.mk (Kd.R_elder' (q3_ HO645) (Kd.R_base ho0) hb); have n2_ := Aside0.mk (Kd.R_lower (Kd.R_new' ho0 (Kd.R_lt (q3_ HO645))) (below_size (q0_ HB))); have n3_ := Aside0.mk (below_step (q0_ HB) hb); clear HO642; clear HO645; clear HB; have HO642 := n0_; have HO645 := n1_; have HO648 := n2_; have HB := n3_; clear n0_ n1_ n2_ n3_; (try clear hb); (try clear hb2); (try clear hk); (try clear hi); (try clear ho0); obtain ⟨Ao38, co38, eo38⟩ := Kd.R_slice HO645.out; subst eo38; obtain ⟨Ao39, co39, eo39⟩ := Kd.R_slice HO648.out; subst eo39) | ((with_reducible refine gate_callee (f := 26) rfl ?_); refine goesM_ (some 15) Try.func26 #[.slice Ao38 t643.length co38, .slice Ao39 t646.length co39] ?_; (with_reducible refine (impl_CodeSame.calls k _ _ t643 _ _ t646 true _ ?side1 ?side2 ?side3 ?side4 A6.out).mono ?_); (case side1 => repeat (first | exact (Kd.R_reads' HO645.out).2.2 | (with_reducible refine Kd.C_alloc ?_ _) | (with_reducible refine Kd.C_drewN ?_ _) | (with_reducible refine Kd.C_drew ?_))); (case side2 => exact (Kd.R_reads' HO645.out).2.1); (case side3 => repeat (first | exact (Kd.R_reads' HO648.out).2.2 | (with_reducible refine Kd.C_alloc ?_ _) | (with_reducible refine Kd.C_drewN ?_ _) | (with_reducible refine Kd.C_drew ?_))); (case side4 => exact (Kd.R_reads' HO648.out).2.1); rintro e w' ⟨rfl, ⟨nd, rfl⟩⟩; refine ⟨_, rfl, ?_⟩) | ((with_reducible refine gate_callee (f := 27) rfl ?_); refine goesM_ (some 18) Try.func27 #[.slice Ao35 t640.length co35] ?_; (with_reducible refine (spec_StmtsOk.calls k _ _ t640 true _ ?side1 ?side2 A8.out).mono ?_); (case side1 => repeat (first | exact (Kd.N_reads' HO642.out).2.2 | (with_reducible refine Kd.C_alloc ?_ _) | (with_reducible refine Kd.C_drewN ?_ _) | (with_reducible refine Kd.C_drew ?_))); (case side2 => exact (Kd.N_reads' HO642.out).2.1); rintro e w40 ⟨rfl, hb⟩; refine ⟨_, rfl, ?_⟩; have n0_ := Aside0.mk (Kd.N_below (q15_ HO642) hb); have n1_ := Aside0.mk (Kd.R_below (q3_ HO645) hb); have n2_ := Aside0.mk (Kd.R_below (q3_ HO648) hb); have n3_ := Aside0.mk (below_step (q0_ HB) hb); clear HO642; clear HO645; clear HO648; clear HB; have HO642 := n0_; have HO645 := n1_; have HO648 := n2_; have HB := n3_; clear n0_ n1_ n2_ n3_; (try clear hb); (try clear hb2); (try clear hk); (try clear hi)) | ((with_reducible refine gate_callee (f := 15) rfl ?_); refine goesM_ (some 24) Try.func15 #[.slice Ao38 t643.length co38] ?_; (with_reducible refine (impl_CodeOk.calls k _ _ t643 false _ ?side1 ?side2 A10.out).mono ?_); (case side1 => repeat (first | exact (Kd.R_reads' HO645.out).2.2 | (with_reducible refine Kd.C_alloc ?_ _) | (with_reducible refine Kd.C_drewN ?_ _) | (with_reducible refine Kd.C_drew ?_))); (case side2 => exact (Kd.R_reads' HO645.out).2.1); rintro e w41 ⟨rfl, hb⟩; refine ⟨_, rfl, ?_⟩; have n0_ := Aside0.mk (Kd.N_below (q15_ HO642) hb); have n1_ := Aside0.mk (Kd.R_below (q3_ HO645) hb); have n2_ := Aside0.mk (Kd.R_below (q3_ HO648) hb); have n3_ := Aside0.mk (below_step (q0_ HB) hb); clear HO642; clear HO645; clear HO648; clear HB; have HO642 := n0_; have HO645 := n1_; have HO648 := n2_; have HB := n3_; clear n0_ n1_ n2_ n3_; (try clear hb); (try clear hb2); (try clear hk); (try clear hi)))
          go_ret
          exact ⟨by first | rfl | (simp [errW_none, errW_some] <;> rfl) | (simp [*, errW_none, errW_some] <;> rfl), by repeat (first | (with_reducible first | exact HB.out | apply below_alloc | apply pw_below_drewN | apply below_drew1) | exact HB.out)⟩
      · replace c9 := Bool.eq_false_iff.mpr c9; subst c9
        have H1 : (some ((t643.length : Int) == 0)) = some r := by rw [if_neg (show ¬ (false = true) by decide)] at H; exact H
        clear H; have H := H1; clear H1; obtain rfl := Option.some.inj H; go_enter Try.func8, Try.ntmps8
        go_wp2_with (first | ((with_reducible refine gate_callee (f := 25) rfl ?_); refine goesM_ (some 9) Try.func25 #[.slice A0 l0.length c0] ?_; (with_reducible refine (spec_DrawCodeOf.calls k _ _ l0 t640 _ ?side1 ?side2 A3.out).mono ?_); (case side1 => repeat (first | exact HR0.out | (with_reducible refine Kd.C_alloc ?_ _) | (with_reducible refine Kd.C_drewN ?_ _) | (with_reducible refine Kd.C_drew ?_))); (case side2 => exact HC0.out); rintro e w42 ⟨v641, rfl, ho0, hb⟩; refine ⟨_, rfl, ?_⟩; have n0_ := Aside0.mk (Kd.N_lower (Kd.N_mono (ok' := fun k_ => True) ho0 (fun k_ hk_ => trivial)) (below_size (q0_ HB))); have n1_ := Aside0.mk (below_step (q0_ HB) hb); clear HB; have HO642 := n0_; have HB := n1_; clear n0_ n1_; (try clear hb); (try clear hb2); (try clear hk); (try clear hi); (try clear ho0); obtain ⟨Ao43, co43, eo43⟩ := Kd.N_slice HO642.out; subst eo43) | ((with_reducible refine gate_callee (f := 20) rfl ?_); refine goesM_ (some 11) Try.func20 #[.slice Ao43 t640.length co43] ?_; (with_reducible refine (impl_CodeOf.calls k _ _ t640 t643 _ ?side1 ?side2 A4.out).mono ?_); (case side1 => repeat (first | exact (Kd.N_reads' HO642.out).2.2 | (with_reducible refine Kd.C_alloc ?_ _) | (with_reducible refine Kd.C_drewN ?_ _) | (with_reducible refine Kd.C_drew ?_))); (case side2 => exact (Kd.N_reads' HO642.out).2.1); rintro e w44 ⟨v644, rfl, ho0, hb⟩; refine ⟨_, rfl, ?_⟩; have n0_ := Aside0.mk (Kd.N_elder' (q15_ HO642) (Kd.R_base ho0) hb); have n1_ := Aside0.mk (Kd.R_lower ho0 (below_size (q0_ HB))); have n2_ := Aside0.mk (below_step (q0_ HB) hb); clear HO642; clear HB; have HO642 := n0_; have HO645 := n1_; have HB := n2_; clear n0_ n1_ n2_; (try clear hb); (try clear hb2); (try clear hk); (try clear hi); (try clear ho0)) | ((with_reducible refine gate_callee (f := 18) rfl ?_); refine goesM_ (some 14) Try.func18 #[.slice Ao43 t640.length co43] ?_; (with_reducible refine (spec_CodeOf.calls k _ _ t640 t646 _ ?side1 ?side2 A5.out).mono ?_); (case side1 => repeat (first | exact (Kd.N_reads' HO642.out).2.2 | (with_reducible refine Kd.C_alloc ?_ _) | (with_reducible refine Kd.C_drewN ?_ _) | (with_reducible refine Kd.C_drew ?_))); (case side2 => exact (Kd.N_reads' HO642.out).2.1); rintro e w45 ⟨v647, rfl, ho0, hb⟩; refine ⟨_, rfl, ?_⟩; have n0_ := Aside0.mk (Kd.N_elder' (q15_ HO642) (Kd.R_base ho0) hb); have n1_ := Aside0.mk (Kd.R_elder' (q3_ HO645) (Kd.R_base ho0) hb); have n2_ := Aside0.mk (Kd.R_lower (Kd.R_new' ho0 (Kd.R_lt (q3_ HO645))) (below_size (q0_ HB))); have n3_ := Aside0.mk (below_step (q0_ HB) hb); clear HO642; clear HO645; clear HB; have HO642 := n0_; have HO645 := n1_; have HO648 := n2_; have HB := n3_; clear n0_ n1_ n2_ n3_; (try clear hb); (try clear hb2); (try clear hk); (try clear hi); (try clear ho0); obtain ⟨Ao46, co46, eo46⟩ := Kd.R_slice HO645.out; subst eo46; obtain ⟨Ao47, co47, eo47⟩ := Kd.R_slice HO648.out; subst eo47) | ((with_reducible refine gate_callee (f := 26) rfl ?_); refine goesM_ (some 15) Try.func26 #[.slice Ao46 t643.length co46, .slice Ao47 t646.length co47] ?_; (with_reducible refine (impl_CodeSame.calls k _ _ t643 _ _ t646 true _ ?side1 ?side2 ?side3 ?side4 A6.out).mono ?_); (case side1 => repeat (first | exact (Kd.R_reads' HO645.out).2.2 | (with_reducible refine Kd.C_alloc ?_ _) | (with_reducible refine Kd.C_drewN ?_ _) | (with_reducible refine Kd.C_drew ?_))); (case side2 => exact (Kd.R_reads' HO645.out).2.1); (case side3 => repeat (first | exact (Kd.R_reads' HO648.out).2.2 | (with_reducible refine Kd.C_alloc ?_ _) | (with_reducible refine Kd.C_drewN ?_ _) | (with_reducible refine Kd.C_drew ?_))); (case side4 => exact (Kd.R_reads' HO648.out).2.1); rintro e w' ⟨rfl, ⟨nd, rfl⟩⟩; refine ⟨_, rfl, ?_⟩) | ((with_reducible refine gate_callee (f := 27) rfl ?_); refine goesM_ (some 18) Try.func27 #[.slice Ao43 t640.length co43] ?_; (with_reducible refine (spec_StmtsOk.calls k _ _ t640 false _ ?side1 ?side2 A8.out).mono ?_); (case side1 => repeat (first | exact (Kd.N_reads' HO642.out).2.2 | (with_reducible refine Kd.C_alloc ?_ _) | (with_reducible refine Kd.C_drewN ?_ _) | (with_reducible refine Kd.C_drew ?_))); (case side2 => exact (Kd.N_reads' HO642.out).2.1); rintro e w48 ⟨rfl, hb⟩; refine ⟨_, rfl, ?_⟩; have n0_ := Aside0.mk (Kd.N_below (q15_ HO642) hb); have n1_ := Aside0.mk (Kd.R_below (q3_ HO645) hb); have n2_ := Aside0.mk (Kd.R_below (q3_ HO648) hb); have n3_ := Aside0.mk (below_step (q0_ HB) hb); clear HO642; clear HO645; clear HO648; clear HB; have HO642 := n0_; have HO645 := n1_; have HO648 := n2_; have HB := n3_; clear n0_ n1_ n2_ n3_; (try clear hb); (try clear hb2); (try clear hk); (try clear hi)))
        go_ret
        exact ⟨by first | rfl | (simp [errW_none, errW_some] <;> rfl) | (simp [*, errW_none, errW_some] <;> rfl), by repeat (first | (with_reducible first | exact HB.out | apply below_alloc | apply pw_below_drewN | apply below_drew1) | exact HB.out)⟩
    · replace c7 := Bool.eq_false_iff.mpr c7; subst c7
      have H1 : (some false) = some r := by rw [if_neg (show ¬ (false = true) by decide)] at H; exact H
      clear H; have H := H1; clear H1; obtain rfl := Option.some.inj H; go_enter Try.func8, Try.ntmps8
      go_wp2_with (first | ((with_reducible refine gate_callee (f := 25) rfl ?_); refine goesM_ (some 9) Try.func25 #[.slice A0 l0.length c0] ?_; (with_reducible refine (spec_DrawCodeOf.calls k _ _ l0 t640 _ ?side1 ?side2 A3.out).mono ?_); (case side1 => repeat (first | exact HR0.out | (with_reducible refine Kd.C_alloc ?_ _) | (with_reducible refine Kd.C_drewN ?_ _) | (with_reducible refine Kd.C_drew ?_))); (case side2 => exact HC0.out); rintro e w49 ⟨v641, rfl, ho0, hb⟩; refine ⟨_, rfl, ?_⟩; have n0_ := Aside0.mk (Kd.N_lower (Kd.N_mono (ok' := fun k_ => True) ho0 (fun k_ hk_ => trivial)) (below_size (q0_ HB))); have n1_ := Aside0.mk (below_step (q0_ HB) hb); clear HB; have HO642 := n0_; have HB := n1_; clear n0_ n1_; (try clear hb); (try clear hb2); (try clear hk); (try clear hi); (try clear ho0); obtain ⟨Ao50, co50, eo50⟩ := Kd.N_slice HO642.out; subst eo50) | ((with_reducible refine gate_callee (f := 20) rfl ?_); refine goesM_ (some 11) Try.func20 #[.slice Ao50 t640.length co50] ?_; (with_reducible refine (impl_CodeOf.calls k _ _ t640 t643 _ ?side1 ?side2 A4.out).mono ?_); (case side1 => repeat (first | exact (Kd.N_reads' HO642.out).2.2 | (with_reducible refine Kd.C_alloc ?_ _) | (with_reducible refine Kd.C_drewN ?_ _) | (with_reducible refine Kd.C_drew ?_))); (case side2 => exact (Kd.N_reads' HO642.out).2.1); rintro e w51 ⟨v644, rfl, ho0, hb⟩; refine ⟨_, rfl, ?_⟩; have n0_ := Aside0.mk (Kd.N_elder' (q15_ HO642) (Kd.R_base ho0) hb); have n1_ := Aside0.mk (Kd.R_lower ho0 (below_size (q0_ HB))); have n2_ := Aside0.mk (below_step (q0_ HB) hb); clear HO642; clear HB; have HO642 := n0_; have HO645 := n1_; have HB := n2_; clear n0_ n1_ n2_; (try clear hb); (try clear hb2); (try clear hk); (try clear hi); (try clear ho0)) | ((with_reducible refine gate_callee (f := 18) rfl ?_); refine goesM_ (some 14) Try.func18 #[.slice Ao50 t640.length co50] ?_; (with_reducible refine (spec_CodeOf.calls k _ _ t640 t646 _ ?side1 ?side2 A5.out).mono ?_); (case side1 => repeat (first | exact (Kd.N_reads' HO642.out).2.2 | (with_reducible refine Kd.C_alloc ?_ _) | (with_reducible refine Kd.C_drewN ?_ _) | (with_reducible refine Kd.C_drew ?_))); (case side2 => exact (Kd.N_reads' HO642.out).2.1); rintro e w52 ⟨v647, rfl, ho0, hb⟩; refine ⟨_, rfl, ?_⟩; have n0_ := Aside0.mk (Kd.N_elder' (q15_ HO642) (Kd.R_base ho0) hb); have n1_ := Aside0.mk (Kd.R_elder' (q3_ HO645) (Kd.R_base ho0) hb); have n2_ := Aside0.mk (Kd.R_lower (Kd.R_new' ho0 (Kd.R_lt (q3_ HO645))) (below_size (q0_ HB))); have n3_ := Aside0.mk (below_step (q0_ HB) hb); clear HO642; clear HO645; clear HB; have HO642 := n0_; have HO645 := n1_; have HO648 := n2_; have HB := n3_; clear n0_ n1_ n2_ n3_; (try clear hb); (try clear hb2); (try clear hk); (try clear hi); (try clear ho0); obtain ⟨Ao53, co53, eo53⟩ := Kd.R_slice HO645.out; subst eo53; obtain ⟨Ao54, co54, eo54⟩ := Kd.R_slice HO648.out; subst eo54) | ((with_reducible refine gate_callee (f := 26) rfl ?_); refine goesM_ (some 15) Try.func26 #[.slice Ao53 t643.length co53, .slice Ao54 t646.length co54] ?_; (with_reducible refine (impl_CodeSame.calls k _ _ t643 _ _ t646 false _ ?side1 ?side2 ?side3 ?side4 A6.out).mono ?_); (case side1 => repeat (first | exact (Kd.R_reads' HO645.out).2.2 | (with_reducible refine Kd.C_alloc ?_ _) | (with_reducible refine Kd.C_drewN ?_ _) | (with_reducible refine Kd.C_drew ?_))); (case side2 => exact (Kd.R_reads' HO645.out).2.1); (case side3 => repeat (first | exact (Kd.R_reads' HO648.out).2.2 | (with_reducible refine Kd.C_alloc ?_ _) | (with_reducible refine Kd.C_drewN ?_ _) | (with_reducible refine Kd.C_drew ?_))); (case side4 => exact (Kd.R_reads' HO648.out).2.1); rintro e w' ⟨rfl, ⟨nd, rfl⟩⟩; refine ⟨_, rfl, ?_⟩))
      go_ret
      exact ⟨by first | rfl | (simp [errW_none, errW_some] <;> rfl) | (simp [*, errW_none, errW_some] <;> rfl), by repeat (first | (with_reducible first | exact HB.out | apply below_alloc | apply pw_below_drewN | apply below_drew1) | exact HB.out)⟩
def laws_FnCodeOf.Pure : Prop := ∀ (l0 : List Int), l0.length ≤ maxLen → l0.length * 1 ≤ 140737488351232 → (∀ x ∈ l0, (Lit.int .u8 x).wf = true) → ∃ k, laws_FnCodeOf.f k l0 = some true
theorem laws_FnCodeOf.walk (P : laws_FnCodeOf.Pure) (a0 : Option Addr) (len0 cap0 : Nat) (z0 : List Int) (w : World) (w0 : (a0 = none ∧ len0 = 0 ∧ cap0 = 0 ∧ z0 = []) ∨ ∃ x, a0 = some x ∧ len0 ≤ cap0 ∧ cap0 ≤ maxLen ∧ z0.length = cap0 ∧ (∀ i, i < z0.length → w.cell? (x.add i) = some (.int .u8 (z0.getD i 0))) ∧ ∀ n ∈ z0, (Lit.int .u8 n).wf = true) (y0 : len0 * 1 ≤ 140737488351232) :
    Calls Try.prog 8 #[.slice a0 len0 cap0] w fun e w' => e = .returned (.bool true) ∧ Below w.heap.size w w' := by
  obtain ⟨l0, rfl, hr0, hm0, hw0, hc0⟩ := ReadsInt.ofRowC w0; obtain ⟨k, h⟩ := P l0 hm0 y0 hw0
  refine (laws_FnCodeOf.calls k _ _ l0 true w (Kd.C_of_reads (d := (0 : Int)) (h1 := fun _ => rfl) hr0) hc0 h).mono ?_
  rintro e w' ⟨rfl, hd⟩
  exact ⟨rfl, hd⟩
end Go.Proofs.Ytphbdoljkpdflaa.P

namespace Go.Proofs.Ytphbdoljkpdflaa.P
open Go.RowKit Go.Proofs.YtphbdoljkpdflaaW.PrintWords Go.Proofs.YtphbdoljkpdflaaW.PrintMore
set_option linter.unusedVariables false
set_option linter.unusedSimpArgs false
def AllI (c : List S42) : Prop := 1 ≤ c.length ∧ c.length ≤ 60 ∧ ∀ j, j < c.length → OkI c j
theorem rooms_both (c : List S42) (h : AllI c) : ∃ b : Bool, Ev (fun k => impl_roomsOk.f k c) b ∧ (∃ rs, Ev (fun k => spec_l4Rooms.f k c) (rs, b)) ∧ ((∀ j, j < c.length → FitI c 0 c.length j) → b = true) := by
  obtain ⟨h1, h2, hok⟩ := h
  have hlen : (List.replicate c.length (-2 : Int)).length = c.length := by simp
  have hI : BInv c ((List.replicate c.length (-2 : Int)).set 0 (-1)) (([0] : List Int).drop 0) := by
    refine ⟨by simp, fun v hv => ?_, fun p hp => ?_⟩
    · rcases List.mem_or_eq_of_mem_set hv with hv | rfl
      · have := (List.mem_replicate.1 hv).2
        omega
      · omega
    · obtain rfl : p = 0 := by simpa using hp
      refine ⟨by omega, by omega, ?_⟩
      have := rd_set_same (xs := List.replicate c.length (-2 : Int)) (i := 0) (by simp; omega) (-1)
      rw [show ((0 : Nat) : Int) = 0 from rfl] at this
      rw [this]
      omega
  have hcnt : ((List.replicate c.length (-2 : Int)).set 0 (-1)).count (-2) ≤ 60 := by
    have := List.count_le_length (a := (-2 : Int)) (l := (List.replicate c.length (-2 : Int)).set 0 (-1))
    simp at this
    omega
  obtain ⟨b, e1, ⟨rs, e2⟩, e3⟩ := outer_loop c h2 hok 1000 0 _ [0] (by simp) hI (by simp; omega) (by simp; omega)
  refine ⟨b, ?_, ⟨rs, ?_⟩, fun hf => e3 hf ?_⟩
  · unfold impl_roomsOk.f
    have er : slices_Repeat_int_int.f ([-2] : List Int) (c.length : Int) = some (List.replicate c.length (-2)) := by
      unfold slices_Repeat_int_int.f
      rw [if_pos ⟨rfl, by omega, by omega⟩, Int.toNat_natCast]
      rfl
    refine Evs.bind0 er (Evs.ite_pos (by rw [hlen]; omega) ?_)
    exact e1
  · unfold spec_l4Rooms.f
    have key : ∀ (e i : Nat), i + e = c.length → Ev (fun k => spec_l4Rooms.l0 k c (List.replicate i (-1)) (i : Int)) (rs, b) := by
      intro e
      induction e with
      | zero =>
        intro i hi
        obtain rfl : i = c.length := by omega
        refine Evs.succ (fun k => by simp only [spec_l4Rooms.l0]; rfl) (Evs.ite_neg (by omega) (Evs.ite_pos (by simp; omega) ?_))
        have em : ((List.replicate c.length (-2 : Int)).set 0 (-1)).map (· + 1) = (List.replicate c.length (-1 : Int)).set (0 : Int).toNat 0 := by
          rw [List.map_set, List.map_replicate]
          rfl
        rw [em] at e2
        exact e2
      | succ e ih =>
        intro i hi
        refine Evs.succ (fun k => by simp only [spec_l4Rooms.l0]; rfl) (Evs.ite_pos (by omega) (Evs.ite_pos (by simp; omega) ?_))
        rw [wrap_succ (by omega), ← List.replicate_succ']
        exact ih (i + 1) (by omega)
    exact key c.length 0 (by omega)
  · intro j hj
    by_cases hz : j = 0
    · subst hz
      right
      have := rd_set_same (xs := List.replicate c.length (-2 : Int)) (i := 0) (by simp; omega) (-1)
      rw [this]
      rfl
    · left
      rw [rd_set_ne (by omega), rd_get (by simpa using hj)]
      simp
theorem specIns_ev (a0 a1 a2 a3 : Int) (n : Nat) : Ev (fun k => spec_l4Ins.f k a0 a1 a2 a3 (n : Int)) (insB a0 a1 a2 a3 (n : Int)) := by
  have main : ∀ x5 : Bool, x5 = inR a1 3 → Ev (fun k => spec_l4Ins.j0 k (n : Int) x5 a0 a1 a2 a3) (insB a0 a1 a2 a3 (n : Int)) := by
    intro x5 hx
    refine Evs.succ (fun k => by simp only [spec_l4Ins.j0]; rfl) ?_
    by_cases h1 : a0 = 1
    · have hv : leafOk a0 a1 a2 a3 (-1) = insB a0 a1 a2 a3 (n : Int) := by rw [h1]; rw [Bool.eq_iff_iff]; simp [leafOk, insB, insN, gmOk, gmA, gmB, gmX, fit, inR, numR]; omega
      rw [← hv]
      exact Evs.ite_pos h1 (Evs.succ (fun k => by simp only [spec_l4Ins.j1]; rfl) (Evs.ite_pos (by simp [h1]) (Evs.bind (leaf_ev a0 a1 a2 a3 (-1) [] []) (Evs.some_ _))))
    refine Evs.ite_neg h1 ?_
    by_cases h2 : a0 = 2
    · have hv : leafOk a0 a1 a2 a3 (-1) = insB a0 a1 a2 a3 (n : Int) := by rw [h2]; rw [Bool.eq_iff_iff]; simp [leafOk, insB, insN, gmOk, gmA, gmB, gmX, fit, inR, numR]; omega
      rw [← hv]
      exact Evs.ite_pos h2 (Evs.succ (fun k => by simp only [spec_l4Ins.j1]; rfl) (Evs.ite_pos (by simp [h2]) (Evs.bind (leaf_ev a0 a1 a2 a3 (-1) [] []) (Evs.some_ _))))
    refine Evs.ite_neg h2 ?_
    by_cases h3 : a0 = 3
    · have hv : leafOk a0 a1 a2 a3 (-1) = insB a0 a1 a2 a3 (n : Int) := by rw [h3]; rw [Bool.eq_iff_iff]; simp [leafOk, insB, insN, gmOk, gmA, gmB, gmX, fit, inR, numR]; omega
      rw [← hv]
      exact Evs.ite_pos h3 (Evs.succ (fun k => by simp only [spec_l4Ins.j1]; rfl) (Evs.ite_pos (by simp [h3]) (Evs.bind (leaf_ev a0 a1 a2 a3 (-1) [] []) (Evs.some_ _))))
    refine Evs.ite_neg h3 ?_
    by_cases h4 : a0 = 4
    · have hv : leafOk a0 a1 a2 a3 (-1) = insB a0 a1 a2 a3 (n : Int) := by rw [h4]; rw [Bool.eq_iff_iff]; simp [leafOk, insB, insN, gmOk, gmA, gmB, gmX, fit, inR, numR]; omega
      rw [← hv]
      exact Evs.ite_pos h4 (Evs.succ (fun k => by simp only [spec_l4Ins.j1]; rfl) (Evs.ite_pos (by simp [h4]) (Evs.bind (leaf_ev a0 a1 a2 a3 (-1) [] []) (Evs.some_ _))))
    refine Evs.ite_neg h4 ?_
    by_cases h5 : a0 = 5
    · have hv : leafOk a0 a1 a2 a3 (-1) = insB a0 a1 a2 a3 (n : Int) := by rw [h5]; rw [Bool.eq_iff_iff]; simp [leafOk, insB, insN, gmOk, gmA, gmB, gmX, fit, inR, numR]; omega
      rw [← hv]
      exact (Evs.succ (fun k => by simp only [spec_l4Ins.j1]; rfl) (Evs.ite_pos (by simp [h5]) (Evs.bind (leaf_ev a0 a1 a2 a3 (-1) [] []) (Evs.some_ _))))
    refine Evs.succ (fun k => by simp only [spec_l4Ins.j1]; rfl) (Evs.ite_neg (by simpa using h5) ?_)
    by_cases h6 : a0 = 6
    · have hv : (x5 && (decide (a2 = 0) && (decide (a3 ≥ 0) && decide (a3 < (n : Int))))) = insB a0 a1 a2 a3 (n : Int) := by rw [hx, h6]; rw [Bool.eq_iff_iff]; simp [leafOk, insB, insN, gmOk, gmA, gmB, gmX, fit, inR, numR]; omega
      rw [← hv]
      exact Evs.ite_pos h6 (ev_band fun _ => ev_and fun _ => ev_and fun _ => Evs.some_ _)
    refine Evs.ite_neg h6 ?_
    by_cases h7 : a0 = 7
    · have hv : (decide (a1 = 0) && (decide (a2 = 0) && (decide (a3 ≥ 0) && decide (a3 < (n : Int))))) = insB a0 a1 a2 a3 (n : Int) := by rw [h7]; rw [Bool.eq_iff_iff]; simp [leafOk, insB, insN, gmOk, gmA, gmB, gmX, fit, inR, numR]; omega
      rw [← hv]
      exact Evs.ite_pos h7 (ev_and fun _ => ev_and fun _ => ev_and fun _ => Evs.some_ _)
    refine Evs.ite_neg h7 ?_
    by_cases h8 : a0 = 8
    · have hv : (decide (a1 ≥ 0) && (decide (a1 < 2) && (decide (a2 = 0) && (a3 == 0)))) = insB a0 a1 a2 a3 (n : Int) := by rw [h8]; rw [Bool.eq_iff_iff]; simp [leafOk, insB, insN, gmOk, gmA, gmB, gmX, fit, inR, numR]; omega
      rw [← hv]
      exact Evs.ite_pos h8 (Evs.succ (fun k => by simp only [spec_l4Ins.j2]; rfl) (Evs.ite_pos (by simp [h8]) (ev_and fun _ => ev_and fun _ => ev_and fun _ => Evs.some_ _)))
    refine Evs.ite_neg h8 ?_
    by_cases h9 : a0 = 9
    · have hv : (decide (a1 ≥ 0) && (decide (a1 < 2) && (decide (a2 = 0) && (a3 == 0)))) = insB a0 a1 a2 a3 (n : Int) := by rw [h9]; rw [Bool.eq_iff_iff]; simp [leafOk, insB, insN, gmOk, gmA, gmB, gmX, fit, inR, numR]; omega
      rw [← hv]
      exact (Evs.succ (fun k => by simp only [spec_l4Ins.j2]; rfl) (Evs.ite_pos (by simp [h9]) (ev_and fun _ => ev_and fun _ => ev_and fun _ => Evs.some_ _)))
    refine Evs.succ (fun k => by simp only [spec_l4Ins.j2]; rfl) (Evs.ite_neg (by simpa using h9) ?_)
    by_cases h10 : a0 = 10
    · have hv : (decide (a1 ≥ 0) && (decide (a1 < 2) && (decide (a2 = 0) && (a3 == 0)))) = insB a0 a1 a2 a3 (n : Int) := by rw [h10]; rw [Bool.eq_iff_iff]; simp [leafOk, insB, insN, gmOk, gmA, gmB, gmX, fit, inR, numR]; omega
      rw [← hv]
      exact Evs.ite_pos h10 (Evs.succ (fun k => by simp only [spec_l4Ins.j3]; rfl) (Evs.ite_pos (by simp [h10]) (ev_and fun _ => ev_and fun _ => ev_and fun _ => Evs.some_ _)))
    refine Evs.ite_neg h10 ?_
    by_cases h11 : a0 = 11
    · have hv : (decide (a1 ≥ 0) && (decide (a1 < 2) && (decide (a2 = 0) && (a3 == 0)))) = insB a0 a1 a2 a3 (n : Int) := by rw [h11]; rw [Bool.eq_iff_iff]; simp [leafOk, insB, insN, gmOk, gmA, gmB, gmX, fit, inR, numR]; omega
      rw [← hv]
      exact (Evs.succ (fun k => by simp only [spec_l4Ins.j3]; rfl) (Evs.ite_pos (by simp [h11]) (ev_and fun _ => ev_and fun _ => ev_and fun _ => Evs.some_ _)))
    refine Evs.succ (fun k => by simp only [spec_l4Ins.j3]; rfl) (Evs.ite_neg (by simpa using h11) ?_)
    by_cases h12 : a0 = 12
    · have hv : (decide (a1 = 0) && (decide (a2 = 0) && (a3 == 0))) = insB a0 a1 a2 a3 (n : Int) := by rw [h12]; rw [Bool.eq_iff_iff]; simp [leafOk, insB, insN, gmOk, gmA, gmB, gmX, fit, inR, numR]; omega
      rw [← hv]
      exact Evs.ite_pos h12 (ev_and fun _ => ev_and fun _ => Evs.some_ _)
    refine Evs.ite_neg h12 ?_
    by_cases h13 : a0 = 13
    · have hv : (decide (a1 = 0) && (decide (a2 = 0) && (a3 == 0))) = insB a0 a1 a2 a3 (n : Int) := by rw [h13]; rw [Bool.eq_iff_iff]; simp [leafOk, insB, insN, gmOk, gmA, gmB, gmX, fit, inR, numR]; omega
      rw [← hv]
      exact Evs.ite_pos h13 (ev_and fun _ => ev_and fun _ => Evs.some_ _)
    refine Evs.ite_neg h13 ?_
    have hv : insB a0 a1 a2 a3 (n : Int) = false := by
      have : gmOk a0 = false := by unfold gmOk; rw [decide_eq_false (by omega)]
      unfold insB; rw [this]; rfl
    rw [hv]
    exact Evs.some_ _
  unfold spec_l4Ins.f
  by_cases h : a1 ≥ 0
  · exact Evs.ite_pos h (main _ (by unfold inR; rw [decide_eq_true (show 0 ≤ a1 from h), Bool.true_and]))
  · exact Evs.ite_neg h (main _ (by unfold inR; rw [decide_eq_false (show ¬ 0 ≤ a1 from h), Bool.false_and]))
def okJ (c : List S42) (j : Nat) : Bool := insB (rd_T42 c j).f0 (rd_T42 c j).f1 (rd_T42 c j).f2 (rd_T42 c j).f3 (c.length : Int) && (decide ((rd_T42 c j).f0 = 13) == decide (j + 1 = c.length))
theorem okJ_iff (c : List S42) (j : Nat) : okJ c j = true ↔ OkI c j := by
  unfold okJ OkI
  rw [Bool.and_eq_true, beq_iff_eq, decide_eq_decide]
theorem impl_lin (c : List S42) (hc : c.length ≤ 60) (b : Bool) (hb : (∀ j, j < c.length → okJ c j = true) → Ev (fun k => impl_roomsOk.f k c) b) :
    ∀ (e i : Nat), i + e = c.length → (∀ j, j < i → okJ c j = true) → Ev (fun k => impl_CodeOk.l0 k c c (c.length : Int) (i : Int)) (((List.range' i e).all (okJ c)) && b) := by
  intro e
  induction e with
  | zero =>
    intro i hi hp
    obtain rfl : i = c.length := by omega
    refine Evs.succ (fun k => by simp only [impl_CodeOk.l0]; rfl) (Evs.ite_neg (by omega) ?_)
    exact Evs.bind (hb hp) (Evs.some_ _)
  | succ e ih =>
    intro i hi hp
    have ew : wrap64 ((c.length : Int) - 1) = ((c.length - 1 : Nat) : Int) := by rw [wrap_id (by omega) (by omega)]; omega
    have hj : ((((rd_T42 c (i : Int)).f0) == 13) != ((i : Int) == wrap64 ((c.length : Int) - 1))) = !(decide ((rd_T42 c (i : Int)).f0 = 13) == decide (i + 1 = c.length)) := by
      rw [ew]
      have : ((i : Int) == ((c.length - 1 : Nat) : Int)) = decide (i + 1 = c.length) := by rw [Bool.eq_iff_iff]; simp; omega
      rw [this]
      rfl
    clear ew
    refine Evs.succ (fun k => by simp only [impl_CodeOk.l0]; rfl) (Evs.ite_pos (by omega) (Evs.ite_pos (by omega) (Evs.ite_pos (by omega) (Evs.bind0 rfl ?_))))
    rw [List.range'_succ, List.all_cons]
    cases h1 : insB (rd_T42 c (i : Int)).f0 (rd_T42 c (i : Int)).f1 (rd_T42 c (i : Int)).f2 (rd_T42 c (i : Int)).f3 (c.length : Int) with
    | false =>
      have : okJ c i = false := by unfold okJ; rw [h1]; rfl
      rw [this]
      exact Evs.ite_neg (by simp) (Evs.some_ _)
    | true =>
      refine Evs.ite_pos rfl ?_
      rw [hj]
      cases h2 : (decide ((rd_T42 c (i : Int)).f0 = 13) == decide (i + 1 = c.length)) with
      | false =>
        have : okJ c i = false := by unfold okJ; rw [h1, h2]; rfl
        rw [this]
        exact Evs.ite_pos rfl (Evs.some_ _)
      | true =>
        have : okJ c i = true := by unfold okJ; rw [h1, h2]; rfl
        rw [this, Bool.true_and]
        refine Evs.ite_neg (by simp) ?_
        rw [wrap_succ (by omega)]
        exact ih (i + 1) (by omega) fun j hj => by
          by_cases hji : j = i
          · rw [hji]; exact this
          · exact hp j (by omega)
theorem spec_lin (c : List S42) (hc : c.length ≤ 60) (hlast : (rd_T42 c ((c.length - 1 : Nat) : Int)).f0 = 13) (b : Bool) (hb : (∀ j, j < c.length → okJ c j = true) → ∃ rs, Ev (fun k => spec_l4Rooms.f k c) (rs, b)) :
    ∀ (e i : Nat), i + e = c.length → (∀ j, j < i → okJ c j = true) → Ev (fun k => spec_CodeOk.l0 k c (c.length : Int) (i : Int)) (((List.range' i e).all (okJ c)) && b) := by
  intro e
  induction e with
  | zero =>
    intro i hi hp
    obtain rfl : i = c.length := by omega
    obtain ⟨rs, hr⟩ := hb hp
    refine Evs.succ (fun k => by simp only [spec_CodeOk.l0]; rfl) (Evs.ite_neg (by omega) ?_)
    exact Evs.bind hr (Evs.some_ _)
  | succ e ih =>
    intro i hi hp
    refine Evs.succ (fun k => by simp only [spec_CodeOk.l0]; rfl) (Evs.ite_pos (by omega) (Evs.ite_pos (by omega) (Evs.ite_pos (by omega) (Evs.bind (specIns_ev _ _ _ _ c.length) ?_))))
    rw [List.range'_succ, List.all_cons]
    have ew : wrap64 ((c.length : Int) - 1) = ((c.length - 1 : Nat) : Int) := by rw [wrap_id (by omega) (by omega)]; omega
    rw [ew]
    clear ew
    cases h1 : insB (rd_T42 c (i : Int)).f0 (rd_T42 c (i : Int)).f1 (rd_T42 c (i : Int)).f2 (rd_T42 c (i : Int)).f3 (c.length : Int) with
    | false =>
      have : okJ c i = false := by unfold okJ; rw [h1]; rfl
      rw [this]
      exact Evs.ite_neg (by simp) (Evs.some_ _)
    | true =>
      refine Evs.ite_pos rfl ?_
      have nx : okJ c i = true → Ev (fun k => spec_CodeOk.l0 k c (c.length : Int) (wrap64 ((i : Int) + 1))) (((List.range' (i + 1) e).all (okJ c)) && b) := fun h => by
        rw [wrap_succ (by omega)]
        exact ih (i + 1) (by omega) fun j hj => by
          by_cases hji : j = i
          · rw [hji]; exact h
          · exact hp j (by omega)
      by_cases h13 : (rd_T42 c (i : Int)).f0 = 13
      · refine Evs.ite_pos h13 ?_
        by_cases hl : i + 1 = c.length
        · have : okJ c i = true := by unfold okJ; rw [h1, decide_eq_true h13, decide_eq_true hl]; rfl
          rw [this, Bool.true_and]
          exact Evs.ite_neg (by omega) (nx this)
        · have : okJ c i = false := by unfold okJ; rw [h1, decide_eq_true h13, decide_eq_false hl]; rfl
          rw [this]
          exact Evs.ite_pos (by omega) (Evs.some_ _)
      · refine Evs.ite_neg h13 ?_
        have hl : ¬ i + 1 = c.length := fun e => h13 (by rw [show i = c.length - 1 by omega]; exact hlast)
        have : okJ c i = true := by unfold okJ; rw [h1, decide_eq_false h13, decide_eq_false hl]; rfl
        rw [this, Bool.true_and]
        exact nx this
theorem code_both (c : List S42) : ∃ b : Bool, Ev (fun k => impl_CodeOk.f k c) b ∧ Ev (fun k => spec_CodeOk.f k c) b ∧ (b = true → AllI c) ∧ (AllI c → (∀ j, j < c.length → FitI c 0 c.length j) → b = true) := by
  have bad1 : Ev (fun k => impl_CodeOk.j0 k c true) false := Evs.succ (fun k => by simp only [impl_CodeOk.j0]; rfl) (Evs.ite_pos (by trivial) (Evs.some_ _))
  have bad2 : Ev (fun k => spec_CodeOk.j0 k c (c.length : Int) true) false := Evs.succ (fun k => by simp only [spec_CodeOk.j0]; rfl) (Evs.ite_pos (by trivial) (Evs.some_ _))
  unfold impl_CodeOk.f spec_CodeOk.f
  by_cases h1 : (c.length : Int) < 1
  · exact ⟨false, Evs.ite_pos h1 bad1, Evs.ite_pos h1 bad2, fun h => (by cases h), fun h => by have := h.1; omega⟩
  by_cases h2 : (c.length : Int) > 60
  · refine ⟨false, Evs.ite_neg h1 ?_, Evs.ite_neg h1 (Evs.ite_pos h2 bad2), fun h => (by cases h), fun h => by have := h.2.1; omega⟩
    rw [decide_eq_true h2]
    exact bad1
  have hc : c.length ≤ 60 := by omega
  have hn : 1 ≤ c.length := by omega
  have ew : wrap64 ((c.length : Int) - 1) = ((c.length - 1 : Nat) : Int) := by rw [wrap_id (by omega) (by omega)]; omega
  by_cases hall : ∀ j, j < c.length → okJ c j = true
  · have hA : AllI c := ⟨hn, hc, fun j hj => (okJ_iff c j).1 (hall j hj)⟩
    obtain ⟨b, e1, ⟨rs, e2⟩, e3⟩ := rooms_both c hA
    have hl13 : (rd_T42 c ((c.length - 1 : Nat) : Int)).f0 = 13 := (hA.2.2 (c.length - 1) (by omega)).2.2 (by omega)
    have hr : (List.range' 0 c.length).all (okJ c) = true := by rw [← List.range_eq_range']; exact all_range_true hall
    have i1 := impl_lin c hc b (fun _ => e1) c.length 0 (by omega) (fun _ h => by omega)
    have s1 := spec_lin c hc hl13 b (fun _ => ⟨rs, e2⟩) c.length 0 (by omega) (fun _ h => by omega)
    rw [hr, Bool.true_and] at i1 s1
    refine ⟨b, ?_, ?_, fun _ => hA, fun _ hf => e3 hf⟩
    · refine Evs.ite_neg h1 ?_
      rw [decide_eq_false h2]
      exact Evs.succ (fun k => by simp only [impl_CodeOk.j0]; rfl) (Evs.ite_neg (by simp) i1)
    · refine Evs.ite_neg h1 (Evs.ite_neg h2 ?_)
      rw [ew, hl13]
      clear ew
      refine Evs.ite_pos (by omega) (Evs.ite_pos (by omega) ?_)
      exact Evs.succ (fun k => by simp only [spec_CodeOk.j0]; rfl) (Evs.ite_neg (by simp) s1)
  · have hr : (List.range' 0 c.length).all (okJ c) = false := by
      rw [← List.range_eq_range', Bool.eq_false_iff]
      intro h
      rw [List.all_eq_true] at h
      exact hall fun j hj => h j (List.mem_range.2 hj)
    have i1 := impl_lin c hc true (fun h => absurd h hall) c.length 0 (by omega) (fun _ h => by omega)
    rw [hr, Bool.false_and] at i1
    refine ⟨false, ?_, ?_, fun h => (by cases h), fun h => absurd (fun j hj => (okJ_iff c j).2 (h.2.2 j hj)) hall⟩
    · refine Evs.ite_neg h1 ?_
      rw [decide_eq_false h2]
      exact Evs.succ (fun k => by simp only [impl_CodeOk.j0]; rfl) (Evs.ite_neg (by simp) i1)
    · refine Evs.ite_neg h1 (Evs.ite_neg h2 ?_)
      rw [ew]
      clear ew
      refine Evs.ite_pos (by omega) (Evs.ite_pos (by omega) ?_)
      by_cases hl13 : (rd_T42 c ((c.length - 1 : Nat) : Int)).f0 = 13
      · rw [hl13]
        have s1 := spec_lin c hc hl13 true (fun h => absurd h hall) c.length 0 (by omega) (fun _ h => by omega)
        rw [hr, Bool.false_and] at s1
        exact Evs.succ (fun k => by simp only [spec_CodeOk.j0]; rfl) (Evs.ite_neg (by simp) s1)
      · have : ((rd_T42 c ((c.length - 1 : Nat) : Int)).f0 != 13) = true := by simpa using hl13
        rw [this]
        exact bad2
theorem insI_B {i : S42} {n : Nat} (h : InsI i n) : insB i.f0 i.f1 i.f2 i.f3 (n : Int) = true := by
  unfold InsI LeafI at h
  rcases h with (h | h | h | h | h | h | h) | h | h | h | h
  case inl.inr.inr.inl => rcases h with ⟨h0 | h0, h⟩ <;> simp [insB, insN, gmOk, gmA, gmB, gmX, fit, h0] <;> omega
  case inr.inr.inr.inl => rcases h with ⟨h0 | h0, h⟩ <;> simp [insB, insN, gmOk, gmA, gmB, gmX, fit, h0] <;> omega
  all_goals simp [insB, insN, gmOk, gmA, gmB, gmX, fit, h.1]
  all_goals omega
theorem codF_all {l : List S46} (h : okLst l = true) (hc : cntL 3 l ≤ 5000000000000000) : AllI (codF l) ∧ ∀ j, j < (codF l).length → FitI (codF l) 0 (codF l).length j := by
  have hb := codF_blk (okLst_list h)
  have h14 := cnt14 h hc
  have hle := codL_len_le 3 l 0
  have hlen := codF_len l
  have hfit := hb.fit rfl
  refine ⟨⟨by omega, by omega, fun j hj => ?_⟩, fun j hj => ?_⟩
  · by_cases hq : j = (codL 3 l 0).length
    · subst hq
      have hg := rd_T_get (codF l) hj
      rw [codF_last] at hg
      have hg := (Option.some.inj hg).symm
      unfold OkI
      rw [hg]
      refine ⟨by simp [insB, insN, gmOk, gmA, gmB, gmX, fit], by simp; omega⟩
    · obtain ⟨i, hi, hI, h13⟩ := hb.ins (n := (codF l).length) (by omega) j (Nat.zero_le _) (by omega)
      have hg := rd_T_get (codF l) hj
      rw [hi] at hg
      have hg := (Option.some.inj hg).symm
      unfold OkI
      rw [hg]
      exact ⟨insI_B hI, fun e => absurd e h13, fun e => by omega⟩
  · by_cases hq : j = (codL 3 l 0).length
    · subst hq
      exact ⟨_, codF_last l, by simp [movI, hfit.1], fun t ht => by simp [sucI] at ht⟩
    · exact (hfit.2 j (Nat.zero_le _) (by omega)).mono (Nat.zero_le _) (by omega)
theorem codF_ok {l : List S46} (h : okLst l = true) (hc : cntL 3 l ≤ 5000000000000000) : Ev (fun k => impl_CodeOk.f k (codF l)) true := by
  obtain ⟨b, e1, e2, _, e4⟩ := code_both (codF l)
  obtain ⟨a1, a2⟩ := codF_all h hc
  rwa [e4 a1 a2] at e1
end Go.Proofs.Ytphbdoljkpdflaa.P

namespace Go.Proofs.Ytphbdoljkpdflaa.Pure
open Go.RowKit Go.Proofs.Ytphbdoljkpdflaa.P Go.Proofs.YtphbdoljkpdflaaW.PrintWords Go.Proofs.YtphbdoljkpdflaaW.PrintLast
open Go.Proofs.Ytphbdoljkpdflaa.P Go.Proofs.YtphbdoljkpdflaaW.PrintMore
theorem one_ge (d : Nat) {s : S46} {rm : Int} (hs : okS (d + 1) s rm = true) (h4 : ∀ p, cntL d s.f4 ≤ (codL d s.f4 p).length) (h5 : ∀ p, cntL d s.f5 ≤ (codL d s.f5 p).length) (p : Nat) : 1 + cntL d s.f4 + cntL d s.f5 ≤ (oneC (codL d) s p).length := by
  have z : ∀ l : List S46, l.length = 0 → cntL d l = 0 := by
    intro l hl
    rw [List.eq_nil_of_length_eq_zero hl]
    cases d <;> simp [cntL]
  rw [okS_succ] at hs
  unfold oneC
  have h4 := h4 (p + 1)
  have h5 := h5 (p + 2 + (codL d s.f4 (p + 1)).length)
  by_cases h6 : s.f0 = 6
  · simp only [if_pos h6, List.length_cons, List.length_append]
    omega
  rw [if_neg h6] at hs
  by_cases e5 : s.f5.length = 0
  · rw [if_pos e5] at hs
    have c5 := z _ e5
    simp only [if_neg h6]
    by_cases h7 : s.f0 = 7
    · simp only [if_pos h7, List.length_cons, List.length_append, List.length_nil]
      omega
    rw [if_neg h7] at hs
    simp only [if_neg h7]
    by_cases h8 : s.f0 = 8
    · simp only [if_pos h8, List.length_cons, List.length_append, List.length_nil]
      omega
    rw [if_neg h8] at hs
    simp only [if_neg h8]
    simp only [Bool.and_eq_true, decide_eq_true_eq] at hs
    have c4 := z _ hs.1
    simp only [List.length_cons, List.length_nil]
    omega
  · rw [if_neg e5] at hs
    cases hs
theorem codL_ge : ∀ (d : Nat) (l : List S46) (rm : Int) (p : Nat), (∀ x ∈ l, okS d x rm = true) → cntL d l ≤ (codL d l p).length
  | 0, _, _, _, _ => by simp [cntL]
  | d + 1, l, rm, p, h => by
    show cntL (d + 1) l ≤ (seqC (oneC (codL d)) l p).length
    induction l generalizing p with
    | nil => simp [cntL]
    | cons x t ih =>
      obtain ⟨m, h4, h5⟩ := okS_kids2 (h x (List.mem_cons_self ..))
      have h1 := one_ge d (h x (List.mem_cons_self ..)) (fun p => codL_ge d x.f4 m p h4) (fun p => codL_ge d x.f5 m p h5) p
      have h2 := ih (p + (oneC (codL d) x p).length) (fun y hy => h y (List.mem_cons_of_mem _ hy))
      rw [cntL_cons, seqC, List.length_append]
      omega
theorem FnCodeOf : laws_FnCodeOf.Pure := by
  intro l _ _ hw
  refine Ev.rounds (g := fun k => laws_FnCodeOf.f k l) ?_
  unfold laws_FnCodeOf.f
  by_cases c0 : (l.length : Int) > 1048576
  · exact Evs.ite_pos c0 (Evs.some_ _)
  obtain ⟨ts, ht, hd⟩ := drawCode_ev hw
  have hc := smL_cnt ht
  have hl := codeV_le hc
  refine Evs.ite_neg c0 (Evs.bind hd (Evs.bind (implCode_ev hc) (Evs.bind (specCode_ev (smL_sl ht 3) hc) (Evs.bind (implSame_refl _ (by omega)) (Evs.ite_pos rfl (Evs.bind (specOk (smL_sl ht 3)) ?_))))))
  cases hv : okLst ts with
  | false =>
    refine Evs.ite_neg (by simp) ?_
    rw [codeV_no hv]
    exact Evs.some_ _
  | true =>
    rw [codeV_ok hv]
    have hm := implMany ts
    rw [manyV_ok hv, wrap_cnt hc] at hm
    have h14 := cnt14 hv hc
    have hlen := codF_len ts
    have hle := codL_len_le 3 ts 0
    have hok := okAll hv
    rw [List.all_eq_true] at hok
    have hge := codL_ge 3 ts (-1) 0 hok
    refine Evs.ite_pos rfl (Evs.bind (codF_ok hv hc) (Evs.ite_pos rfl (Evs.bind hm (Evs.ite_pos ?_ (Evs.bind hm ?_)))))
    · rw [wrap_succ (by omega)]; omega
    · have e : wrap64 (wrap64 (2 * ((cntL 3 ts : Nat) : Int)) + 1) = ((2 * cntL 3 ts + 1 : Nat) : Int) := by
        rw [wrap_id (n := 2 * ((cntL 3 ts : Nat) : Int)) (by omega) (by omega), wrap_id (by omega) (by omega)]
        omega
      rw [e]
      clear e
      rw [decide_eq_true (by omega)]
      exact Evs.some_ _
end Go.Proofs.Ytphbdoljkpdflaa.Pure
