/- Parts of the proof of FnExactCodeOf: plain Lean functions of Go functions, and that the calls come to what they say; no condition beyond those that each theorem names. -/
import Derived.Test.YtoekjehgnakffaaZFnExactCodeOf4
import Derived.Test.YtoekjehgnakffaaZFnExactCodeOf9
import Derived.Test.YtoekjehgnakffaaZFnExactCodeOf12
import Derived.Test.YtoekjehgnakffaaZFnExactCodeOf13
import Derived.Test.YtoekjehgnakffaaZFnExactCodeOf15
import Derived.Test.YtoekjehgnakffaaZFnExactCodeOf17
import Derived.Test.YtoekjehgnakffaaZFnExactCodeOf8
namespace Go.Proofs.Ytoekjehgnakffaa.P
open Go.RowKit Go.Proofs.YtoekjehgnakffaaW.PrintWords Go.Proofs.YtoekjehgnakffaaW.PrintLast Go.Proofs.YtoekjehgnakffaaW.PrintMore
attribute [local go_sem] max2_int min2_int max_two min_two max_three min_three max_four min_four
set_option linter.unusedVariables false
set_option linter.unusedSimpArgs false
def laws_FnExactCodeOf.j0 : Nat → List (S35) → List (S39) → List (S39) → Bool → Option (Bool)
  | 0, _, _, _, _ => none
  | k + 1, x0, x4, x6, x42 => if x42 = true then (some false) else ((laws_markInsS.f k x6 1).bind fun bt273 => ((laws_heldInsS.f k bt273.2 1).bind fun t275 => (if t275 < 0 then (some false) else (if t275 = bt273.1 then ((laws_toStmtS.f k x0).bind fun t276 => ((impl_CodeOf.f k t276).bind fun t279 => ((laws_eqInsS.f k t279 x4).bind fun t282 => (if t282 = true then ((laws_heldInsS.f k bt273.2 1).bind fun t283 => (if t283 < 0 then (some false) else (if t283 = bt273.1 then (some true) else (some false)))) else (some false))))) else (some false)))))
def laws_FnExactCodeOf.f (k : Nat) (l0 : List (S35)) : Option (Bool) := (laws_szStmtS.f k l0 1048576).bind fun t253 => (if t253 < 0 then (some true) else ((laws_toStmtS.f k l0).bind fun t254 => ((spec_CodeOf.f k t254).bind fun t257 => ((laws_toStmtS.f k l0).bind fun t260 => ((impl_CodeOf.f k t260).bind fun t263 => ((laws_eqInsS.f k t263 t257).bind fun t266 => (if t266 = true then ((laws_toStmtS.f k l0).bind fun t267 => ((laws_eqStmtS.f k t260 t267).bind fun t270 => (if t270 = true then ((laws_markStmtS.f k t260 1).bind fun t271 => (if t271 < 0 then (laws_FnExactCodeOf.j0 k l0 t257 t263 true) else ((laws_eqInsS.f k t263 t257).bind fun t272 => (laws_FnExactCodeOf.j0 k l0 t257 t263 (!t272))))) else (some false)))) else (some false))))))))
set_option maxHeartbeats 8000000 in
set_option maxRecDepth 100000 in
theorem laws_FnExactCodeOf.calls (k : Nat) (A0 : Option Addr) (c0 : Nat) (l0 : List (S35)) (r : Bool) (w : World) (hr0 : Kd.C k35 w A0 l0.length l0) (hc0 : l0.length ≤ c0) (h : laws_FnExactCodeOf.f k l0 = some r) (hr_ : r = true) :
    Calls Try.prog 3 #[.slice A0 l0.length c0] w fun e w' => e = .returned (.bool r) ∧ Below w.heap.size w w' := by
  have HR0 := Aside0.mk hr0; have HC0 := Aside0.mk hc0; clear hr0 hc0; have HB := Aside0.mk (Below.refl w.heap.size w)
  have H : ((laws_szStmtS.f k l0 1048576).bind fun t253 => (if t253 < 0 then (some true) else ((laws_toStmtS.f k l0).bind fun t254 => ((spec_CodeOf.f k t254).bind fun t257 => ((laws_toStmtS.f k l0).bind fun t260 => ((impl_CodeOf.f k t260).bind fun t263 => ((laws_eqInsS.f k t263 t257).bind fun t266 => (if t266 = true then ((laws_toStmtS.f k l0).bind fun t267 => ((laws_eqStmtS.f k t260 t267).bind fun t270 => (if t270 = true then ((laws_markStmtS.f k t260 1).bind fun t271 => (if t271 < 0 then (laws_FnExactCodeOf.j0 k l0 t257 t263 true) else ((laws_eqInsS.f k t263 t257).bind fun t272 => (laws_FnExactCodeOf.j0 k l0 t257 t263 (!t272))))) else (some false)))) else (some false))))))))) = some r := h
  clear h; replace H := Option.bind_eq_some_iff.mp H; obtain ⟨t253, A20, H⟩ := H
  replace H : (if t253 < 0 then (some true) else ((laws_toStmtS.f k l0).bind fun t254 => ((spec_CodeOf.f k t254).bind fun t257 => ((laws_toStmtS.f k l0).bind fun t260 => ((impl_CodeOf.f k t260).bind fun t263 => ((laws_eqInsS.f k t263 t257).bind fun t266 => (if t266 = true then ((laws_toStmtS.f k l0).bind fun t267 => ((laws_eqStmtS.f k t260 t267).bind fun t270 => (if t270 = true then ((laws_markStmtS.f k t260 1).bind fun t271 => (if t271 < 0 then (laws_FnExactCodeOf.j0 k l0 t257 t263 true) else ((laws_eqInsS.f k t263 t257).bind fun t272 => (laws_FnExactCodeOf.j0 k l0 t257 t263 (!t272))))) else (some false)))) else (some false)))))))) = some r := H
  have A2 := Aside0.mk A20; clear A20
  by_cases c3 : t253 < 0
  · rw [if_pos c3] at H; have c3b0 : decide (t253 < 0) = true := decide_eq_true c3; clear c3; obtain rfl := Option.some.inj H; go_enter Try.func3, Try.ntmps3
    go_wp2_with (first | ((with_reducible refine gate_callee (f := 4) rfl ?_); refine goesM_ (some 13) Try.func4 #[.slice A0 l0.length c0, .int .i64 1048576] ?_; (with_reducible refine (laws_szStmtS.calls k _ _ l0 1048576 t253 _ ?side1 ?side2 A2.out).mono ?_); (case side1 => repeat (first | exact HR0.out | (with_reducible refine Kd.C_alloc ?_ _) | (with_reducible refine Kd.C_drewN ?_ _) | (with_reducible refine Kd.C_drew ?_))); (case side2 => exact HC0.out); rintro e w4 ⟨rfl, hb⟩; refine ⟨_, rfl, ?_⟩; have n0_ := Aside0.mk (below_step (q0_ HB) hb); clear HB; have HB := n0_; clear n0_; (try clear hb); (try clear hb2); (try clear hk); (try clear hi)))
    go_ret
    exact ⟨by first | rfl | (simp [errW_none, errW_some] <;> rfl) | (simp [*, errW_none, errW_some] <;> rfl), by repeat (first | (with_reducible first | exact HB.out | apply below_alloc | apply pw_below_drewN | apply below_drew1) | exact HB.out)⟩
  · rw [if_neg c3] at H; have c3b0 : decide (t253 < 0) = false := decide_eq_false c3; clear c3; replace H := Option.bind_eq_some_iff.mp H; obtain ⟨t254, A50, H⟩ := H; replace H : ((spec_CodeOf.f k t254).bind fun t257 => ((laws_toStmtS.f k l0).bind fun t260 => ((impl_CodeOf.f k t260).bind fun t263 => ((laws_eqInsS.f k t263 t257).bind fun t266 => (if t266 = true then ((laws_toStmtS.f k l0).bind fun t267 => ((laws_eqStmtS.f k t260 t267).bind fun t270 => (if t270 = true then ((laws_markStmtS.f k t260 1).bind fun t271 => (if t271 < 0 then (laws_FnExactCodeOf.j0 k l0 t257 t263 true) else ((laws_eqInsS.f k t263 t257).bind fun t272 => (laws_FnExactCodeOf.j0 k l0 t257 t263 (!t272))))) else (some false)))) else (some false)))))) = some r := H; have A5 := Aside0.mk A50; clear A50; replace H := Option.bind_eq_some_iff.mp H; obtain ⟨t257, A60, H⟩ := H; replace H : ((laws_toStmtS.f k l0).bind fun t260 => ((impl_CodeOf.f k t260).bind fun t263 => ((laws_eqInsS.f k t263 t257).bind fun t266 => (if t266 = true then ((laws_toStmtS.f k l0).bind fun t267 => ((laws_eqStmtS.f k t260 t267).bind fun t270 => (if t270 = true then ((laws_markStmtS.f k t260 1).bind fun t271 => (if t271 < 0 then (laws_FnExactCodeOf.j0 k l0 t257 t263 true) else ((laws_eqInsS.f k t263 t257).bind fun t272 => (laws_FnExactCodeOf.j0 k l0 t257 t263 (!t272))))) else (some false)))) else (some false))))) = some r := H; have A6 := Aside0.mk A60; clear A60; replace H := Option.bind_eq_some_iff.mp H; obtain ⟨t260, A70, H⟩ := H; replace H : ((impl_CodeOf.f k t260).bind fun t263 => ((laws_eqInsS.f k t263 t257).bind fun t266 => (if t266 = true then ((laws_toStmtS.f k l0).bind fun t267 => ((laws_eqStmtS.f k t260 t267).bind fun t270 => (if t270 = true then ((laws_markStmtS.f k t260 1).bind fun t271 => (if t271 < 0 then (laws_FnExactCodeOf.j0 k l0 t257 t263 true) else ((laws_eqInsS.f k t263 t257).bind fun t272 => (laws_FnExactCodeOf.j0 k l0 t257 t263 (!t272))))) else (some false)))) else (some false)))) = some r := H; have A7 := Aside0.mk A70; clear A70; replace H := Option.bind_eq_some_iff.mp H; obtain ⟨t263, A80, H⟩ := H; replace H : ((laws_eqInsS.f k t263 t257).bind fun t266 => (if t266 = true then ((laws_toStmtS.f k l0).bind fun t267 => ((laws_eqStmtS.f k t260 t267).bind fun t270 => (if t270 = true then ((laws_markStmtS.f k t260 1).bind fun t271 => (if t271 < 0 then (laws_FnExactCodeOf.j0 k l0 t257 t263 true) else ((laws_eqInsS.f k t263 t257).bind fun t272 => (laws_FnExactCodeOf.j0 k l0 t257 t263 (!t272))))) else (some false)))) else (some false))) = some r := H
    have A8 := Aside0.mk A80; clear A80; replace H := Option.bind_eq_some_iff.mp H; obtain ⟨t266, A90, H⟩ := H; replace H : (if t266 = true then ((laws_toStmtS.f k l0).bind fun t267 => ((laws_eqStmtS.f k t260 t267).bind fun t270 => (if t270 = true then ((laws_markStmtS.f k t260 1).bind fun t271 => (if t271 < 0 then (laws_FnExactCodeOf.j0 k l0 t257 t263 true) else ((laws_eqInsS.f k t263 t257).bind fun t272 => (laws_FnExactCodeOf.j0 k l0 t257 t263 (!t272))))) else (some false)))) else (some false)) = some r := H; have A9 := Aside0.mk A90; clear A90
    by_cases c10 : t266 = true
    · subst c10
      have H1 : ((laws_toStmtS.f k l0).bind fun t267 => ((laws_eqStmtS.f k t260 t267).bind fun t270 => (if t270 = true then ((laws_markStmtS.f k t260 1).bind fun t271 => (if t271 < 0 then (laws_FnExactCodeOf.j0 k l0 t257 t263 true) else ((laws_eqInsS.f k t263 t257).bind fun t272 => (laws_FnExactCodeOf.j0 k l0 t257 t263 (!t272))))) else (some false)))) = some r := by rw [if_pos rfl] at H; exact H
      clear H; have H := H1; clear H1; replace H := Option.bind_eq_some_iff.mp H; obtain ⟨t267, A110, H⟩ := H; replace H : ((laws_eqStmtS.f k t260 t267).bind fun t270 => (if t270 = true then ((laws_markStmtS.f k t260 1).bind fun t271 => (if t271 < 0 then (laws_FnExactCodeOf.j0 k l0 t257 t263 true) else ((laws_eqInsS.f k t263 t257).bind fun t272 => (laws_FnExactCodeOf.j0 k l0 t257 t263 (!t272))))) else (some false))) = some r := H; have A11 := Aside0.mk A110; clear A110; replace H := Option.bind_eq_some_iff.mp H; obtain ⟨t270, A120, H⟩ := H; replace H : (if t270 = true then ((laws_markStmtS.f k t260 1).bind fun t271 => (if t271 < 0 then (laws_FnExactCodeOf.j0 k l0 t257 t263 true) else ((laws_eqInsS.f k t263 t257).bind fun t272 => (laws_FnExactCodeOf.j0 k l0 t257 t263 (!t272))))) else (some false)) = some r := H; have A12 := Aside0.mk A120; clear A120
      by_cases c13 : t270 = true
      · subst c13
        have H1 : ((laws_markStmtS.f k t260 1).bind fun t271 => (if t271 < 0 then (laws_FnExactCodeOf.j0 k l0 t257 t263 true) else ((laws_eqInsS.f k t263 t257).bind fun t272 => (laws_FnExactCodeOf.j0 k l0 t257 t263 (!t272))))) = some r := by rw [if_pos rfl] at H; exact H
        clear H; have H := H1; clear H1; replace H := Option.bind_eq_some_iff.mp H; obtain ⟨t271, A140, H⟩ := H; replace H : (if t271 < 0 then (laws_FnExactCodeOf.j0 k l0 t257 t263 true) else ((laws_eqInsS.f k t263 t257).bind fun t272 => (laws_FnExactCodeOf.j0 k l0 t257 t263 (!t272)))) = some r := H; have A14 := Aside0.mk A140; clear A140; have HC15 := Aside0.mk H; clear H; go_enter Try.func3, Try.ntmps3
        go_upto_region 14 with (first | ((with_reducible refine gate_callee (f := 4) rfl ?_); refine goesM_ (some 13) Try.func4 #[.slice A0 l0.length c0, .int .i64 1048576] ?_; (with_reducible refine (laws_szStmtS.calls k _ _ l0 1048576 t253 _ ?side1 ?side2 A2.out).mono ?_); (case side1 => repeat (first | exact HR0.out | (with_reducible refine Kd.C_alloc ?_ _) | (with_reducible refine Kd.C_drewN ?_ _) | (with_reducible refine Kd.C_drew ?_))); (case side2 => exact HC0.out); rintro e w16 ⟨rfl, hb⟩; refine ⟨_, rfl, ?_⟩; have n0_ := Aside0.mk (below_step (q0_ HB) hb); clear HB; have HB := n0_; clear n0_; (try clear hb); (try clear hb2); (try clear hk); (try clear hi)) | ((with_reducible refine gate_callee (f := 6) rfl ?_); refine goesM_ (some 17) Try.func6 #[.slice A0 l0.length c0] ?_; (with_reducible refine (laws_toStmtS.calls k _ _ l0 t254 _ ?side1 ?side2 A5.out).mono ?_); (case side1 => repeat (first | exact (Kd.C_below HR0.out HB.out) | (with_reducible refine Kd.C_alloc ?_ _) | (with_reducible refine Kd.C_drewN ?_ _) | (with_reducible refine Kd.C_drew ?_))); (case side2 => exact HC0.out); rintro e w17 ⟨v255, rfl, ho0, hb⟩; refine ⟨_, rfl, ?_⟩; have n0_ := Aside0.mk (Kd.R_lower ho0 (below_size (q0_ HB))); have n1_ := Aside0.mk (below_step (q0_ HB) hb); clear HB; have HO256 := n0_; have HB := n1_; clear n0_ n1_; (try clear hb); (try clear hb2); (try clear hk); (try clear hi); (try clear ho0); obtain ⟨Ao18, co18, eo18⟩ := Kd.R_slice HO256.out; subst eo18) | ((with_reducible refine gate_callee (f := 5) rfl ?_); refine goesM_ (some 18) Try.func5 #[.slice Ao18 t254.length co18] ?_; (with_reducible refine (spec_CodeOf.calls k _ _ t254 t257 _ ?side1 ?side2 A6.out).mono ?_); (case side1 => repeat (first | exact (Kd.R_reads' HO256.out).2.2 | (with_reducible refine Kd.C_alloc ?_ _) | (with_reducible refine Kd.C_drewN ?_ _) | (with_reducible refine Kd.C_drew ?_))); (case side2 => exact (Kd.R_reads' HO256.out).2.1); rintro e w19 ⟨v258, rfl, ho0, hb⟩; refine ⟨_, rfl, ?_⟩; have n0_ := Aside0.mk (Kd.R_below (q3_ HO256) hb); have n1_ := Aside0.mk (Kd.R_lower ho0 (below_size (q0_ HB))); have n2_ := Aside0.mk (below_step (q0_ HB) hb); clear HO256; clear HB; have HO256 := n0_; have HO259 := n1_; have HB := n2_; clear n0_ n1_ n2_; (try clear hb); (try clear hb2); (try clear hk); (try clear hi); (try clear ho0)) | ((with_reducible refine gate_callee (f := 6) rfl ?_); refine goesM_ (some 20) Try.func6 #[.slice A0 l0.length c0] ?_; (with_reducible refine (laws_toStmtS.calls k _ _ l0 t260 _ ?side1 ?side2 A7.out).mono ?_); (case side1 => repeat (first | exact (Kd.C_below HR0.out HB.out) | (with_reducible refine Kd.C_alloc ?_ _) | (with_reducible refine Kd.C_drewN ?_ _) | (with_reducible refine Kd.C_drew ?_))); (case side2 => exact HC0.out); rintro e w20 ⟨v261, rfl, ho0, hb⟩; refine ⟨_, rfl, ?_⟩; have n0_ := Aside0.mk (Kd.R_elder' (q3_ HO256) (Kd.R_base ho0) hb); have n1_ := Aside0.mk (Kd.R_below (q3_ HO259) hb); have n2_ := Aside0.mk (Kd.R_lower (Kd.R_new' ho0 (Kd.R_lt (q3_ HO256))) (below_size (q0_ HB))); have n3_ := Aside0.mk (below_step (q0_ HB) hb); clear HO256; clear HO259; clear HB; have HO256 := n0_; have HO259 := n1_; have HO262 := n2_; have HB := n3_; clear n0_ n1_ n2_ n3_; (try clear hb); (try clear hb2); (try clear hk); (try clear hi); (try clear ho0); obtain ⟨Ao21, co21, eo21⟩ := Kd.R_slice HO262.out; subst eo21) | ((with_reducible refine gate_callee (f := 7) rfl ?_); refine goesM_ (some 22) Try.func7 #[.slice Ao21 t260.length co21] ?_; (with_reducible refine (impl_CodeOf.calls k _ _ t260 t263 _ ?side1 ?side2 A8.out).mono ?_); (case side1 => repeat (first | exact (Kd.R_reads' HO262.out).2.2 | (with_reducible refine Kd.C_alloc ?_ _) | (with_reducible refine Kd.C_drewN ?_ _) | (with_reducible refine Kd.C_drew ?_))); (case side2 => exact (Kd.R_reads' HO262.out).2.1); rintro e w22 ⟨v264, rfl, ho0, hb⟩; refine ⟨_, rfl, ?_⟩; have n0_ := Aside0.mk (Kd.R_below (q3_ HO256) hb); have n1_ := Aside0.mk (Kd.R_elder' (q3_ HO259) (Kd.R_base ho0) hb); have n2_ := Aside0.mk (Kd.R_below (q3_ HO262) hb); have n3_ := Aside0.mk (Kd.R_lower (Kd.R_new' ho0 (Kd.R_lt (q3_ HO259))) (below_size (q0_ HB))); have n4_ := Aside0.mk (below_step (q0_ HB) hb); clear HO256; clear HO259; clear HO262; clear HB; have HO256 := n0_; have HO259 := n1_; have HO262 := n2_; have HO265 := n3_; have HB := n4_; clear n0_ n1_ n2_ n3_ n4_; (try clear hb); (try clear hb2); (try clear hk); (try clear hi); (try clear ho0); obtain ⟨Ao23, co23, eo23⟩ := Kd.R_slice HO265.out; subst eo23; obtain ⟨Ao24, co24, eo24⟩ := Kd.R_slice HO259.out; subst eo24) | ((with_reducible refine gate_callee (f := 8) rfl ?_); refine goesM_ (some 25) Try.func8 #[.slice Ao23 t263.length co23, .slice Ao24 t257.length co24] ?_; (with_reducible refine (laws_eqInsS.calls k _ _ t263 _ _ t257 true _ ?side1 ?side2 ?side3 ?side4 A9.out).mono ?_); (case side1 => repeat (first | exact (Kd.R_reads' HO265.out).2.2 | (with_reducible refine Kd.C_alloc ?_ _) | (with_reducible refine Kd.C_drewN ?_ _) | (with_reducible refine Kd.C_drew ?_))); (case side2 => exact (Kd.R_reads' HO265.out).2.1); (case side3 => repeat (first | exact (Kd.R_reads' HO259.out).2.2 | (with_reducible refine Kd.C_alloc ?_ _) | (with_reducible refine Kd.C_drewN ?_ _) | (with_reducible refine Kd.C_drew ?_))); (case side4 => exact (Kd.R_reads' HO259.out).2.1); rintro e w25 ⟨rfl, hb⟩; refine ⟨_, rfl, ?_⟩; have n0_ := Aside0.mk (Kd.R_below (q3_ HO256) hb); have n1_ := Aside0.mk (Kd.R_below (q3_ HO259) hb); have n2_ := Aside0.mk (Kd.R_below (q3_ HO262) hb); have n3_ := Aside0.mk (Kd.R_below (q3_ HO265) hb); have n4_ := Aside0.mk (below_step (q0_ HB) hb); clear HO256; clear HO259; clear HO262; clear HO265; clear HB; have HO256 := n0_; have HO259 := n1_; have HO262 := n2_; have HO265 := n3_; have HB := n4_; clear n0_ n1_ n2_ n3_ n4_; (try clear hb); (try clear hb2); (try clear hk); (try clear hi)) | ((with_reducible refine gate_callee (f := 6) rfl ?_); refine goesM_ (some 29) Try.func6 #[.slice A0 l0.length c0] ?_; (with_reducible refine (laws_toStmtS.calls k _ _ l0 t267 _ ?side1 ?side2 A11.out).mono ?_); (case side1 => repeat (first | exact (Kd.C_below HR0.out HB.out) | (with_reducible refine Kd.C_alloc ?_ _) | (with_reducible refine Kd.C_drewN ?_ _) | (with_reducible refine Kd.C_drew ?_))); (case side2 => exact HC0.out); rintro e w26 ⟨v268, rfl, ho0, hb⟩; refine ⟨_, rfl, ?_⟩; have n0_ := Aside0.mk (Kd.R_elder' (q3_ HO256) (Kd.R_base ho0) hb); have n1_ := Aside0.mk (Kd.R_below (q3_ HO259) hb); have n2_ := Aside0.mk (Kd.R_elder' (q3_ HO262) (Kd.R_base ho0) hb); have n3_ := Aside0.mk (Kd.R_below (q3_ HO265) hb); have n4_ := Aside0.mk (Kd.R_lower (Kd.R_new' (Kd.R_new' ho0 (Kd.R_lt (q3_ HO256))) (Kd.R_lt (q3_ HO262))) (below_size (q0_ HB))); have n5_ := Aside0.mk (below_step (q0_ HB) hb); clear HO256; clear HO259; clear HO262; clear HO265; clear HB; have HO256 := n0_; have HO259 := n1_; have HO262 := n2_; have HO265 := n3_; have HO269 := n4_; have HB := n5_; clear n0_ n1_ n2_ n3_ n4_ n5_; (try clear hb); (try clear hb2); (try clear hk); (try clear hi); (try clear ho0); obtain ⟨Ao27, co27, eo27⟩ := Kd.R_slice HO269.out; subst eo27) | ((with_reducible refine gate_callee (f := 9) rfl ?_); refine goesM_ (some 30) Try.func9 #[.slice Ao21 t260.length co21, .slice Ao27 t267.length co27] ?_; (with_reducible refine (laws_eqStmtS.calls k _ _ t260 _ _ t267 true _ ?side1 ?side2 ?side3 ?side4 A12.out).mono ?_); (case side1 => repeat (first | exact (Kd.R_reads' HO262.out).2.2 | (with_reducible refine Kd.C_alloc ?_ _) | (with_reducible refine Kd.C_drewN ?_ _) | (with_reducible refine Kd.C_drew ?_))); (case side2 => exact (Kd.R_reads' HO262.out).2.1); (case side3 => repeat (first | exact (Kd.R_reads' HO269.out).2.2 | (with_reducible refine Kd.C_alloc ?_ _) | (with_reducible refine Kd.C_drewN ?_ _) | (with_reducible refine Kd.C_drew ?_))); (case side4 => exact (Kd.R_reads' HO269.out).2.1); rintro e w28 ⟨rfl, hb⟩; refine ⟨_, rfl, ?_⟩; have n0_ := Aside0.mk (Kd.R_below (q3_ HO256) hb); have n1_ := Aside0.mk (Kd.R_below (q3_ HO259) hb); have n2_ := Aside0.mk (Kd.R_below (q3_ HO262) hb); have n3_ := Aside0.mk (Kd.R_below (q3_ HO265) hb); have n4_ := Aside0.mk (Kd.R_below (q3_ HO269) hb); have n5_ := Aside0.mk (below_step (q0_ HB) hb); clear HO256; clear HO259; clear HO262; clear HO265; clear HO269; clear HB; have HO256 := n0_; have HO259 := n1_; have HO262 := n2_; have HO265 := n3_; have HO269 := n4_; have HB := n5_; clear n0_ n1_ n2_ n3_ n4_ n5_; (try clear hb); (try clear hb2); (try clear hk); (try clear hi)) | ((with_reducible refine gate_callee (f := 10) rfl ?_); refine goesM_ (some 34) Try.func10 #[.slice Ao21 t260.length co21, .int .i64 1] ?_; (with_reducible refine (laws_markStmtS.callsT k (.slice Ao21 t260.length co21) t260 1 t271 w _ ?side1 ?side2 A14.out).mono ?_); (case side1 => exact q0_ HB); (case side2 => exact Kd.R_mono HO262.out (fun _ _ => trivial)); rintro e w29 ⟨rfl, hb, hkp⟩; refine ⟨_, rfl, ?_⟩; have n0_ := True.intro; have n1_ := Aside0.mk (Kd.R_mono (ok' := fun k_ => some k_ ≠ (.slice Ao23 t263.length co23 : Value).ownBlock) (Kd.R_step (Kd.R_bound HO259.out) (fun k_ hk_ hlt_ => hkp.2 k_ hlt_ (fun hs_ => ty_ne (by decide) hk_.2.2.2 hs_))) (fun k_ hk_ => hk_.1.2)); have n2_ := Aside0.mk (Kd.R_mono (ok' := fun k_ => some k_ ≠ (.slice Ao24 t257.length co24 : Value).ownBlock) (Kd.R_step (Kd.R_bound HO265.out) (fun k_ hk_ hlt_ => hkp.2 k_ hlt_ (fun hs_ => ty_ne (by decide) hk_.2.2.2 hs_))) (fun k_ hk_ => hk_.1.2)); have n3_ := True.intro; have n4_ := Aside0.mk (hb); clear HO256; clear HO259; clear HO265; clear HO269; clear HB; clear HO262; have HO256 := n0_; have HO259 := n1_; have HO265 := n2_; have HO269 := n3_; have HB := n4_; clear n0_ n1_ n2_ n3_ n4_; (try clear hb); (try clear hkp)))
        (try simp only [Act.put, List.setIfInBounds_toArray, List.set_cons_zero, List.set_cons_succ])
        go_cut [42] (fun v42 wc => ∃ (kq : Nat) (x42_14 : Bool), v42 = .bool x42_14 ∧ Aside0 (laws_FnExactCodeOf.j0 kq l0 t257 t263 x42_14 = some r) ∧ Aside0 (kq ≤ k) ∧ Aside0 (Kd.R k39 39 wc w.heap.size (fun k_ => some k_ ≠ ((.slice Ao23 t263.length co23) : Value).ownBlock) (.slice Ao24 t257.length co24) t257) ∧ Aside0 (Kd.R k39 39 wc w.heap.size (fun k_ => some k_ ≠ ((.slice Ao24 t257.length co24) : Value).ownBlock) (.slice Ao23 t263.length co23) t263) ∧ Aside0 (Below w.heap.size w wc))
        case first =>
          have H := HC15.out; clear HC15
          by_cases c30 : t271 < 0
          · rw [if_pos c30] at H; have c30b0 : decide (t271 < 0) = true := decide_eq_true c30; clear c30
            (first | rw [c30b0] | (simp only [i64_w, i32_w]; rw [c30b0]) | skip)
            have H' := Aside0.mk H; clear H
            go_wp2
            go_meet
            case rel => exact ⟨_, (true), (by first | rfl | (simp; done) | (simp [*]; done)), H', ⟨by first | omega | exact Nat.le_refl _⟩, ⟨by (with_reducible repeat (first | apply Kd.R_alloc | apply Kd.R_drewN | apply Kd.R_drew)); exact HO259.out⟩, ⟨by (with_reducible repeat (first | apply Kd.R_alloc | apply Kd.R_drewN | apply Kd.R_drew)); exact HO265.out⟩, ⟨by repeat (first | (with_reducible first | exact HB.out | apply below_alloc | apply pw_below_drewN | apply below_drew1) | exact HB.out)⟩⟩
          · rw [if_neg c30] at H; have c30b0 : decide (t271 < 0) = false := decide_eq_false c30; clear c30
            (first | rw [c30b0] | (simp only [i64_w, i32_w]; rw [c30b0]) | skip)
            replace H := Option.bind_eq_some_iff.mp H; obtain ⟨t272, A310, H⟩ := H; replace H : (laws_FnExactCodeOf.j0 k l0 t257 t263 (!t272)) = some r := H; have A31 := Aside0.mk A310; clear A310; have H' := Aside0.mk H; clear H
            go_wp2_with (first | (go_at_call 8; (with_reducible refine (laws_eqInsS.calls k _ _ t263 _ _ t257 t272 _ ?side1 ?side2 ?side3 ?side4 A31.out).mono ?_); (case side1 => repeat (first | exact (Kd.R_reads' HO265.out).2.2 | (with_reducible refine Kd.C_alloc ?_ _) | (with_reducible refine Kd.C_drewN ?_ _) | (with_reducible refine Kd.C_drew ?_))); (case side2 => exact (Kd.R_reads' HO265.out).2.1); (case side3 => repeat (first | exact (Kd.R_reads' HO259.out).2.2 | (with_reducible refine Kd.C_alloc ?_ _) | (with_reducible refine Kd.C_drewN ?_ _) | (with_reducible refine Kd.C_drew ?_))); (case side4 => exact (Kd.R_reads' HO259.out).2.1); rintro e w32 ⟨rfl, hb⟩; have n0_ := True.intro; have n1_ := Aside0.mk (Kd.R_below (q3_ HO259) hb); have n2_ := Aside0.mk (Kd.R_below (q3_ HO265) hb); have n3_ := True.intro; have n4_ := Aside0.mk (below_step (q0_ HB) hb); clear HO256; clear HO259; clear HO265; clear HO269; clear HB; have HO256 := n0_; have HO259 := n1_; have HO265 := n2_; have HO269 := n3_; have HB := n4_; clear n0_ n1_ n2_ n3_ n4_; (try clear hb); (try clear hb2); (try clear hk); (try clear hi)))
            go_meet
            case rel => exact ⟨_, (!t272), (by first | rfl | (simp; done) | (simp [*]; done)), H', ⟨by first | omega | exact Nat.le_refl _⟩, ⟨by (with_reducible repeat (first | apply Kd.R_alloc | apply Kd.R_drewN | apply Kd.R_drew)); exact HO259.out⟩, ⟨by (with_reducible repeat (first | apply Kd.R_alloc | apply Kd.R_drewN | apply Kd.R_drew)); exact HO265.out⟩, ⟨by repeat (first | (with_reducible first | exact HB.out | apply below_alloc | apply pw_below_drewN | apply below_drew1) | exact HB.out)⟩⟩
        case rest =>
          clear HC15; (try clear c1); (try clear p2); (try clear c3); (try clear c3b0); (try clear c4); (try clear c5); (try clear c6); (try clear c7); (try clear c8); (try clear c9); (try clear c10); (try clear c13); (try clear c30); (try clear c30b0); obtain ⟨kq, x42_14, rfl, HA, HJ14, HO_4, HO_6, HB⟩ := hcut
          cases kq with
          | zero => exact absurd HA.out (by simp [laws_FnExactCodeOf.j0])
          | succ kj14 =>
            have H := HA.out; clear HA; simp only [laws_FnExactCodeOf.j0] at H
            by_cases c33 : x42_14 = true
            · subst c33
              have H1 : (some false) = some r := by rw [if_pos rfl] at H; exact H
              rw [hr_] at H1
              exact absurd H1 (by simp)
            · replace c33 := Bool.eq_false_iff.mpr c33; subst c33
              have H1 : ((laws_markInsS.f kj14 t263 1).bind fun bt273 => ((laws_heldInsS.f kj14 bt273.2 1).bind fun t275 => (if t275 < 0 then (some false) else (if t275 = bt273.1 then ((laws_toStmtS.f kj14 l0).bind fun t276 => ((impl_CodeOf.f kj14 t276).bind fun t279 => ((laws_eqInsS.f kj14 t279 t257).bind fun t282 => (if t282 = true then ((laws_heldInsS.f kj14 bt273.2 1).bind fun t283 => (if t283 < 0 then (some false) else (if t283 = bt273.1 then (some true) else (some false)))) else (some false))))) else (some false))))) = some r := by rw [if_neg (show ¬ (false = true) by decide)] at H; exact H
              clear H; have H := H1; clear H1; replace H := Option.bind_eq_some_iff.mp H; obtain ⟨⟨t273, t274⟩, A340, H⟩ := H; replace H : ((laws_heldInsS.f kj14 t274 1).bind fun t275 => (if t275 < 0 then (some false) else (if t275 = t273 then ((laws_toStmtS.f kj14 l0).bind fun t276 => ((impl_CodeOf.f kj14 t276).bind fun t279 => ((laws_eqInsS.f kj14 t279 t257).bind fun t282 => (if t282 = true then ((laws_heldInsS.f kj14 t274 1).bind fun t283 => (if t283 < 0 then (some false) else (if t283 = t273 then (some true) else (some false)))) else (some false))))) else (some false)))) = some r := H; have A34 := Aside0.mk A340; clear A340; replace H := Option.bind_eq_some_iff.mp H; obtain ⟨t275, A350, H⟩ := H; replace H : (if t275 < 0 then (some false) else (if t275 = t273 then ((laws_toStmtS.f kj14 l0).bind fun t276 => ((impl_CodeOf.f kj14 t276).bind fun t279 => ((laws_eqInsS.f kj14 t279 t257).bind fun t282 => (if t282 = true then ((laws_heldInsS.f kj14 t274 1).bind fun t283 => (if t283 < 0 then (some false) else (if t283 = t273 then (some true) else (some false)))) else (some false))))) else (some false))) = some r := H; have A35 := Aside0.mk A350; clear A350
              by_cases c36 : t275 < 0
              · rw [if_pos c36, hr_] at H
                exact absurd H (by simp)
              · rw [if_neg c36] at H; have c36b0 : decide (t275 < 0) = false := decide_eq_false c36; clear c36
                by_cases c38 : t275 = t273
                · rw [if_pos c38] at H; have c38b0 : (t275 == t273) = true := beq_iff_eq.mpr c38; have c38b1 : (t275 != t273) = false := bne_eq_false_iff_eq.mpr c38; clear c38; replace H := Option.bind_eq_some_iff.mp H; obtain ⟨t276, A390, H⟩ := H; replace H : ((impl_CodeOf.f kj14 t276).bind fun t279 => ((laws_eqInsS.f kj14 t279 t257).bind fun t282 => (if t282 = true then ((laws_heldInsS.f kj14 t274 1).bind fun t283 => (if t283 < 0 then (some false) else (if t283 = t273 then (some true) else (some false)))) else (some false)))) = some r := H; have A39 := Aside0.mk A390; clear A390; replace H := Option.bind_eq_some_iff.mp H; obtain ⟨t279, A400, H⟩ := H; replace H : ((laws_eqInsS.f kj14 t279 t257).bind fun t282 => (if t282 = true then ((laws_heldInsS.f kj14 t274 1).bind fun t283 => (if t283 < 0 then (some false) else (if t283 = t273 then (some true) else (some false)))) else (some false))) = some r := H; have A40 := Aside0.mk A400; clear A400; replace H := Option.bind_eq_some_iff.mp H; obtain ⟨t282, A410, H⟩ := H; replace H : (if t282 = true then ((laws_heldInsS.f kj14 t274 1).bind fun t283 => (if t283 < 0 then (some false) else (if t283 = t273 then (some true) else (some false)))) else (some false)) = some r := H; have A41 := Aside0.mk A410; clear A410
                  by_cases c42 : t282 = true
                  · subst c42
                    have H1 : ((laws_heldInsS.f kj14 t274 1).bind fun t283 => (if t283 < 0 then (some false) else (if t283 = t273 then (some true) else (some false)))) = some r := by rw [if_pos rfl] at H; exact H
                    clear H; have H := H1; clear H1; replace H := Option.bind_eq_some_iff.mp H; obtain ⟨t283, A430, H⟩ := H; replace H : (if t283 < 0 then (some false) else (if t283 = t273 then (some true) else (some false))) = some r := H; have A43 := Aside0.mk A430; clear A430
                    by_cases c44 : t283 < 0
                    · rw [if_pos c44, hr_] at H
                      exact absurd H (by simp)
                    · rw [if_neg c44] at H; have c44b0 : decide (t283 < 0) = false := decide_eq_false c44; clear c44
                      by_cases c51 : t283 = t273
                      · rw [if_pos c51] at H; have c51b0 : (t283 == t273) = true := beq_iff_eq.mpr c51; have c51b1 : (t283 != t273) = false := bne_eq_false_iff_eq.mpr c51; clear c51; obtain rfl := Option.some.inj H
                        go_wp2_with (first | ((with_reducible refine gate_callee (f := 11) rfl ?_); refine goesM_ (some 45) Try.func11 #[.slice Ao23 t263.length co23, .int .i64 1] ?_; (with_reducible refine (laws_markInsS.calls kj14 (fun k_ => some k_ = (.slice Ao23 t263.length co23 : Value).ownBlock) (.slice Ao23 t263.length co23) t263 1 t273 t274 w _ ?side1 ?side2 A34.out).mono ?_); (case side1 => exact q0_ HB); (case side2 => exact Kd.R_tight rfl HO_6.out); rintro e w52 ⟨rfl, hy0, hb, hkp⟩; refine ⟨_, rfl, ?_⟩; have n0_ := Aside0.mk (Kd.R_mono (ok' := fun k_ => some k_ ≠ (.slice Ao23 t263.length co23 : Value).ownBlock) (Kd.R_keptB (HO_4.out) hkp (fun k_ hk_ hs_ => (hk_) hs_)) (fun k_ hk_ => hk_.1)); have n1_ := Aside0.mk (Kd.R_reok rfl hy0 (fun k_ e_ => HO_6.out.1 k_ e_)); have n2_ := Aside0.mk (hb); clear HO_4; clear HO_6; clear HB; have HO_4 := n0_; have HO_6 := n1_; have HB := n2_; clear n0_ n1_ n2_; (try clear hb); (try clear hkp); (try clear hy0)) | ((with_reducible refine gate_callee (f := 12) rfl ?_); refine goesL_ (some 48) rfl rfl Try.func12 (by kernel_rfl) rfl #[.slice Ao23 t274.length co23, .int .i64 1] rfl (by (try simp only [List.map_toArray, List.map_cons, List.map_nil]); first | done | (rw [show t274.length = t263.length from (Kd.R_reads' HO_6.out).1.symm] <;> rfl) | rfl | (simp only [List.length_drop, List.length_take]; rfl)) ?_; (with_reducible refine (laws_heldInsS.calls kj14 _ _ t274 1 t275 _ ?side1 ?side2 A35.out).mono ?_); (case side1 => repeat (first | exact (Kd.R_reads' HO_6.out).2.2 | (with_reducible refine Kd.C_alloc ?_ _) | (with_reducible refine Kd.C_drewN ?_ _) | (with_reducible refine Kd.C_drew ?_))); (case side2 => rw [show t274.length = t263.length from (Kd.R_reads' HO_6.out).1.symm]; exact (Kd.R_reads' HO_6.out).2.1); rintro e w' ⟨rfl, ⟨nd, rfl⟩⟩; refine ⟨_, rfl, ?_⟩) | ((with_reducible refine gate_callee (f := 6) rfl ?_); refine goesM_ (some 55) Try.func6 #[.slice A0 l0.length c0] ?_; (with_reducible refine (laws_toStmtS.calls kj14 _ _ l0 t276 _ ?side1 ?side2 A39.out).mono ?_); (case side1 => repeat (first | exact (Kd.C_below HR0.out (q0_ HB)) | (with_reducible refine Kd.C_alloc ?_ _) | (with_reducible refine Kd.C_drewN ?_ _) | (with_reducible refine Kd.C_drew ?_))); (case side2 => exact HC0.out); rintro e w53 ⟨v277, rfl, ho0, hb⟩; refine ⟨_, rfl, ?_⟩; have n0_ := Aside0.mk (Kd.R_below (q3_ HO_4) hb); have n1_ := Aside0.mk (Kd.R_below (q3_ HO_6) hb); have n2_ := Aside0.mk (Kd.R_lower ho0 (below_size (q0_ HB))); have n3_ := Aside0.mk (below_step (q0_ HB) hb); clear HO_4; clear HO_6; clear HB; have HO_4 := n0_; have HO_6 := n1_; have HO278 := n2_; have HB := n3_; clear n0_ n1_ n2_ n3_; (try clear hb); (try clear hb2); (try clear hk); (try clear hi); (try clear ho0); obtain ⟨Ao54, co54, eo54⟩ := Kd.R_slice HO278.out; subst eo54) | ((with_reducible refine gate_callee (f := 7) rfl ?_); refine goesM_ (some 56) Try.func7 #[.slice Ao54 t276.length co54] ?_; (with_reducible refine (impl_CodeOf.calls kj14 _ _ t276 t279 _ ?side1 ?side2 A40.out).mono ?_); (case side1 => repeat (first | exact (Kd.R_reads' HO278.out).2.2 | (with_reducible refine Kd.C_alloc ?_ _) | (with_reducible refine Kd.C_drewN ?_ _) | (with_reducible refine Kd.C_drew ?_))); (case side2 => exact (Kd.R_reads' HO278.out).2.1); rintro e w55 ⟨v280, rfl, ho0, hb⟩; refine ⟨_, rfl, ?_⟩; have n0_ := Aside0.mk (Kd.R_elder' (q3_ HO_4) (Kd.R_base ho0) hb); have n1_ := Aside0.mk (Kd.R_elder' (q3_ HO_6) (Kd.R_base ho0) hb); have n2_ := Aside0.mk (Kd.R_below (q3_ HO278) hb); have n3_ := Aside0.mk (Kd.R_lower (Kd.R_new' (Kd.R_new' ho0 (Kd.R_lt (q3_ HO_4))) (Kd.R_lt (q3_ HO_6))) (below_size (q0_ HB))); have n4_ := Aside0.mk (below_step (q0_ HB) hb); clear HO_4; clear HO_6; clear HO278; clear HB; have HO_4 := n0_; have HO_6 := n1_; have HO278 := n2_; have HO281 := n3_; have HB := n4_; clear n0_ n1_ n2_ n3_ n4_; (try clear hb); (try clear hb2); (try clear hk); (try clear hi); (try clear ho0); obtain ⟨Ao56, co56, eo56⟩ := Kd.R_slice HO281.out; subst eo56) | ((with_reducible refine gate_callee (f := 8) rfl ?_); refine goesM_ (some 59) Try.func8 #[.slice Ao56 t279.length co56, .slice Ao24 t257.length co24] ?_; (with_reducible refine (laws_eqInsS.calls kj14 _ _ t279 _ _ t257 true _ ?side1 ?side2 ?side3 ?side4 A41.out).mono ?_); (case side1 => repeat (first | exact (Kd.R_reads' HO281.out).2.2 | (with_reducible refine Kd.C_alloc ?_ _) | (with_reducible refine Kd.C_drewN ?_ _) | (with_reducible refine Kd.C_drew ?_))); (case side2 => exact (Kd.R_reads' HO281.out).2.1); (case side3 => repeat (first | exact (Kd.R_reads' HO_4.out).2.2 | (with_reducible refine Kd.C_alloc ?_ _) | (with_reducible refine Kd.C_drewN ?_ _) | (with_reducible refine Kd.C_drew ?_))); (case side4 => exact (Kd.R_reads' HO_4.out).2.1); rintro e w57 ⟨rfl, hb⟩; refine ⟨_, rfl, ?_⟩; have n0_ := Aside0.mk (Kd.R_below (q3_ HO_4) hb); have n1_ := Aside0.mk (Kd.R_below (q3_ HO_6) hb); have n2_ := Aside0.mk (Kd.R_below (q3_ HO278) hb); have n3_ := Aside0.mk (Kd.R_below (q3_ HO281) hb); have n4_ := Aside0.mk (below_step (q0_ HB) hb); clear HO_4; clear HO_6; clear HO278; clear HO281; clear HB; have HO_4 := n0_; have HO_6 := n1_; have HO278 := n2_; have HO281 := n3_; have HB := n4_; clear n0_ n1_ n2_ n3_ n4_; (try clear hb); (try clear hb2); (try clear hk); (try clear hi)) | ((with_reducible refine gate_callee (f := 12) rfl ?_); refine goesL_ (some 63) rfl rfl Try.func12 (by kernel_rfl) rfl #[.slice Ao23 t274.length co23, .int .i64 1] rfl (by (try simp only [List.map_toArray, List.map_cons, List.map_nil]); first | done | (rw [show t274.length = t263.length from (Kd.R_reads' HO_6.out).1.symm] <;> rfl) | rfl | (simp only [List.length_drop, List.length_take]; rfl)) ?_; (with_reducible refine (laws_heldInsS.calls kj14 _ _ t274 1 t283 _ ?side1 ?side2 A43.out).mono ?_); (case side1 => repeat (first | exact (Kd.R_reads' HO_6.out).2.2 | (with_reducible refine Kd.C_alloc ?_ _) | (with_reducible refine Kd.C_drewN ?_ _) | (with_reducible refine Kd.C_drew ?_))); (case side2 => rw [show t274.length = t263.length from (Kd.R_reads' HO_6.out).1.symm]; exact (Kd.R_reads' HO_6.out).2.1); rintro e w' ⟨rfl, ⟨nd, rfl⟩⟩; refine ⟨_, rfl, ?_⟩))
                        go_ret
                        exact ⟨by first | rfl | (simp [errW_none, errW_some] <;> rfl) | (simp [*, errW_none, errW_some] <;> rfl), by repeat (first | (with_reducible first | exact HB.out | apply below_alloc | apply pw_below_drewN | apply below_drew1) | exact HB.out)⟩
                      · rw [if_neg c51, hr_] at H
                        exact absurd H (by simp)
                  · replace c42 := Bool.eq_false_iff.mpr c42; subst c42
                    have H1 : (some false) = some r := by rw [if_neg (show ¬ (false = true) by decide)] at H; exact H
                    rw [hr_] at H1
                    exact absurd H1 (by simp)
                · rw [if_neg c38, hr_] at H
                  exact absurd H (by simp)
      · replace c13 := Bool.eq_false_iff.mpr c13; subst c13
        have H1 : (some false) = some r := by rw [if_neg (show ¬ (false = true) by decide)] at H; exact H
        rw [hr_] at H1
        exact absurd H1 (by simp)
    · replace c10 := Bool.eq_false_iff.mpr c10; subst c10
      have H1 : (some false) = some r := by rw [if_neg (show ¬ (false = true) by decide)] at H; exact H
      rw [hr_] at H1
      exact absurd H1 (by simp)
def laws_FnExactCodeOf.Pure : Prop := ∀ (l0 : List (S35)), (∃ (w : World) (A : Option Addr), Kd.C (k35) w A l0.length l0) → ∃ k, laws_FnExactCodeOf.f k l0 = some true
end Go.Proofs.Ytoekjehgnakffaa.P

namespace Go.Proofs.Ytoekjehgnakffaa.P
open Go.RowKit Go.Proofs.YtoekjehgnakffaaW.PrintWords Go.Proofs.YtoekjehgnakffaaW.PrintMore
set_option linter.unusedVariables false
set_option linter.unusedSimpArgs false
theorem one_len (g : List S41 → Nat → List S39) (d : Nat) (h : ∀ l p, (g l p).length ≤ 2 * cntL d l) (s : S41) (p : Nat) : (oneC g s p).length ≤ 2 * (1 + cntL d s.f4 + cntL d s.f5) := by
  unfold oneC
  have h4 := h s.f4 (p + 1)
  have h5 := h s.f5 (p + 2 + (g s.f4 (p + 1)).length)
  repeat' split
  all_goals simp only [List.length_cons, List.length_append, List.length_nil]
  all_goals omega
theorem codL_len_le : ∀ (d : Nat) (l : List S41) (p : Nat), (codL d l p).length ≤ 2 * cntL d l
  | 0, _, _ => by simp [codL]
  | d + 1, l, p => by
    show (seqC (oneC (codL d)) l p).length ≤ 2 * (l.map fun x => 1 + cntL d x.f4 + cntL d x.f5).sum
    induction l generalizing p with
    | nil => simp [seqC]
    | cons x t ih =>
      have h1 := one_len (codL d) d (codL_len_le d) x p
      have h2 := ih (p + (oneC (codL d) x p).length)
      rw [seqC, List.length_append, List.map_cons, List.sum_cons]
      omega
theorem specOne_ev (d : Nat) (s : S41) (p : Nat) (h4 : ∀ q, q + 2 * cntL d s.f4 ≤ 1000 → Ev (fun k => spec_l4Of.f k s.f4 (q : Int)) (codL d s.f4 q)) (h5 : ∀ q, q + 2 * cntL d s.f5 ≤ 1000 → Ev (fun k => spec_l4Of.f k s.f5 (q : Int)) (codL d s.f5 q)) (hp : p + 2 * (1 + cntL d s.f4 + cntL d s.f5) ≤ 1000) :
    Ev (fun k => spec_l4One.f k s.f0 s.f1 s.f2 s.f3 s.f4 s.f5 (p : Int)) (oneC (codL d) s p) := by
  have l4 := codL_len_le d s.f4 (p + 1)
  have l5 := codL_len_le d s.f5 (p + 2 + (codL d s.f4 (p + 1)).length)
  have w1 : wrap64 ((p : Int) + 1) = ((p + 1 : Nat) : Int) := wrap_succ (by omega)
  have w2 : wrap64 ((p : Int) + 2) = ((p + 2 : Nat) : Int) := by rw [wrap_id (by omega) (by omega)]; rfl
  have w3 : ∀ n : Nat, n ≤ 5000 → wrap64 (((p + 2 : Nat) : Int) + (n : Int)) = ((p + 2 + n : Nat) : Int) := fun n hn => by rw [wrap_id (by omega) (by omega)]; omega
  have w4 : ∀ n m : Nat, n ≤ 5000 → m ≤ 5000 → wrap64 (((p + 2 + n : Nat) : Int) + (m : Int)) = ((p + 2 + n + m : Nat) : Int) := fun n m hn hm => by rw [wrap_id (by omega) (by omega)]; omega
  refine Evs.succ (fun k => by simp only [spec_l4One.f]; rfl) ?_
  unfold oneC
  by_cases h6 : s.f0 = 6
  · rw [if_pos h6]
    refine Evs.ite_pos h6 ?_
    rw [w1]
    refine Evs.bind (h4 _ (by omega)) ?_
    rw [w2, w3 _ (by omega)]
    refine Evs.bind (h5 _ (by omega)) ?_
    rw [w4 _ _ (by omega) (by omega)]
    refine Evs.bind0 rfl (Evs.ite_pos (by simp; omega) (Evs.bind0 rfl (Evs.bind0 rfl (Evs.ite_pos (by simp; omega) (Evs.bind0 rfl (Evs.ite_pos (by simp; omega) ?_))))))
    simpa using Evs.some_ _
  refine Evs.ite_neg h6 ?_
  rw [if_neg h6]
  by_cases h7 : s.f0 = 7
  · rw [if_pos h7]
    refine Evs.ite_pos h7 ?_
    rw [w1]
    refine Evs.bind (h4 _ (by omega)) ?_
    rw [w2, w3 _ (by omega)]
    refine Evs.bind0 rfl (Evs.ite_pos (by simp; omega) (Evs.bind0 rfl (Evs.bind0 rfl (Evs.ite_pos (by simp; omega) ?_))))
    simpa using Evs.some_ _
  refine Evs.ite_neg h7 ?_
  rw [if_neg h7]
  by_cases h8 : s.f0 = 8
  · rw [if_pos h8]
    refine Evs.ite_pos h8 ?_
    rw [w1]
    refine Evs.bind (h4 _ (by omega)) ?_
    refine Evs.bind0 rfl (Evs.ite_pos (by simp; omega) (Evs.bind0 rfl (Evs.bind0 rfl (Evs.ite_pos (by simp; omega) ?_))))
    simpa using Evs.some_ _
  refine Evs.ite_neg h8 ?_
  rw [if_neg h8]
  have jt : ∀ b : Bool, b = true → Ev (fun k => spec_l4One.j0 k s.f0 b s.f0 s.f1 s.f2 s.f3 s.f4 s.f5) [⟨s.f0, s.f1, s.f2, s.f3⟩] := fun b hb =>
    Evs.succ (fun k => by simp only [spec_l4One.j0]; rfl) (Evs.ite_pos hb (Evs.some_ _))
  unfold leafC
  by_cases n1 : s.f0 = 1
  · rw [if_neg (by omega), if_neg (by omega), if_pos (by omega)]
    exact Evs.ite_pos n1 (jt _ (by simp [n1]))
  refine Evs.ite_neg n1 ?_
  by_cases n2 : s.f0 = 2
  · rw [if_neg (by omega), if_neg (by omega), if_pos (by omega)]
    exact Evs.ite_pos n2 (jt _ (by simp [n2]))
  refine Evs.ite_neg n2 ?_
  by_cases n3 : s.f0 = 3
  · rw [if_neg (by omega), if_neg (by omega), if_pos (by omega)]
    exact Evs.ite_pos n3 (jt _ (by simp [n3]))
  refine Evs.ite_neg n3 ?_
  by_cases n4 : s.f0 = 4
  · rw [if_neg (by omega), if_neg (by omega), if_pos (by omega)]
    exact Evs.ite_pos n4 (jt _ (by simp [n4]))
  refine Evs.ite_neg n4 ?_
  by_cases n5 : s.f0 = 5
  · rw [if_neg (by omega), if_neg (by omega), if_pos (by omega)]
    exact jt _ (by simp [n5])
  have e5 : (s.f0 == 5) = false := by simpa using n5
  rw [e5]
  refine Evs.succ (fun k => by simp only [spec_l4One.j0]; rfl) (Evs.ite_neg (by simp) ?_)
  by_cases n9 : s.f0 = 9
  · simp only [if_pos n9]
    exact Evs.some_ _
  simp only [if_neg n9]
  by_cases n10 : s.f0 = 10
  · simp only [if_pos n10]
    exact Evs.some_ _
  have n15 : ¬ (s.f0 = 1 ∨ s.f0 = 2 ∨ s.f0 = 3 ∨ s.f0 = 4 ∨ s.f0 = 5) := by omega
  simp only [if_neg n10, if_neg n15]
  exact Evs.some_ _
theorem cntL_cons (d : Nat) (x : S41) (t : List S41) : cntL (d + 1) (x :: t) = (1 + cntL d x.f4 + cntL d x.f5) + cntL (d + 1) t := by
  show (List.map _ (x :: t)).sum = _
  rw [List.map_cons, List.sum_cons]
  rfl
theorem cntL_len (d : Nat) : ∀ l : List S41, l.length ≤ cntL (d + 1) l
  | [] => Nat.zero_le _
  | x :: t => by
    have := cntL_len d t
    rw [cntL_cons, List.length_cons]
    omega
theorem specOf_ev : ∀ (d : Nat) (l : List S41) (p : Nat), dep d l → p + 2 * cntL d l ≤ 1000 → Ev (fun k => spec_l4Of.f k l (p : Int)) (codL d l p)
  | 0, l, p, hd, _ => by
    obtain rfl : l = [] := hd
    exact Evs.succ (fun k => by simp only [spec_l4Of.f]; rfl) (Evs.succ (fun k => by simp only [spec_l4Of.l0]; rfl) (Evs.ite_neg (by simp) (Evs.some_ _)))
  | d + 1, l, p, hd, hp => by
    refine Evs.succ (fun k => by simp only [spec_l4Of.f]; rfl) ?_
    have hd' : ∀ x ∈ l, dep d x.f4 ∧ dep d x.f5 := hd
    have hl := cntL_len d l
    have key : ∀ (e i : Nat) (out : List S39), i + e = l.length → p + out.length + 2 * cntL (d + 1) (l.drop i) ≤ 1000 → Ev (fun k => spec_l4Of.l0 k l (p : Int) out (i : Int)) (out ++ seqC (oneC (codL d)) (l.drop i) (p + out.length)) := by
      intro e
      induction e with
      | zero =>
        intro i out hi _
        rw [List.drop_of_length_le (by omega)]
        refine Evs.succ (fun k => by simp only [spec_l4Of.l0]; rfl) (Evs.ite_neg (by omega) ?_)
        simpa [seqC] using Evs.some_ _
      | succ e ih =>
        intro i out hi ho
        have hlt : i < l.length := by omega
        rw [drop_rd l hlt] at ho ⊢
        rw [cntL_cons] at ho
        obtain ⟨d4, d5⟩ := hd' _ (rd_mem hlt)
        have h1 := specOne_ev d (rd_T41 l (i : Int)) (p + out.length) (fun q hq => specOf_ev d _ q d4 hq) (fun q hq => specOf_ev d _ q d5 hq) (by omega)
        have hle := one_len (codL d) d (codL_len_le d) (rd_T41 l (i : Int)) (p + out.length)
        refine Evs.succ (fun k => by simp only [spec_l4Of.l0]; rfl) (Evs.ite_pos (by omega) (Evs.ite_pos (by omega) ?_))
        rw [show wrap64 ((p : Int) + (out.length : Int)) = ((p + out.length : Nat) : Int) by rw [wrap_id (by omega) (by omega)]; omega]
        refine Evs.bind h1 (Evs.ite_pos (by omega) ?_)
        rw [wrap_succ (by omega), seqC, ← List.append_assoc]
        have q := ih (i + 1) (out ++ oneC (codL d) (rd_T41 l (i : Int)) (p + out.length)) (by omega) (by rw [List.length_append]; omega)
        rw [List.length_append, ← Nat.add_assoc] at q
        exact q
    have q := key l.length 0 [] (by omega) (by simpa using hp)
    show Ev _ (seqC (oneC (codL d)) l p)
    simpa using q
def PT (h : List S39) (q : List (Nat × Nat)) (c : List S39) (p : Nat) : Prop := ∀ (pre post : List S39) (rest : List (Nat × Nat)), pre.length = p → ptB (q ++ rest) (pre ++ (h ++ post)) = ptB rest (pre ++ (c ++ post))
theorem PT.refl (h : List S39) (p : Nat) : PT h [] h p := fun _ _ _ _ => rfl
theorem PT.seq {h c e : List S39} {q r : List (Nat × Nat)} {p : Nat} (a : PT h q c p) (b : PT c r e p) : PT h (q ++ r) e p := fun pre post rest hp => by
  rw [List.append_assoc, a pre post _ hp, b pre post _ hp]
theorem PT.front {h c : List S39} {q : List (Nat × Nat)} {p m : Nat} (x : List S39) (a : PT h q c m) (hm : m = p + x.length) : PT (x ++ h) q (x ++ c) p := fun pre post rest hp => by
  have := a (pre ++ x) post rest (by rw [List.length_append]; omega)
  simpa [List.append_assoc] using this
theorem PT.back {h c : List S39} {q : List (Nat × Nat)} {p : Nat} (a : PT h q c p) (y : List S39) : PT (h ++ y) q (c ++ y) p := fun pre post rest hp => by
  have := a pre (y ++ post) rest hp
  simpa [List.append_assoc] using this
theorem PT.set (i : S39) (p t : Nat) : PT [i] [(p, t)] [⟨i.f0, i.f1, i.f2, (t : Int)⟩] p := fun pre post rest hp => by
  subst hp
  have e0 : ∀ c : List S39, ptB ((pre.length, t) :: rest) c = if pre.length < c.length then ptB rest (c.set pre.length ⟨(rd_T39 c (pre.length : Int)).f0, (rd_T39 c (pre.length : Int)).f1, (rd_T39 c (pre.length : Int)).f2, (t : Int)⟩) else none := fun _ => rfl
  show ptB ((pre.length, t) :: rest) (pre ++ ([i] ++ post)) = _
  rw [e0]
  have e : rd_T39 (pre ++ ([i] ++ post)) ((pre.length : Nat) : Int) = i := by
    unfold rd_T39
    rw [Int.toNat_natCast, List.getD_eq_getElem?_getD, List.getElem?_append_right (Nat.le_refl _)]
    simp
  rw [if_pos (by simp)]
  simp only [e]
  rw [List.set_append_right _ _ (Nat.le_refl _)]
  simp
theorem emB_ok {s : Cm} {i : S39} (h1 : s.1.length < 1000000000) (h2 : s.2.length < 1000000000) : emB s i = some (s.1 ++ [i], s.2) := if_pos ⟨h1, h2⟩
theorem ltB_ok {s : Cm} {a : Nat} (h1 : s.1.length < 1000000000) (h2 : s.2.length < 1000000000) : ltB s a = some (s.1, s.2 ++ [(a, s.1.length)]) := if_pos ⟨h1, h2⟩
def Cmp1 (F : Nat → Cm → Option Cm) (c : Nat → List S39) (n : Nat) : Prop :=
  ∀ s : Cm, s.1.length + 2 * n ≤ 1000 → s.2.length + 2 * n ≤ 1000 → ∃ h q, Ev (fun k => F k s) (s.1 ++ h, s.2 ++ q) ∧ h.length = (c s.1.length).length ∧ q.length ≤ 2 * n ∧ PT h q (c s.1.length) s.1.length
theorem one_cmp (d : Nat) (x : S41) (rm : Int) (hok : okS (d + 1) x rm = true) (L : Nat → List S41 → Cm → Option Cm) (h4 : Cmp1 (fun k => L k x.f4) (codL d x.f4) (cntL d x.f4)) (h5 : Cmp1 (fun k => L k x.f5) (codL d x.f5) (cntL d x.f5)) :
    Cmp1 (fun k => cmOne (L k) x) (oneC (codL d) x) (1 + cntL d x.f4 + cntL d x.f5) := by
  intro s b1 b2
  have l4 := codL_len_le d x.f4 (s.1.length + 1)
  have l5 := codL_len_le d x.f5 (s.1.length + 2 + (codL d x.f4 (s.1.length + 1)).length)
  unfold cmOne oneC
  by_cases h6 : x.f0 = 6
  · simp only [if_pos h6]
    obtain ⟨u, q, e, hu, hq, pt⟩ := h4 (s.1 ++ [(⟨6, x.f1, 0, 0⟩ : S39)], s.2) (by simp; omega) (by simp; omega)
    have z1 : (s.1 ++ [(⟨6, x.f1, 0, 0⟩ : S39)]).length = s.1.length + 1 := by simp
    simp only [z1] at hu pt
    obtain ⟨u5, q5, e5, hu5, hq5, pt5⟩ := h5 (s.1 ++ [(⟨6, x.f1, 0, 0⟩ : S39)] ++ u ++ [(⟨7, 0, 0, 0⟩ : S39)], s.2 ++ q ++ [(s.1.length, s.1.length + 2 + u.length)]) (by simp; omega) (by simp; omega)
    have z2 : (s.1 ++ [(⟨6, x.f1, 0, 0⟩ : S39)] ++ u ++ [(⟨7, 0, 0, 0⟩ : S39)]).length = s.1.length + 2 + u.length := by simp; omega
    have z3 : (s.1 ++ [(⟨6, x.f1, 0, 0⟩ : S39)] ++ u).length = s.1.length + 1 + u.length := by simp; omega
    have z4 : (s.1 ++ [(⟨6, x.f1, 0, 0⟩ : S39)] ++ u ++ [(⟨7, 0, 0, 0⟩ : S39)] ++ u5).length = s.1.length + 2 + u.length + u5.length := by rw [List.length_append, z2]
    simp only [z2] at hu5 pt5
    have l6 := codL_len_le d x.f5 (s.1.length + 2 + u.length)
    refine ⟨⟨6, x.f1, 0, 0⟩ :: (u ++ ⟨7, 0, 0, 0⟩ :: u5), (q ++ [(s.1.length, s.1.length + 2 + u.length)]) ++ (q5 ++ [(s.1.length + 1 + u.length, s.1.length + 2 + u.length + u5.length)]), ?_, ?_, by simp; omega, ?_⟩
    · refine Evs.bind0 (emB_ok (by omega) (by omega)) (Evs.bind e (Evs.bind0 (emB_ok (by simp; omega) (by simp; omega)) (Evs.bind0 (ltB_ok (by simp; omega) (by simp; omega)) ?_)))
      simp only [z2]
      refine Evs.bind e5 ?_
      refine Evs.const ?_
      rw [ltB_ok (by simp; omega) (by simp; omega)]
      simp only [z3, z4]
      simp
    · rw [← hu]
      simp only [List.length_cons, List.length_append]
      omega
    · rw [← hu, ← hu5]
      have s1 : PT (⟨6, x.f1, 0, 0⟩ :: (u ++ ⟨7, 0, 0, 0⟩ :: u5)) q (⟨6, x.f1, 0, 0⟩ :: (codL d x.f4 (s.1.length + 1) ++ ⟨7, 0, 0, 0⟩ :: u5)) s.1.length := PT.front (p := s.1.length) [(⟨6, x.f1, 0, 0⟩ : S39)] (pt.back (⟨7, 0, 0, 0⟩ :: u5)) rfl
      have s2 := (PT.set ⟨6, x.f1, 0, 0⟩ s.1.length (s.1.length + 2 + u.length)).back (codL d x.f4 (s.1.length + 1) ++ ⟨7, 0, 0, 0⟩ :: u5)
      have s3 := PT.front (p := s.1.length) (⟨6, x.f1, 0, ((s.1.length + 2 + u.length : Nat) : Int)⟩ :: (codL d x.f4 (s.1.length + 1) ++ [(⟨7, 0, 0, 0⟩ : S39)])) pt5 (by simp [← hu]; omega)
      have s4 := PT.front (p := s.1.length) (⟨6, x.f1, 0, ((s.1.length + 2 + u.length : Nat) : Int)⟩ :: codL d x.f4 (s.1.length + 1)) ((PT.set ⟨7, 0, 0, 0⟩ (s.1.length + 1 + u.length) (s.1.length + 2 + u.length + u5.length)).back (codL d x.f5 (s.1.length + 2 + u.length))) (by simp [← hu]; omega)
      refine PT.seq (c := ⟨6, x.f1, 0, ((s.1.length + 2 + u.length : Nat) : Int)⟩ :: (codL d x.f4 (s.1.length + 1) ++ ⟨7, 0, 0, 0⟩ :: u5)) (s1.seq ?_) (PT.seq (c := ⟨6, x.f1, 0, ((s.1.length + 2 + u.length : Nat) : Int)⟩ :: (codL d x.f4 (s.1.length + 1) ++ ⟨7, 0, 0, 0⟩ :: codL d x.f5 (s.1.length + 2 + u.length))) ?_ ?_)
      · simpa using s2
      · simpa using s3
      · simpa using s4
  simp only [if_neg h6]
  by_cases h7 : x.f0 = 7
  · simp only [if_pos h7]
    obtain ⟨u, q, e, hu, hq, pt⟩ := h4 (s.1 ++ [(⟨6, x.f1, 0, 0⟩ : S39)], s.2) (by simp; omega) (by simp; omega)
    have z1 : (s.1 ++ [(⟨6, x.f1, 0, 0⟩ : S39)]).length = s.1.length + 1 := by simp
    simp only [z1] at hu pt
    have z2 : (s.1 ++ [(⟨6, x.f1, 0, 0⟩ : S39)] ++ u ++ [(⟨7, 0, 0, (s.1.length : Int)⟩ : S39)]).length = s.1.length + 2 + u.length := by simp; omega
    refine ⟨⟨6, x.f1, 0, 0⟩ :: (u ++ [⟨7, 0, 0, (s.1.length : Int)⟩]), q ++ [(s.1.length, s.1.length + 2 + u.length)], ?_, by simp [hu], by simp; omega, ?_⟩
    · refine Evs.bind0 (emB_ok (by omega) (by omega)) (Evs.bind e (Evs.bind0 (emB_ok (by simp; omega) (by simp; omega)) ?_))
      refine Evs.const ?_
      rw [ltB_ok (by simp; omega) (by simp; omega)]
      simp only [z2]
      simp
    · rw [← hu]
      have s1 : PT (⟨6, x.f1, 0, 0⟩ :: (u ++ [⟨7, 0, 0, (s.1.length : Int)⟩])) q (⟨6, x.f1, 0, 0⟩ :: (codL d x.f4 (s.1.length + 1) ++ [⟨7, 0, 0, (s.1.length : Int)⟩])) s.1.length := PT.front (p := s.1.length) [(⟨6, x.f1, 0, 0⟩ : S39)] (pt.back [⟨7, 0, 0, (s.1.length : Int)⟩]) rfl
      have s2 := (PT.set ⟨6, x.f1, 0, 0⟩ s.1.length (s.1.length + 2 + u.length)).back (codL d x.f4 (s.1.length + 1) ++ [⟨7, 0, 0, (s.1.length : Int)⟩])
      refine s1.seq ?_
      simpa using s2
  simp only [if_neg h7]
  by_cases h8 : x.f0 = 8
  · simp only [if_pos h8]
    obtain ⟨u, q, e, hu, hq, pt⟩ := h4 (s.1 ++ [(⟨8, x.f1, 0, 0⟩ : S39)], s.2) (by simp; omega) (by simp; omega)
    have z1 : (s.1 ++ [(⟨8, x.f1, 0, 0⟩ : S39)]).length = s.1.length + 1 := by simp
    simp only [z1] at hu pt
    have s1 : PT (⟨8, x.f1, 0, 0⟩ :: (u ++ [⟨9, x.f1, 0, 0⟩])) q (⟨8, x.f1, 0, 0⟩ :: (codL d x.f4 (s.1.length + 1) ++ [⟨9, x.f1, 0, 0⟩])) s.1.length := PT.front (p := s.1.length) [(⟨8, x.f1, 0, 0⟩ : S39)] (pt.back [⟨9, x.f1, 0, 0⟩]) rfl
    refine ⟨⟨8, x.f1, 0, 0⟩ :: (u ++ [⟨9, x.f1, 0, 0⟩]), q, ?_, by simp [hu], by omega, s1⟩
    refine Evs.bind0 (emB_ok (by omega) (by omega)) (Evs.bind e ?_)
    refine Evs.const ?_
    rw [emB_ok (by simp; omega) (by simp; omega)]
    simp
  simp only [if_neg h8]
  have hleaf : (⟨smp x.f0, x.f1, x.f2, x.f3⟩ : S39) = leafC x := by
    rw [okS_succ, if_neg h6] at hok
    by_cases e5 : x.f5.length = 0
    · rw [if_pos e5, if_neg h7, if_neg h8, Bool.and_eq_true] at hok
      have ho := hok.2
      unfold leafOk at ho
      unfold leafC smp
      by_cases n1 : x.f0 = 1
      · simp [n1]
      by_cases n2 : x.f0 = 2
      · simp [n2]
      by_cases n3 : x.f0 = 3
      · simp [n3]
      by_cases n4 : x.f0 = 4
      · simp [n4]
      by_cases n5 : x.f0 = 5
      · simp [n5]
      simp only [n1, n2, n3, n4, n5, if_false] at ho
      by_cases n9 : x.f0 = 9
      · rw [if_pos n9] at ho
        simp only [Bool.and_eq_true, decide_eq_true_eq] at ho
        simp [n9, ho.2.2.1, ho.2.2.2]
      rw [if_neg n9] at ho
      by_cases n10 : x.f0 = 10
      · rw [if_pos n10] at ho
        simp only [Bool.and_eq_true, decide_eq_true_eq] at ho
        simp [n10, ho.2.1, ho.2.2]
      rw [if_neg n10] at ho
      by_cases n11 : x.f0 = 11
      · rw [if_pos n11] at ho
        simp only [Bool.and_eq_true, decide_eq_true_eq] at ho
        simp [n11, ho.1, ho.2.1, ho.2.2]
      rw [if_neg n11] at ho
      cases ho
    · rw [if_neg e5] at hok
      cases hok
  rw [hleaf]
  exact ⟨[leafC x], [], Evs.const (by rw [emB_ok (by omega) (by omega)]; simp), rfl, Nat.zero_le _, PT.refl _ _⟩
theorem list_cmp (d : Nat) (T : Nat → S41 → Cm → Option Cm) : ∀ (l : List S41), (∀ x ∈ l, Cmp1 (fun k => T k x) (oneC (codL d) x) (1 + cntL d x.f4 + cntL d x.f5)) → Cmp1 (fun k => cmL (T k) l) (seqC (oneC (codL d)) l) (cntL (d + 1) l)
  | [], _ => fun s _ _ => ⟨[], [], by show Ev (fun _ => some s) _; simpa using Evs.some_ s, rfl, Nat.zero_le _, PT.refl _ _⟩
  | x :: t, h => fun s b1 b2 => by
    rw [cntL_cons] at b1 b2
    obtain ⟨u, q, e, hu, hq, pt⟩ := h x (List.mem_cons_self ..) s (by omega) (by omega)
    have hle := one_len (codL d) d (codL_len_le d) x s.1.length
    obtain ⟨v, r, e2, hv, hr, pt2⟩ := list_cmp d T t (fun y hy => h y (List.mem_cons_of_mem _ hy)) (s.1 ++ u, s.2 ++ q) (by simp; omega) (by simp; omega)
    have z : (s.1 ++ u).length = s.1.length + (oneC (codL d) x s.1.length).length := by rw [List.length_append, hu]
    simp only [z] at hv pt2
    refine ⟨u ++ v, q ++ r, Evs.bind e (by simpa [List.append_assoc] using e2), ?_, ?_, ?_⟩
    · rw [seqC, List.length_append, List.length_append, hu, hv]
    · rw [cntL_cons, List.length_append]; omega
    · rw [seqC]
      exact (pt.back v).seq (pt2.front _ rfl)
theorem cmK_cmp : ∀ (d : Nat) (l : List S41) (rm : Int), (∀ x ∈ l, okS d x rm = true) → Cmp1 (fun k => cmK k l) (codL d l) (cntL d l)
  | 0, [], _, _ => fun s _ _ => ⟨[], [], Evs.succ (f := fun _ => some s) (fun k => rfl) (by simpa using Evs.some_ s), rfl, Nat.zero_le _, PT.refl _ _⟩
  | 0, x :: t, _, h => by cases h x (List.mem_cons_self ..)
  | d + 1, l, rm, h => fun s b1 b2 => by
    have hk : ∀ x ∈ l, Cmp1 (fun k => cmOne (cmK k) x) (oneC (codL d) x) (1 + cntL d x.f4 + cntL d x.f5) := fun x hx => by
      obtain ⟨m, h4, h5⟩ := okS_kids2 (h x hx)
      exact one_cmp d x rm (h x hx) cmK (cmK_cmp d x.f4 m h4) (cmK_cmp d x.f5 m h5)
    obtain ⟨u, q, e, r⟩ := list_cmp d (fun k => cmOne (cmK k)) l hk s b1 b2
    exact ⟨u, q, Evs.succ (fun k => rfl) e, r⟩
def codeV (l : List S41) : List S39 := if okLst l = true then codF l else []
theorem cnt14 {l : List S41} (h : okLst l = true) (hc : cntL 3 l ≤ 9000000000000000000) : cntL 3 l ≤ 14 := by
  unfold okLst at h
  rw [Bool.and_eq_true, decide_eq_true_eq, wrap_id (by omega) (by omega)] at h
  omega
theorem implCode_ev {l : List S41} (hc : cntL 3 l ≤ 9000000000000000000) : Ev (fun k => impl_CodeOf.f k l) (codeV l) := by
  unfold impl_CodeOf.f codeV
  refine Evs.bind (implOk l) ?_
  cases c : okLst l with
  | false => exact Evs.ite_neg (by simp) (Evs.some_ _)
  | true =>
    have h14 := cnt14 c hc
    have hok := okLst_list c
    unfold okList at hok
    rw [List.all_eq_true] at hok
    obtain ⟨u, q, e, hu, hq, pt⟩ := cmK_cmp 3 l (-1) hok ([], []) (by simp; omega) (by simp; omega)
    refine Evs.ite_pos rfl ?_
    refine Evs.bind (b := codF l) ?_ (Evs.some_ _)
    unfold impl_codeOf.f
    refine Evs.bind e ?_
    simp only [List.nil_append]
    have hl := codL_len_le 3 l 0
    refine Evs.bind0 (emB_ok (by simp only []; rw [hu]; simp; omega) (by simp only []; omega)) ?_
    have p := pt [] [⟨13, 0, 0, 0⟩] [] rfl
    simp only [List.append_nil, List.nil_append, List.length_nil] at p
    exact Evs.const p
theorem specCode_ev {l : List S41} (h : SL 3 l) (hc : cntL 3 l ≤ 9000000000000000000) : Ev (fun k => spec_CodeOf.f k l) (codeV l) := by
  unfold spec_CodeOf.f codeV
  refine Evs.bind (specOk h) ?_
  cases c : okLst l with
  | false => exact Evs.ite_neg (by simp) (Evs.some_ _)
  | true =>
    have h14 := cnt14 c hc
    have e := specOf_ev 3 l 0 (dep3 (okLst_list c)) (by omega)
    have hl := codL_len_le 3 l 0
    refine Evs.ite_pos rfl (Evs.bind e (Evs.ite_pos (by omega) (Evs.some_ _)))
end Go.Proofs.Ytoekjehgnakffaa.P

namespace Go.Proofs.Ytoekjehgnakffaa.Pure
open Go.RowKit Go.Proofs.Ytoekjehgnakffaa.P Go.Proofs.YtoekjehgnakffaaW.PrintWords Go.Proofs.YtoekjehgnakffaaW.PrintLast
open Go.Proofs.Ytoekjehgnakffaa.P Go.Proofs.YtoekjehgnakffaaW.PrintMore
set_option linter.unusedVariables false
set_option linter.unusedSimpArgs false
theorem cnt_bound {d B : Nat} : ∀ l : List S41, (∀ x ∈ l, cntL d x.f4 ≤ B ∧ cntL d x.f5 ≤ B) → cntL (d + 1) l ≤ l.length * (1 + 2 * B)
  | [], _ => by simp [cntL]
  | x :: t, h => by
    have hx := h x (List.mem_cons_self ..)
    have ht := cnt_bound t fun y hy => h y (List.mem_cons_of_mem _ hy)
    have e : cntL (d + 1) (x :: t) = (1 + cntL d x.f4 + cntL d x.f5) + cntL (d + 1) t := by
      show (List.map _ (x :: t)).sum = _
      rw [List.map_cons, List.sum_cons]
      rfl
    rw [e, List.length_cons, Nat.succ_mul]
    omega
theorem cnt1 {l : List S41} (h : l.length ≤ 1048576) : cntL 1 l ≤ 1048576 := by
  have := cnt_bound (d := 0) (B := 0) l fun x _ => ⟨Nat.le_refl _, Nat.le_refl _⟩
  change cntL 1 l ≤ _ at this
  omega
theorem cnt2 {l : List S41} (h : SL 1 l) : cntL 2 l ≤ 2199024304128 := by
  have := cnt_bound (d := 1) (B := 1048576) l fun x hx => ⟨cnt1 (h.kids hx).1.1, cnt1 (h.kids hx).2.1⟩
  change cntL 2 l ≤ _ at this
  have h1 := h.1
  have : l.length * (1 + 2 * 1048576) ≤ 1048576 * (1 + 2 * 1048576) := Nat.mul_le_mul_right _ h1
  omega
theorem cnt3' {l : List S41} (h : SL 2 l) : cntL 3 l ≤ 9000000000000000000 := by
  have := cnt_bound (d := 2) (B := 2199024304128) l fun x hx => ⟨cnt2 (h.kids hx).1, cnt2 (h.kids hx).2⟩
  change cntL 3 l ≤ _ at this
  have h1 := h.1
  have : l.length * (1 + 2 * 2199024304128) ≤ 1048576 * (1 + 2 * 2199024304128) := Nat.mul_le_mul_right _ h1
  omega
theorem codeV_no {ts : List S41} (h : okLst ts = false) : codeV ts = [] := if_neg (by rw [h]; simp)
theorem codeV_ok {ts : List S41} (h : okLst ts = true) : codeV ts = codF ts := if_pos h
theorem codF_le {ts : List S41} (h : okLst ts = true) (hc : cntL 3 ts ≤ 9000000000000000000) : (codF ts).length ≤ 29 := by
  have h14 := cnt14 h hc
  have := codL_len_le 3 ts 0
  rw [codF_len]
  omega
theorem codeV_le {ts : List S41} (hc : cntL 3 ts ≤ 9000000000000000000) : (codeV ts).length ≤ 29 := by
  cases h : okLst ts with
  | true => rw [codeV_ok h]; exact codF_le h hc
  | false => rw [codeV_no h]; simp
theorem eqInsS_refl (l : List S39) (hl : l.length ≤ 1048576) : Ev (fun k => laws_eqInsS.f k l l) true := by
  unfold laws_eqInsS.f
  refine Evs.ite_pos rfl ?_
  refine all_true_loop (fun k i => laws_eqInsS.l0 k l l i) l.length (fun i r hi h => ?_) ?_
  · refine Evs.succ (fun k => by simp only [laws_eqInsS.l0]; rfl) ?_
    refine Evs.ite_pos (by omega) (Evs.ite_pos (by omega) (Evs.ite_pos (by omega) (Evs.bind0 (b := true) (by simp [laws_eqIns.f]) (Evs.ite_pos rfl ?_))))
    rw [wrap_succ (by omega)]
    exact h
  · refine Evs.succ (fun k => by simp only [laws_eqInsS.l0]; rfl) ?_
    exact Evs.ite_neg (by omega) (Evs.some_ _)
def mkI (i : Nat) : S39 := ⟨4 * (i : Int) + 1, 4 * (i : Int) + 2, 4 * (i : Int) + 3, 4 * (i : Int) + 4⟩
def mkd (n : Nat) : List S39 := (List.range n).map mkI
theorem rd_setI (l : List S39) {i : Nat} (hi : i < l.length) (v : S39) : rd_T39 (l.set i v) (i : Int) = v := by
  unfold rd_T39
  rw [Int.toNat_natCast, List.getD_eq_getElem?_getD, List.getElem?_set_self hi]
  rfl
theorem mkd_len (n : Nat) : (mkd n).length = n := by simp [mkd]
theorem rd_mkd {n i : Nat} (hi : i < n) : rd_T39 (mkd n) (i : Int) = mkI i := by
  unfold rd_T39 mkd
  rw [Int.toNat_natCast, List.getD_eq_getElem?_getD, List.getElem?_map, List.getElem?_range hi]
  rfl
theorem mark_step (c : List S39) {i : Nat} (hi : i < c.length) : (mkd i ++ c.drop i).set i (mkI i) = mkd (i + 1) ++ c.drop (i + 1) := by
  rw [List.set_append_right _ _ (by rw [mkd_len]; exact Nat.le_refl _), mkd_len, Nat.sub_self, List.drop_eq_getElem_cons hi, List.set_cons_zero]
  unfold mkd
  rw [List.range_succ, List.map_append, List.append_assoc]
  rfl
theorem markIns_ev (c : List S39) (hc : c.length ≤ 1000) (e : Nat) : ∀ i : Nat, i + e = c.length → Ev (fun k => laws_markInsS.l0 k (mkd i ++ c.drop i) (4 * (i : Int) + 1) (i : Int)) (4 * (c.length : Int) + 1, mkd c.length) := by
  induction e with
  | zero =>
    intro i hi
    have : i = c.length := by omega
    subst this
    refine Evs.succ (fun k => by simp only [laws_markInsS.l0]; rfl) ?_
    refine Evs.ite_neg (by rw [List.length_append, mkd_len]; simp) ?_
    rw [List.drop_of_length_le (Nat.le_refl _), List.append_nil]
    exact Evs.some_ _
  | succ e ih =>
    intro i hi
    have hi' : i < c.length := by omega
    have hl : (mkd i ++ c.drop i).length = c.length := by rw [List.length_append, mkd_len, List.length_drop]; omega
    have hn := ih (i + 1) (by omega)
    rw [← mark_step c hi'] at hn
    generalize mkd i ++ c.drop i = X at *
    have w1 : wrap64 (4 * (i : Int) + 1 + 1) = 4 * (i : Int) + 2 := by unfold wrap64; omega
    have w2 : wrap64 (4 * (i : Int) + 2 + 1) = 4 * (i : Int) + 3 := by unfold wrap64; omega
    have w3 : wrap64 (4 * (i : Int) + 3 + 1) = 4 * (i : Int) + 4 := by unfold wrap64; omega
    have w4 : wrap64 (4 * (i : Int) + 4 + 1) = 4 * ((i + 1 : Nat) : Int) + 1 := by unfold wrap64; omega
    refine Evs.succ (fun k => by simp only [laws_markInsS.l0]; rfl) ?_
    refine Evs.ite_pos (by omega) (Evs.ite_pos (by omega) (Evs.bind0 rfl (Evs.bind0 rfl (Evs.bind0 rfl ?_))))
    simp only [Int.toNat_natCast, rd_setI X (show i < X.length by omega), List.set_set, List.length_set, w1, w2, w3, w4]
    rw [wrap_succ (by omega)]
    exact hn
theorem markInsS_ev (c : List S39) (hc : c.length ≤ 1000) : Ev (fun k => laws_markInsS.f k c 1) (4 * (c.length : Int) + 1, mkd c.length) := by
  have := markIns_ev c hc c.length 0 (by omega)
  unfold laws_markInsS.f
  simpa [mkd] using this
theorem heldIns_ev (n : Nat) (hn : n ≤ 1000) (e : Nat) : ∀ i : Nat, i + e = n → Ev (fun k => laws_heldInsS.l0 k (mkd n) (4 * (i : Int) + 1) (i : Int)) (4 * (n : Int) + 1) := by
  induction e with
  | zero =>
    intro i hi
    have : i = n := by omega
    subst this
    refine Evs.succ (fun k => by simp only [laws_heldInsS.l0]; rfl) ?_
    exact Evs.ite_neg (by rw [mkd_len]; omega) (Evs.some_ _)
  | succ e ih =>
    intro i hi
    have er := rd_mkd (show i < n by omega)
    have w1 : wrap64 (4 * (i : Int) + 1 + 1) = 4 * (i : Int) + 2 := by unfold wrap64; omega
    have w2 : wrap64 (4 * (i : Int) + 2 + 1) = 4 * (i : Int) + 3 := by unfold wrap64; omega
    have w3 : wrap64 (4 * (i : Int) + 3 + 1) = 4 * (i : Int) + 4 := by unfold wrap64; omega
    have w4 : wrap64 (4 * (i : Int) + 4 + 1) = 4 * ((i + 1 : Nat) : Int) + 1 := by unfold wrap64; omega
    refine Evs.succ (fun k => by simp only [laws_heldInsS.l0, er, w1, w2, w3, w4]; rfl) ?_
    refine Evs.ite_pos (by rw [mkd_len]; omega) (Evs.ite_pos (by omega) (Evs.ite_pos rfl (Evs.ite_pos rfl (Evs.ite_pos rfl (Evs.ite_pos rfl ?_)))))
    rw [wrap_succ (by omega)]
    exact ih (i + 1) (by omega)
theorem heldInsS_ev (n : Nat) (hn : n ≤ 1000) : Ev (fun k => laws_heldInsS.f k (mkd n) 1) (4 * (n : Int) + 1) := heldIns_ev n hn n 0 (by omega)
theorem FnExactCodeOf : laws_FnExactCodeOf.Pure := by
  intro l hb
  refine Ev.rounds (g := fun k => laws_FnExactCodeOf.f k l) ?_
  unfold laws_FnExactCodeOf.f
  obtain ⟨r, hr, c⟩ := lawL l hb 1048576 (by omega) (by omega)
  refine Evs.bind hr ?_
  rcases c with c | ⟨c0, c1, ts, ht, hm⟩
  · exact Evs.ite_pos c (Evs.some_ _)
  have hc := cnt3' (ht.sl 2)
  have sp := specCode_ev (ht.sl 3) hc
  have im := implCode_ev hc
  have hl := codeV_le hc
  have eqc := eqInsS_refl (codeV ts) (by omega)
  obtain ⟨b, hb, b0, _⟩ := hm 1 (by omega) (by omega)
  have hb : Ev (fun k => laws_markStmtS.f k ts 1) b := hb
  have mi := markInsS_ev (codeV ts) (by omega)
  have he := heldInsS_ev (codeV ts).length (by omega)
  refine Evs.ite_neg (by omega) (Evs.bind ht.1 (Evs.bind sp (Evs.bind ht.1 (Evs.bind im (Evs.bind eqc (Evs.ite_pos rfl (Evs.bind ht.1 (Evs.bind ht.eq (Evs.ite_pos rfl (Evs.bind hb (Evs.ite_neg (by omega) (Evs.bind eqc ?_))))))))))))
  refine Evs.succ (fun k => by simp only [laws_FnExactCodeOf.j0]; rfl) ?_
  exact Evs.ite_neg (by simp) (Evs.bind mi (Evs.bind he (Evs.ite_neg (by omega) (Evs.ite_pos rfl (Evs.bind ht.1 (Evs.bind im (Evs.bind eqc (Evs.ite_pos rfl (Evs.bind he (Evs.ite_neg (by omega) (Evs.ite_pos rfl (Evs.some_ _))))))))))))
end Go.Proofs.Ytoekjehgnakffaa.Pure
