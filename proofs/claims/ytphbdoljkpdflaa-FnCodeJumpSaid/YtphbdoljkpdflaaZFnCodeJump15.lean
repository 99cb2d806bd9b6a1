/- Parts of the proof of FnCodeJump: plain Lean functions of Go functions, and that the calls come to what they say; no condition beyond those that each theorem names. -/
import Derived.Test.YtphbdoljkpdflaaZFnCodeJump4
import Derived.Test.YtphbdoljkpdflaaZFnCodeJump6
import Derived.Test.YtphbdoljkpdflaaZFnCodeJump8
import Derived.Test.YtphbdoljkpdflaaZFnCodeJump11
import Derived.Test.YtphbdoljkpdflaaZFnCodeJump14
namespace Go.Proofs.Ytphbdoljkpdflaa.P
open Go.RowKit Go.Proofs.YtphbdoljkpdflaaW.PrintWords Go.Proofs.YtphbdoljkpdflaaW.PrintLast Go.Proofs.YtphbdoljkpdflaaW.PrintMore
attribute [local go_sem] max2_int min2_int max_two min_two max_three min_three max_four min_four
set_option linter.unusedVariables false
set_option linter.unusedSimpArgs false
def impl_CodeOf.f (k : Nat) (l0 : List (S46)) : Option ((List (S42))) := (impl_StmtsOk.f k l0).bind fun t358 => (if t358 = true then ((impl_codeOf.f k l0).bind fun t359 => (some t359)) else (some ([] : List (S42))))
set_option maxHeartbeats 8000000 in
set_option maxRecDepth 100000 in
theorem impl_CodeOf.calls (k : Nat) (A0 : Option Addr) (c0 : Nat) (l0 : List (S46)) (r : List (S42)) (w : World) (hr0 : Kd.C k46 w A0 l0.length l0) (hc0 : l0.length ≤ c0) (h : impl_CodeOf.f k l0 = some r) :
    Calls Try.prog 20 #[.slice A0 l0.length c0] w fun e w' => ∃ v0_ : Value, e = .returned (v0_) ∧ Kd.R k42 42 w' w.heap.size (fun _ => True) v0_ r ∧ Below w.heap.size w w' := by
  have HR0 := Aside0.mk hr0; have HC0 := Aside0.mk hc0; clear hr0 hc0; have HB := Aside0.mk (Below.refl w.heap.size w); have H : ((impl_StmtsOk.f k l0).bind fun t358 => (if t358 = true then ((impl_codeOf.f k l0).bind fun t359 => (some t359)) else (some ([] : List (S42))))) = some r := h; clear h; replace H := Option.bind_eq_some_iff.mp H; obtain ⟨t358, A20, H⟩ := H; replace H : (if t358 = true then ((impl_codeOf.f k l0).bind fun t359 => (some t359)) else (some ([] : List (S42)))) = some r := H; have A2 := Aside0.mk A20; clear A20
  by_cases c3 : t358 = true
  · subst c3
    have H1 : ((impl_codeOf.f k l0).bind fun t359 => (some t359)) = some r := by rw [if_pos rfl] at H; exact H
    clear H; have H := H1; clear H1; replace H := Option.bind_eq_some_iff.mp H; obtain ⟨t359, A40, H⟩ := H; replace H : (some t359) = some r := H; have A4 := Aside0.mk A40; clear A40; obtain rfl := Option.some.inj H; go_enter Try.func20, Try.ntmps20
    go_wp2_with (first | ((with_reducible refine gate_callee (f := 29) rfl ?_); refine goesM_ (some 4) Try.func29 #[.slice A0 l0.length c0] ?_; (with_reducible refine (impl_StmtsOk.calls k _ _ l0 true _ ?side1 ?side2 A2.out).mono ?_); (case side1 => repeat (first | exact HR0.out | (with_reducible refine Kd.C_alloc ?_ _) | (with_reducible refine Kd.C_drewN ?_ _) | (with_reducible refine Kd.C_drew ?_))); (case side2 => exact HC0.out); rintro e w5 ⟨rfl, hb⟩; refine ⟨_, rfl, ?_⟩; have n0_ := Aside0.mk (below_step (q0_ HB) hb); clear HB; have HB := n0_; clear n0_; (try clear hb); (try clear hb2); (try clear hk); (try clear hi)) | ((with_reducible refine gate_callee (f := 42) rfl ?_); refine goesM_ (some 7) Try.func42 #[.slice A0 l0.length c0] ?_; (with_reducible refine (impl_codeOf.calls k _ _ l0 t359 _ ?side1 ?side2 A4.out).mono ?_); (case side1 => repeat (first | exact (Kd.C_below HR0.out HB.out) | (with_reducible refine Kd.C_alloc ?_ _) | (with_reducible refine Kd.C_drewN ?_ _) | (with_reducible refine Kd.C_drew ?_))); (case side2 => exact HC0.out); rintro e w6 ⟨v360, rfl, ho0, hb⟩; refine ⟨_, rfl, ?_⟩; have n0_ := Aside0.mk (Kd.R_lower ho0 (below_size (q0_ HB))); have n1_ := Aside0.mk (below_step (q0_ HB) hb); clear HB; have HO361 := n0_; have HB := n1_; clear n0_ n1_; (try clear hb); (try clear hb2); (try clear hk); (try clear hi); (try clear ho0)))
    go_ret
    exact ⟨_, by first | rfl | (simp [errW_none, errW_some] <;> rfl) | (simp [*, errW_none, errW_some] <;> rfl), by (with_reducible repeat (first | apply Kd.R_alloc | apply Kd.R_drewN | apply Kd.R_drew)); exact HO361.out, by repeat (first | (with_reducible first | exact HB.out | apply below_alloc | apply pw_below_drewN | apply below_drew1) | exact HB.out)⟩
  · replace c3 := Bool.eq_false_iff.mpr c3; subst c3
    have H1 : (some ([] : List (S42))) = some r := by rw [if_neg (show ¬ (false = true) by decide)] at H; exact H
    clear H; have H := H1; clear H1; obtain rfl := Option.some.inj H; go_enter Try.func20, Try.ntmps20
    go_wp2_with (first | ((with_reducible refine gate_callee (f := 29) rfl ?_); refine goesM_ (some 4) Try.func29 #[.slice A0 l0.length c0] ?_; (with_reducible refine (impl_StmtsOk.calls k _ _ l0 false _ ?side1 ?side2 A2.out).mono ?_); (case side1 => repeat (first | exact HR0.out | (with_reducible refine Kd.C_alloc ?_ _) | (with_reducible refine Kd.C_drewN ?_ _) | (with_reducible refine Kd.C_drew ?_))); (case side2 => exact HC0.out); rintro e w7 ⟨rfl, hb⟩; refine ⟨_, rfl, ?_⟩; have n0_ := Aside0.mk (below_step (q0_ HB) hb); clear HB; have HB := n0_; clear n0_; (try clear hb); (try clear hb2); (try clear hk); (try clear hi)))
    go_ret
    exact ⟨_, by first | rfl | (simp [errW_none, errW_some] <;> rfl) | (simp [*, errW_none, errW_some] <;> rfl), by first | exact Kd.R_nil _ _ _ _ _ | exact Kd.N_nil _ _ _ _ _ | exact Kd.V_nil _ _ _ _ _ | exact Kd.Q_nil _ _ _ _ _ | exact Kd.S_nil _ _ _ _ _, by repeat (first | (with_reducible first | exact HB.out | apply below_alloc | apply pw_below_drewN | apply below_drew1) | exact HB.out)⟩
end Go.Proofs.Ytphbdoljkpdflaa.P

namespace Go.Proofs.Ytphbdoljkpdflaa.P
open Go.RowKit Go.Proofs.YtphbdoljkpdflaaW.PrintWords Go.Proofs.YtphbdoljkpdflaaW.PrintLast Go.Proofs.YtphbdoljkpdflaaW.PrintMore
attribute [local go_sem] max2_int min2_int max_two min_two max_three min_three max_four min_four
set_option linter.unusedVariables false
set_option linter.unusedSimpArgs false
def laws_FnCodeJump.l0 : Nat → List (S42) → Int → Int → Int → Option (Bool)
  | 0, _, _, _, _ => none
  | k + 1, x4, x5, x6, x7 => if x7 < (x4.length : Int) then (if 0 ≤ x7 then (if ((rd_T42 x4 x7).f0) = 6 then (if ((rd_T42 x4 x7).f3) ≤ x7 then (some false) else (if ((rd_T42 x4 x7).f3) ≥ (x4.length : Int) then (some false) else (if 0 ≤ (wrap64 (((rd_T42 x4 x7).f3) - 1)) then (if (wrap64 (((rd_T42 x4 x7).f3) - 1)) < (x4.length : Int) then (if ((rd_T42 x4 (wrap64 (((rd_T42 x4 x7).f3) - 1))).f0) = 7 then (laws_FnCodeJump.l0 k x4 (wrap64 (x5 + 1)) x6 (wrap64 (x7 + 1))) else (some false)) else (none)) else (none)))) else (if ((rd_T42 x4 x7).f0) = 7 then (if ((rd_T42 x4 x7).f3) = x7 then (some false) else (if ((rd_T42 x4 x7).f3) < x7 then (if 0 ≤ ((rd_T42 x4 x7).f3) then (if ((rd_T42 x4 x7).f3) < (x4.length : Int) then (if ((rd_T42 x4 ((rd_T42 x4 x7).f3)).f0) = 6 then (laws_FnCodeJump.l0 k x4 x5 (wrap64 (x6 + 1)) (wrap64 (x7 + 1))) else (some false)) else (none)) else (none)) else (laws_FnCodeJump.l0 k x4 x5 (wrap64 (x6 + 1)) (wrap64 (x7 + 1))))) else (laws_FnCodeJump.l0 k x4 x5 x6 (wrap64 (x7 + 1))))) else (none)) else (some (x5 == x6))
def laws_FnCodeJump.f (k : Nat) (l0 : List Int) : Option (Bool) := if (l0.length : Int) > 1048576 then (some true) else ((spec_DrawCodeOf.f k l0).bind fun t608 => ((impl_CodeOf.f k t608).bind fun t611 => ((spec_CodeOf.f k t608).bind fun t614 => ((impl_CodeSame.f k t611 t614).bind fun t617 => (if t617 = true then (laws_FnCodeJump.l0 k t611 0 0 0) else (some false))))))
set_option maxHeartbeats 8000000 in
set_option maxRecDepth 100000 in
theorem laws_FnCodeJump.calls (k : Nat) (A0 : Option Addr) (c0 : Nat) (l0 : List Int) (r : Bool) (w : World) (hr0 : Kd.C (Kd.int .u8) w A0 l0.length l0) (hc0 : l0.length ≤ c0) (h : laws_FnCodeJump.f k l0 = some r) :
    Calls Try.prog 6 #[.slice A0 l0.length c0] w fun e w' => e = .returned (.bool r) ∧ Below w.heap.size w w' := by
  have HR0 := Aside0.mk hr0; have HC0 := Aside0.mk hc0; clear hr0 hc0; have HB := Aside0.mk (Below.refl w.heap.size w); have H : (if (l0.length : Int) > 1048576 then (some true) else ((spec_DrawCodeOf.f k l0).bind fun t608 => ((impl_CodeOf.f k t608).bind fun t611 => ((spec_CodeOf.f k t608).bind fun t614 => ((impl_CodeSame.f k t611 t614).bind fun t617 => (if t617 = true then (laws_FnCodeJump.l0 k t611 0 0 0) else (some false))))))) = some r := h; clear h
  by_cases c2 : (l0.length : Int) > 1048576
  · rw [if_pos c2] at H; have c2b0 : decide (1048576 < (l0.length : Int)) = true := decide_eq_true c2
    have c2b1 : decide (1048576 < l0.length) = true := decide_eq_true (by omega)
    clear c2; obtain rfl := Option.some.inj H; go_enter Try.func6, Try.ntmps6
    go_wp2
    go_ret
    exact ⟨by first | rfl | (simp [errW_none, errW_some] <;> rfl) | (simp [*, errW_none, errW_some] <;> rfl), by repeat (first | (with_reducible first | exact HB.out | apply below_alloc | apply pw_below_drewN | apply below_drew1) | exact HB.out)⟩
  · rw [if_neg c2] at H; have c2b0 : decide (1048576 < (l0.length : Int)) = false := decide_eq_false c2
    have c2b1 : decide (1048576 < l0.length) = false := decide_eq_false (by omega)
    clear c2; replace H := Option.bind_eq_some_iff.mp H; obtain ⟨t608, A30, H⟩ := H; replace H : ((impl_CodeOf.f k t608).bind fun t611 => ((spec_CodeOf.f k t608).bind fun t614 => ((impl_CodeSame.f k t611 t614).bind fun t617 => (if t617 = true then (laws_FnCodeJump.l0 k t611 0 0 0) else (some false))))) = some r := H; have A3 := Aside0.mk A30; clear A30; replace H := Option.bind_eq_some_iff.mp H; obtain ⟨t611, A40, H⟩ := H; replace H : ((spec_CodeOf.f k t608).bind fun t614 => ((impl_CodeSame.f k t611 t614).bind fun t617 => (if t617 = true then (laws_FnCodeJump.l0 k t611 0 0 0) else (some false)))) = some r := H; have A4 := Aside0.mk A40; clear A40; replace H := Option.bind_eq_some_iff.mp H; obtain ⟨t614, A50, H⟩ := H; replace H : ((impl_CodeSame.f k t611 t614).bind fun t617 => (if t617 = true then (laws_FnCodeJump.l0 k t611 0 0 0) else (some false))) = some r := H; have A5 := Aside0.mk A50; clear A50; replace H := Option.bind_eq_some_iff.mp H; obtain ⟨t617, A60, H⟩ := H; replace H : (if t617 = true then (laws_FnCodeJump.l0 k t611 0 0 0) else (some false)) = some r := H; have A6 := Aside0.mk A60; clear A60
    by_cases c7 : t617 = true
    · subst c7
      have H1 : (laws_FnCodeJump.l0 k t611 0 0 0) = some r := by rw [if_pos rfl] at H; exact H
      clear H; have H := H1; clear H1; have H' := Aside0.mk H; clear H; go_enter Try.func6, Try.ntmps6
      go_wp2_with (first | ((with_reducible refine gate_callee (f := 25) rfl ?_); refine goesM_ (some 12) Try.func25 #[.slice A0 l0.length c0] ?_; (with_reducible refine (spec_DrawCodeOf.calls k _ _ l0 t608 _ ?side1 ?side2 A3.out).mono ?_); (case side1 => repeat (first | exact HR0.out | (with_reducible refine Kd.C_alloc ?_ _) | (with_reducible refine Kd.C_drewN ?_ _) | (with_reducible refine Kd.C_drew ?_))); (case side2 => exact HC0.out); rintro e w8 ⟨v609, rfl, ho0, hb⟩; refine ⟨_, rfl, ?_⟩; have n0_ := Aside0.mk (Kd.N_lower (Kd.N_mono (ok' := fun k_ => True) ho0 (fun k_ hk_ => trivial)) (below_size (q0_ HB))); have n1_ := Aside0.mk (below_step (q0_ HB) hb); clear HB; have HO610 := n0_; have HB := n1_; clear n0_ n1_; (try clear hb); (try clear hb2); (try clear hk); (try clear hi); (try clear ho0); obtain ⟨Ao9, co9, eo9⟩ := Kd.N_slice HO610.out; subst eo9) | ((with_reducible refine gate_callee (f := 20) rfl ?_); refine goesM_ (some 14) Try.func20 #[.slice Ao9 t608.length co9] ?_; (with_reducible refine (impl_CodeOf.calls k _ _ t608 t611 _ ?side1 ?side2 A4.out).mono ?_); (case side1 => repeat (first | exact (Kd.N_reads' HO610.out).2.2 | (with_reducible refine Kd.C_alloc ?_ _) | (with_reducible refine Kd.C_drewN ?_ _) | (with_reducible refine Kd.C_drew ?_))); (case side2 => exact (Kd.N_reads' HO610.out).2.1); rintro e w10 ⟨v612, rfl, ho0, hb⟩; refine ⟨_, rfl, ?_⟩; have n0_ := Aside0.mk (Kd.N_elder' (q15_ HO610) (Kd.R_base ho0) hb); have n1_ := Aside0.mk (Kd.R_lower ho0 (below_size (q0_ HB))); have n2_ := Aside0.mk (below_step (q0_ HB) hb); clear HO610; clear HB; have HO610 := n0_; have HO613 := n1_; have HB := n2_; clear n0_ n1_ n2_; (try clear hb); (try clear hb2); (try clear hk); (try clear hi); (try clear ho0)) | ((with_reducible refine gate_callee (f := 18) rfl ?_); refine goesM_ (some 17) Try.func18 #[.slice Ao9 t608.length co9] ?_; (with_reducible refine (spec_CodeOf.calls k _ _ t608 t614 _ ?side1 ?side2 A5.out).mono ?_); (case side1 => repeat (first | exact (Kd.N_reads' HO610.out).2.2 | (with_reducible refine Kd.C_alloc ?_ _) | (with_reducible refine Kd.C_drewN ?_ _) | (with_reducible refine Kd.C_drew ?_))); (case side2 => exact (Kd.N_reads' HO610.out).2.1); rintro e w11 ⟨v615, rfl, ho0, hb⟩; refine ⟨_, rfl, ?_⟩; have n0_ := Aside0.mk (Kd.N_elder' (q15_ HO610) (Kd.R_base ho0) hb); have n1_ := Aside0.mk (Kd.R_elder' (q3_ HO613) (Kd.R_base ho0) hb); have n2_ := Aside0.mk (Kd.R_lower (Kd.R_new' ho0 (Kd.R_lt (q3_ HO613))) (below_size (q0_ HB))); have n3_ := Aside0.mk (below_step (q0_ HB) hb); clear HO610; clear HO613; clear HB; have HO610 := n0_; have HO613 := n1_; have HO616 := n2_; have HB := n3_; clear n0_ n1_ n2_ n3_; (try clear hb); (try clear hb2); (try clear hk); (try clear hi); (try clear ho0); obtain ⟨Ao12, co12, eo12⟩ := Kd.R_slice HO613.out; subst eo12; obtain ⟨Ao13, co13, eo13⟩ := Kd.R_slice HO616.out; subst eo13) | ((with_reducible refine gate_callee (f := 26) rfl ?_); refine goesM_ (some 18) Try.func26 #[.slice Ao12 t611.length co12, .slice Ao13 t614.length co13] ?_; (with_reducible refine (impl_CodeSame.calls k _ _ t611 _ _ t614 true _ ?side1 ?side2 ?side3 ?side4 A6.out).mono ?_); (case side1 => repeat (first | exact (Kd.R_reads' HO613.out).2.2 | (with_reducible refine Kd.C_alloc ?_ _) | (with_reducible refine Kd.C_drewN ?_ _) | (with_reducible refine Kd.C_drew ?_))); (case side2 => exact (Kd.R_reads' HO613.out).2.1); (case side3 => repeat (first | exact (Kd.R_reads' HO616.out).2.2 | (with_reducible refine Kd.C_alloc ?_ _) | (with_reducible refine Kd.C_drewN ?_ _) | (with_reducible refine Kd.C_drew ?_))); (case side4 => exact (Kd.R_reads' HO616.out).2.1); rintro e w' ⟨rfl, ⟨nd, rfl⟩⟩; refine ⟨_, rfl, ?_⟩))
      go_loopg [5, 6, 7] k (fun kq v5 v6 v7 w' => ∃ (x5_1 : Int) (x6_1 : Int) (x7_1 : Int), v5 = .int .i64 x5_1 ∧ v6 = .int .i64 x6_1 ∧ v7 = .int .i64 x7_1 ∧ Aside0 (laws_FnCodeJump.l0 kq t611 x5_1 x6_1 x7_1 = some r) ∧ Aside0 (kq ≤ k) ∧ Aside0 (Kd.R k42 42 w' w.heap.size (fun _ => True) (.slice Ao12 t611.length co12) t611) ∧ Aside0 (Below w.heap.size w w'))
      case atStart => exact ⟨(0), (0), (0), (by first | rfl | (simp; done) | (simp [*]; done)), (by first | rfl | (simp; done) | (simp [*]; done)), (by first | rfl | (simp; done) | (simp [*]; done)), H', ⟨Nat.le_refl _⟩, ⟨by (with_reducible repeat (first | apply Kd.R_alloc | apply Kd.R_drewN | apply Kd.R_drew)); exact Kd.R_mono HO613.out (fun _ hk => trivial)⟩, ⟨by repeat (first | (with_reducible first | exact HB.out | apply below_alloc | apply pw_below_drewN | apply below_drew1) | exact HB.out)⟩⟩
      case round =>
        clear H'; (try clear c1); (try clear c2); (try clear c2b0); (try clear c2b1); (try clear p2); (try clear c6); (try clear c7); obtain ⟨x5_1, x6_1, x7_1, rfl, rfl, rfl, HA, HK1, HO_4, HB⟩ := hrel
        cases gk with
        | zero => exact absurd HA.out (by simp [laws_FnCodeJump.l0])
        | succ k1 =>
          have H := HA.out; clear HA; simp only [laws_FnCodeJump.l0] at H
          by_cases c14 : x7_1 < (t611.length : Int)
          · rw [if_pos c14] at H; have c14b0 : decide (x7_1 < (t611.length : Int)) = true := decide_eq_true c14; clear c14
            by_cases c15 : 0 ≤ x7_1
            · rw [if_pos c15] at H; have c15b0 : decide (0 ≤ x7_1) = true := decide_eq_true c15; clear c15
              by_cases c16 : ((rd_T42 t611 x7_1).f0) = 6
              · rw [if_pos c16] at H; have c16b0 : (((rd_T42 t611 x7_1).f0) == 6) = true := beq_iff_eq.mpr c16; have c16b1 : (((rd_T42 t611 x7_1).f0) != 6) = false := bne_eq_false_iff_eq.mpr c16; clear c16
                by_cases c17 : ((rd_T42 t611 x7_1).f3) ≤ x7_1
                · rw [if_pos c17] at H; have c17b0 : decide (((rd_T42 t611 x7_1).f3) ≤ x7_1) = true := decide_eq_true c17; clear c17; obtain rfl := Option.some.inj H
                  have p618 : 0 ≤ (x7_1 : Int) := of_decide_eq_true (by first | (with_reducible assumption) | assumption)
                  have q618 : x7_1 < (t611.length : Int) := of_decide_eq_true (by first | (with_reducible assumption) | assumption)
                  obtain ⟨ad618, e618, hx618_0, hx618_1, hx618_2, hx618_3⟩ := at_T42 (Kd.R_reads' HO_4.out).2.2 x7_1 p618 q618
                  cases e618
                  replace p618 := eq_true p618; replace q618 := eq_true q618
                  have p619 : 0 ≤ (x7_1 : Int) := of_decide_eq_true (by first | (with_reducible assumption) | assumption)
                  have q619 : x7_1 < (t611.length : Int) := of_decide_eq_true (by first | (with_reducible assumption) | assumption)
                  obtain ⟨ad619, e619, hx619_0, hx619_1, hx619_2, hx619_3⟩ := at_T42 (Kd.R_reads' HO_4.out).2.2 x7_1 p619 q619
                  obtain rfl : ad618 = ad619 := (by injection e619)
                  replace p619 := eq_true p619; replace q619 := eq_true q619
                  go_wp2
                  go_ret
                  exact ⟨by first | rfl | (simp [errW_none, errW_some] <;> rfl) | (simp [*, errW_none, errW_some] <;> rfl), by repeat (first | (with_reducible first | exact HB.out | apply below_alloc | apply pw_below_drewN | apply below_drew1) | exact HB.out)⟩
                · rw [if_neg c17] at H; have c17b0 : decide (((rd_T42 t611 x7_1).f3) ≤ x7_1) = false := decide_eq_false c17; clear c17
                  by_cases c18 : ((rd_T42 t611 x7_1).f3) ≥ (t611.length : Int)
                  · rw [if_pos c18] at H; have c18b0 : decide ((t611.length : Int) ≤ ((rd_T42 t611 x7_1).f3)) = true := decide_eq_true c18; clear c18; obtain rfl := Option.some.inj H
                    have p618 : 0 ≤ (x7_1 : Int) := of_decide_eq_true (by first | (with_reducible assumption) | assumption)
                    have q618 : x7_1 < (t611.length : Int) := of_decide_eq_true (by first | (with_reducible assumption) | assumption)
                    obtain ⟨ad618, e618, hx618_0, hx618_1, hx618_2, hx618_3⟩ := at_T42 (Kd.R_reads' HO_4.out).2.2 x7_1 p618 q618
                    cases e618
                    replace p618 := eq_true p618; replace q618 := eq_true q618
                    have p619 : 0 ≤ (x7_1 : Int) := of_decide_eq_true (by first | (with_reducible assumption) | assumption)
                    have q619 : x7_1 < (t611.length : Int) := of_decide_eq_true (by first | (with_reducible assumption) | assumption)
                    obtain ⟨ad619, e619, hx619_0, hx619_1, hx619_2, hx619_3⟩ := at_T42 (Kd.R_reads' HO_4.out).2.2 x7_1 p619 q619
                    obtain rfl : ad618 = ad619 := (by injection e619)
                    replace p619 := eq_true p619; replace q619 := eq_true q619
                    have p620 : 0 ≤ (x7_1 : Int) := of_decide_eq_true (by first | (with_reducible assumption) | assumption)
                    have q620 : x7_1 < (t611.length : Int) := of_decide_eq_true (by first | (with_reducible assumption) | assumption)
                    obtain ⟨ad620, e620, hx620_0, hx620_1, hx620_2, hx620_3⟩ := at_T42 (Kd.R_reads' HO_4.out).2.2 x7_1 p620 q620
                    obtain rfl : ad618 = ad620 := (by injection e620)
                    replace p620 := eq_true p620; replace q620 := eq_true q620
                    go_wp2
                    go_ret
                    exact ⟨by first | rfl | (simp [errW_none, errW_some] <;> rfl) | (simp [*, errW_none, errW_some] <;> rfl), by repeat (first | (with_reducible first | exact HB.out | apply below_alloc | apply pw_below_drewN | apply below_drew1) | exact HB.out)⟩
                  · rw [if_neg c18] at H; have c18b0 : decide ((t611.length : Int) ≤ ((rd_T42 t611 x7_1).f3)) = false := decide_eq_false c18; clear c18; obtain ⟨ji19, hji19⟩ : ∃ j_ : Int, (wrap64 (((rd_T42 t611 x7_1).f3) - 1)) = j_ := ⟨_, rfl⟩
                    replace H : (if 0 ≤ (ji19) then (if (ji19) < (t611.length : Int) then (if ((rd_T42 t611 (ji19)).f0) = 7 then (laws_FnCodeJump.l0 k1 t611 (wrap64 (x5_1 + 1)) x6_1 (wrap64 (x7_1 + 1))) else (some false)) else (none)) else (none)) = some r := by first | (rw [hji19] at H; exact H) | (simp only [hji19] at H ⊢; exact H)
                    have hji19w : (IntKind.i64.wrap (((rd_T42 t611 x7_1).f3) - 1)) = ji19 := (i64_w _).trans hji19
                    by_cases c20 : 0 ≤ (ji19)
                    · rw [if_pos c20] at H; have c20b0 : decide (0 ≤ (ji19)) = true := decide_eq_true c20; clear c20
                      by_cases c21 : (ji19) < (t611.length : Int)
                      · rw [if_pos c21] at H; have c21b0 : decide ((ji19) < (t611.length : Int)) = true := decide_eq_true c21; clear c21
                        by_cases c22 : ((rd_T42 t611 (ji19)).f0) = 7
                        · rw [if_pos c22] at H; have c22b0 : (((rd_T42 t611 (ji19)).f0) == 7) = true := beq_iff_eq.mpr c22; have c22b1 : (((rd_T42 t611 (ji19)).f0) != 7) = false := bne_eq_false_iff_eq.mpr c22; clear c22; have H' := Aside0.mk H; clear H
                          have p618 : 0 ≤ (x7_1 : Int) := of_decide_eq_true (by first | (with_reducible assumption) | assumption)
                          have q618 : x7_1 < (t611.length : Int) := of_decide_eq_true (by first | (with_reducible assumption) | assumption)
                          obtain ⟨ad618, e618, hx618_0, hx618_1, hx618_2, hx618_3⟩ := at_T42 (Kd.R_reads' HO_4.out).2.2 x7_1 p618 q618
                          cases e618
                          replace p618 := eq_true p618; replace q618 := eq_true q618
                          have p619 : 0 ≤ (x7_1 : Int) := of_decide_eq_true (by first | (with_reducible assumption) | assumption)
                          have q619 : x7_1 < (t611.length : Int) := of_decide_eq_true (by first | (with_reducible assumption) | assumption)
                          obtain ⟨ad619, e619, hx619_0, hx619_1, hx619_2, hx619_3⟩ := at_T42 (Kd.R_reads' HO_4.out).2.2 x7_1 p619 q619
                          obtain rfl : ad618 = ad619 := (by injection e619)
                          replace p619 := eq_true p619; replace q619 := eq_true q619
                          have p620 : 0 ≤ (x7_1 : Int) := of_decide_eq_true (by first | (with_reducible assumption) | assumption)
                          have q620 : x7_1 < (t611.length : Int) := of_decide_eq_true (by first | (with_reducible assumption) | assumption)
                          obtain ⟨ad620, e620, hx620_0, hx620_1, hx620_2, hx620_3⟩ := at_T42 (Kd.R_reads' HO_4.out).2.2 x7_1 p620 q620
                          obtain rfl : ad618 = ad620 := (by injection e620)
                          replace p620 := eq_true p620; replace q620 := eq_true q620
                          have p621 : 0 ≤ (x7_1 : Int) := of_decide_eq_true (by first | (with_reducible assumption) | assumption)
                          have q621 : x7_1 < (t611.length : Int) := of_decide_eq_true (by first | (with_reducible assumption) | assumption)
                          obtain ⟨ad621, e621, hx621_0, hx621_1, hx621_2, hx621_3⟩ := at_T42 (Kd.R_reads' HO_4.out).2.2 x7_1 p621 q621
                          obtain rfl : ad618 = ad621 := (by injection e621)
                          replace p621 := eq_true p621; replace q621 := eq_true q621
                          have p622 : 0 ≤ ((ji19) : Int) := of_decide_eq_true (by first | (with_reducible assumption) | assumption)
                          have q622 : (ji19) < (t611.length : Int) := of_decide_eq_true (by first | (with_reducible assumption) | assumption)
                          obtain ⟨ad622, e622, hx622_0, hx622_1, hx622_2, hx622_3⟩ := at_T42 (Kd.R_reads' HO_4.out).2.2 (ji19) p622 q622
                          obtain rfl : ad618 = ad622 := (by injection e622)
                          replace p622 := eq_true p622; replace q622 := eq_true q622
                          go_wp2
                          go_roundg k1
                          case measure => have := HK1.out; omega
                          case rel => exact ⟨(wrap64 (x5_1 + 1)), (x6_1), (wrap64 (x7_1 + 1)), (by first | rfl | (simp; done) | (simp [*]; done)), (by first | rfl | (simp; done) | (simp [*]; done)), (by first | rfl | (simp; done) | (simp [*]; done)), H', ⟨by have := HK1.out; omega⟩, ⟨by (with_reducible repeat (first | apply Kd.R_alloc | apply Kd.R_drewN | apply Kd.R_drew)); exact HO_4.out⟩, ⟨by repeat (first | (with_reducible first | exact HB.out | apply below_alloc | apply pw_below_drewN | apply below_drew1) | exact HB.out)⟩⟩
                        · rw [if_neg c22] at H; have c22b0 : (((rd_T42 t611 (ji19)).f0) == 7) = false := beq_eq_false_iff_ne.mpr c22; have c22b1 : (((rd_T42 t611 (ji19)).f0) != 7) = true := bne_iff_ne.mpr c22; obtain rfl := Option.some.inj H
                          have p618 : 0 ≤ (x7_1 : Int) := of_decide_eq_true (by first | (with_reducible assumption) | assumption)
                          have q618 : x7_1 < (t611.length : Int) := of_decide_eq_true (by first | (with_reducible assumption) | assumption)
                          obtain ⟨ad618, e618, hx618_0, hx618_1, hx618_2, hx618_3⟩ := at_T42 (Kd.R_reads' HO_4.out).2.2 x7_1 p618 q618
                          cases e618
                          replace p618 := eq_true p618; replace q618 := eq_true q618
                          have p619 : 0 ≤ (x7_1 : Int) := of_decide_eq_true (by first | (with_reducible assumption) | assumption)
                          have q619 : x7_1 < (t611.length : Int) := of_decide_eq_true (by first | (with_reducible assumption) | assumption)
                          obtain ⟨ad619, e619, hx619_0, hx619_1, hx619_2, hx619_3⟩ := at_T42 (Kd.R_reads' HO_4.out).2.2 x7_1 p619 q619
                          obtain rfl : ad618 = ad619 := (by injection e619)
                          replace p619 := eq_true p619; replace q619 := eq_true q619
                          have p620 : 0 ≤ (x7_1 : Int) := of_decide_eq_true (by first | (with_reducible assumption) | assumption)
                          have q620 : x7_1 < (t611.length : Int) := of_decide_eq_true (by first | (with_reducible assumption) | assumption)
                          obtain ⟨ad620, e620, hx620_0, hx620_1, hx620_2, hx620_3⟩ := at_T42 (Kd.R_reads' HO_4.out).2.2 x7_1 p620 q620
                          obtain rfl : ad618 = ad620 := (by injection e620)
                          replace p620 := eq_true p620; replace q620 := eq_true q620
                          have p621 : 0 ≤ (x7_1 : Int) := of_decide_eq_true (by first | (with_reducible assumption) | assumption)
                          have q621 : x7_1 < (t611.length : Int) := of_decide_eq_true (by first | (with_reducible assumption) | assumption)
                          obtain ⟨ad621, e621, hx621_0, hx621_1, hx621_2, hx621_3⟩ := at_T42 (Kd.R_reads' HO_4.out).2.2 x7_1 p621 q621
                          obtain rfl : ad618 = ad621 := (by injection e621)
                          replace p621 := eq_true p621; replace q621 := eq_true q621
                          have p622 : 0 ≤ ((ji19) : Int) := of_decide_eq_true (by first | (with_reducible assumption) | assumption)
                          have q622 : (ji19) < (t611.length : Int) := of_decide_eq_true (by first | (with_reducible assumption) | assumption)
                          obtain ⟨ad622, e622, hx622_0, hx622_1, hx622_2, hx622_3⟩ := at_T42 (Kd.R_reads' HO_4.out).2.2 (ji19) p622 q622
                          obtain rfl : ad618 = ad622 := (by injection e622)
                          replace p622 := eq_true p622; replace q622 := eq_true q622
                          go_wp2
                          go_ret
                          exact ⟨by first | rfl | (simp [errW_none, errW_some] <;> rfl) | (simp only [← hji19]; first | rfl | (simp [errW_none, errW_some] <;> rfl)) | (simp [*, errW_none, errW_some] <;> rfl), by repeat (first | (with_reducible first | exact HB.out | apply below_alloc | apply pw_below_drewN | apply below_drew1) | exact HB.out)⟩
                      · rw [if_neg c21] at H
                        exact absurd H (by simp)
                    · rw [if_neg c20] at H
                      exact absurd H (by simp)
              · rw [if_neg c16] at H; have c16b0 : (((rd_T42 t611 x7_1).f0) == 6) = false := beq_eq_false_iff_ne.mpr c16; have c16b1 : (((rd_T42 t611 x7_1).f0) != 6) = true := bne_iff_ne.mpr c16
                by_cases c23 : ((rd_T42 t611 x7_1).f0) = 7
                · rw [if_pos c23] at H; have c23b0 : (((rd_T42 t611 x7_1).f0) == 7) = true := beq_iff_eq.mpr c23; have c23b1 : (((rd_T42 t611 x7_1).f0) != 7) = false := bne_eq_false_iff_eq.mpr c23; clear c23
                  by_cases c24 : ((rd_T42 t611 x7_1).f3) = x7_1
                  · rw [if_pos c24] at H; have c24b0 : (((rd_T42 t611 x7_1).f3) == x7_1) = true := beq_iff_eq.mpr c24; have c24b1 : (((rd_T42 t611 x7_1).f3) != x7_1) = false := bne_eq_false_iff_eq.mpr c24; clear c24; obtain rfl := Option.some.inj H
                    have p618 : 0 ≤ (x7_1 : Int) := of_decide_eq_true (by first | (with_reducible assumption) | assumption)
                    have q618 : x7_1 < (t611.length : Int) := of_decide_eq_true (by first | (with_reducible assumption) | assumption)
                    obtain ⟨ad618, e618, hx618_0, hx618_1, hx618_2, hx618_3⟩ := at_T42 (Kd.R_reads' HO_4.out).2.2 x7_1 p618 q618
                    cases e618
                    replace p618 := eq_true p618; replace q618 := eq_true q618
                    have p623 : 0 ≤ (x7_1 : Int) := of_decide_eq_true (by first | (with_reducible assumption) | assumption)
                    have q623 : x7_1 < (t611.length : Int) := of_decide_eq_true (by first | (with_reducible assumption) | assumption)
                    obtain ⟨ad623, e623, hx623_0, hx623_1, hx623_2, hx623_3⟩ := at_T42 (Kd.R_reads' HO_4.out).2.2 x7_1 p623 q623
                    obtain rfl : ad618 = ad623 := (by injection e623)
                    replace p623 := eq_true p623; replace q623 := eq_true q623
                    go_wp2
                    go_ret
                    exact ⟨by first | rfl | (simp [errW_none, errW_some] <;> rfl) | (simp [*, errW_none, errW_some] <;> rfl), by repeat (first | (with_reducible first | exact HB.out | apply below_alloc | apply pw_below_drewN | apply below_drew1) | exact HB.out)⟩
                  · rw [if_neg c24] at H; have c24b0 : (((rd_T42 t611 x7_1).f3) == x7_1) = false := beq_eq_false_iff_ne.mpr c24; have c24b1 : (((rd_T42 t611 x7_1).f3) != x7_1) = true := bne_iff_ne.mpr c24
                    by_cases c25 : ((rd_T42 t611 x7_1).f3) < x7_1
                    · rw [if_pos c25] at H; have c25b0 : decide (((rd_T42 t611 x7_1).f3) < x7_1) = true := decide_eq_true c25; clear c25
                      by_cases c26 : 0 ≤ ((rd_T42 t611 x7_1).f3)
                      · rw [if_pos c26] at H; have c26b0 : decide (0 ≤ ((rd_T42 t611 x7_1).f3)) = true := decide_eq_true c26; clear c26
                        by_cases c27 : ((rd_T42 t611 x7_1).f3) < (t611.length : Int)
                        · rw [if_pos c27] at H; have c27b0 : decide (((rd_T42 t611 x7_1).f3) < (t611.length : Int)) = true := decide_eq_true c27; clear c27
                          by_cases c28 : ((rd_T42 t611 ((rd_T42 t611 x7_1).f3)).f0) = 6
                          · rw [if_pos c28] at H; have c28b0 : (((rd_T42 t611 ((rd_T42 t611 x7_1).f3)).f0) == 6) = true := beq_iff_eq.mpr c28; have c28b1 : (((rd_T42 t611 ((rd_T42 t611 x7_1).f3)).f0) != 6) = false := bne_eq_false_iff_eq.mpr c28; clear c28; have H' := Aside0.mk H; clear H
                            have p618 : 0 ≤ (x7_1 : Int) := of_decide_eq_true (by first | (with_reducible assumption) | assumption)
                            have q618 : x7_1 < (t611.length : Int) := of_decide_eq_true (by first | (with_reducible assumption) | assumption)
                            obtain ⟨ad618, e618, hx618_0, hx618_1, hx618_2, hx618_3⟩ := at_T42 (Kd.R_reads' HO_4.out).2.2 x7_1 p618 q618
                            cases e618
                            replace p618 := eq_true p618; replace q618 := eq_true q618
                            have p623 : 0 ≤ (x7_1 : Int) := of_decide_eq_true (by first | (with_reducible assumption) | assumption)
                            have q623 : x7_1 < (t611.length : Int) := of_decide_eq_true (by first | (with_reducible assumption) | assumption)
                            obtain ⟨ad623, e623, hx623_0, hx623_1, hx623_2, hx623_3⟩ := at_T42 (Kd.R_reads' HO_4.out).2.2 x7_1 p623 q623
                            obtain rfl : ad618 = ad623 := (by injection e623)
                            replace p623 := eq_true p623; replace q623 := eq_true q623
                            have p624 : 0 ≤ (x7_1 : Int) := of_decide_eq_true (by first | (with_reducible assumption) | assumption)
                            have q624 : x7_1 < (t611.length : Int) := of_decide_eq_true (by first | (with_reducible assumption) | assumption)
                            obtain ⟨ad624, e624, hx624_0, hx624_1, hx624_2, hx624_3⟩ := at_T42 (Kd.R_reads' HO_4.out).2.2 x7_1 p624 q624
                            obtain rfl : ad618 = ad624 := (by injection e624)
                            replace p624 := eq_true p624; replace q624 := eq_true q624
                            have p625 : 0 ≤ (x7_1 : Int) := of_decide_eq_true (by first | (with_reducible assumption) | assumption)
                            have q625 : x7_1 < (t611.length : Int) := of_decide_eq_true (by first | (with_reducible assumption) | assumption)
                            obtain ⟨ad625, e625, hx625_0, hx625_1, hx625_2, hx625_3⟩ := at_T42 (Kd.R_reads' HO_4.out).2.2 x7_1 p625 q625
                            obtain rfl : ad618 = ad625 := (by injection e625)
                            replace p625 := eq_true p625; replace q625 := eq_true q625
                            have p626 : 0 ≤ (((rd_T42 t611 x7_1).f3) : Int) := of_decide_eq_true (by first | (with_reducible assumption) | assumption)
                            have q626 : ((rd_T42 t611 x7_1).f3) < (t611.length : Int) := of_decide_eq_true (by first | (with_reducible assumption) | assumption)
                            obtain ⟨ad626, e626, hx626_0, hx626_1, hx626_2, hx626_3⟩ := at_T42 (Kd.R_reads' HO_4.out).2.2 ((rd_T42 t611 x7_1).f3) p626 q626
                            obtain rfl : ad618 = ad626 := (by injection e626)
                            replace p626 := eq_true p626; replace q626 := eq_true q626
                            go_wp2
                            go_roundg k1
                            case measure => have := HK1.out; omega
                            case rel => exact ⟨(x5_1), (wrap64 (x6_1 + 1)), (wrap64 (x7_1 + 1)), (by first | rfl | (simp; done) | (simp [*]; done)), (by first | rfl | (simp; done) | (simp [*]; done)), (by first | rfl | (simp; done) | (simp [*]; done)), H', ⟨by have := HK1.out; omega⟩, ⟨by (with_reducible repeat (first | apply Kd.R_alloc | apply Kd.R_drewN | apply Kd.R_drew)); exact HO_4.out⟩, ⟨by repeat (first | (with_reducible first | exact HB.out | apply below_alloc | apply pw_below_drewN | apply below_drew1) | exact HB.out)⟩⟩
                          · rw [if_neg c28] at H; have c28b0 : (((rd_T42 t611 ((rd_T42 t611 x7_1).f3)).f0) == 6) = false := beq_eq_false_iff_ne.mpr c28; have c28b1 : (((rd_T42 t611 ((rd_T42 t611 x7_1).f3)).f0) != 6) = true := bne_iff_ne.mpr c28; obtain rfl := Option.some.inj H
                            have p618 : 0 ≤ (x7_1 : Int) := of_decide_eq_true (by first | (with_reducible assumption) | assumption)
                            have q618 : x7_1 < (t611.length : Int) := of_decide_eq_true (by first | (with_reducible assumption) | assumption)
                            obtain ⟨ad618, e618, hx618_0, hx618_1, hx618_2, hx618_3⟩ := at_T42 (Kd.R_reads' HO_4.out).2.2 x7_1 p618 q618
                            cases e618
                            replace p618 := eq_true p618; replace q618 := eq_true q618
                            have p623 : 0 ≤ (x7_1 : Int) := of_decide_eq_true (by first | (with_reducible assumption) | assumption)
                            have q623 : x7_1 < (t611.length : Int) := of_decide_eq_true (by first | (with_reducible assumption) | assumption)
                            obtain ⟨ad623, e623, hx623_0, hx623_1, hx623_2, hx623_3⟩ := at_T42 (Kd.R_reads' HO_4.out).2.2 x7_1 p623 q623
                            obtain rfl : ad618 = ad623 := (by injection e623)
                            replace p623 := eq_true p623; replace q623 := eq_true q623
                            have p624 : 0 ≤ (x7_1 : Int) := of_decide_eq_true (by first | (with_reducible assumption) | assumption)
                            have q624 : x7_1 < (t611.length : Int) := of_decide_eq_true (by first | (with_reducible assumption) | assumption)
                            obtain ⟨ad624, e624, hx624_0, hx624_1, hx624_2, hx624_3⟩ := at_T42 (Kd.R_reads' HO_4.out).2.2 x7_1 p624 q624
                            obtain rfl : ad618 = ad624 := (by injection e624)
                            replace p624 := eq_true p624; replace q624 := eq_true q624
                            have p625 : 0 ≤ (x7_1 : Int) := of_decide_eq_true (by first | (with_reducible assumption) | assumption)
                            have q625 : x7_1 < (t611.length : Int) := of_decide_eq_true (by first | (with_reducible assumption) | assumption)
                            obtain ⟨ad625, e625, hx625_0, hx625_1, hx625_2, hx625_3⟩ := at_T42 (Kd.R_reads' HO_4.out).2.2 x7_1 p625 q625
                            obtain rfl : ad618 = ad625 := (by injection e625)
                            replace p625 := eq_true p625; replace q625 := eq_true q625
                            have p626 : 0 ≤ (((rd_T42 t611 x7_1).f3) : Int) := of_decide_eq_true (by first | (with_reducible assumption) | assumption)
                            have q626 : ((rd_T42 t611 x7_1).f3) < (t611.length : Int) := of_decide_eq_true (by first | (with_reducible assumption) | assumption)
                            obtain ⟨ad626, e626, hx626_0, hx626_1, hx626_2, hx626_3⟩ := at_T42 (Kd.R_reads' HO_4.out).2.2 ((rd_T42 t611 x7_1).f3) p626 q626
                            obtain rfl : ad618 = ad626 := (by injection e626)
                            replace p626 := eq_true p626; replace q626 := eq_true q626
                            go_wp2
                            go_ret
                            exact ⟨by first | rfl | (simp [errW_none, errW_some] <;> rfl) | (simp [*, errW_none, errW_some] <;> rfl), by repeat (first | (with_reducible first | exact HB.out | apply below_alloc | apply pw_below_drewN | apply below_drew1) | exact HB.out)⟩
                        · rw [if_neg c27] at H
                          exact absurd H (by simp)
                      · rw [if_neg c26] at H
                        exact absurd H (by simp)
                    · rw [if_neg c25] at H; have c25b0 : decide (((rd_T42 t611 x7_1).f3) < x7_1) = false := decide_eq_false c25; clear c25; have H' := Aside0.mk H; clear H
                      have p618 : 0 ≤ (x7_1 : Int) := of_decide_eq_true (by first | (with_reducible assumption) | assumption)
                      have q618 : x7_1 < (t611.length : Int) := of_decide_eq_true (by first | (with_reducible assumption) | assumption)
                      obtain ⟨ad618, e618, hx618_0, hx618_1, hx618_2, hx618_3⟩ := at_T42 (Kd.R_reads' HO_4.out).2.2 x7_1 p618 q618
                      cases e618
                      replace p618 := eq_true p618; replace q618 := eq_true q618
                      have p623 : 0 ≤ (x7_1 : Int) := of_decide_eq_true (by first | (with_reducible assumption) | assumption)
                      have q623 : x7_1 < (t611.length : Int) := of_decide_eq_true (by first | (with_reducible assumption) | assumption)
                      obtain ⟨ad623, e623, hx623_0, hx623_1, hx623_2, hx623_3⟩ := at_T42 (Kd.R_reads' HO_4.out).2.2 x7_1 p623 q623
                      obtain rfl : ad618 = ad623 := (by injection e623)
                      replace p623 := eq_true p623; replace q623 := eq_true q623
                      have p624 : 0 ≤ (x7_1 : Int) := of_decide_eq_true (by first | (with_reducible assumption) | assumption)
                      have q624 : x7_1 < (t611.length : Int) := of_decide_eq_true (by first | (with_reducible assumption) | assumption)
                      obtain ⟨ad624, e624, hx624_0, hx624_1, hx624_2, hx624_3⟩ := at_T42 (Kd.R_reads' HO_4.out).2.2 x7_1 p624 q624
                      obtain rfl : ad618 = ad624 := (by injection e624)
                      replace p624 := eq_true p624; replace q624 := eq_true q624
                      go_wp2
                      go_roundg k1
                      case measure => have := HK1.out; omega
                      case rel => exact ⟨(x5_1), (wrap64 (x6_1 + 1)), (wrap64 (x7_1 + 1)), (by first | rfl | (simp; done) | (simp [*]; done)), (by first | rfl | (simp; done) | (simp [*]; done)), (by first | rfl | (simp; done) | (simp [*]; done)), H', ⟨by have := HK1.out; omega⟩, ⟨by (with_reducible repeat (first | apply Kd.R_alloc | apply Kd.R_drewN | apply Kd.R_drew)); exact HO_4.out⟩, ⟨by repeat (first | (with_reducible first | exact HB.out | apply below_alloc | apply pw_below_drewN | apply below_drew1) | exact HB.out)⟩⟩
                · rw [if_neg c23] at H; have c23b0 : (((rd_T42 t611 x7_1).f0) == 7) = false := beq_eq_false_iff_ne.mpr c23; have c23b1 : (((rd_T42 t611 x7_1).f0) != 7) = true := bne_iff_ne.mpr c23; have H' := Aside0.mk H; clear H
                  have p618 : 0 ≤ (x7_1 : Int) := of_decide_eq_true (by first | (with_reducible assumption) | assumption)
                  have q618 : x7_1 < (t611.length : Int) := of_decide_eq_true (by first | (with_reducible assumption) | assumption)
                  obtain ⟨ad618, e618, hx618_0, hx618_1, hx618_2, hx618_3⟩ := at_T42 (Kd.R_reads' HO_4.out).2.2 x7_1 p618 q618
                  cases e618
                  replace p618 := eq_true p618; replace q618 := eq_true q618
                  go_wp2
                  go_roundg k1
                  case measure => have := HK1.out; omega
                  case rel => exact ⟨(x5_1), (x6_1), (wrap64 (x7_1 + 1)), (by first | rfl | (simp; done) | (simp [*]; done)), (by first | rfl | (simp; done) | (simp [*]; done)), (by first | rfl | (simp; done) | (simp [*]; done)), H', ⟨by have := HK1.out; omega⟩, ⟨by (with_reducible repeat (first | apply Kd.R_alloc | apply Kd.R_drewN | apply Kd.R_drew)); exact HO_4.out⟩, ⟨by repeat (first | (with_reducible first | exact HB.out | apply below_alloc | apply pw_below_drewN | apply below_drew1) | exact HB.out)⟩⟩
            · rw [if_neg c15] at H
              exact absurd H (by simp)
          · rw [if_neg c14] at H; have c14b0 : decide (x7_1 < (t611.length : Int)) = false := decide_eq_false c14; clear c14; obtain rfl := Option.some.inj H
            go_wp2
            go_ret
            exact ⟨by first | rfl | (simp [errW_none, errW_some] <;> rfl) | (simp [*, errW_none, errW_some] <;> rfl), by repeat (first | (with_reducible first | exact HB.out | apply below_alloc | apply pw_below_drewN | apply below_drew1) | exact HB.out)⟩
    · replace c7 := Bool.eq_false_iff.mpr c7; subst c7
      have H1 : (some false) = some r := by rw [if_neg (show ¬ (false = true) by decide)] at H; exact H
      clear H; have H := H1; clear H1; obtain rfl := Option.some.inj H; go_enter Try.func6, Try.ntmps6
      go_wp2_with (first | ((with_reducible refine gate_callee (f := 25) rfl ?_); refine goesM_ (some 12) Try.func25 #[.slice A0 l0.length c0] ?_; (with_reducible refine (spec_DrawCodeOf.calls k _ _ l0 t608 _ ?side1 ?side2 A3.out).mono ?_); (case side1 => repeat (first | exact HR0.out | (with_reducible refine Kd.C_alloc ?_ _) | (with_reducible refine Kd.C_drewN ?_ _) | (with_reducible refine Kd.C_drew ?_))); (case side2 => exact HC0.out); rintro e w29 ⟨v609, rfl, ho0, hb⟩; refine ⟨_, rfl, ?_⟩; have n0_ := Aside0.mk (Kd.N_lower (Kd.N_mono (ok' := fun k_ => True) ho0 (fun k_ hk_ => trivial)) (below_size (q0_ HB))); have n1_ := Aside0.mk (below_step (q0_ HB) hb); clear HB; have HO610 := n0_; have HB := n1_; clear n0_ n1_; (try clear hb); (try clear hb2); (try clear hk); (try clear hi); (try clear ho0); obtain ⟨Ao30, co30, eo30⟩ := Kd.N_slice HO610.out; subst eo30) | ((with_reducible refine gate_callee (f := 20) rfl ?_); refine goesM_ (some 14) Try.func20 #[.slice Ao30 t608.length co30] ?_; (with_reducible refine (impl_CodeOf.calls k _ _ t608 t611 _ ?side1 ?side2 A4.out).mono ?_); (case side1 => repeat (first | exact (Kd.N_reads' HO610.out).2.2 | (with_reducible refine Kd.C_alloc ?_ _) | (with_reducible refine Kd.C_drewN ?_ _) | (with_reducible refine Kd.C_drew ?_))); (case side2 => exact (Kd.N_reads' HO610.out).2.1); rintro e w31 ⟨v612, rfl, ho0, hb⟩; refine ⟨_, rfl, ?_⟩; have n0_ := Aside0.mk (Kd.N_elder' (q15_ HO610) (Kd.R_base ho0) hb); have n1_ := Aside0.mk (Kd.R_lower ho0 (below_size (q0_ HB))); have n2_ := Aside0.mk (below_step (q0_ HB) hb); clear HO610; clear HB; have HO610 := n0_; have HO613 := n1_; have HB := n2_; clear n0_ n1_ n2_; (try clear hb); (try clear hb2); (try clear hk); (try clear hi); (try clear ho0)) | ((with_reducible refine gate_callee (f := 18) rfl ?_); refine goesM_ (some 17) Try.func18 #[.slice Ao30 t608.length co30] ?_; (with_reducible refine (spec_CodeOf.calls k _ _ t608 t614 _ ?side1 ?side2 A5.out).mono ?_); (case side1 => repeat (first | exact (Kd.N_reads' HO610.out).2.2 | (with_reducible refine Kd.C_alloc ?_ _) | (with_reducible refine Kd.C_drewN ?_ _) | (with_reducible refine Kd.C_drew ?_))); (case side2 => exact (Kd.N_reads' HO610.out).2.1); rintro e w32 ⟨v615, rfl, ho0, hb⟩; refine ⟨_, rfl, ?_⟩; have n0_ := Aside0.mk (Kd.N_elder' (q15_ HO610) (Kd.R_base ho0) hb); have n1_ := Aside0.mk (Kd.R_elder' (q3_ HO613) (Kd.R_base ho0) hb); have n2_ := Aside0.mk (Kd.R_lower (Kd.R_new' ho0 (Kd.R_lt (q3_ HO613))) (below_size (q0_ HB))); have n3_ := Aside0.mk (below_step (q0_ HB) hb); clear HO610; clear HO613; clear HB; have HO610 := n0_; have HO613 := n1_; have HO616 := n2_; have HB := n3_; clear n0_ n1_ n2_ n3_; (try clear hb); (try clear hb2); (try clear hk); (try clear hi); (try clear ho0); obtain ⟨Ao33, co33, eo33⟩ := Kd.R_slice HO613.out; subst eo33; obtain ⟨Ao34, co34, eo34⟩ := Kd.R_slice HO616.out; subst eo34) | ((with_reducible refine gate_callee (f := 26) rfl ?_); refine goesM_ (some 18) Try.func26 #[.slice Ao33 t611.length co33, .slice Ao34 t614.length co34] ?_; (with_reducible refine (impl_CodeSame.calls k _ _ t611 _ _ t614 false _ ?side1 ?side2 ?side3 ?side4 A6.out).mono ?_); (case side1 => repeat (first | exact (Kd.R_reads' HO613.out).2.2 | (with_reducible refine Kd.C_alloc ?_ _) | (with_reducible refine Kd.C_drewN ?_ _) | (with_reducible refine Kd.C_drew ?_))); (case side2 => exact (Kd.R_reads' HO613.out).2.1); (case side3 => repeat (first | exact (Kd.R_reads' HO616.out).2.2 | (with_reducible refine Kd.C_alloc ?_ _) | (with_reducible refine Kd.C_drewN ?_ _) | (with_reducible refine Kd.C_drew ?_))); (case side4 => exact (Kd.R_reads' HO616.out).2.1); rintro e w' ⟨rfl, ⟨nd, rfl⟩⟩; refine ⟨_, rfl, ?_⟩))
      go_ret
      exact ⟨by first | rfl | (simp [errW_none, errW_some] <;> rfl) | (simp [*, errW_none, errW_some] <;> rfl), by repeat (first | (with_reducible first | exact HB.out | apply below_alloc | apply pw_below_drewN | apply below_drew1) | exact HB.out)⟩
def laws_FnCodeJump.Pure : Prop := ∀ (l0 : List Int), l0.length ≤ maxLen → l0.length * 1 ≤ 140737488351232 → (∀ x ∈ l0, (Lit.int .u8 x).wf = true) → ∃ k, laws_FnCodeJump.f k l0 = some true
theorem laws_FnCodeJump.walk (P : laws_FnCodeJump.Pure) (a0 : Option Addr) (len0 cap0 : Nat) (z0 : List Int) (w : World) (w0 : (a0 = none ∧ len0 = 0 ∧ cap0 = 0 ∧ z0 = []) ∨ ∃ x, a0 = some x ∧ len0 ≤ cap0 ∧ cap0 ≤ maxLen ∧ z0.length = cap0 ∧ (∀ i, i < z0.length → w.cell? (x.add i) = some (.int .u8 (z0.getD i 0))) ∧ ∀ n ∈ z0, (Lit.int .u8 n).wf = true) (y0 : len0 * 1 ≤ 140737488351232) :
    Calls Try.prog 6 #[.slice a0 len0 cap0] w fun e w' => e = .returned (.bool true) ∧ Below w.heap.size w w' := by
  obtain ⟨l0, rfl, hr0, hm0, hw0, hc0⟩ := ReadsInt.ofRowC w0; obtain ⟨k, h⟩ := P l0 hm0 y0 hw0
  refine (laws_FnCodeJump.calls k _ _ l0 true w (Kd.C_of_reads (d := (0 : Int)) (h1 := fun _ => rfl) hr0) hc0 h).mono ?_
  rintro e w' ⟨rfl, hd⟩
  exact ⟨rfl, hd⟩
end Go.Proofs.Ytphbdoljkpdflaa.P
