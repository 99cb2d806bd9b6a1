/- Parts of the proof of FnCodeRooms: plain Lean functions of Go functions, and that the calls come to what they say; no condition beyond those that each theorem names. -/
import Derived.Test.YtphbdoljkpdflaaZFnCodeRooms4
import Derived.Test.YtphbdoljkpdflaaZFnCodeRooms6
import Derived.Test.YtphbdoljkpdflaaZFnCodeRooms8
import Derived.Test.YtphbdoljkpdflaaZFnCodeRooms11
import Derived.Test.YtphbdoljkpdflaaZFnCodeRooms14
namespace Go.Proofs.Ytphbdoljkpdflaa.P
open Go.RowKit Go.Proofs.YtphbdoljkpdflaaW.PrintWords Go.Proofs.YtphbdoljkpdflaaW.PrintLast Go.Proofs.YtphbdoljkpdflaaW.PrintMore
attribute [local go_sem] max2_int min2_int max_two min_two max_three min_three max_four min_four
set_option linter.unusedVariables false
set_option linter.unusedSimpArgs false
def impl_CodeOf.f (k : Nat) (l0 : List (S46)) : Option ((List (S42))) := (impl_StmtsOk.f k l0).bind fun t358 => (if t358 = true then ((impl_codeOf.f k l0).bind fun t359 => (some t359)) else (some ([] : List (S42))))
set_option maxHeartbeats 8000000 in
set_option maxRecDepth 100000 in
theorem impl_CodeOf.calls (k : Nat) (A0 : Option Addr) (c0 : Nat) (l0 : List (S46)) (r : List (S42)) (w : World) (hr0 : Kd.C k46 w A0 l0.length l0) (hc0 : l0.length ≤ c0) (h : impl_CodeOf.f k l0 = some r) :
    Calls Try.prog 20 #[.slice A0 l0.length c0] w fun e w' => ∃ v0_ : Value, e = .returned (v0_) ∧ Kd.R k42 42 w' w.heap.size (fun _ => True) v0_ r ∧ Below w.heap.size w w' := by
  have HR0 := Aside0.mk hr0; have HC0 := Aside0.mk hc0; clear hr0 hc0; have HB := Aside0.mk (Below.refl w.heap.size w); have H : ((impl_StmtsOk.f k l0).bind fun t358 => (if t358 = true then ((impl_codeOf.f k l0).bind fun t359 => (some t359)) else (some ([] : List (S42))))) = some r := h; clear h; replace H := Option.bind_eq_some_iff.mp H; obtain ⟨t358, A20, H⟩ := H; replace H : (if t358 = true then ((impl_codeOf.f k l0).bind fun t359 => (some t359)) else (some ([] : List (S42)))) = some r := H; have A2 := Aside0.mk A20; clear A20
  by_cases c3 : t358 = true
  · subst c3
    have H1 : ((impl_codeOf.f k l0).bind fun t359 => (some t359)) = some r := by rw [if_pos rfl] at H; exact H
    clear H; have H := H1; clear H1; replace H := Option.bind_eq_some_iff.mp H; obtain ⟨t359, A40, H⟩ := H; replace H : (some t359) = some r := H; have A4 := Aside0.mk A40; clear A40; obtain rfl := Option.some.inj H; go_enter Try.func20, Try.ntmps20
    go_wp2_with (first | ((with_reducible refine gate_callee (f := 29) rfl ?_); refine goesM_ (some 4) Try.func29 #[.slice A0 l0.length c0] ?_; (with_reducible refine (impl_StmtsOk.calls k _ _ l0 true _ ?side1 ?side2 A2.out).mono ?_); (case side1 => repeat (first | exact HR0.out | (with_reducible refine Kd.C_alloc ?_ _) | (with_reducible refine Kd.C_drewN ?_ _) | (with_reducible refine Kd.C_drew ?_))); (case side2 => exact HC0.out); rintro e w5 ⟨rfl, hb⟩; refine ⟨_, rfl, ?_⟩; have n0_ := Aside0.mk (below_step (q0_ HB) hb); clear HB; have HB := n0_; clear n0_; (try clear hb); (try clear hb2); (try clear hk); (try clear hi)) | ((with_reducible refine gate_callee (f := 42) rfl ?_); refine goesM_ (some 7) Try.func42 #[.slice A0 l0.length c0] ?_; (with_reducible refine (impl_codeOf.calls k _ _ l0 t359 _ ?side1 ?side2 A4.out).mono ?_); (case side1 => repeat (first | exact (Kd.C_below HR0.out HB.out) | (with_reducible refine Kd.C_alloc ?_ _) | (with_reducible refine Kd.C_drewN ?_ _) | (with_reducible refine Kd.C_drew ?_))); (case side2 => exact HC0.out); rintro e w6 ⟨v360, rfl, ho0, hb⟩; refine ⟨_, rfl, ?_⟩; have n0_ := Aside0.mk (Kd.R_lower ho0 (below_size (q0_ HB))); have n1_ := Aside0.mk (below_step (q0_ HB) hb); clear HB; have HO361 := n0_; have HB := n1_; clear n0_ n1_; (try clear hb); (try clear hb2); (try clear hk); (try clear hi); (try clear ho0)))
    go_ret
    exact ⟨_, by first | rfl | (simp [errW_none, errW_some] <;> rfl) | (simp [*, errW_none, errW_some] <;> rfl), by (with_reducible repeat (first | apply Kd.R_alloc | apply Kd.R_drewN | apply Kd.R_drew)); exact HO361.out, by repeat (first | (with_reducible first | exact HB.out | apply below_alloc | apply pw_below_drewN | apply below_drew1) | exact HB.out)⟩
  · replace c3 := Bool.eq_false_iff.mpr c3; subst c3
    have H1 : (some ([] : List (S42))) = some r := by rw [if_neg (show ¬ (false = true) by decide)] at H; exact H
    clear H; have H := H1; clear H1; obtain rfl := Option.some.inj H; go_enter Try.func20, Try.ntmps20
    go_wp2_with (first | ((with_reducible refine gate_callee (f := 29) rfl ?_); refine goesM_ (some 4) Try.func29 #[.slice A0 l0.length c0] ?_; (with_reducible refine (impl_StmtsOk.calls k _ _ l0 false _ ?side1 ?side2 A2.out).mono ?_); (case side1 => repeat (first | exact HR0.out | (with_reducible refine Kd.C_alloc ?_ _) | (with_reducible refine Kd.C_drewN ?_ _) | (with_reducible refine Kd.C_drew ?_))); (case side2 => exact HC0.out); rintro e w7 ⟨rfl, hb⟩; refine ⟨_, rfl, ?_⟩; have n0_ := Aside0.mk (below_step (q0_ HB) hb); clear HB; have HB := n0_; clear n0_; (try clear hb); (try clear hb2); (try clear hk); (try clear hi)))
    go_ret
    exact ⟨_, by first | rfl | (simp [errW_none, errW_some] <;> rfl) | (simp [*, errW_none, errW_some] <;> rfl), by first | exact Kd.R_nil _ _ _ _ _ | exact Kd.N_nil _ _ _ _ _ | exact Kd.V_nil _ _ _ _ _ | exact Kd.Q_nil _ _ _ _ _ | exact Kd.S_nil _ _ _ _ _, by repeat (first | (with_reducible first | exact HB.out | apply below_alloc | apply pw_below_drewN | apply below_drew1) | exact HB.out)⟩
end Go.Proofs.Ytphbdoljkpdflaa.P

namespace Go.Proofs.Ytphbdoljkpdflaa.P
open Go.RowKit Go.Proofs.YtphbdoljkpdflaaW.PrintWords Go.Proofs.YtphbdoljkpdflaaW.PrintLast Go.Proofs.YtphbdoljkpdflaaW.PrintMore
attribute [local go_sem] max2_int min2_int max_two min_two max_three min_three max_four min_four
set_option linter.unusedVariables false
set_option linter.unusedSimpArgs false
mutual
def laws_FnCodeRooms.l0 : Nat → List (S42) → Int → Option (Bool)
  | 0, _, _ => none
  | k + 1, x4, x5 => if x5 < 2 then (laws_FnCodeRooms.l1 k x4 x5 false 0 0) else (some true)
def laws_FnCodeRooms.l1 : Nat → List (S42) → Int → Bool → Int → Int → Option (Bool)
  | 0, _, _, _, _, _ => none
  | k + 1, x4, x5, x6, x7, x8 => if x8 < (x4.length : Int) then (if 0 ≤ x8 then (if ((rd_T42 x4 x8).f1) = x5 then (if ((rd_T42 x4 x8).f0) = 8 then (if x6 = true then (some false) else (laws_FnCodeRooms.j2 k x4 x5 true (wrap64 (x7 + 1)) x8)) else (laws_FnCodeRooms.j2 k x4 x5 x6 x7 x8)) else (laws_FnCodeRooms.l1 k x4 x5 x6 x7 (wrap64 (x8 + 1)))) else (none)) else (if x7 = 0 then (laws_FnCodeRooms.l0 k x4 (wrap64 (x5 + 1))) else (some false))
def laws_FnCodeRooms.j2 : Nat → List (S42) → Int → Bool → Int → Int → Option (Bool)
  | 0, _, _, _, _, _ => none
  | k + 1, x4, x5, x6, x7, x8 => if 0 ≤ x8 then (if x8 < (x4.length : Int) then (if ((rd_T42 x4 x8).f0) = 9 then (if x6 = true then (laws_FnCodeRooms.l1 k x4 x5 false (wrap64 (x7 - 1)) (wrap64 (x8 + 1))) else (some false)) else (laws_FnCodeRooms.l1 k x4 x5 x6 x7 (wrap64 (x8 + 1)))) else (none)) else (none)
end
def laws_FnCodeRooms.f (k : Nat) (l0 : List Int) : Option (Bool) := if (l0.length : Int) > 1048576 then (some true) else ((spec_DrawCodeOf.f k l0).bind fun t627 => ((impl_CodeOf.f k t627).bind fun t630 => ((spec_CodeOf.f k t627).bind fun t633 => ((impl_CodeSame.f k t630 t633).bind fun t636 => (if t636 = true then (laws_FnCodeRooms.l0 k t630 0) else (some false))))))
set_option maxHeartbeats 8000000 in
set_option maxRecDepth 100000 in
theorem laws_FnCodeRooms.calls (k : Nat) (A0 : Option Addr) (c0 : Nat) (l0 : List Int) (r : Bool) (w : World) (hr0 : Kd.C (Kd.int .u8) w A0 l0.length l0) (hc0 : l0.length ≤ c0) (h : laws_FnCodeRooms.f k l0 = some r) :
    Calls Try.prog 7 #[.slice A0 l0.length c0] w fun e w' => e = .returned (.bool r) ∧ Below w.heap.size w w' := by
  have HR0 := Aside0.mk hr0; have HC0 := Aside0.mk hc0; clear hr0 hc0; have HB := Aside0.mk (Below.refl w.heap.size w); have H : (if (l0.length : Int) > 1048576 then (some true) else ((spec_DrawCodeOf.f k l0).bind fun t627 => ((impl_CodeOf.f k t627).bind fun t630 => ((spec_CodeOf.f k t627).bind fun t633 => ((impl_CodeSame.f k t630 t633).bind fun t636 => (if t636 = true then (laws_FnCodeRooms.l0 k t630 0) else (some false))))))) = some r := h; clear h
  by_cases c2 : (l0.length : Int) > 1048576
  · rw [if_pos c2] at H; have c2b0 : decide (1048576 < (l0.length : Int)) = true := decide_eq_true c2
    have c2b1 : decide (1048576 < l0.length) = true := decide_eq_true (by omega)
    clear c2; obtain rfl := Option.some.inj H; go_enter Try.func7, Try.ntmps7
    go_wp2
    go_ret
    exact ⟨by first | rfl | (simp [errW_none, errW_some] <;> rfl) | (simp [*, errW_none, errW_some] <;> rfl), by repeat (first | (with_reducible first | exact HB.out | apply below_alloc | apply pw_below_drewN | apply below_drew1) | exact HB.out)⟩
  · rw [if_neg c2] at H; have c2b0 : decide (1048576 < (l0.length : Int)) = false := decide_eq_false c2
    have c2b1 : decide (1048576 < l0.length) = false := decide_eq_false (by omega)
    clear c2; replace H := Option.bind_eq_some_iff.mp H; obtain ⟨t627, A30, H⟩ := H; replace H : ((impl_CodeOf.f k t627).bind fun t630 => ((spec_CodeOf.f k t627).bind fun t633 => ((impl_CodeSame.f k t630 t633).bind fun t636 => (if t636 = true then (laws_FnCodeRooms.l0 k t630 0) else (some false))))) = some r := H; have A3 := Aside0.mk A30; clear A30; replace H := Option.bind_eq_some_iff.mp H; obtain ⟨t630, A40, H⟩ := H; replace H : ((spec_CodeOf.f k t627).bind fun t633 => ((impl_CodeSame.f k t630 t633).bind fun t636 => (if t636 = true then (laws_FnCodeRooms.l0 k t630 0) else (some false)))) = some r := H; have A4 := Aside0.mk A40; clear A40; replace H := Option.bind_eq_some_iff.mp H; obtain ⟨t633, A50, H⟩ := H; replace H : ((impl_CodeSame.f k t630 t633).bind fun t636 => (if t636 = true then (laws_FnCodeRooms.l0 k t630 0) else (some false))) = some r := H; have A5 := Aside0.mk A50; clear A50; replace H := Option.bind_eq_some_iff.mp H; obtain ⟨t636, A60, H⟩ := H; replace H : (if t636 = true then (laws_FnCodeRooms.l0 k t630 0) else (some false)) = some r := H; have A6 := Aside0.mk A60; clear A60
    by_cases c7 : t636 = true
    · subst c7
      have H1 : (laws_FnCodeRooms.l0 k t630 0) = some r := by rw [if_pos rfl] at H; exact H
      clear H; have H := H1; clear H1; have H' := Aside0.mk H; clear H; go_enter Try.func7, Try.ntmps7
      go_wp2_with (first | ((with_reducible refine gate_callee (f := 25) rfl ?_); refine goesM_ (some 13) Try.func25 #[.slice A0 l0.length c0] ?_; (with_reducible refine (spec_DrawCodeOf.calls k _ _ l0 t627 _ ?side1 ?side2 A3.out).mono ?_); (case side1 => repeat (first | exact HR0.out | (with_reducible refine Kd.C_alloc ?_ _) | (with_reducible refine Kd.C_drewN ?_ _) | (with_reducible refine Kd.C_drew ?_))); (case side2 => exact HC0.out); rintro e w8 ⟨v628, rfl, ho0, hb⟩; refine ⟨_, rfl, ?_⟩; have n0_ := Aside0.mk (Kd.N_lower (Kd.N_mono (ok' := fun k_ => True) ho0 (fun k_ hk_ => trivial)) (below_size (q0_ HB))); have n1_ := Aside0.mk (below_step (q0_ HB) hb); clear HB; have HO629 := n0_; have HB := n1_; clear n0_ n1_; (try clear hb); (try clear hb2); (try clear hk); (try clear hi); (try clear ho0); obtain ⟨Ao9, co9, eo9⟩ := Kd.N_slice HO629.out; subst eo9) | ((with_reducible refine gate_callee (f := 20) rfl ?_); refine goesM_ (some 15) Try.func20 #[.slice Ao9 t627.length co9] ?_; (with_reducible refine (impl_CodeOf.calls k _ _ t627 t630 _ ?side1 ?side2 A4.out).mono ?_); (case side1 => repeat (first | exact (Kd.N_reads' HO629.out).2.2 | (with_reducible refine Kd.C_alloc ?_ _) | (with_reducible refine Kd.C_drewN ?_ _) | (with_reducible refine Kd.C_drew ?_))); (case side2 => exact (Kd.N_reads' HO629.out).2.1); rintro e w10 ⟨v631, rfl, ho0, hb⟩; refine ⟨_, rfl, ?_⟩; have n0_ := Aside0.mk (Kd.N_elder' (q15_ HO629) (Kd.R_base ho0) hb); have n1_ := Aside0.mk (Kd.R_lower ho0 (below_size (q0_ HB))); have n2_ := Aside0.mk (below_step (q0_ HB) hb); clear HO629; clear HB; have HO629 := n0_; have HO632 := n1_; have HB := n2_; clear n0_ n1_ n2_; (try clear hb); (try clear hb2); (try clear hk); (try clear hi); (try clear ho0)) | ((with_reducible refine gate_callee (f := 18) rfl ?_); refine goesM_ (some 18) Try.func18 #[.slice Ao9 t627.length co9] ?_; (with_reducible refine (spec_CodeOf.calls k _ _ t627 t633 _ ?side1 ?side2 A5.out).mono ?_); (case side1 => repeat (first | exact (Kd.N_reads' HO629.out).2.2 | (with_reducible refine Kd.C_alloc ?_ _) | (with_reducible refine Kd.C_drewN ?_ _) | (with_reducible refine Kd.C_drew ?_))); (case side2 => exact (Kd.N_reads' HO629.out).2.1); rintro e w11 ⟨v634, rfl, ho0, hb⟩; refine ⟨_, rfl, ?_⟩; have n0_ := Aside0.mk (Kd.N_elder' (q15_ HO629) (Kd.R_base ho0) hb); have n1_ := Aside0.mk (Kd.R_elder' (q3_ HO632) (Kd.R_base ho0) hb); have n2_ := Aside0.mk (Kd.R_lower (Kd.R_new' ho0 (Kd.R_lt (q3_ HO632))) (below_size (q0_ HB))); have n3_ := Aside0.mk (below_step (q0_ HB) hb); clear HO629; clear HO632; clear HB; have HO629 := n0_; have HO632 := n1_; have HO635 := n2_; have HB := n3_; clear n0_ n1_ n2_ n3_; (try clear hb); (try clear hb2); (try clear hk); (try clear hi); (try clear ho0); obtain ⟨Ao12, co12, eo12⟩ := Kd.R_slice HO632.out; subst eo12; obtain ⟨Ao13, co13, eo13⟩ := Kd.R_slice HO635.out; subst eo13) | ((with_reducible refine gate_callee (f := 26) rfl ?_); refine goesM_ (some 19) Try.func26 #[.slice Ao12 t630.length co12, .slice Ao13 t633.length co13] ?_; (with_reducible refine (impl_CodeSame.calls k _ _ t630 _ _ t633 true _ ?side1 ?side2 ?side3 ?side4 A6.out).mono ?_); (case side1 => repeat (first | exact (Kd.R_reads' HO632.out).2.2 | (with_reducible refine Kd.C_alloc ?_ _) | (with_reducible refine Kd.C_drewN ?_ _) | (with_reducible refine Kd.C_drew ?_))); (case side2 => exact (Kd.R_reads' HO632.out).2.1); (case side3 => repeat (first | exact (Kd.R_reads' HO635.out).2.2 | (with_reducible refine Kd.C_alloc ?_ _) | (with_reducible refine Kd.C_drewN ?_ _) | (with_reducible refine Kd.C_drew ?_))); (case side4 => exact (Kd.R_reads' HO635.out).2.1); rintro e w' ⟨rfl, ⟨nd, rfl⟩⟩; refine ⟨_, rfl, ?_⟩))
      go_loopg [5] k (fun kq v5 w' => ∃ (x5_1 : Int), v5 = .int .i64 x5_1 ∧ Aside0 (laws_FnCodeRooms.l0 kq t630 x5_1 = some r) ∧ Aside0 (kq ≤ k) ∧ Aside0 (Kd.R k42 42 w' w.heap.size (fun _ => True) (.slice Ao12 t630.length co12) t630) ∧ Aside0 (Below w.heap.size w w'))
      case atStart => exact ⟨(0), (by first | rfl | (simp; done) | (simp [*]; done)), H', ⟨Nat.le_refl _⟩, ⟨by (with_reducible repeat (first | apply Kd.R_alloc | apply Kd.R_drewN | apply Kd.R_drew)); exact Kd.R_mono HO632.out (fun _ hk => trivial)⟩, ⟨by repeat (first | (with_reducible first | exact HB.out | apply below_alloc | apply pw_below_drewN | apply below_drew1) | exact HB.out)⟩⟩
      case round =>
        clear H'; (try clear c1); (try clear c2); (try clear c2b0); (try clear c2b1); (try clear p2); (try clear c7); obtain ⟨x5_1, rfl, HA, HK1, HO_4, HB⟩ := hrel
        cases gk with
        | zero => exact absurd HA.out (by simp [laws_FnCodeRooms.l0])
        | succ k1 =>
          have H := HA.out; clear HA; simp only [laws_FnCodeRooms.l0] at H
          by_cases c14 : x5_1 < 2
          · rw [if_pos c14] at H; have c14b0 : decide (x5_1 < 2) = true := decide_eq_true c14; clear c14; have H' := Aside0.mk H; clear H
            go_wp2
            go_loopg [6, 7, 8] k1 (fun kq v6 v7 v8 w' => ∃ (x6_2 : Bool) (x7_2 : Int) (x8_2 : Int), v6 = .bool x6_2 ∧ v7 = .int .i64 x7_2 ∧ v8 = .int .i64 x8_2 ∧ Aside0 (laws_FnCodeRooms.l1 kq t630 x5_1 x6_2 x7_2 x8_2 = some r) ∧ Aside0 (kq ≤ k1) ∧ Aside0 (Kd.R k42 42 w' w.heap.size (fun _ => True) (.slice Ao12 t630.length co12) t630) ∧ Aside0 (Below w.heap.size w w'))
            case atStart => exact ⟨(false), (0), (0), (by first | rfl | (simp; done) | (simp [*]; done)), (by first | rfl | (simp; done) | (simp [*]; done)), (by first | rfl | (simp; done) | (simp [*]; done)), H', ⟨Nat.le_refl _⟩, ⟨by (with_reducible repeat (first | apply Kd.R_alloc | apply Kd.R_drewN | apply Kd.R_drew)); exact HO_4.out⟩, ⟨by repeat (first | (with_reducible first | exact HB.out | apply below_alloc | apply pw_below_drewN | apply below_drew1) | exact HB.out)⟩⟩
            case round =>
              clear H'; (try clear c1); (try clear c2); (try clear c2b0); (try clear c2b1); (try clear p2); (try clear c7); (try clear c14); (try clear c14b0); (try clear p2); obtain ⟨x6_2, x7_2, x8_2, rfl, rfl, rfl, HA, HK2, HO_4, HB⟩ := hrel
              cases gk with
              | zero => exact absurd HA.out (by simp [laws_FnCodeRooms.l1])
              | succ k2 =>
                have H := HA.out; clear HA; simp only [laws_FnCodeRooms.l1] at H
                by_cases c15 : x8_2 < (t630.length : Int)
                · rw [if_pos c15] at H; have c15b0 : decide (x8_2 < (t630.length : Int)) = true := decide_eq_true c15; clear c15
                  by_cases c16 : 0 ≤ x8_2
                  · rw [if_pos c16] at H; have c16b0 : decide (0 ≤ x8_2) = true := decide_eq_true c16; clear c16
                    by_cases c17 : ((rd_T42 t630 x8_2).f1) = x5_1
                    · rw [if_pos c17] at H; have c17b0 : (((rd_T42 t630 x8_2).f1) == x5_1) = true := beq_iff_eq.mpr c17; have c17b1 : (((rd_T42 t630 x8_2).f1) != x5_1) = false := bne_eq_false_iff_eq.mpr c17; clear c17; have HC18 := Aside0.mk H; clear H
                      have p637 : 0 ≤ (x8_2 : Int) := of_decide_eq_true (by first | (with_reducible assumption) | assumption)
                      have q637 : x8_2 < (t630.length : Int) := of_decide_eq_true (by first | (with_reducible assumption) | assumption)
                      obtain ⟨ad637, e637, hx637_0, hx637_1, hx637_2, hx637_3⟩ := at_T42 (Kd.R_reads' HO_4.out).2.2 x8_2 p637 q637
                      cases e637
                      replace p637 := eq_true p637; replace q637 := eq_true q637
                      have p638 : 0 ≤ (x8_2 : Int) := of_decide_eq_true (by first | (with_reducible assumption) | assumption)
                      have q638 : x8_2 < (t630.length : Int) := of_decide_eq_true (by first | (with_reducible assumption) | assumption)
                      obtain ⟨ad638, e638, hx638_0, hx638_1, hx638_2, hx638_3⟩ := at_T42 (Kd.R_reads' HO_4.out).2.2 x8_2 p638 q638
                      obtain rfl : ad637 = ad638 := (by injection e638)
                      replace p638 := eq_true p638; replace q638 := eq_true q638
                      go_upto_if 43 with (fail)
                      go_cut [6, 7] (fun v6 v7 wc => ∃ (kq : Nat) (x6_17 : Bool) (x7_17 : Int), v6 = .bool x6_17 ∧ v7 = .int .i64 x7_17 ∧ Aside0 (laws_FnCodeRooms.j2 kq t630 x5_1 x6_17 x7_17 x8_2 = some r) ∧ Aside0 (kq ≤ k2) ∧ Aside0 (Kd.R k42 42 wc w.heap.size (fun _ => True) (.slice (some ad637) t630.length co12) t630) ∧ Aside0 (Below w.heap.size w wc))
                      case first =>
                        have H := HC18.out; clear HC18
                        by_cases c19 : ((rd_T42 t630 x8_2).f0) = 8
                        · rw [if_pos c19] at H; have c19b0 : (((rd_T42 t630 x8_2).f0) == 8) = true := beq_iff_eq.mpr c19; have c19b1 : (((rd_T42 t630 x8_2).f0) != 8) = false := bne_eq_false_iff_eq.mpr c19; clear c19
                          (first | rw [c19b0] | (simp only [i64_w, i32_w]; rw [c19b0]) | skip)
                          by_cases c20 : x6_2 = true
                          · subst c20
                            have H1 : (some false) = some r := by rw [if_pos rfl] at H; exact H
                            clear H; have H := H1; clear H1; obtain rfl := Option.some.inj H
                            go_wp2
                            go_ret
                            exact ⟨by first | rfl | (simp [errW_none, errW_some] <;> rfl) | (simp [*, errW_none, errW_some] <;> rfl), by repeat (first | (with_reducible first | exact HB.out | apply below_alloc | apply pw_below_drewN | apply below_drew1) | exact HB.out)⟩
                          · replace c20 := Bool.eq_false_iff.mpr c20; subst c20
                            have H1 : (laws_FnCodeRooms.j2 k2 t630 x5_1 true (wrap64 (x7_2 + 1)) x8_2) = some r := by rw [if_neg (show ¬ (false = true) by decide)] at H; exact H
                            clear H; have H := H1; clear H1; have H' := Aside0.mk H; clear H
                            go_wp2
                            go_meet
                            case rel => exact ⟨_, (true), (wrap64 (x7_2 + 1)), (by first | rfl | (simp; done) | (simp [*]; done)), (by first | rfl | (simp; done) | (simp [*]; done)), H', ⟨by have := HK1.out; have := HK2.out; first | omega | exact Nat.le_refl _⟩, ⟨by (with_reducible repeat (first | apply Kd.R_alloc | apply Kd.R_drewN | apply Kd.R_drew)); exact HO_4.out⟩, ⟨by repeat (first | (with_reducible first | exact HB.out | apply below_alloc | apply pw_below_drewN | apply below_drew1) | exact HB.out)⟩⟩
                        · rw [if_neg c19] at H; have c19b0 : (((rd_T42 t630 x8_2).f0) == 8) = false := beq_eq_false_iff_ne.mpr c19; have c19b1 : (((rd_T42 t630 x8_2).f0) != 8) = true := bne_iff_ne.mpr c19
                          (first | rw [c19b0] | (simp only [i64_w, i32_w]; rw [c19b0]) | skip)
                          have H' := Aside0.mk H; clear H
                          go_wp2
                          go_meet
                          case rel => exact ⟨_, (x6_2), (x7_2), (by first | rfl | (simp; done) | (simp [*]; done)), (by first | rfl | (simp; done) | (simp [*]; done)), H', ⟨by have := HK1.out; have := HK2.out; first | omega | exact Nat.le_refl _⟩, ⟨by (with_reducible repeat (first | apply Kd.R_alloc | apply Kd.R_drewN | apply Kd.R_drew)); exact HO_4.out⟩, ⟨by repeat (first | (with_reducible first | exact HB.out | apply below_alloc | apply pw_below_drewN | apply below_drew1) | exact HB.out)⟩⟩
                      case rest =>
                        clear HC18; (try clear c1); (try clear c2); (try clear c2b0); (try clear c2b1); (try clear p2); (try clear p6); (try clear q6); (try clear hx6); (try clear c7); (try clear c14); (try clear c14b0); (try clear c15); (try clear c15b0); (try clear c16); (try clear c16b0); (try clear c17); (try clear c17b0); (try clear c17b1); (try clear c18); (try clear c19); (try clear c19b0); (try clear c19b1); (try clear c20); (try clear hx637_0); (try clear hx637_1); (try clear hx637_2); (try clear hx637_3); (try clear hx638_0); (try clear hx638_1); (try clear hx638_2); (try clear hx638_3); (try clear p2); (try clear p637); (try clear p638); (try clear q637); (try clear q638); obtain ⟨kq, x6_17, x7_17, rfl, rfl, HA, HJ17, HO_4, HB⟩ := hcut
                        cases kq with
                        | zero => exact absurd HA.out (by simp [laws_FnCodeRooms.j2])
                        | succ kj17 =>
                          have H := HA.out; clear HA; simp only [laws_FnCodeRooms.j2] at H
                          by_cases c21 : 0 ≤ x8_2
                          · rw [if_pos c21] at H; have c21b0 : decide (0 ≤ x8_2) = true := decide_eq_true c21; clear c21
                            by_cases c22 : x8_2 < (t630.length : Int)
                            · rw [if_pos c22] at H; have c22b0 : decide (x8_2 < (t630.length : Int)) = true := decide_eq_true c22; clear c22
                              by_cases c23 : ((rd_T42 t630 x8_2).f0) = 9
                              · rw [if_pos c23] at H; have c23b0 : (((rd_T42 t630 x8_2).f0) == 9) = true := beq_iff_eq.mpr c23; have c23b1 : (((rd_T42 t630 x8_2).f0) != 9) = false := bne_eq_false_iff_eq.mpr c23; clear c23
                                by_cases c24 : x6_17 = true
                                · subst c24
                                  have H1 : (laws_FnCodeRooms.l1 kj17 t630 x5_1 false (wrap64 (x7_17 - 1)) (wrap64 (x8_2 + 1))) = some r := by rw [if_pos rfl] at H; exact H
                                  clear H; have H := H1; clear H1; have H' := Aside0.mk H; clear H
                                  have p639 : 0 ≤ (x8_2 : Int) := of_decide_eq_true (by first | (with_reducible assumption) | assumption)
                                  have q639 : x8_2 < (t630.length : Int) := of_decide_eq_true (by first | (with_reducible assumption) | assumption)
                                  obtain ⟨ad639, e639, hx639_0, hx639_1, hx639_2, hx639_3⟩ := at_T42 (Kd.R_reads' HO_4.out).2.2 x8_2 p639 q639
                                  obtain rfl : ad637 = ad639 := (by injection e639)
                                  replace p639 := eq_true p639; replace q639 := eq_true q639
                                  go_wp2
                                  go_roundg kj17
                                  case measure => have := HK1.out; have := HK2.out; have := HJ17.out; omega
                                  case rel => exact ⟨(false), (wrap64 (x7_17 - 1)), (wrap64 (x8_2 + 1)), (by first | rfl | (simp; done) | (simp [*]; done)), (by first | rfl | (simp; done) | (simp [*]; done)), (by first | rfl | (simp; done) | (simp [*]; done)), H', ⟨by have := HK1.out; have := HK2.out; have := HJ17.out; omega⟩, ⟨by (with_reducible repeat (first | apply Kd.R_alloc | apply Kd.R_drewN | apply Kd.R_drew)); exact HO_4.out⟩, ⟨by repeat (first | (with_reducible first | exact HB.out | apply below_alloc | apply pw_below_drewN | apply below_drew1) | exact HB.out)⟩⟩
                                · replace c24 := Bool.eq_false_iff.mpr c24; subst c24
                                  have H1 : (some false) = some r := by rw [if_neg (show ¬ (false = true) by decide)] at H; exact H
                                  clear H; have H := H1; clear H1; obtain rfl := Option.some.inj H
                                  have p639 : 0 ≤ (x8_2 : Int) := of_decide_eq_true (by first | (with_reducible assumption) | assumption)
                                  have q639 : x8_2 < (t630.length : Int) := of_decide_eq_true (by first | (with_reducible assumption) | assumption)
                                  obtain ⟨ad639, e639, hx639_0, hx639_1, hx639_2, hx639_3⟩ := at_T42 (Kd.R_reads' HO_4.out).2.2 x8_2 p639 q639
                                  obtain rfl : ad637 = ad639 := (by injection e639)
                                  replace p639 := eq_true p639; replace q639 := eq_true q639
                                  go_wp2
                                  go_ret
                                  exact ⟨by first | rfl | (simp [errW_none, errW_some] <;> rfl) | (simp [*, errW_none, errW_some] <;> rfl), by repeat (first | (with_reducible first | exact HB.out | apply below_alloc | apply pw_below_drewN | apply below_drew1) | exact HB.out)⟩
                              · rw [if_neg c23] at H; have c23b0 : (((rd_T42 t630 x8_2).f0) == 9) = false := beq_eq_false_iff_ne.mpr c23; have c23b1 : (((rd_T42 t630 x8_2).f0) != 9) = true := bne_iff_ne.mpr c23; have H' := Aside0.mk H; clear H
                                have p639 : 0 ≤ (x8_2 : Int) := of_decide_eq_true (by first | (with_reducible assumption) | assumption)
                                have q639 : x8_2 < (t630.length : Int) := of_decide_eq_true (by first | (with_reducible assumption) | assumption)
                                obtain ⟨ad639, e639, hx639_0, hx639_1, hx639_2, hx639_3⟩ := at_T42 (Kd.R_reads' HO_4.out).2.2 x8_2 p639 q639
                                obtain rfl : ad637 = ad639 := (by injection e639)
                                replace p639 := eq_true p639; replace q639 := eq_true q639
                                go_wp2
                                go_roundg kj17
                                case measure => have := HK1.out; have := HK2.out; have := HJ17.out; omega
                                case rel => exact ⟨(x6_17), (x7_17), (wrap64 (x8_2 + 1)), (by first | rfl | (simp; done) | (simp [*]; done)), (by first | rfl | (simp; done) | (simp [*]; done)), (by first | rfl | (simp; done) | (simp [*]; done)), H', ⟨by have := HK1.out; have := HK2.out; have := HJ17.out; omega⟩, ⟨by (with_reducible repeat (first | apply Kd.R_alloc | apply Kd.R_drewN | apply Kd.R_drew)); exact HO_4.out⟩, ⟨by repeat (first | (with_reducible first | exact HB.out | apply below_alloc | apply pw_below_drewN | apply below_drew1) | exact HB.out)⟩⟩
                            · rw [if_neg c22] at H
                              exact absurd H (by simp)
                          · rw [if_neg c21] at H
                            exact absurd H (by simp)
                    · rw [if_neg c17] at H; have c17b0 : (((rd_T42 t630 x8_2).f1) == x5_1) = false := beq_eq_false_iff_ne.mpr c17; have c17b1 : (((rd_T42 t630 x8_2).f1) != x5_1) = true := bne_iff_ne.mpr c17; have H' := Aside0.mk H; clear H
                      have p637 : 0 ≤ (x8_2 : Int) := of_decide_eq_true (by first | (with_reducible assumption) | assumption)
                      have q637 : x8_2 < (t630.length : Int) := of_decide_eq_true (by first | (with_reducible assumption) | assumption)
                      obtain ⟨ad637, e637, hx637_0, hx637_1, hx637_2, hx637_3⟩ := at_T42 (Kd.R_reads' HO_4.out).2.2 x8_2 p637 q637
                      cases e637
                      replace p637 := eq_true p637; replace q637 := eq_true q637
                      go_wp2
                      go_roundg k2
                      case measure => have := HK1.out; have := HK2.out; omega
                      case rel => exact ⟨(x6_2), (x7_2), (wrap64 (x8_2 + 1)), (by first | rfl | (simp; done) | (simp [*]; done)), (by first | rfl | (simp; done) | (simp [*]; done)), (by first | rfl | (simp; done) | (simp [*]; done)), H', ⟨by have := HK1.out; have := HK2.out; omega⟩, ⟨by (with_reducible repeat (first | apply Kd.R_alloc | apply Kd.R_drewN | apply Kd.R_drew)); exact HO_4.out⟩, ⟨by repeat (first | (with_reducible first | exact HB.out | apply below_alloc | apply pw_below_drewN | apply below_drew1) | exact HB.out)⟩⟩
                  · rw [if_neg c16] at H
                    exact absurd H (by simp)
                · rw [if_neg c15] at H; have c15b0 : decide (x8_2 < (t630.length : Int)) = false := decide_eq_false c15; clear c15
                  by_cases c25 : x7_2 = 0
                  · rw [if_pos c25] at H; have c25b0 : (x7_2 == 0) = true := beq_iff_eq.mpr c25; have c25b1 : (x7_2 != 0) = false := bne_eq_false_iff_eq.mpr c25; clear c25; have H' := Aside0.mk H; clear H
                    go_wp2
                    go_roundg k2
                    case measure => have := HK1.out; have := HK2.out; omega
                    case rel => exact ⟨(wrap64 (x5_1 + 1)), (by first | rfl | (simp; done) | (simp [*]; done)), H', ⟨by have := HK1.out; have := HK2.out; omega⟩, ⟨by (with_reducible repeat (first | apply Kd.R_alloc | apply Kd.R_drewN | apply Kd.R_drew)); exact HO_4.out⟩, ⟨by repeat (first | (with_reducible first | exact HB.out | apply below_alloc | apply pw_below_drewN | apply below_drew1) | exact HB.out)⟩⟩
                  · rw [if_neg c25] at H; have c25b0 : (x7_2 == 0) = false := beq_eq_false_iff_ne.mpr c25; have c25b1 : (x7_2 != 0) = true := bne_iff_ne.mpr c25; obtain rfl := Option.some.inj H
                    go_wp2
                    go_ret
                    exact ⟨by first | rfl | (simp [errW_none, errW_some] <;> rfl) | (simp [*, errW_none, errW_some] <;> rfl), by repeat (first | (with_reducible first | exact HB.out | apply below_alloc | apply pw_below_drewN | apply below_drew1) | exact HB.out)⟩
          · rw [if_neg c14] at H; have c14b0 : decide (x5_1 < 2) = false := decide_eq_false c14; clear c14; obtain rfl := Option.some.inj H
            go_wp2
            go_ret
            exact ⟨by first | rfl | (simp [errW_none, errW_some] <;> rfl) | (simp [*, errW_none, errW_some] <;> rfl), by repeat (first | (with_reducible first | exact HB.out | apply below_alloc | apply pw_below_drewN | apply below_drew1) | exact HB.out)⟩
    · replace c7 := Bool.eq_false_iff.mpr c7; subst c7
      have H1 : (some false) = some r := by rw [if_neg (show ¬ (false = true) by decide)] at H; exact H
      clear H; have H := H1; clear H1; obtain rfl := Option.some.inj H; go_enter Try.func7, Try.ntmps7
      go_wp2_with (first | ((with_reducible refine gate_callee (f := 25) rfl ?_); refine goesM_ (some 13) Try.func25 #[.slice A0 l0.length c0] ?_; (with_reducible refine (spec_DrawCodeOf.calls k _ _ l0 t627 _ ?side1 ?side2 A3.out).mono ?_); (case side1 => repeat (first | exact HR0.out | (with_reducible refine Kd.C_alloc ?_ _) | (with_reducible refine Kd.C_drewN ?_ _) | (with_reducible refine Kd.C_drew ?_))); (case side2 => exact HC0.out); rintro e w26 ⟨v628, rfl, ho0, hb⟩; refine ⟨_, rfl, ?_⟩; have n0_ := Aside0.mk (Kd.N_lower (Kd.N_mono (ok' := fun k_ => True) ho0 (fun k_ hk_ => trivial)) (below_size (q0_ HB))); have n1_ := Aside0.mk (below_step (q0_ HB) hb); clear HB; have HO629 := n0_; have HB := n1_; clear n0_ n1_; (try clear hb); (try clear hb2); (try clear hk); (try clear hi); (try clear ho0); obtain ⟨Ao27, co27, eo27⟩ := Kd.N_slice HO629.out; subst eo27) | ((with_reducible refine gate_callee (f := 20) rfl ?_); refine goesM_ (some 15) Try.func20 #[.slice Ao27 t627.length co27] ?_; (with_reducible refine (impl_CodeOf.calls k _ _ t627 t630 _ ?side1 ?side2 A4.out).mono ?_); (case side1 => repeat (first | exact (Kd.N_reads' HO629.out).2.2 | (with_reducible refine Kd.C_alloc ?_ _) | (with_reducible refine Kd.C_drewN ?_ _) | (with_reducible refine Kd.C_drew ?_))); (case side2 => exact (Kd.N_reads' HO629.out).2.1); rintro e w28 ⟨v631, rfl, ho0, hb⟩; refine ⟨_, rfl, ?_⟩; have n0_ := Aside0.mk (Kd.N_elder' (q15_ HO629) (Kd.R_base ho0) hb); have n1_ := Aside0.mk (Kd.R_lower ho0 (below_size (q0_ HB))); have n2_ := Aside0.mk (below_step (q0_ HB) hb); clear HO629; clear HB; have HO629 := n0_; have HO632 := n1_; have HB := n2_; clear n0_ n1_ n2_; (try clear hb); (try clear hb2); (try clear hk); (try clear hi); (try clear ho0)) | ((with_reducible refine gate_callee (f := 18) rfl ?_); refine goesM_ (some 18) Try.func18 #[.slice Ao27 t627.length co27] ?_; (with_reducible refine (spec_CodeOf.calls k _ _ t627 t633 _ ?side1 ?side2 A5.out).mono ?_); (case side1 => repeat (first | exact (Kd.N_reads' HO629.out).2.2 | (with_reducible refine Kd.C_alloc ?_ _) | (with_reducible refine Kd.C_drewN ?_ _) | (with_reducible refine Kd.C_drew ?_))); (case side2 => exact (Kd.N_reads' HO629.out).2.1); rintro e w29 ⟨v634, rfl, ho0, hb⟩; refine ⟨_, rfl, ?_⟩; have n0_ := Aside0.mk (Kd.N_elder' (q15_ HO629) (Kd.R_base ho0) hb); have n1_ := Aside0.mk (Kd.R_elder' (q3_ HO632) (Kd.R_base ho0) hb); have n2_ := Aside0.mk (Kd.R_lower (Kd.R_new' ho0 (Kd.R_lt (q3_ HO632))) (below_size (q0_ HB))); have n3_ := Aside0.mk (below_step (q0_ HB) hb); clear HO629; clear HO632; clear HB; have HO629 := n0_; have HO632 := n1_; have HO635 := n2_; have HB := n3_; clear n0_ n1_ n2_ n3_; (try clear hb); (try clear hb2); (try clear hk); (try clear hi); (try clear ho0); obtain ⟨Ao30, co30, eo30⟩ := Kd.R_slice HO632.out; subst eo30; obtain ⟨Ao31, co31, eo31⟩ := Kd.R_slice HO635.out; subst eo31) | ((with_reducible refine gate_callee (f := 26) rfl ?_); refine goesM_ (some 19) Try.func26 #[.slice Ao30 t630.length co30, .slice Ao31 t633.length co31] ?_; (with_reducible refine (impl_CodeSame.calls k _ _ t630 _ _ t633 false _ ?side1 ?side2 ?side3 ?side4 A6.out).mono ?_); (case side1 => repeat (first | exact (Kd.R_reads' HO632.out).2.2 | (with_reducible refine Kd.C_alloc ?_ _) | (with_reducible refine Kd.C_drewN ?_ _) | (with_reducible refine Kd.C_drew ?_))); (case side2 => exact (Kd.R_reads' HO632.out).2.1); (case side3 => repeat (first | exact (Kd.R_reads' HO635.out).2.2 | (with_reducible refine Kd.C_alloc ?_ _) | (with_reducible refine Kd.C_drewN ?_ _) | (with_reducible refine Kd.C_drew ?_))); (case side4 => exact (Kd.R_reads' HO635.out).2.1); rintro e w' ⟨rfl, ⟨nd, rfl⟩⟩; refine ⟨_, rfl, ?_⟩))
      go_ret
      exact ⟨by first | rfl | (simp [errW_none, errW_some] <;> rfl) | (simp [*, errW_none, errW_some] <;> rfl), by repeat (first | (with_reducible first | exact HB.out | apply below_alloc | apply pw_below_drewN | apply below_drew1) | exact HB.out)⟩
def laws_FnCodeRooms.Pure : Prop := ∀ (l0 : List Int), l0.length ≤ maxLen → l0.length * 1 ≤ 140737488351232 → (∀ x ∈ l0, (Lit.int .u8 x).wf = true) → ∃ k, laws_FnCodeRooms.f k l0 = some true
theorem laws_FnCodeRooms.walk (P : laws_FnCodeRooms.Pure) (a0 : Option Addr) (len0 cap0 : Nat) (z0 : List Int) (w : World) (w0 : (a0 = none ∧ len0 = 0 ∧ cap0 = 0 ∧ z0 = []) ∨ ∃ x, a0 = some x ∧ len0 ≤ cap0 ∧ cap0 ≤ maxLen ∧ z0.length = cap0 ∧ (∀ i, i < z0.length → w.cell? (x.add i) = some (.int .u8 (z0.getD i 0))) ∧ ∀ n ∈ z0, (Lit.int .u8 n).wf = true) (y0 : len0 * 1 ≤ 140737488351232) :
    Calls Try.prog 7 #[.slice a0 len0 cap0] w fun e w' => e = .returned (.bool true) ∧ Below w.heap.size w w' := by
  obtain ⟨l0, rfl, hr0, hm0, hw0, hc0⟩ := ReadsInt.ofRowC w0; obtain ⟨k, h⟩ := P l0 hm0 y0 hw0
  refine (laws_FnCodeRooms.calls k _ _ l0 true w (Kd.C_of_reads (d := (0 : Int)) (h1 := fun _ => rfl) hr0) hc0 h).mono ?_
  rintro e w' ⟨rfl, hd⟩
  exact ⟨rfl, hd⟩
end Go.Proofs.Ytphbdoljkpdflaa.P
