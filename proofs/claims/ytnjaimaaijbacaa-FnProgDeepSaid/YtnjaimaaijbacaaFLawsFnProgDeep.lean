/- Plain Lean functions for functions of the Go text, and that each call comes to what its function says; written by a program of this workplace (wip/gen.py) out of the translation; no condition beyond those that each theorem names. -/
import Derived.Test.YtnjaimaaijbacaaK
import Derived.Test.YtnjaimaaijbacaaQp
import Derived.Test.YtnjaimaaijbacaaFImplStmtOk
import Derived.Test.YtnjaimaaijbacaaFSpecDrawStmtOk
import Derived.Test.YtnjaimaaijbacaaFSpecStmtOk
namespace Go.Proofs.Ytnjaimaaijbacaa.P
open Go.RowKit Go.Proofs.YtnjaimaaijbacaaW.PrintWords Go.Proofs.YtnjaimaaijbacaaW.PrintLast Go.Proofs.YtnjaimaaijbacaaW.PrintMore
attribute [local go_sem] max2_int min2_int max_two min_two max_three min_three max_four min_four
set_option linter.unusedVariables false
set_option linter.unusedSimpArgs false

/-! ### laws_FnProgDeep: function 4 -/
mutual
def laws_FnProgDeep.j0 : Nat → Int → Int → Bool → Bool → Int → Int → Int → Int → List (S29) → List (S29) → Option (Bool)
  | 0, _, _, _, _, _, _, _, _, _, _ => none
  | k + 1, x4, x5, x6, x32, x359000, x359001, x359002, x359003, x359004, x359005 => if x32 = true then ((spec_StmtOk.f k x359000 x359001 x359002 x359003 x359004 x359005 x4 x5).bind fun t361 => (some (x6 == t361))) else (if x359000 = 8 then (laws_FnProgDeep.j1 k x4 x359001 x359000 x359001 x359002 x359003 x359004 x359005) else (laws_FnProgDeep.j1 k x4 x5 x359000 x359001 x359002 x359003 x359004 x359005))
def laws_FnProgDeep.j1 : Nat → Int → Int → Int → Int → Int → Int → List (S29) → List (S29) → Option (Bool)
  | 0, _, _, _, _, _, _, _, _ => none
  | k + 1, x4, x7, x359000, x359001, x359002, x359003, x359004, x359005 => laws_FnProgDeep.l0 k x4 x7 0 x359000 x359001 x359002 x359003 x359004 x359005
def laws_FnProgDeep.l0 : Nat → Int → Int → Int → Int → Int → Int → Int → List (S29) → List (S29) → Option (Bool)
  | 0, _, _, _, _, _, _, _, _, _ => none
  | k + 1, x4, x7, x8, x359000, x359001, x359002, x359003, x359004, x359005 => if x8 < (x359004.length : Int) then (if 0 ≤ x8 then ((impl_StmtOk.f k ((rd_T29 x359004 x8).f0) ((rd_T29 x359004 x8).f1) ((rd_T29 x359004 x8).f2) ((rd_T29 x359004 x8).f3) ((rd_T29 x359004 x8).f4) ((rd_T29 x359004 x8).f5) (wrap64 (x4 - 1)) x7).bind fun t363 => (if t363 = true then (laws_FnProgDeep.l0 k x4 x7 (wrap64 (x8 + 1)) x359000 x359001 x359002 x359003 x359004 x359005) else (some false))) else (none)) else (laws_FnProgDeep.l1 k x4 x7 0 x359000 x359001 x359002 x359003 x359004 x359005)
def laws_FnProgDeep.l1 : Nat → Int → Int → Int → Int → Int → Int → Int → List (S29) → List (S29) → Option (Bool)
  | 0, _, _, _, _, _, _, _, _, _ => none
  | k + 1, x4, x7, x9, x359000, x359001, x359002, x359003, x359004, x359005 => if x9 < (x359005.length : Int) then (if 0 ≤ x9 then ((impl_StmtOk.f k ((rd_T29 x359005 x9).f0) ((rd_T29 x359005 x9).f1) ((rd_T29 x359005 x9).f2) ((rd_T29 x359005 x9).f3) ((rd_T29 x359005 x9).f4) ((rd_T29 x359005 x9).f5) (wrap64 (x4 - 1)) x7).bind fun t365 => (if t365 = true then (laws_FnProgDeep.l1 k x4 x7 (wrap64 (x9 + 1)) x359000 x359001 x359002 x359003 x359004 x359005) else (some false))) else (none)) else (some (decide (x4 ≥ 1)))
end
def laws_FnProgDeep.f (k : Nat) (l0 : List Int) : Option (Bool) := if (l0.length : Int) > 1048576 then (some true) else ((spec_DrawStmtOk.f k l0).bind fun bt346 => ((impl_StmtOk.f k bt346.1 bt346.2.1 bt346.2.2.1 bt346.2.2.2.1 bt346.2.2.2.2.1 bt346.2.2.2.2.2.1 bt346.2.2.2.2.2.2.1 bt346.2.2.2.2.2.2.2).bind fun t359 => ((spec_StmtOk.f k bt346.1 bt346.2.1 bt346.2.2.1 bt346.2.2.2.1 bt346.2.2.2.2.1 bt346.2.2.2.2.2.1 bt346.2.2.2.2.2.2.1 bt346.2.2.2.2.2.2.2).bind fun t360 => (if (t359 != t360) = true then (laws_FnProgDeep.j0 k bt346.2.2.2.2.2.2.1 bt346.2.2.2.2.2.2.2 t359 true bt346.1 bt346.2.1 bt346.2.2.1 bt346.2.2.2.1 bt346.2.2.2.2.1 bt346.2.2.2.2.2.1) else (laws_FnProgDeep.j0 k bt346.2.2.2.2.2.2.1 bt346.2.2.2.2.2.2.2 t359 (!t359) bt346.1 bt346.2.1 bt346.2.2.1 bt346.2.2.2.1 bt346.2.2.2.2.1 bt346.2.2.2.2.2.1)))))
theorem laws_FnProgDeep.mono_l : ∀ k, (∀ y0 y1 y2 y3 y4 y5 y6 y7 y8 y9, LeO (laws_FnProgDeep.j0 k y0 y1 y2 y3 y4 y5 y6 y7 y8 y9) (laws_FnProgDeep.j0 (k + 1) y0 y1 y2 y3 y4 y5 y6 y7 y8 y9)) ∧ (∀ y0 y1 y2 y3 y4 y5 y6 y7, LeO (laws_FnProgDeep.j1 k y0 y1 y2 y3 y4 y5 y6 y7) (laws_FnProgDeep.j1 (k + 1) y0 y1 y2 y3 y4 y5 y6 y7)) ∧ (∀ y0 y1 y2 y3 y4 y5 y6 y7 y8, LeO (laws_FnProgDeep.l0 k y0 y1 y2 y3 y4 y5 y6 y7 y8) (laws_FnProgDeep.l0 (k + 1) y0 y1 y2 y3 y4 y5 y6 y7 y8)) ∧ (∀ y0 y1 y2 y3 y4 y5 y6 y7 y8, LeO (laws_FnProgDeep.l1 k y0 y1 y2 y3 y4 y5 y6 y7 y8) (laws_FnProgDeep.l1 (k + 1) y0 y1 y2 y3 y4 y5 y6 y7 y8))
  | 0 => ⟨fun _ _ _ _ _ _ _ _ _ _ r h => by simp [laws_FnProgDeep.j0] at h, fun _ _ _ _ _ _ _ _ r h => by simp [laws_FnProgDeep.j1] at h, fun _ _ _ _ _ _ _ _ _ r h => by simp [laws_FnProgDeep.l0] at h, fun _ _ _ _ _ _ _ _ _ r h => by simp [laws_FnProgDeep.l1] at h⟩
  | k + 1 => by
    obtain ⟨ih0, ih1, ih2, ih3⟩ := laws_FnProgDeep.mono_l k
    refine ⟨?_, ?_, ?_, ?_⟩
    · intro y0 y1 y2 y3 y4 y5 y6 y7 y8 y9
      unfold laws_FnProgDeep.j0
      repeat' first
      | (with_reducible exact ih0 _ _ _ _ _ _ _ _ _ _)
      | (with_reducible exact ih1 _ _ _ _ _ _ _ _)
      | (with_reducible exact ih2 _ _ _ _ _ _ _ _ _)
      | (with_reducible exact ih3 _ _ _ _ _ _ _ _ _)
      | (with_reducible exact impl_StmtOk.mono _ _ _ _ _ _ _ _ _)
      | (with_reducible exact spec_DrawStmtOk.mono _ _)
      | (with_reducible exact spec_StmtOk.mono _ _ _ _ _ _ _ _ _)
      | (with_reducible exact LeO.refl _)
      | (with_reducible exact LeO.none _)
      | (with_reducible refine LeO.ite ?_ ?_)
      | (with_reducible refine LeO.bind ?_ (fun _ => ?_))
      | exact ih0 _ _ _ _ _ _ _ _ _ _
      | exact ih1 _ _ _ _ _ _ _ _
      | exact ih2 _ _ _ _ _ _ _ _ _
      | exact ih3 _ _ _ _ _ _ _ _ _
      | exact impl_StmtOk.mono _ _ _ _ _ _ _ _ _
      | exact spec_DrawStmtOk.mono _ _
      | exact spec_StmtOk.mono _ _ _ _ _ _ _ _ _
      | exact LeO.none _
      | refine LeO.ite ?_ ?_
      | refine LeO.bind ?_ (fun _ => ?_)
    · intro y0 y1 y2 y3 y4 y5 y6 y7
      unfold laws_FnProgDeep.j1
      repeat' first
      | (with_reducible exact ih0 _ _ _ _ _ _ _ _ _ _)
      | (with_reducible exact ih1 _ _ _ _ _ _ _ _)
      | (with_reducible exact ih2 _ _ _ _ _ _ _ _ _)
      | (with_reducible exact ih3 _ _ _ _ _ _ _ _ _)
      | (with_reducible exact impl_StmtOk.mono _ _ _ _ _ _ _ _ _)
      | (with_reducible exact spec_DrawStmtOk.mono _ _)
      | (with_reducible exact spec_StmtOk.mono _ _ _ _ _ _ _ _ _)
      | (with_reducible exact LeO.refl _)
      | (with_reducible exact LeO.none _)
      | (with_reducible refine LeO.ite ?_ ?_)
      | (with_reducible refine LeO.bind ?_ (fun _ => ?_))
      | exact ih0 _ _ _ _ _ _ _ _ _ _
      | exact ih1 _ _ _ _ _ _ _ _
      | exact ih2 _ _ _ _ _ _ _ _ _
      | exact ih3 _ _ _ _ _ _ _ _ _
      | exact impl_StmtOk.mono _ _ _ _ _ _ _ _ _
      | exact spec_DrawStmtOk.mono _ _
      | exact spec_StmtOk.mono _ _ _ _ _ _ _ _ _
      | exact LeO.none _
      | refine LeO.ite ?_ ?_
      | refine LeO.bind ?_ (fun _ => ?_)
    · intro y0 y1 y2 y3 y4 y5 y6 y7 y8
      unfold laws_FnProgDeep.l0
      repeat' first
      | (with_reducible exact ih0 _ _ _ _ _ _ _ _ _ _)
      | (with_reducible exact ih1 _ _ _ _ _ _ _ _)
      | (with_reducible exact ih2 _ _ _ _ _ _ _ _ _)
      | (with_reducible exact ih3 _ _ _ _ _ _ _ _ _)
      | (with_reducible exact impl_StmtOk.mono _ _ _ _ _ _ _ _ _)
      | (with_reducible exact spec_DrawStmtOk.mono _ _)
      | (with_reducible exact spec_StmtOk.mono _ _ _ _ _ _ _ _ _)
      | (with_reducible exact LeO.refl _)
      | (with_reducible exact LeO.none _)
      | (with_reducible refine LeO.ite ?_ ?_)
      | (with_reducible refine LeO.bind ?_ (fun _ => ?_))
      | exact ih0 _ _ _ _ _ _ _ _ _ _
      | exact ih1 _ _ _ _ _ _ _ _
      | exact ih2 _ _ _ _ _ _ _ _ _
      | exact ih3 _ _ _ _ _ _ _ _ _
      | exact impl_StmtOk.mono _ _ _ _ _ _ _ _ _
      | exact spec_DrawStmtOk.mono _ _
      | exact spec_StmtOk.mono _ _ _ _ _ _ _ _ _
      | exact LeO.none _
      | refine LeO.ite ?_ ?_
      | refine LeO.bind ?_ (fun _ => ?_)
    · intro y0 y1 y2 y3 y4 y5 y6 y7 y8
      unfold laws_FnProgDeep.l1
      repeat' first
      | (with_reducible exact ih0 _ _ _ _ _ _ _ _ _ _)
      | (with_reducible exact ih1 _ _ _ _ _ _ _ _)
      | (with_reducible exact ih2 _ _ _ _ _ _ _ _ _)
      | (with_reducible exact ih3 _ _ _ _ _ _ _ _ _)
      | (with_reducible exact impl_StmtOk.mono _ _ _ _ _ _ _ _ _)
      | (with_reducible exact spec_DrawStmtOk.mono _ _)
      | (with_reducible exact spec_StmtOk.mono _ _ _ _ _ _ _ _ _)
      | (with_reducible exact LeO.refl _)
      | (with_reducible exact LeO.none _)
      | (with_reducible refine LeO.ite ?_ ?_)
      | (with_reducible refine LeO.bind ?_ (fun _ => ?_))
      | exact ih0 _ _ _ _ _ _ _ _ _ _
      | exact ih1 _ _ _ _ _ _ _ _
      | exact ih2 _ _ _ _ _ _ _ _ _
      | exact ih3 _ _ _ _ _ _ _ _ _
      | exact impl_StmtOk.mono _ _ _ _ _ _ _ _ _
      | exact spec_DrawStmtOk.mono _ _
      | exact spec_StmtOk.mono _ _ _ _ _ _ _ _ _
      | exact LeO.none _
      | refine LeO.ite ?_ ?_
      | refine LeO.bind ?_ (fun _ => ?_)
theorem laws_FnProgDeep.mono : ∀ a0 k, LeO (laws_FnProgDeep.f k a0) (laws_FnProgDeep.f (k + 1) a0) := by
  intro a0 k
  obtain ⟨ih0, ih1, ih2, ih3⟩ := laws_FnProgDeep.mono_l k
  unfold laws_FnProgDeep.f
  repeat' first
      | (with_reducible exact ih0 _ _ _ _ _ _ _ _ _ _)
      | (with_reducible exact ih1 _ _ _ _ _ _ _ _)
      | (with_reducible exact ih2 _ _ _ _ _ _ _ _ _)
      | (with_reducible exact ih3 _ _ _ _ _ _ _ _ _)
      | (with_reducible exact impl_StmtOk.mono _ _ _ _ _ _ _ _ _)
      | (with_reducible exact spec_DrawStmtOk.mono _ _)
      | (with_reducible exact spec_StmtOk.mono _ _ _ _ _ _ _ _ _)
      | (with_reducible exact LeO.refl _)
      | (with_reducible exact LeO.none _)
      | (with_reducible refine LeO.ite ?_ ?_)
      | (with_reducible refine LeO.bind ?_ (fun _ => ?_))
      | exact ih0 _ _ _ _ _ _ _ _ _ _
      | exact ih1 _ _ _ _ _ _ _ _
      | exact ih2 _ _ _ _ _ _ _ _ _
      | exact ih3 _ _ _ _ _ _ _ _ _
      | exact impl_StmtOk.mono _ _ _ _ _ _ _ _ _
      | exact spec_DrawStmtOk.mono _ _
      | exact spec_StmtOk.mono _ _ _ _ _ _ _ _ _
      | exact LeO.none _
      | refine LeO.ite ?_ ?_
      | refine LeO.bind ?_ (fun _ => ?_)
set_option maxHeartbeats 8000000 in
set_option maxRecDepth 100000 in
theorem laws_FnProgDeep.calls (k : Nat) (A0 : Option Addr) (c0 : Nat) (l0 : List Int) (r : Bool) (w : World) (hr0 : Kd.C (Kd.int .u8) w A0 l0.length l0) (hc0 : l0.length ≤ c0) (h : laws_FnProgDeep.f k l0 = some r) :
    Calls Try.prog 4 #[.slice A0 l0.length c0] w fun e w' => e = .returned (.bool r) ∧ Below w.heap.size w w' := by
  have hu29 := Try.underlying29
  have HR0 := Aside0.mk hr0
  have HC0 := Aside0.mk hc0
  clear hr0 hc0
  have HB := Aside0.mk (Below.refl w.heap.size w)
  have H : (if (l0.length : Int) > 1048576 then (some true) else ((spec_DrawStmtOk.f k l0).bind fun bt346 => ((impl_StmtOk.f k bt346.1 bt346.2.1 bt346.2.2.1 bt346.2.2.2.1 bt346.2.2.2.2.1 bt346.2.2.2.2.2.1 bt346.2.2.2.2.2.2.1 bt346.2.2.2.2.2.2.2).bind fun t359 => ((spec_StmtOk.f k bt346.1 bt346.2.1 bt346.2.2.1 bt346.2.2.2.1 bt346.2.2.2.2.1 bt346.2.2.2.2.2.1 bt346.2.2.2.2.2.2.1 bt346.2.2.2.2.2.2.2).bind fun t360 => (if (t359 != t360) = true then (laws_FnProgDeep.j0 k bt346.2.2.2.2.2.2.1 bt346.2.2.2.2.2.2.2 t359 true bt346.1 bt346.2.1 bt346.2.2.1 bt346.2.2.2.1 bt346.2.2.2.2.1 bt346.2.2.2.2.2.1) else (laws_FnProgDeep.j0 k bt346.2.2.2.2.2.2.1 bt346.2.2.2.2.2.2.2 t359 (!t359) bt346.1 bt346.2.1 bt346.2.2.1 bt346.2.2.2.1 bt346.2.2.2.2.1 bt346.2.2.2.2.2.1)))))) = some r := h
  clear h
  by_cases c2 : (l0.length : Int) > 1048576
  · rw [if_pos c2] at H
    have c2b0 : decide (1048576 < (l0.length : Int)) = true := decide_eq_true c2
    have c2b1 : decide (1048576 < l0.length) = true := decide_eq_true (by omega)
    clear c2
    obtain rfl := Option.some.inj H
    go_enter Try.func4, Try.ntmps4
    go_wp2
    go_ret
    exact ⟨by first | rfl | (simp [errW_none, errW_some] <;> rfl) | (simp [*, errW_none, errW_some] <;> rfl), by repeat (first | (with_reducible first | exact HB.out | apply below_alloc | apply pw_below_drewN | apply below_drew1) | exact HB.out)⟩
  · rw [if_neg c2] at H
    have c2b0 : decide (1048576 < (l0.length : Int)) = false := decide_eq_false c2
    have c2b1 : decide (1048576 < l0.length) = false := decide_eq_false (by omega)
    clear c2
    replace H := Option.bind_eq_some_iff.mp H
    obtain ⟨⟨t346, t347, t348, t349, t350, t353, t356, t357⟩, A30, H⟩ := H
    replace H : ((impl_StmtOk.f k t346 t347 t348 t349 t350 t353 t356 t357).bind fun t359 => ((spec_StmtOk.f k t346 t347 t348 t349 t350 t353 t356 t357).bind fun t360 => (if (t359 != t360) = true then (laws_FnProgDeep.j0 k t356 t357 t359 true t346 t347 t348 t349 t350 t353) else (laws_FnProgDeep.j0 k t356 t357 t359 (!t359) t346 t347 t348 t349 t350 t353)))) = some r := H
    have A3 := Aside0.mk A30
    clear A30
    replace H := Option.bind_eq_some_iff.mp H
    obtain ⟨t359, A40, H⟩ := H
    replace H : ((spec_StmtOk.f k t346 t347 t348 t349 t350 t353 t356 t357).bind fun t360 => (if (t359 != t360) = true then (laws_FnProgDeep.j0 k t356 t357 t359 true t346 t347 t348 t349 t350 t353) else (laws_FnProgDeep.j0 k t356 t357 t359 (!t359) t346 t347 t348 t349 t350 t353))) = some r := H
    have A4 := Aside0.mk A40
    clear A40
    have HC5 := Aside0.mk H
    clear H
    go_enter Try.func4, Try.ntmps4
    go_upto_region 5 with (first | ((with_reducible refine gate_callee (f := 20) rfl ?_); refine goesL_ (some 15) rfl rfl Try.func20 (by kernel_rfl) rfl #[.slice A0 l0.length c0] rfl (by (try simp only [List.map_toArray, List.map_cons, List.map_nil]); first | done | rfl | (simp only [List.length_drop, List.length_take]; rfl)) ?_; (with_reducible refine (spec_DrawStmtOk.calls k _ _ l0 t346 t347 t348 t349 t350 t353 t356 t357 _ ?side1 ?side2 A3.out).mono ?_); (case side1 => repeat (first | exact HR0.out | (with_reducible refine Kd.C_alloc ?_ _) | (with_reducible refine Kd.C_drewN ?_ _) | (with_reducible refine Kd.C_drew ?_))); (case side2 => exact HC0.out); rintro e w6 ⟨v351, v354, rfl, ho0, ho1, hb⟩; refine ⟨_, rfl, ?_⟩; have n0_ := Aside0.mk (Kd.V_lower (Kd.V_mono (ok' := fun k_ => True) ho0 (fun k_ hk_ => trivial)) (below_size (q0_ HB))); have n1_ := Aside0.mk (Kd.V_lower (Kd.V_mono (ok' := fun k_ => True) ho1 (fun k_ hk_ => trivial)) (below_size (q0_ HB))); have n2_ := Aside0.mk (below_step (q0_ HB) hb); clear HB; have HO352 := n0_; have HO355 := n1_; have HB := n2_; clear n0_ n1_ n2_; (try clear hb); (try clear hb2); (try clear hk); (try clear hi); (try clear ho0); (try clear ho1)) | ((with_reducible refine gate_dst (N := 3) rfl ?_); refine box_event ?hg (N := 3) ?hd (cs := #[.int .i64 0, .int .i64 0, .int .i64 0, .int .i64 0, .slice none 0 0, .slice none 0 0]) (t := 29) ?hr ?_; (case hd => rfl); (case hg => rfl); (case hr => first | (go_simp; done) | (go_simp; rfl)); intro gb358 hg w7 hbox hb; have n0_ := Aside0.mk (Kd.V_below (Kd.V_elderB (q13_ HO352) gb358 (Nat.le_of_eq hg.symm)) hb); have n1_ := Aside0.mk (Kd.V_below (Kd.V_elderB (q13_ HO355) gb358 (Nat.le_of_eq hg.symm)) hb); have n2_ := Aside0.mk (below_step (q0_ HB) hb); have n3_ := Aside0.mk (hbox); have n4_ := Aside0.mk ((by rw [hg]; exact (below_size (q0_ HB)) : w.heap.size ≤ gb358)); have n5_ := Aside0.mk ((by rw [hg]; exact (below_size (q0_ HB)) : w.heap.size ≤ gb358)); clear HO352; clear HO355; clear HB; have HO352 := n0_; have HO355 := n1_; have HB := n2_; have BK358 := n3_; have GW358 := n4_; have GE358 := n5_; clear n0_ n1_ n2_ n3_ n4_ n5_; clear hb hbox hg; obtain ⟨hcz8_0, hcz8_1, hcz8_2, hcz8_3, hcz8_4, hcz8_5, hfz8_0, hfz8_1, hfz8_2, hfz8_3, hfz8_4, hfz8_5⟩ := bz6_ BK358; obtain ⟨Ao9, co9, eo9⟩ := Kd.V_slice HO352.out; subst eo9; obtain ⟨Ao10, co10, eo10⟩ := Kd.V_slice HO355.out; subst eo10) | ((with_reducible refine gate_callee (f := 18) rfl ?_); refine goesL_ (some 22) rfl rfl Try.func18 (by kernel_rfl) rfl #[.agg #[.int .i64 t346, .int .i64 t347, .int .i64 t348, .int .i64 t349, .slice Ao9 t350.length co9, .slice Ao10 t353.length co10], .int .i64 t356, .int .i64 t357] rfl (by (try simp only [List.map_toArray, List.map_cons, List.map_nil]); first | done | rfl | (simp only [List.length_drop, List.length_take]; rfl)) ?_; (with_reducible refine (impl_StmtOk.calls k t346 t347 t348 t349 _ _ t350 _ _ t353 t356 t357 t359 _ ?side1 ?side2 ?side3 ?side4 A4.out).mono ?_); (case side1 => refine (Kd.V_reads' (e := 29) (base := w.heap.size) (ok := fun k_ => (True ∧ k_ ≠ gb358)) (n := t350.length) (c := co9) ?_).2.2; exact (by (with_reducible repeat (first | apply Kd.V_alloc | apply Kd.V_drewN | apply Kd.V_drew)); exact (Kd.V_mono (Kd.V_far (p := ⟨gb358, 5, none⟩) (Kd.V_far (p := ⟨gb358, 4, none⟩) (Kd.V_far (p := ⟨gb358, 3, none⟩) (Kd.V_far (p := ⟨gb358, 2, none⟩) (Kd.V_far (p := ⟨gb358, 1, none⟩) (Kd.V_far (p := ⟨gb358, 0, none⟩) (Kd.V_mono HO352.out (fun k_ hk => (⟨hk, hk.2⟩ : _ ∧ k_ ≠ gb358))) (fun _ hk => hk.2) (.int .i64 t346)) (fun _ hk => hk.2) (.int .i64 t347)) (fun _ hk => hk.2) (.int .i64 t348)) (fun _ hk => hk.2) (.int .i64 t349)) (fun _ hk => hk.2) (.slice Ao9 t350.length co9)) (fun _ hk => hk.2) (.slice Ao10 t353.length co10)) (fun _ h_ => h_.1)))); (case side2 => exact (Kd.V_reads' HO352.out).2.1); (case side3 => refine (Kd.V_reads' (e := 29) (base := w.heap.size) (ok := fun k_ => (True ∧ k_ ≠ gb358)) (n := t353.length) (c := co10) ?_).2.2; exact (by (with_reducible repeat (first | apply Kd.V_alloc | apply Kd.V_drewN | apply Kd.V_drew)); exact (Kd.V_mono (Kd.V_far (p := ⟨gb358, 5, none⟩) (Kd.V_far (p := ⟨gb358, 4, none⟩) (Kd.V_far (p := ⟨gb358, 3, none⟩) (Kd.V_far (p := ⟨gb358, 2, none⟩) (Kd.V_far (p := ⟨gb358, 1, none⟩) (Kd.V_far (p := ⟨gb358, 0, none⟩) (Kd.V_mono HO355.out (fun k_ hk => (⟨hk, hk.2⟩ : _ ∧ k_ ≠ gb358))) (fun _ hk => hk.2) (.int .i64 t346)) (fun _ hk => hk.2) (.int .i64 t347)) (fun _ hk => hk.2) (.int .i64 t348)) (fun _ hk => hk.2) (.int .i64 t349)) (fun _ hk => hk.2) (.slice Ao9 t350.length co9)) (fun _ hk => hk.2) (.slice Ao10 t353.length co10)) (fun _ h_ => h_.1)))); (case side4 => exact (Kd.V_reads' HO355.out).2.1); rintro e w11 ⟨rfl, hb⟩; refine ⟨_, rfl, ?_⟩; have n0_ := Aside0.mk (Kd.V_below (by (with_reducible repeat (first | apply Kd.V_alloc | apply Kd.V_drewN | apply Kd.V_drew)); exact (Kd.V_mono (Kd.V_far (p := ⟨gb358, 5, none⟩) (Kd.V_far (p := ⟨gb358, 4, none⟩) (Kd.V_far (p := ⟨gb358, 3, none⟩) (Kd.V_far (p := ⟨gb358, 2, none⟩) (Kd.V_far (p := ⟨gb358, 1, none⟩) (Kd.V_far (p := ⟨gb358, 0, none⟩) (Kd.V_mono HO352.out (fun k_ hk => (⟨hk, hk.2⟩ : _ ∧ k_ ≠ gb358))) (fun _ hk => hk.2) (.int .i64 t346)) (fun _ hk => hk.2) (.int .i64 t347)) (fun _ hk => hk.2) (.int .i64 t348)) (fun _ hk => hk.2) (.int .i64 t349)) (fun _ hk => hk.2) (.slice Ao9 t350.length co9)) (fun _ hk => hk.2) (.slice Ao10 t353.length co10)) (fun _ h_ => h_.1))) hb); have n1_ := Aside0.mk (Kd.V_below (by (with_reducible repeat (first | apply Kd.V_alloc | apply Kd.V_drewN | apply Kd.V_drew)); exact (Kd.V_mono (Kd.V_far (p := ⟨gb358, 5, none⟩) (Kd.V_far (p := ⟨gb358, 4, none⟩) (Kd.V_far (p := ⟨gb358, 3, none⟩) (Kd.V_far (p := ⟨gb358, 2, none⟩) (Kd.V_far (p := ⟨gb358, 1, none⟩) (Kd.V_far (p := ⟨gb358, 0, none⟩) (Kd.V_mono HO355.out (fun k_ hk => (⟨hk, hk.2⟩ : _ ∧ k_ ≠ gb358))) (fun _ hk => hk.2) (.int .i64 t346)) (fun _ hk => hk.2) (.int .i64 t347)) (fun _ hk => hk.2) (.int .i64 t348)) (fun _ hk => hk.2) (.int .i64 t349)) (fun _ hk => hk.2) (.slice Ao9 t350.length co9)) (fun _ hk => hk.2) (.slice Ao10 t353.length co10)) (fun _ h_ => h_.1))) hb); have n2_ := Aside0.mk (blk_below (g := gb358) (o := .cells #[.int .i64 t346, .int .i64 t347, .int .i64 t348, .int .i64 t349, .slice Ao9 t350.length co9, .slice Ao10 t353.length co10] 29 (0, 0)) (q9_ BK358) hb); have n3_ := Aside0.mk (below_step (q2_ HB GE358) hb); clear HO352; clear HO355; clear BK358; clear HB; have HO352 := n0_; have HO355 := n1_; have BK358 := n2_; have HB := n3_; clear n0_ n1_ n2_ n3_; (try clear hb); (try clear hb2); (try clear hk); (try clear hi)))
    (try simp only [Act.put, List.setIfInBounds_toArray, List.set_cons_zero, List.set_cons_succ])
    go_cut [32] (fun v32 wc => ∃ (kq : Nat) (x32_4 : Bool), v32 = .bool x32_4 ∧ Aside0 (laws_FnProgDeep.j0 kq t356 t357 t359 x32_4 t346 t347 t348 t349 t350 t353 = some r) ∧ Aside0 (kq ≤ k) ∧ Aside0 (Kd.V k29 29 wc w.heap.size (fun k_ => k_ ≠ gb358) (.slice Ao9 t350.length co9) t350) ∧ Aside0 (Kd.V k29 29 wc w.heap.size (fun k_ => k_ ≠ gb358) (.slice Ao10 t353.length co10) t353) ∧ Aside0 (wc.heap[gb358]? = some (.cells #[.int .i64 t346, .int .i64 t347, .int .i64 t348, .int .i64 t349, (.slice Ao9 t350.length co9), (.slice Ao10 t353.length co10)] 29 (0, 0))) ∧ Aside0 (Below w.heap.size w wc))
    case first =>
      have H := HC5.out
      clear HC5
      replace H := Option.bind_eq_some_iff.mp H
      obtain ⟨t360, A120, H⟩ := H
      replace H : (if (t359 != t360) = true then (laws_FnProgDeep.j0 k t356 t357 t359 true t346 t347 t348 t349 t350 t353) else (laws_FnProgDeep.j0 k t356 t357 t359 (!t359) t346 t347 t348 t349 t350 t353)) = some r := H
      have A12 := Aside0.mk A120
      clear A120
      by_cases c13 : (t359 != t360) = true
      · rw [if_pos c13] at H
        have c13b0 : (t359 != t360) = true := c13
        (try (have c13b1 : decide (t359 = t360) = false := by simpa using c13))
        (try (have c13b2 : (t359 == t360) = false := by simpa using c13))
        (try (have c13b3 : ¬ (t359 = t360) := by simpa using c13))
        clear c13
        (first | rw [c13b0] | (simp only [i64_w, i32_w]; rw [c13b0]) | skip)
        have H' := Aside0.mk H
        clear H
        have hcz14_0 : w11.cell? ⟨gb358, 0, none⟩ = some (.int .i64 t346) := (blk_cell BK358.out 0).trans rfl
        have hcz14_1 : w11.cell? ⟨gb358, 1, none⟩ = some (.int .i64 t347) := (blk_cell BK358.out 1).trans rfl
        have hcz14_2 : w11.cell? ⟨gb358, 2, none⟩ = some (.int .i64 t348) := (blk_cell BK358.out 2).trans rfl
        have hcz14_3 : w11.cell? ⟨gb358, 3, none⟩ = some (.int .i64 t349) := (blk_cell BK358.out 3).trans rfl
        have hcz14_4 : w11.cell? ⟨gb358, 4, none⟩ = some (.slice Ao9 t350.length co9) := (blk_cell BK358.out 4).trans rfl
        have hcz14_5 : w11.cell? ⟨gb358, 5, none⟩ = some (.slice Ao10 t353.length co10) := (blk_cell BK358.out 5).trans rfl
        have hfz14_0 := blk_frozen BK358.out 0
        have hfz14_1 := blk_frozen BK358.out 1
        have hfz14_2 := blk_frozen BK358.out 2
        have hfz14_3 := blk_frozen BK358.out 3
        have hfz14_4 := blk_frozen BK358.out 4
        have hfz14_5 := blk_frozen BK358.out 5
        go_wp2_with (first | ((with_reducible refine gate_callee (f := 16) rfl ?_); refine goesL_ (some 27) rfl rfl Try.func16 (by kernel_rfl) rfl #[.agg #[.int .i64 t346, .int .i64 t347, .int .i64 t348, .int .i64 t349, .slice Ao9 t350.length co9, .slice Ao10 t353.length co10], .int .i64 t356, .int .i64 t357] rfl (by (try simp only [List.map_toArray, List.map_cons, List.map_nil]); first | done | rfl | (simp only [List.length_drop, List.length_take]; rfl)) ?_; (with_reducible refine (spec_StmtOk.calls k t346 t347 t348 t349 _ _ t350 _ _ t353 t356 t357 t360 _ ?side1 ?side2 ?side3 ?side4 A12.out).mono ?_); (case side1 => repeat (first | exact (Kd.V_reads' HO352.out).2.2 | (with_reducible refine Kd.C_alloc ?_ _) | (with_reducible refine Kd.C_drewN ?_ _) | (with_reducible refine Kd.C_drew ?_))); (case side2 => exact (Kd.V_reads' HO352.out).2.1); (case side3 => repeat (first | exact (Kd.V_reads' HO355.out).2.2 | (with_reducible refine Kd.C_alloc ?_ _) | (with_reducible refine Kd.C_drewN ?_ _) | (with_reducible refine Kd.C_drew ?_))); (case side4 => exact (Kd.V_reads' HO355.out).2.1); rintro e w15 ⟨rfl, hb⟩; refine ⟨_, rfl, ?_⟩; have n0_ := Aside0.mk (Kd.V_below (q13_ HO352) hb); have n1_ := Aside0.mk (Kd.V_below (q13_ HO355) hb); have n2_ := Aside0.mk (blk_below (g := gb358) (o := .cells #[.int .i64 t346, .int .i64 t347, .int .i64 t348, .int .i64 t349, .slice Ao9 t350.length co9, .slice Ao10 t353.length co10] 29 (0, 0)) (q1_ BK358) hb); have n3_ := Aside0.mk (below_step (q2_ HB GE358) hb); clear HO352; clear HO355; clear BK358; clear HB; have HO352 := n0_; have HO355 := n1_; have BK358 := n2_; have HB := n3_; clear n0_ n1_ n2_ n3_; (try clear hb); (try clear hb2); (try clear hk); (try clear hi)))
        go_meet
        case rel => exact ⟨_, (true), (by first | rfl | (simp; done) | (simp [*]; done)), H', ⟨by first | omega | exact Nat.le_refl _⟩, ⟨by (with_reducible repeat (first | apply Kd.V_alloc | apply Kd.V_drewN | apply Kd.V_drew)); exact Kd.V_mono HO352.out (fun _ hk => hk.2)⟩, ⟨by (with_reducible repeat (first | apply Kd.V_alloc | apply Kd.V_drewN | apply Kd.V_drew)); exact Kd.V_mono HO355.out (fun _ hk => hk.2)⟩, ⟨by (with_reducible repeat (first | refine blk_drewN ?_ _ | refine blk_drew ?_ | refine blk_alloc ?_ _)); exact BK358.out⟩, ⟨by repeat (first | (with_reducible first | exact HB.out | apply below_alloc | apply pw_below_drewN | apply below_drew1 | refine below_set ?_ GE358.out) | exact HB.out)⟩⟩
      · rw [if_neg c13] at H
        have c13b0 : (t359 != t360) = false := by simpa using c13
        (try (have c13b1 : decide (t359 = t360) = true := by simpa using c13))
        (try (have c13b2 : (t359 == t360) = true := by simpa using c13))
        clear c13
        (first | rw [c13b0] | (simp only [i64_w, i32_w]; rw [c13b0]) | skip)
        have H' := Aside0.mk H
        clear H
        have hcz16_0 : w11.cell? ⟨gb358, 0, none⟩ = some (.int .i64 t346) := (blk_cell BK358.out 0).trans rfl
        have hcz16_1 : w11.cell? ⟨gb358, 1, none⟩ = some (.int .i64 t347) := (blk_cell BK358.out 1).trans rfl
        have hcz16_2 : w11.cell? ⟨gb358, 2, none⟩ = some (.int .i64 t348) := (blk_cell BK358.out 2).trans rfl
        have hcz16_3 : w11.cell? ⟨gb358, 3, none⟩ = some (.int .i64 t349) := (blk_cell BK358.out 3).trans rfl
        have hcz16_4 : w11.cell? ⟨gb358, 4, none⟩ = some (.slice Ao9 t350.length co9) := (blk_cell BK358.out 4).trans rfl
        have hcz16_5 : w11.cell? ⟨gb358, 5, none⟩ = some (.slice Ao10 t353.length co10) := (blk_cell BK358.out 5).trans rfl
        have hfz16_0 := blk_frozen BK358.out 0
        have hfz16_1 := blk_frozen BK358.out 1
        have hfz16_2 := blk_frozen BK358.out 2
        have hfz16_3 := blk_frozen BK358.out 3
        have hfz16_4 := blk_frozen BK358.out 4
        have hfz16_5 := blk_frozen BK358.out 5
        go_wp2_with (first | ((with_reducible refine gate_callee (f := 16) rfl ?_); refine goesL_ (some 27) rfl rfl Try.func16 (by kernel_rfl) rfl #[.agg #[.int .i64 t346, .int .i64 t347, .int .i64 t348, .int .i64 t349, .slice Ao9 t350.length co9, .slice Ao10 t353.length co10], .int .i64 t356, .int .i64 t357] rfl (by (try simp only [List.map_toArray, List.map_cons, List.map_nil]); first | done | rfl | (simp only [List.length_drop, List.length_take]; rfl)) ?_; (with_reducible refine (spec_StmtOk.calls k t346 t347 t348 t349 _ _ t350 _ _ t353 t356 t357 t360 _ ?side1 ?side2 ?side3 ?side4 A12.out).mono ?_); (case side1 => repeat (first | exact (Kd.V_reads' HO352.out).2.2 | (with_reducible refine Kd.C_alloc ?_ _) | (with_reducible refine Kd.C_drewN ?_ _) | (with_reducible refine Kd.C_drew ?_))); (case side2 => exact (Kd.V_reads' HO352.out).2.1); (case side3 => repeat (first | exact (Kd.V_reads' HO355.out).2.2 | (with_reducible refine Kd.C_alloc ?_ _) | (with_reducible refine Kd.C_drewN ?_ _) | (with_reducible refine Kd.C_drew ?_))); (case side4 => exact (Kd.V_reads' HO355.out).2.1); rintro e w17 ⟨rfl, hb⟩; refine ⟨_, rfl, ?_⟩; have n0_ := Aside0.mk (Kd.V_below (q13_ HO352) hb); have n1_ := Aside0.mk (Kd.V_below (q13_ HO355) hb); have n2_ := Aside0.mk (blk_below (g := gb358) (o := .cells #[.int .i64 t346, .int .i64 t347, .int .i64 t348, .int .i64 t349, .slice Ao9 t350.length co9, .slice Ao10 t353.length co10] 29 (0, 0)) (q1_ BK358) hb); have n3_ := Aside0.mk (below_step (q2_ HB GE358) hb); clear HO352; clear HO355; clear BK358; clear HB; have HO352 := n0_; have HO355 := n1_; have BK358 := n2_; have HB := n3_; clear n0_ n1_ n2_ n3_; (try clear hb); (try clear hb2); (try clear hk); (try clear hi)))
        go_meet
        case rel => exact ⟨_, (!t359), (by first | rfl | (simp; done) | (simp [*]; done)), H', ⟨by first | omega | exact Nat.le_refl _⟩, ⟨by (with_reducible repeat (first | apply Kd.V_alloc | apply Kd.V_drewN | apply Kd.V_drew)); exact Kd.V_mono HO352.out (fun _ hk => hk.2)⟩, ⟨by (with_reducible repeat (first | apply Kd.V_alloc | apply Kd.V_drewN | apply Kd.V_drew)); exact Kd.V_mono HO355.out (fun _ hk => hk.2)⟩, ⟨by (with_reducible repeat (first | refine blk_drewN ?_ _ | refine blk_drew ?_ | refine blk_alloc ?_ _)); exact BK358.out⟩, ⟨by repeat (first | (with_reducible first | exact HB.out | apply below_alloc | apply pw_below_drewN | apply below_drew1 | refine below_set ?_ GE358.out) | exact HB.out)⟩⟩
    case rest =>
      clear HC5
      try clear c1
      try clear c2
      try clear c2b0
      try clear c2b1
      try clear p2
      try clear c4
      try clear c13
      try clear c13b0
      try clear c13b1
      try clear c13b2
      try clear c16
      try clear hcz14_0
      try clear hcz14_1
      try clear hcz14_2
      try clear hcz14_3
      try clear hcz14_4
      try clear hcz14_5
      try clear hcz16_0
      try clear hcz16_1
      try clear hcz16_2
      try clear hcz16_3
      try clear hcz16_4
      try clear hcz16_5
      try clear hcz8_0
      try clear hcz8_1
      try clear hcz8_2
      try clear hcz8_3
      try clear hcz8_4
      try clear hcz8_5
      try clear hfz14_0
      try clear hfz14_1
      try clear hfz14_2
      try clear hfz14_3
      try clear hfz14_4
      try clear hfz14_5
      try clear hfz16_0
      try clear hfz16_1
      try clear hfz16_2
      try clear hfz16_3
      try clear hfz16_4
      try clear hfz16_5
      try clear hfz8_0
      try clear hfz8_1
      try clear hfz8_2
      try clear hfz8_3
      try clear hfz8_4
      try clear hfz8_5
      obtain ⟨kq, x32_4, rfl, HA, HJ4, HO_359004, HO_359005, BK358, HB⟩ := hcut
      cases kq with
      | zero => exact absurd HA.out (by simp [laws_FnProgDeep.j0])
      | succ kj4 =>
        have H := HA.out
        clear HA
        simp only [laws_FnProgDeep.j0] at H
        by_cases c18 : x32_4 = true
        · subst c18
          have H1 : ((spec_StmtOk.f kj4 t346 t347 t348 t349 t350 t353 t356 t357).bind fun t361 => (some (t359 == t361))) = some r := by rw [if_pos rfl] at H; exact H
          clear H
          have H := H1
          clear H1
          replace H := Option.bind_eq_some_iff.mp H
          obtain ⟨t361, A190, H⟩ := H
          replace H : (some (t359 == t361)) = some r := H
          have A19 := Aside0.mk A190
          clear A190
          obtain rfl := Option.some.inj H
          have hcz20_0 : wc.cell? ⟨gb358, 0, none⟩ = some (.int .i64 t346) := (blk_cell BK358.out 0).trans rfl
          have hcz20_1 : wc.cell? ⟨gb358, 1, none⟩ = some (.int .i64 t347) := (blk_cell BK358.out 1).trans rfl
          have hcz20_2 : wc.cell? ⟨gb358, 2, none⟩ = some (.int .i64 t348) := (blk_cell BK358.out 2).trans rfl
          have hcz20_3 : wc.cell? ⟨gb358, 3, none⟩ = some (.int .i64 t349) := (blk_cell BK358.out 3).trans rfl
          have hcz20_4 : wc.cell? ⟨gb358, 4, none⟩ = some (.slice Ao9 t350.length co9) := (blk_cell BK358.out 4).trans rfl
          have hcz20_5 : wc.cell? ⟨gb358, 5, none⟩ = some (.slice Ao10 t353.length co10) := (blk_cell BK358.out 5).trans rfl
          have hfz20_0 := blk_frozen BK358.out 0
          have hfz20_1 := blk_frozen BK358.out 1
          have hfz20_2 := blk_frozen BK358.out 2
          have hfz20_3 := blk_frozen BK358.out 3
          have hfz20_4 := blk_frozen BK358.out 4
          have hfz20_5 := blk_frozen BK358.out 5
          go_wp2_with (first | ((with_reducible refine gate_callee (f := 16) rfl ?_); refine goesL_ (some 37) rfl rfl Try.func16 (by kernel_rfl) rfl #[.agg #[.int .i64 t346, .int .i64 t347, .int .i64 t348, .int .i64 t349, .slice Ao9 t350.length co9, .slice Ao10 t353.length co10], .int .i64 t356, .int .i64 t357] rfl (by (try simp only [List.map_toArray, List.map_cons, List.map_nil]); first | done | rfl | (simp only [List.length_drop, List.length_take]; rfl)) ?_; (with_reducible refine (spec_StmtOk.calls kj4 t346 t347 t348 t349 _ _ t350 _ _ t353 t356 t357 t361 _ ?side1 ?side2 ?side3 ?side4 A19.out).mono ?_); (case side1 => repeat (first | exact (Kd.V_reads' HO_359004.out).2.2 | (with_reducible refine Kd.C_alloc ?_ _) | (with_reducible refine Kd.C_drewN ?_ _) | (with_reducible refine Kd.C_drew ?_))); (case side2 => exact (Kd.V_reads' HO_359004.out).2.1); (case side3 => repeat (first | exact (Kd.V_reads' HO_359005.out).2.2 | (with_reducible refine Kd.C_alloc ?_ _) | (with_reducible refine Kd.C_drewN ?_ _) | (with_reducible refine Kd.C_drew ?_))); (case side4 => exact (Kd.V_reads' HO_359005.out).2.1); rintro e w21 ⟨rfl, hb⟩; refine ⟨_, rfl, ?_⟩; have n0_ := Aside0.mk (Kd.V_below (q13_ HO_359004) hb); have n1_ := Aside0.mk (Kd.V_below (q13_ HO_359005) hb); have n2_ := Aside0.mk (blk_below (g := gb358) (o := .cells #[.int .i64 t346, .int .i64 t347, .int .i64 t348, .int .i64 t349, .slice Ao9 t350.length co9, .slice Ao10 t353.length co10] 29 (0, 0)) (q1_ BK358) hb); have n3_ := Aside0.mk (below_step (q2_ HB GE358) hb); clear HO_359004; clear HO_359005; clear BK358; clear HB; have HO_359004 := n0_; have HO_359005 := n1_; have BK358 := n2_; have HB := n3_; clear n0_ n1_ n2_ n3_; (try clear hb); (try clear hb2); (try clear hk); (try clear hi)))
          go_ret
          exact ⟨by first | rfl | (simp [errW_none, errW_some] <;> rfl) | (simp [*, errW_none, errW_some] <;> rfl), by repeat (first | (with_reducible first | exact HB.out | apply below_alloc | apply pw_below_drewN | apply below_drew1 | refine below_set ?_ GE358.out) | exact HB.out)⟩
        · replace c18 := Bool.eq_false_iff.mpr c18
          subst c18
          have H1 : (if t346 = 8 then (laws_FnProgDeep.j1 kj4 t356 t347 t346 t347 t348 t349 t350 t353) else (laws_FnProgDeep.j1 kj4 t356 t357 t346 t347 t348 t349 t350 t353)) = some r := by rw [if_neg (show ¬ (false = true) by decide)] at H; exact H
          clear H
          have H := H1
          clear H1
          have HC22 := Aside0.mk H
          clear H
          have hcz23_0 : wc.cell? ⟨gb358, 0, none⟩ = some (.int .i64 t346) := (blk_cell BK358.out 0).trans rfl
          have hcz23_1 : wc.cell? ⟨gb358, 1, none⟩ = some (.int .i64 t347) := (blk_cell BK358.out 1).trans rfl
          have hcz23_2 : wc.cell? ⟨gb358, 2, none⟩ = some (.int .i64 t348) := (blk_cell BK358.out 2).trans rfl
          have hcz23_3 : wc.cell? ⟨gb358, 3, none⟩ = some (.int .i64 t349) := (blk_cell BK358.out 3).trans rfl
          have hcz23_4 : wc.cell? ⟨gb358, 4, none⟩ = some (.slice Ao9 t350.length co9) := (blk_cell BK358.out 4).trans rfl
          have hcz23_5 : wc.cell? ⟨gb358, 5, none⟩ = some (.slice Ao10 t353.length co10) := (blk_cell BK358.out 5).trans rfl
          have hfz23_0 := blk_frozen BK358.out 0
          have hfz23_1 := blk_frozen BK358.out 1
          have hfz23_2 := blk_frozen BK358.out 2
          have hfz23_3 := blk_frozen BK358.out 3
          have hfz23_4 := blk_frozen BK358.out 4
          have hfz23_5 := blk_frozen BK358.out 5
          go_upto_if 42 with (fail)
          go_cut [7] (fun v7 wc => ∃ (kq : Nat) (x7_21 : Int), v7 = .int .i64 x7_21 ∧ Aside0 (laws_FnProgDeep.j1 kq t356 x7_21 t346 t347 t348 t349 t350 t353 = some r) ∧ Aside0 (kq ≤ kj4) ∧ Aside0 (Kd.V k29 29 wc w.heap.size (fun k_ => k_ ≠ gb358) (.slice Ao9 t350.length co9) t350) ∧ Aside0 (Kd.V k29 29 wc w.heap.size (fun k_ => k_ ≠ gb358) (.slice Ao10 t353.length co10) t353) ∧ Aside0 (wc.heap[gb358]? = some (.cells #[.int .i64 t346, .int .i64 t347, .int .i64 t348, .int .i64 t349, (.slice Ao9 t350.length co9), (.slice Ao10 t353.length co10)] 29 (0, 0))) ∧ Aside0 (Below w.heap.size w wc))
          case first =>
            have H := HC22.out
            clear HC22
            by_cases c24 : t346 = 8
            · rw [if_pos c24] at H
              have c24b0 : (t346 == 8) = true := beq_iff_eq.mpr c24
              have c24b1 : (t346 != 8) = false := bne_eq_false_iff_eq.mpr c24
              clear c24
              (first | rw [c24b0] | (simp only [i64_w, i32_w]; rw [c24b0]) | skip)
              have H' := Aside0.mk H
              clear H
              have hcz25_0 : wc.cell? ⟨gb358, 0, none⟩ = some (.int .i64 t346) := (blk_cell BK358.out 0).trans rfl
              have hcz25_1 : wc.cell? ⟨gb358, 1, none⟩ = some (.int .i64 t347) := (blk_cell BK358.out 1).trans rfl
              have hcz25_2 : wc.cell? ⟨gb358, 2, none⟩ = some (.int .i64 t348) := (blk_cell BK358.out 2).trans rfl
              have hcz25_3 : wc.cell? ⟨gb358, 3, none⟩ = some (.int .i64 t349) := (blk_cell BK358.out 3).trans rfl
              have hcz25_4 : wc.cell? ⟨gb358, 4, none⟩ = some (.slice Ao9 t350.length co9) := (blk_cell BK358.out 4).trans rfl
              have hcz25_5 : wc.cell? ⟨gb358, 5, none⟩ = some (.slice Ao10 t353.length co10) := (blk_cell BK358.out 5).trans rfl
              have hfz25_0 := blk_frozen BK358.out 0
              have hfz25_1 := blk_frozen BK358.out 1
              have hfz25_2 := blk_frozen BK358.out 2
              have hfz25_3 := blk_frozen BK358.out 3
              have hfz25_4 := blk_frozen BK358.out 4
              have hfz25_5 := blk_frozen BK358.out 5
              go_wp2
              go_meet
              case rel => exact ⟨_, (t347), (by first | rfl | (simp; done) | (simp [*]; done)), H', ⟨by have := HJ4.out; first | omega | exact Nat.le_refl _⟩, ⟨by (with_reducible repeat (first | apply Kd.V_alloc | apply Kd.V_drewN | apply Kd.V_drew)); exact HO_359004.out⟩, ⟨by (with_reducible repeat (first | apply Kd.V_alloc | apply Kd.V_drewN | apply Kd.V_drew)); exact HO_359005.out⟩, ⟨by (with_reducible repeat (first | refine blk_drewN ?_ _ | refine blk_drew ?_ | refine blk_alloc ?_ _)); exact BK358.out⟩, ⟨by repeat (first | (with_reducible first | exact HB.out | apply below_alloc | apply pw_below_drewN | apply below_drew1 | refine below_set ?_ GE358.out) | exact HB.out)⟩⟩
            · rw [if_neg c24] at H
              have c24b0 : (t346 == 8) = false := beq_eq_false_iff_ne.mpr c24
              have c24b1 : (t346 != 8) = true := bne_iff_ne.mpr c24
              (first | rw [c24b0] | (simp only [i64_w, i32_w]; rw [c24b0]) | skip)
              have H' := Aside0.mk H
              clear H
              go_wp2
              go_meet
              case rel => exact ⟨_, (t357), (by first | rfl | (simp; done) | (simp [*]; done)), H', ⟨by have := HJ4.out; first | omega | exact Nat.le_refl _⟩, ⟨by (with_reducible repeat (first | apply Kd.V_alloc | apply Kd.V_drewN | apply Kd.V_drew)); exact HO_359004.out⟩, ⟨by (with_reducible repeat (first | apply Kd.V_alloc | apply Kd.V_drewN | apply Kd.V_drew)); exact HO_359005.out⟩, ⟨by (with_reducible repeat (first | refine blk_drewN ?_ _ | refine blk_drew ?_ | refine blk_alloc ?_ _)); exact BK358.out⟩, ⟨by repeat (first | (with_reducible first | exact HB.out | apply below_alloc | apply pw_below_drewN | apply below_drew1 | refine below_set ?_ GE358.out) | exact HB.out)⟩⟩
          case rest =>
            clear HC22
            try clear c1
            try clear c2
            try clear c2b0
            try clear c2b1
            try clear p2
            try clear c4
            try clear c13
            try clear c13b0
            try clear c13b1
            try clear c13b2
            try clear c16
            try clear c18
            try clear c20
            try clear c24
            try clear c24b0
            try clear c24b1
            try clear hcz14_0
            try clear hcz14_1
            try clear hcz14_2
            try clear hcz14_3
            try clear hcz14_4
            try clear hcz14_5
            try clear hcz16_0
            try clear hcz16_1
            try clear hcz16_2
            try clear hcz16_3
            try clear hcz16_4
            try clear hcz16_5
            try clear hcz20_0
            try clear hcz20_1
            try clear hcz20_2
            try clear hcz20_3
            try clear hcz20_4
            try clear hcz20_5
            try clear hcz23_0
            try clear hcz23_1
            try clear hcz23_2
            try clear hcz23_3
            try clear hcz23_4
            try clear hcz23_5
            try clear hcz25_0
            try clear hcz25_1
            try clear hcz25_2
            try clear hcz25_3
            try clear hcz25_4
            try clear hcz25_5
            try clear hcz8_0
            try clear hcz8_1
            try clear hcz8_2
            try clear hcz8_3
            try clear hcz8_4
            try clear hcz8_5
            try clear hfz14_0
            try clear hfz14_1
            try clear hfz14_2
            try clear hfz14_3
            try clear hfz14_4
            try clear hfz14_5
            try clear hfz16_0
            try clear hfz16_1
            try clear hfz16_2
            try clear hfz16_3
            try clear hfz16_4
            try clear hfz16_5
            try clear hfz20_0
            try clear hfz20_1
            try clear hfz20_2
            try clear hfz20_3
            try clear hfz20_4
            try clear hfz20_5
            try clear hfz23_0
            try clear hfz23_1
            try clear hfz23_2
            try clear hfz23_3
            try clear hfz23_4
            try clear hfz23_5
            try clear hfz25_0
            try clear hfz25_1
            try clear hfz25_2
            try clear hfz25_3
            try clear hfz25_4
            try clear hfz25_5
            try clear hfz8_0
            try clear hfz8_1
            try clear hfz8_2
            try clear hfz8_3
            try clear hfz8_4
            try clear hfz8_5
            try clear p2
            obtain ⟨kq, x7_21, rfl, HA, HJ21, HO_359004, HO_359005, BK358, HB⟩ := hcut
            cases kq with
            | zero => exact absurd HA.out (by simp [laws_FnProgDeep.j1])
            | succ kj21 =>
              have H := HA.out
              clear HA
              simp only [laws_FnProgDeep.j1] at H
              have H' := Aside0.mk H
              clear H
              go_wp2
              go_loopg [8] kj21 (fun kq v8 w' => ∃ (x8_3 : Int), v8 = .int .i64 x8_3 ∧ Aside0 (laws_FnProgDeep.l0 kq t356 x7_21 x8_3 t346 t347 t348 t349 t350 t353 = some r) ∧ Aside0 (kq ≤ kj21) ∧ Aside0 (Kd.V k29 29 w' w.heap.size (fun k_ => k_ ≠ gb358) (.slice Ao9 t350.length co9) t350) ∧ Aside0 (Kd.V k29 29 w' w.heap.size (fun k_ => k_ ≠ gb358) (.slice Ao10 t353.length co10) t353) ∧ Aside0 (w'.heap[gb358]? = some (.cells #[.int .i64 t346, .int .i64 t347, .int .i64 t348, .int .i64 t349, (.slice Ao9 t350.length co9), (.slice Ao10 t353.length co10)] 29 (0, 0))) ∧ Aside0 (Below w.heap.size w w'))
              case atStart => exact ⟨(0), (by first | rfl | (simp; done) | (simp [*]; done)), H', ⟨Nat.le_refl _⟩, ⟨by (with_reducible repeat (first | apply Kd.V_alloc | apply Kd.V_drewN | apply Kd.V_drew)); exact HO_359004.out⟩, ⟨by (with_reducible repeat (first | apply Kd.V_alloc | apply Kd.V_drewN | apply Kd.V_drew)); exact HO_359005.out⟩, ⟨by (with_reducible repeat (first | refine blk_drewN ?_ _ | refine blk_drew ?_ | refine blk_alloc ?_ _)); exact BK358.out⟩, ⟨by repeat (first | (with_reducible first | exact HB.out | apply below_alloc | apply pw_below_drewN | apply below_drew1 | refine below_set ?_ GE358.out) | exact HB.out)⟩⟩
              case round =>
                clear H'
                try clear c1
                try clear c2
                try clear c2b0
                try clear c2b1
                try clear p2
                try clear c4
                try clear c13
                try clear c13b0
                try clear c13b1
                try clear c13b2
                try clear c16
                try clear c18
                try clear c20
                try clear c24
                try clear c24b0
                try clear c24b1
                try clear hcz14_0
                try clear hcz14_1
                try clear hcz14_2
                try clear hcz14_3
                try clear hcz14_4
                try clear hcz14_5
                try clear hcz16_0
                try clear hcz16_1
                try clear hcz16_2
                try clear hcz16_3
                try clear hcz16_4
                try clear hcz16_5
                try clear hcz20_0
                try clear hcz20_1
                try clear hcz20_2
                try clear hcz20_3
                try clear hcz20_4
                try clear hcz20_5
                try clear hcz23_0
                try clear hcz23_1
                try clear hcz23_2
                try clear hcz23_3
                try clear hcz23_4
                try clear hcz23_5
                try clear hcz25_0
                try clear hcz25_1
                try clear hcz25_2
                try clear hcz25_3
                try clear hcz25_4
                try clear hcz25_5
                try clear hcz8_0
                try clear hcz8_1
                try clear hcz8_2
                try clear hcz8_3
                try clear hcz8_4
                try clear hcz8_5
                try clear hfz14_0
                try clear hfz14_1
                try clear hfz14_2
                try clear hfz14_3
                try clear hfz14_4
                try clear hfz14_5
                try clear hfz16_0
                try clear hfz16_1
                try clear hfz16_2
                try clear hfz16_3
                try clear hfz16_4
                try clear hfz16_5
                try clear hfz20_0
                try clear hfz20_1
                try clear hfz20_2
                try clear hfz20_3
                try clear hfz20_4
                try clear hfz20_5
                try clear hfz23_0
                try clear hfz23_1
                try clear hfz23_2
                try clear hfz23_3
                try clear hfz23_4
                try clear hfz23_5
                try clear hfz25_0
                try clear hfz25_1
                try clear hfz25_2
                try clear hfz25_3
                try clear hfz25_4
                try clear hfz25_5
                try clear hfz8_0
                try clear hfz8_1
                try clear hfz8_2
                try clear hfz8_3
                try clear hfz8_4
                try clear hfz8_5
                try clear p2
                obtain ⟨x8_3, rfl, HA, HK3, HO_359004, HO_359005, BK358, HB⟩ := hrel
                cases gk with
                | zero => exact absurd HA.out (by simp [laws_FnProgDeep.l0])
                | succ k3 =>
                  have H := HA.out
                  clear HA
                  simp only [laws_FnProgDeep.l0] at H
                  by_cases c26 : x8_3 < (t350.length : Int)
                  · rw [if_pos c26] at H
                    have c26b0 : decide (x8_3 < (t350.length : Int)) = true := decide_eq_true c26
                    clear c26
                    by_cases c27 : 0 ≤ x8_3
                    · rw [if_pos c27] at H
                      have c27b0 : decide (0 ≤ x8_3) = true := decide_eq_true c27
                      clear c27
                      replace H := Option.bind_eq_some_iff.mp H
                      obtain ⟨t363, A280, H⟩ := H
                      replace H : (if t363 = true then (laws_FnProgDeep.l0 k3 t356 x7_21 (wrap64 (x8_3 + 1)) t346 t347 t348 t349 t350 t353) else (some false)) = some r := H
                      have A28 := Aside0.mk A280
                      clear A280
                      by_cases c29 : t363 = true
                      · subst c29
                        have H1 : (laws_FnProgDeep.l0 k3 t356 x7_21 (wrap64 (x8_3 + 1)) t346 t347 t348 t349 t350 t353) = some r := by rw [if_pos rfl] at H; exact H
                        clear H
                        have H := H1
                        clear H1
                        have H' := Aside0.mk H
                        clear H
                        have hcz30_0 : wr.cell? ⟨gb358, 0, none⟩ = some (.int .i64 t346) := (blk_cell BK358.out 0).trans rfl
                        have hcz30_1 : wr.cell? ⟨gb358, 1, none⟩ = some (.int .i64 t347) := (blk_cell BK358.out 1).trans rfl
                        have hcz30_2 : wr.cell? ⟨gb358, 2, none⟩ = some (.int .i64 t348) := (blk_cell BK358.out 2).trans rfl
                        have hcz30_3 : wr.cell? ⟨gb358, 3, none⟩ = some (.int .i64 t349) := (blk_cell BK358.out 3).trans rfl
                        have hcz30_4 : wr.cell? ⟨gb358, 4, none⟩ = some (.slice Ao9 t350.length co9) := (blk_cell BK358.out 4).trans rfl
                        have hcz30_5 : wr.cell? ⟨gb358, 5, none⟩ = some (.slice Ao10 t353.length co10) := (blk_cell BK358.out 5).trans rfl
                        have hfz30_0 := blk_frozen BK358.out 0
                        have hfz30_1 := blk_frozen BK358.out 1
                        have hfz30_2 := blk_frozen BK358.out 2
                        have hfz30_3 := blk_frozen BK358.out 3
                        have hfz30_4 := blk_frozen BK358.out 4
                        have hfz30_5 := blk_frozen BK358.out 5
                        have p362 : 0 ≤ (x8_3 : Int) := of_decide_eq_true (by first | (with_reducible assumption) | assumption)
                        have q362 : x8_3 < (t350.length : Int) := of_decide_eq_true (by first | (with_reducible assumption) | assumption)
                        obtain ⟨ad362, A362_4, c362_4, A362_5, c362_5, e362, hx362_0, hx362_1, hx362_2, hx362_3, hx362_4, hx362_5, hl362_4, hi362_4, hl362_5, hi362_5⟩ := at_T29 (Kd.V_reads' HO_359004.out).2.2 x8_3 p362 q362
                        cases e362
                        obtain ⟨ce362, hce362, hMe362, hcc362⟩ := Kd.V_get HO_359004.out z29 x8_3 p362 (by first | exact q362 | exact of_decide_eq_true (by first | (with_reducible assumption) | assumption) | (have e_ := (Kd.V_reads' HO_359004.out).1; omega))
                        obtain ⟨ua362_4, uc362_4, ua362_5, uc362_5, rfl, ul362_4, ge362_4, ul362_5, ge362_5⟩ := k29_openF hMe362
                        have hv362_4 := hcc362 4 _ rfl
                        rw [add_field _ _ 4 (by omega)] at hv362_4
                        replace hv362_4 := Option.some.inj (hv362_4.symm.trans hx362_4)
                        injection hv362_4 with hva_ hvn_ hvc_
                        rw [hva_] at ge362_4
                        rw [hvc_] at ul362_4
                        have HL362_4 := Aside0.mk (show Kd.V k29 29 _ w.heap.size _ _ ((rd_T29 t350 x8_3).f4) from Kd.V_mk ul362_4 ge362_4)
                        clear hva_ hvn_ hvc_ ge362_4 ul362_4
                        have hv362_5 := hcc362 5 _ rfl
                        rw [add_field _ _ 5 (by omega)] at hv362_5
                        replace hv362_5 := Option.some.inj (hv362_5.symm.trans hx362_5)
                        injection hv362_5 with hva_ hvn_ hvc_
                        rw [hva_] at ge362_5
                        rw [hvc_] at ul362_5
                        have HL362_5 := Aside0.mk (show Kd.V k29 29 _ w.heap.size _ _ ((rd_T29 t350 x8_3).f5) from Kd.V_mk ul362_5 ge362_5)
                        clear hva_ hvn_ hvc_ ge362_5 ul362_5
                        clear hcc362 hce362
                        have HR362_4 := Aside0.mk hi362_4
                        have HC362_4 := Aside0.mk hl362_4
                        clear hi362_4 hl362_4
                        have HR362_5 := Aside0.mk hi362_5
                        have HC362_5 := Aside0.mk hl362_5
                        clear hi362_5 hl362_5
                        replace p362 := eq_true p362
                        replace q362 := eq_true q362
                        go_wp2_with (first | ((with_reducible refine gate_callee (f := 18) rfl ?_); refine goesL_ (some 60) rfl rfl Try.func18 (by kernel_rfl) rfl #[.agg #[.int .i64 ((rd_T29 t350 x8_3).f0), .int .i64 ((rd_T29 t350 x8_3).f1), .int .i64 ((rd_T29 t350 x8_3).f2), .int .i64 ((rd_T29 t350 x8_3).f3), .slice A362_4 ((rd_T29 t350 x8_3).f4).length c362_4, .slice A362_5 ((rd_T29 t350 x8_3).f5).length c362_5], .int .i64 (wrap64 (t356 - 1)), .int .i64 x7_21] rfl (by (try simp only [List.map_toArray, List.map_cons, List.map_nil]); first | done | rfl | (simp only [List.length_drop, List.length_take]; rfl)) ?_; (with_reducible refine (impl_StmtOk.calls k3 ((rd_T29 t350 x8_3).f0) ((rd_T29 t350 x8_3).f1) ((rd_T29 t350 x8_3).f2) ((rd_T29 t350 x8_3).f3) _ _ ((rd_T29 t350 x8_3).f4) _ _ ((rd_T29 t350 x8_3).f5) (wrap64 (t356 - 1)) x7_21 true _ ?side1 ?side2 ?side3 ?side4 A28.out).mono ?_); (case side1 => repeat (first | exact (q15_ HR362_4) | (with_reducible refine Kd.C_alloc ?_ _) | (with_reducible refine Kd.C_drewN ?_ _) | (with_reducible refine Kd.C_drew ?_))); (case side2 => exact HC362_4.out); (case side3 => repeat (first | exact (q15_ HR362_5) | (with_reducible refine Kd.C_alloc ?_ _) | (with_reducible refine Kd.C_drewN ?_ _) | (with_reducible refine Kd.C_drew ?_))); (case side4 => exact HC362_5.out); rintro e w31 ⟨rfl, hb⟩; refine ⟨_, rfl, ?_⟩; have n0_ := Aside0.mk (Kd.V_below (q13_ HO_359004) hb); have n1_ := Aside0.mk (Kd.V_below (q13_ HO_359005) hb); have n2_ := Aside0.mk (Kd.V_below (q13_ HL362_4) hb); have n3_ := Aside0.mk (Kd.V_below (q13_ HL362_5) hb); have n4_ := Aside0.mk (blk_below (g := gb358) (o := .cells #[.int .i64 t346, .int .i64 t347, .int .i64 t348, .int .i64 t349, .slice (some ad362) t350.length co9, .slice Ao10 t353.length co10] 29 (0, 0)) (q1_ BK358) hb); have n5_ := Aside0.mk (Kd.C_below (q15_ HR362_4) hb); have n6_ := Aside0.mk (Kd.C_below (q15_ HR362_5) hb); have n7_ := Aside0.mk (below_step (q2_ HB GE358) hb); clear HO_359004; clear HO_359005; clear HL362_4; clear HL362_5; clear BK358; clear HR362_4; clear HR362_5; clear HB; have HO_359004 := n0_; have HO_359005 := n1_; have HL362_4 := n2_; have HL362_5 := n3_; have BK358 := n4_; have HR362_4 := n5_; have HR362_5 := n6_; have HB := n7_; clear n0_ n1_ n2_ n3_ n4_ n5_ n6_ n7_; (try clear hb); (try clear hb2); (try clear hk); (try clear hi)))
                        go_roundg k3
                        case measure => have := HJ4.out; have := HJ21.out; have := HK3.out; omega
                        case rel => exact ⟨(wrap64 (x8_3 + 1)), (by first | rfl | (simp; done) | (simp [*]; done)), H', ⟨by have := HJ4.out; have := HJ21.out; have := HK3.out; omega⟩, ⟨by (with_reducible repeat (first | apply Kd.V_alloc | apply Kd.V_drewN | apply Kd.V_drew)); exact HO_359004.out⟩, ⟨by (with_reducible repeat (first | apply Kd.V_alloc | apply Kd.V_drewN | apply Kd.V_drew)); exact HO_359005.out⟩, ⟨by (with_reducible repeat (first | refine blk_drewN ?_ _ | refine blk_drew ?_ | refine blk_alloc ?_ _)); exact BK358.out⟩, ⟨by repeat (first | (with_reducible first | exact HB.out | apply below_alloc | apply pw_below_drewN | apply below_drew1 | refine below_set ?_ GE358.out) | exact HB.out)⟩⟩
                      · replace c29 := Bool.eq_false_iff.mpr c29
                        subst c29
                        have H1 : (some false) = some r := by rw [if_neg (show ¬ (false = true) by decide)] at H; exact H
                        clear H
                        have H := H1
                        clear H1
                        obtain rfl := Option.some.inj H
                        have hcz32_0 : wr.cell? ⟨gb358, 0, none⟩ = some (.int .i64 t346) := (blk_cell BK358.out 0).trans rfl
                        have hcz32_1 : wr.cell? ⟨gb358, 1, none⟩ = some (.int .i64 t347) := (blk_cell BK358.out 1).trans rfl
                        have hcz32_2 : wr.cell? ⟨gb358, 2, none⟩ = some (.int .i64 t348) := (blk_cell BK358.out 2).trans rfl
                        have hcz32_3 : wr.cell? ⟨gb358, 3, none⟩ = some (.int .i64 t349) := (blk_cell BK358.out 3).trans rfl
                        have hcz32_4 : wr.cell? ⟨gb358, 4, none⟩ = some (.slice Ao9 t350.length co9) := (blk_cell BK358.out 4).trans rfl
                        have hcz32_5 : wr.cell? ⟨gb358, 5, none⟩ = some (.slice Ao10 t353.length co10) := (blk_cell BK358.out 5).trans rfl
                        have hfz32_0 := blk_frozen BK358.out 0
                        have hfz32_1 := blk_frozen BK358.out 1
                        have hfz32_2 := blk_frozen BK358.out 2
                        have hfz32_3 := blk_frozen BK358.out 3
                        have hfz32_4 := blk_frozen BK358.out 4
                        have hfz32_5 := blk_frozen BK358.out 5
                        have p362 : 0 ≤ (x8_3 : Int) := of_decide_eq_true (by first | (with_reducible assumption) | assumption)
                        have q362 : x8_3 < (t350.length : Int) := of_decide_eq_true (by first | (with_reducible assumption) | assumption)
                        obtain ⟨ad362, A362_4, c362_4, A362_5, c362_5, e362, hx362_0, hx362_1, hx362_2, hx362_3, hx362_4, hx362_5, hl362_4, hi362_4, hl362_5, hi362_5⟩ := at_T29 (Kd.V_reads' HO_359004.out).2.2 x8_3 p362 q362
                        cases e362
                        obtain ⟨ce362, hce362, hMe362, hcc362⟩ := Kd.V_get HO_359004.out z29 x8_3 p362 (by first | exact q362 | exact of_decide_eq_true (by first | (with_reducible assumption) | assumption) | (have e_ := (Kd.V_reads' HO_359004.out).1; omega))
                        obtain ⟨ua362_4, uc362_4, ua362_5, uc362_5, rfl, ul362_4, ge362_4, ul362_5, ge362_5⟩ := k29_openF hMe362
                        have hv362_4 := hcc362 4 _ rfl
                        rw [add_field _ _ 4 (by omega)] at hv362_4
                        replace hv362_4 := Option.some.inj (hv362_4.symm.trans hx362_4)
                        injection hv362_4 with hva_ hvn_ hvc_
                        rw [hva_] at ge362_4
                        rw [hvc_] at ul362_4
                        have HL362_4 := Aside0.mk (show Kd.V k29 29 _ w.heap.size _ _ ((rd_T29 t350 x8_3).f4) from Kd.V_mk ul362_4 ge362_4)
                        clear hva_ hvn_ hvc_ ge362_4 ul362_4
                        have hv362_5 := hcc362 5 _ rfl
                        rw [add_field _ _ 5 (by omega)] at hv362_5
                        replace hv362_5 := Option.some.inj (hv362_5.symm.trans hx362_5)
                        injection hv362_5 with hva_ hvn_ hvc_
                        rw [hva_] at ge362_5
                        rw [hvc_] at ul362_5
                        have HL362_5 := Aside0.mk (show Kd.V k29 29 _ w.heap.size _ _ ((rd_T29 t350 x8_3).f5) from Kd.V_mk ul362_5 ge362_5)
                        clear hva_ hvn_ hvc_ ge362_5 ul362_5
                        clear hcc362 hce362
                        have HR362_4 := Aside0.mk hi362_4
                        have HC362_4 := Aside0.mk hl362_4
                        clear hi362_4 hl362_4
                        have HR362_5 := Aside0.mk hi362_5
                        have HC362_5 := Aside0.mk hl362_5
                        clear hi362_5 hl362_5
                        replace p362 := eq_true p362
                        replace q362 := eq_true q362
                        go_wp2_with (first | ((with_reducible refine gate_callee (f := 18) rfl ?_); refine goesL_ (some 60) rfl rfl Try.func18 (by kernel_rfl) rfl #[.agg #[.int .i64 ((rd_T29 t350 x8_3).f0), .int .i64 ((rd_T29 t350 x8_3).f1), .int .i64 ((rd_T29 t350 x8_3).f2), .int .i64 ((rd_T29 t350 x8_3).f3), .slice A362_4 ((rd_T29 t350 x8_3).f4).length c362_4, .slice A362_5 ((rd_T29 t350 x8_3).f5).length c362_5], .int .i64 (wrap64 (t356 - 1)), .int .i64 x7_21] rfl (by (try simp only [List.map_toArray, List.map_cons, List.map_nil]); first | done | rfl | (simp only [List.length_drop, List.length_take]; rfl)) ?_; (with_reducible refine (impl_StmtOk.calls k3 ((rd_T29 t350 x8_3).f0) ((rd_T29 t350 x8_3).f1) ((rd_T29 t350 x8_3).f2) ((rd_T29 t350 x8_3).f3) _ _ ((rd_T29 t350 x8_3).f4) _ _ ((rd_T29 t350 x8_3).f5) (wrap64 (t356 - 1)) x7_21 false _ ?side1 ?side2 ?side3 ?side4 A28.out).mono ?_); (case side1 => repeat (first | exact (q15_ HR362_4) | (with_reducible refine Kd.C_alloc ?_ _) | (with_reducible refine Kd.C_drewN ?_ _) | (with_reducible refine Kd.C_drew ?_))); (case side2 => exact HC362_4.out); (case side3 => repeat (first | exact (q15_ HR362_5) | (with_reducible refine Kd.C_alloc ?_ _) | (with_reducible refine Kd.C_drewN ?_ _) | (with_reducible refine Kd.C_drew ?_))); (case side4 => exact HC362_5.out); rintro e w33 ⟨rfl, hb⟩; refine ⟨_, rfl, ?_⟩; have n0_ := Aside0.mk (Kd.V_below (q13_ HO_359004) hb); have n1_ := Aside0.mk (Kd.V_below (q13_ HO_359005) hb); have n2_ := Aside0.mk (Kd.V_below (q13_ HL362_4) hb); have n3_ := Aside0.mk (Kd.V_below (q13_ HL362_5) hb); have n4_ := Aside0.mk (blk_below (g := gb358) (o := .cells #[.int .i64 t346, .int .i64 t347, .int .i64 t348, .int .i64 t349, .slice (some ad362) t350.length co9, .slice Ao10 t353.length co10] 29 (0, 0)) (q1_ BK358) hb); have n5_ := Aside0.mk (Kd.C_below (q15_ HR362_4) hb); have n6_ := Aside0.mk (Kd.C_below (q15_ HR362_5) hb); have n7_ := Aside0.mk (below_step (q2_ HB GE358) hb); clear HO_359004; clear HO_359005; clear HL362_4; clear HL362_5; clear BK358; clear HR362_4; clear HR362_5; clear HB; have HO_359004 := n0_; have HO_359005 := n1_; have HL362_4 := n2_; have HL362_5 := n3_; have BK358 := n4_; have HR362_4 := n5_; have HR362_5 := n6_; have HB := n7_; clear n0_ n1_ n2_ n3_ n4_ n5_ n6_ n7_; (try clear hb); (try clear hb2); (try clear hk); (try clear hi)))
                        go_ret
                        exact ⟨by first | rfl | (simp [errW_none, errW_some] <;> rfl) | (simp [*, errW_none, errW_some] <;> rfl), by repeat (first | (with_reducible first | exact HB.out | apply below_alloc | apply pw_below_drewN | apply below_drew1 | refine below_set ?_ GE358.out) | exact HB.out)⟩
                    · rw [if_neg c27] at H
                      exact absurd H (by simp)
                  · rw [if_neg c26] at H
                    have c26b0 : decide (x8_3 < (t350.length : Int)) = false := decide_eq_false c26
                    clear c26
                    have H' := Aside0.mk H
                    clear H
                    have hcz34_0 : wr.cell? ⟨gb358, 0, none⟩ = some (.int .i64 t346) := (blk_cell BK358.out 0).trans rfl
                    have hcz34_1 : wr.cell? ⟨gb358, 1, none⟩ = some (.int .i64 t347) := (blk_cell BK358.out 1).trans rfl
                    have hcz34_2 : wr.cell? ⟨gb358, 2, none⟩ = some (.int .i64 t348) := (blk_cell BK358.out 2).trans rfl
                    have hcz34_3 : wr.cell? ⟨gb358, 3, none⟩ = some (.int .i64 t349) := (blk_cell BK358.out 3).trans rfl
                    have hcz34_4 : wr.cell? ⟨gb358, 4, none⟩ = some (.slice Ao9 t350.length co9) := (blk_cell BK358.out 4).trans rfl
                    have hcz34_5 : wr.cell? ⟨gb358, 5, none⟩ = some (.slice Ao10 t353.length co10) := (blk_cell BK358.out 5).trans rfl
                    have hfz34_0 := blk_frozen BK358.out 0
                    have hfz34_1 := blk_frozen BK358.out 1
                    have hfz34_2 := blk_frozen BK358.out 2
                    have hfz34_3 := blk_frozen BK358.out 3
                    have hfz34_4 := blk_frozen BK358.out 4
                    have hfz34_5 := blk_frozen BK358.out 5
                    go_wp2
                    go_loopg [9] k3 (fun kq v9 w' => ∃ (x9_4 : Int), v9 = .int .i64 x9_4 ∧ Aside0 (laws_FnProgDeep.l1 kq t356 x7_21 x9_4 t346 t347 t348 t349 t350 t353 = some r) ∧ Aside0 (kq ≤ k3) ∧ Aside0 (Kd.V k29 29 w' w.heap.size (fun k_ => k_ ≠ gb358) (.slice Ao9 t350.length co9) t350) ∧ Aside0 (Kd.V k29 29 w' w.heap.size (fun k_ => k_ ≠ gb358) (.slice Ao10 t353.length co10) t353) ∧ Aside0 (w'.heap[gb358]? = some (.cells #[.int .i64 t346, .int .i64 t347, .int .i64 t348, .int .i64 t349, (.slice Ao9 t350.length co9), (.slice Ao10 t353.length co10)] 29 (0, 0))) ∧ Aside0 (Below w.heap.size w w'))
                    case atStart => exact ⟨(0), (by first | rfl | (simp; done) | (simp [*]; done)), H', ⟨Nat.le_refl _⟩, ⟨by (with_reducible repeat (first | apply Kd.V_alloc | apply Kd.V_drewN | apply Kd.V_drew)); exact HO_359004.out⟩, ⟨by (with_reducible repeat (first | apply Kd.V_alloc | apply Kd.V_drewN | apply Kd.V_drew)); exact HO_359005.out⟩, ⟨by (with_reducible repeat (first | refine blk_drewN ?_ _ | refine blk_drew ?_ | refine blk_alloc ?_ _)); exact BK358.out⟩, ⟨by repeat (first | (with_reducible first | exact HB.out | apply below_alloc | apply pw_below_drewN | apply below_drew1 | refine below_set ?_ GE358.out) | exact HB.out)⟩⟩
                    case round =>
                      clear H'
                      try clear c1
                      try clear c2
                      try clear c2b0
                      try clear c2b1
                      try clear p2
                      try clear c3
                      try clear p3
                      try clear q3
                      try clear hx3
                      try clear c4
                      try clear p6
                      try clear c13
                      try clear c13b0
                      try clear c13b1
                      try clear c13b2
                      try clear c16
                      try clear c18
                      try clear c20
                      try clear c24
                      try clear c24b0
                      try clear c24b1
                      try clear c26
                      try clear c26b0
                      try clear c27
                      try clear c27b0
                      try clear c29
                      try clear hcz14_0
                      try clear hcz14_1
                      try clear hcz14_2
                      try clear hcz14_3
                      try clear hcz14_4
                      try clear hcz14_5
                      try clear hcz16_0
                      try clear hcz16_1
                      try clear hcz16_2
                      try clear hcz16_3
                      try clear hcz16_4
                      try clear hcz16_5
                      try clear hcz20_0
                      try clear hcz20_1
                      try clear hcz20_2
                      try clear hcz20_3
                      try clear hcz20_4
                      try clear hcz20_5
                      try clear hcz23_0
                      try clear hcz23_1
                      try clear hcz23_2
                      try clear hcz23_3
                      try clear hcz23_4
                      try clear hcz23_5
                      try clear hcz25_0
                      try clear hcz25_1
                      try clear hcz25_2
                      try clear hcz25_3
                      try clear hcz25_4
                      try clear hcz25_5
                      try clear hcz30_0
                      try clear hcz30_1
                      try clear hcz30_2
                      try clear hcz30_3
                      try clear hcz30_4
                      try clear hcz30_5
                      try clear hcz32_0
                      try clear hcz32_1
                      try clear hcz32_2
                      try clear hcz32_3
                      try clear hcz32_4
                      try clear hcz32_5
                      try clear hcz34_0
                      try clear hcz34_1
                      try clear hcz34_2
                      try clear hcz34_3
                      try clear hcz34_4
                      try clear hcz34_5
                      try clear hcz8_0
                      try clear hcz8_1
                      try clear hcz8_2
                      try clear hcz8_3
                      try clear hcz8_4
                      try clear hcz8_5
                      try clear hfz14_0
                      try clear hfz14_1
                      try clear hfz14_2
                      try clear hfz14_3
                      try clear hfz14_4
                      try clear hfz14_5
                      try clear hfz16_0
                      try clear hfz16_1
                      try clear hfz16_2
                      try clear hfz16_3
                      try clear hfz16_4
                      try clear hfz16_5
                      try clear hfz20_0
                      try clear hfz20_1
                      try clear hfz20_2
                      try clear hfz20_3
                      try clear hfz20_4
                      try clear hfz20_5
                      try clear hfz23_0
                      try clear hfz23_1
                      try clear hfz23_2
                      try clear hfz23_3
                      try clear hfz23_4
                      try clear hfz23_5
                      try clear hfz25_0
                      try clear hfz25_1
                      try clear hfz25_2
                      try clear hfz25_3
                      try clear hfz25_4
                      try clear hfz25_5
                      try clear hfz30_0
                      try clear hfz30_1
                      try clear hfz30_2
                      try clear hfz30_3
                      try clear hfz30_4
                      try clear hfz30_5
                      try clear hfz32_0
                      try clear hfz32_1
                      try clear hfz32_2
                      try clear hfz32_3
                      try clear hfz32_4
                      try clear hfz32_5
                      try clear hfz34_0
                      try clear hfz34_1
                      try clear hfz34_2
                      try clear hfz34_3
                      try clear hfz34_4
                      try clear hfz34_5
                      try clear hfz8_0
                      try clear hfz8_1
                      try clear hfz8_2
                      try clear hfz8_3
                      try clear hfz8_4
                      try clear hfz8_5
                      try clear hx362_0
                      try clear hx362_1
                      try clear hx362_2
                      try clear hx362_3
                      try clear hx362_4
                      try clear hx362_5
                      try clear p2
                      try clear p362
                      try clear q362
                      obtain ⟨x9_4, rfl, HA, HK4, HO_359004, HO_359005, BK358, HB⟩ := hrel
                      cases gk with
                      | zero => exact absurd HA.out (by simp [laws_FnProgDeep.l1])
                      | succ k4 =>
                        have H := HA.out
                        clear HA
                        simp only [laws_FnProgDeep.l1] at H
                        by_cases c35 : x9_4 < (t353.length : Int)
                        · rw [if_pos c35] at H
                          have c35b0 : decide (x9_4 < (t353.length : Int)) = true := decide_eq_true c35
                          clear c35
                          by_cases c36 : 0 ≤ x9_4
                          · rw [if_pos c36] at H
                            have c36b0 : decide (0 ≤ x9_4) = true := decide_eq_true c36
                            clear c36
                            replace H := Option.bind_eq_some_iff.mp H
                            obtain ⟨t365, A370, H⟩ := H
                            replace H : (if t365 = true then (laws_FnProgDeep.l1 k4 t356 x7_21 (wrap64 (x9_4 + 1)) t346 t347 t348 t349 t350 t353) else (some false)) = some r := H
                            have A37 := Aside0.mk A370
                            clear A370
                            by_cases c38 : t365 = true
                            · subst c38
                              have H1 : (laws_FnProgDeep.l1 k4 t356 x7_21 (wrap64 (x9_4 + 1)) t346 t347 t348 t349 t350 t353) = some r := by rw [if_pos rfl] at H; exact H
                              clear H
                              have H := H1
                              clear H1
                              have H' := Aside0.mk H
                              clear H
                              have hcz39_0 : wr.cell? ⟨gb358, 0, none⟩ = some (.int .i64 t346) := (blk_cell BK358.out 0).trans rfl
                              have hcz39_1 : wr.cell? ⟨gb358, 1, none⟩ = some (.int .i64 t347) := (blk_cell BK358.out 1).trans rfl
                              have hcz39_2 : wr.cell? ⟨gb358, 2, none⟩ = some (.int .i64 t348) := (blk_cell BK358.out 2).trans rfl
                              have hcz39_3 : wr.cell? ⟨gb358, 3, none⟩ = some (.int .i64 t349) := (blk_cell BK358.out 3).trans rfl
                              have hcz39_4 : wr.cell? ⟨gb358, 4, none⟩ = some (.slice Ao9 t350.length co9) := (blk_cell BK358.out 4).trans rfl
                              have hcz39_5 : wr.cell? ⟨gb358, 5, none⟩ = some (.slice Ao10 t353.length co10) := (blk_cell BK358.out 5).trans rfl
                              have hfz39_0 := blk_frozen BK358.out 0
                              have hfz39_1 := blk_frozen BK358.out 1
                              have hfz39_2 := blk_frozen BK358.out 2
                              have hfz39_3 := blk_frozen BK358.out 3
                              have hfz39_4 := blk_frozen BK358.out 4
                              have hfz39_5 := blk_frozen BK358.out 5
                              have p364 : 0 ≤ (x9_4 : Int) := of_decide_eq_true (by first | (with_reducible assumption) | assumption)
                              have q364 : x9_4 < (t353.length : Int) := of_decide_eq_true (by first | (with_reducible assumption) | assumption)
                              obtain ⟨ad364, A364_4, c364_4, A364_5, c364_5, e364, hx364_0, hx364_1, hx364_2, hx364_3, hx364_4, hx364_5, hl364_4, hi364_4, hl364_5, hi364_5⟩ := at_T29 (Kd.V_reads' HO_359005.out).2.2 x9_4 p364 q364
                              cases e364
                              obtain ⟨ce364, hce364, hMe364, hcc364⟩ := Kd.V_get HO_359005.out z29 x9_4 p364 (by first | exact q364 | exact of_decide_eq_true (by first | (with_reducible assumption) | assumption) | (have e_ := (Kd.V_reads' HO_359005.out).1; omega))
                              obtain ⟨ua364_4, uc364_4, ua364_5, uc364_5, rfl, ul364_4, ge364_4, ul364_5, ge364_5⟩ := k29_openF hMe364
                              have hv364_4 := hcc364 4 _ rfl
                              rw [add_field _ _ 4 (by omega)] at hv364_4
                              replace hv364_4 := Option.some.inj (hv364_4.symm.trans hx364_4)
                              injection hv364_4 with hva_ hvn_ hvc_
                              rw [hva_] at ge364_4
                              rw [hvc_] at ul364_4
                              have HL364_4 := Aside0.mk (show Kd.V k29 29 _ w.heap.size _ _ ((rd_T29 t353 x9_4).f4) from Kd.V_mk ul364_4 ge364_4)
                              clear hva_ hvn_ hvc_ ge364_4 ul364_4
                              have hv364_5 := hcc364 5 _ rfl
                              rw [add_field _ _ 5 (by omega)] at hv364_5
                              replace hv364_5 := Option.some.inj (hv364_5.symm.trans hx364_5)
                              injection hv364_5 with hva_ hvn_ hvc_
                              rw [hva_] at ge364_5
                              rw [hvc_] at ul364_5
                              have HL364_5 := Aside0.mk (show Kd.V k29 29 _ w.heap.size _ _ ((rd_T29 t353 x9_4).f5) from Kd.V_mk ul364_5 ge364_5)
                              clear hva_ hvn_ hvc_ ge364_5 ul364_5
                              clear hcc364 hce364
                              have HR364_4 := Aside0.mk hi364_4
                              have HC364_4 := Aside0.mk hl364_4
                              clear hi364_4 hl364_4
                              have HR364_5 := Aside0.mk hi364_5
                              have HC364_5 := Aside0.mk hl364_5
                              clear hi364_5 hl364_5
                              replace p364 := eq_true p364
                              replace q364 := eq_true q364
                              go_wp2_with (first | ((with_reducible refine gate_callee (f := 18) rfl ?_); refine goesL_ (some 77) rfl rfl Try.func18 (by kernel_rfl) rfl #[.agg #[.int .i64 ((rd_T29 t353 x9_4).f0), .int .i64 ((rd_T29 t353 x9_4).f1), .int .i64 ((rd_T29 t353 x9_4).f2), .int .i64 ((rd_T29 t353 x9_4).f3), .slice A364_4 ((rd_T29 t353 x9_4).f4).length c364_4, .slice A364_5 ((rd_T29 t353 x9_4).f5).length c364_5], .int .i64 (wrap64 (t356 - 1)), .int .i64 x7_21] rfl (by (try simp only [List.map_toArray, List.map_cons, List.map_nil]); first | done | rfl | (simp only [List.length_drop, List.length_take]; rfl)) ?_; (with_reducible refine (impl_StmtOk.calls k4 ((rd_T29 t353 x9_4).f0) ((rd_T29 t353 x9_4).f1) ((rd_T29 t353 x9_4).f2) ((rd_T29 t353 x9_4).f3) _ _ ((rd_T29 t353 x9_4).f4) _ _ ((rd_T29 t353 x9_4).f5) (wrap64 (t356 - 1)) x7_21 true _ ?side1 ?side2 ?side3 ?side4 A37.out).mono ?_); (case side1 => repeat (first | exact (q15_ HR364_4) | (with_reducible refine Kd.C_alloc ?_ _) | (with_reducible refine Kd.C_drewN ?_ _) | (with_reducible refine Kd.C_drew ?_))); (case side2 => exact HC364_4.out); (case side3 => repeat (first | exact (q15_ HR364_5) | (with_reducible refine Kd.C_alloc ?_ _) | (with_reducible refine Kd.C_drewN ?_ _) | (with_reducible refine Kd.C_drew ?_))); (case side4 => exact HC364_5.out); rintro e w40 ⟨rfl, hb⟩; refine ⟨_, rfl, ?_⟩; have n0_ := Aside0.mk (Kd.V_below (q13_ HO_359004) hb); have n1_ := Aside0.mk (Kd.V_below (q13_ HO_359005) hb); have n2_ := Aside0.mk (Kd.V_below (q13_ HL364_4) hb); have n3_ := Aside0.mk (Kd.V_below (q13_ HL364_5) hb); have n4_ := Aside0.mk (blk_below (g := gb358) (o := .cells #[.int .i64 t346, .int .i64 t347, .int .i64 t348, .int .i64 t349, .slice Ao9 t350.length co9, .slice (some ad364) t353.length co10] 29 (0, 0)) (q1_ BK358) hb); have n5_ := Aside0.mk (Kd.C_below (q15_ HR364_4) hb); have n6_ := Aside0.mk (Kd.C_below (q15_ HR364_5) hb); have n7_ := Aside0.mk (below_step (q2_ HB GE358) hb); clear HO_359004; clear HO_359005; clear HL364_4; clear HL364_5; clear BK358; clear HR364_4; clear HR364_5; clear HB; have HO_359004 := n0_; have HO_359005 := n1_; have HL364_4 := n2_; have HL364_5 := n3_; have BK358 := n4_; have HR364_4 := n5_; have HR364_5 := n6_; have HB := n7_; clear n0_ n1_ n2_ n3_ n4_ n5_ n6_ n7_; (try clear hb); (try clear hb2); (try clear hk); (try clear hi)))
                              go_roundg k4
                              case measure => have := HJ4.out; have := HJ21.out; have := HK3.out; have := HK4.out; omega
                              case rel => exact ⟨(wrap64 (x9_4 + 1)), (by first | rfl | (simp; done) | (simp [*]; done)), H', ⟨by have := HJ4.out; have := HJ21.out; have := HK3.out; have := HK4.out; omega⟩, ⟨by (with_reducible repeat (first | apply Kd.V_alloc | apply Kd.V_drewN | apply Kd.V_drew)); exact HO_359004.out⟩, ⟨by (with_reducible repeat (first | apply Kd.V_alloc | apply Kd.V_drewN | apply Kd.V_drew)); exact HO_359005.out⟩, ⟨by (with_reducible repeat (first | refine blk_drewN ?_ _ | refine blk_drew ?_ | refine blk_alloc ?_ _)); exact BK358.out⟩, ⟨by repeat (first | (with_reducible first | exact HB.out | apply below_alloc | apply pw_below_drewN | apply below_drew1 | refine below_set ?_ GE358.out) | exact HB.out)⟩⟩
                            · replace c38 := Bool.eq_false_iff.mpr c38
                              subst c38
                              have H1 : (some false) = some r := by rw [if_neg (show ¬ (false = true) by decide)] at H; exact H
                              clear H
                              have H := H1
                              clear H1
                              obtain rfl := Option.some.inj H
                              have hcz41_0 : wr.cell? ⟨gb358, 0, none⟩ = some (.int .i64 t346) := (blk_cell BK358.out 0).trans rfl
                              have hcz41_1 : wr.cell? ⟨gb358, 1, none⟩ = some (.int .i64 t347) := (blk_cell BK358.out 1).trans rfl
                              have hcz41_2 : wr.cell? ⟨gb358, 2, none⟩ = some (.int .i64 t348) := (blk_cell BK358.out 2).trans rfl
                              have hcz41_3 : wr.cell? ⟨gb358, 3, none⟩ = some (.int .i64 t349) := (blk_cell BK358.out 3).trans rfl
                              have hcz41_4 : wr.cell? ⟨gb358, 4, none⟩ = some (.slice Ao9 t350.length co9) := (blk_cell BK358.out 4).trans rfl
                              have hcz41_5 : wr.cell? ⟨gb358, 5, none⟩ = some (.slice Ao10 t353.length co10) := (blk_cell BK358.out 5).trans rfl
                              have hfz41_0 := blk_frozen BK358.out 0
                              have hfz41_1 := blk_frozen BK358.out 1
                              have hfz41_2 := blk_frozen BK358.out 2
                              have hfz41_3 := blk_frozen BK358.out 3
                              have hfz41_4 := blk_frozen BK358.out 4
                              have hfz41_5 := blk_frozen BK358.out 5
                              have p364 : 0 ≤ (x9_4 : Int) := of_decide_eq_true (by first | (with_reducible assumption) | assumption)
                              have q364 : x9_4 < (t353.length : Int) := of_decide_eq_true (by first | (with_reducible assumption) | assumption)
                              obtain ⟨ad364, A364_4, c364_4, A364_5, c364_5, e364, hx364_0, hx364_1, hx364_2, hx364_3, hx364_4, hx364_5, hl364_4, hi364_4, hl364_5, hi364_5⟩ := at_T29 (Kd.V_reads' HO_359005.out).2.2 x9_4 p364 q364
                              cases e364
                              obtain ⟨ce364, hce364, hMe364, hcc364⟩ := Kd.V_get HO_359005.out z29 x9_4 p364 (by first | exact q364 | exact of_decide_eq_true (by first | (with_reducible assumption) | assumption) | (have e_ := (Kd.V_reads' HO_359005.out).1; omega))
                              obtain ⟨ua364_4, uc364_4, ua364_5, uc364_5, rfl, ul364_4, ge364_4, ul364_5, ge364_5⟩ := k29_openF hMe364
                              have hv364_4 := hcc364 4 _ rfl
                              rw [add_field _ _ 4 (by omega)] at hv364_4
                              replace hv364_4 := Option.some.inj (hv364_4.symm.trans hx364_4)
                              injection hv364_4 with hva_ hvn_ hvc_
                              rw [hva_] at ge364_4
                              rw [hvc_] at ul364_4
                              have HL364_4 := Aside0.mk (show Kd.V k29 29 _ w.heap.size _ _ ((rd_T29 t353 x9_4).f4) from Kd.V_mk ul364_4 ge364_4)
                              clear hva_ hvn_ hvc_ ge364_4 ul364_4
                              have hv364_5 := hcc364 5 _ rfl
                              rw [add_field _ _ 5 (by omega)] at hv364_5
                              replace hv364_5 := Option.some.inj (hv364_5.symm.trans hx364_5)
                              injection hv364_5 with hva_ hvn_ hvc_
                              rw [hva_] at ge364_5
                              rw [hvc_] at ul364_5
                              have HL364_5 := Aside0.mk (show Kd.V k29 29 _ w.heap.size _ _ ((rd_T29 t353 x9_4).f5) from Kd.V_mk ul364_5 ge364_5)
                              clear hva_ hvn_ hvc_ ge364_5 ul364_5
                              clear hcc364 hce364
                              have HR364_4 := Aside0.mk hi364_4
                              have HC364_4 := Aside0.mk hl364_4
                              clear hi364_4 hl364_4
                              have HR364_5 := Aside0.mk hi364_5
                              have HC364_5 := Aside0.mk hl364_5
                              clear hi364_5 hl364_5
                              replace p364 := eq_true p364
                              replace q364 := eq_true q364
                              go_wp2_with (first | ((with_reducible refine gate_callee (f := 18) rfl ?_); refine goesL_ (some 77) rfl rfl Try.func18 (by kernel_rfl) rfl #[.agg #[.int .i64 ((rd_T29 t353 x9_4).f0), .int .i64 ((rd_T29 t353 x9_4).f1), .int .i64 ((rd_T29 t353 x9_4).f2), .int .i64 ((rd_T29 t353 x9_4).f3), .slice A364_4 ((rd_T29 t353 x9_4).f4).length c364_4, .slice A364_5 ((rd_T29 t353 x9_4).f5).length c364_5], .int .i64 (wrap64 (t356 - 1)), .int .i64 x7_21] rfl (by (try simp only [List.map_toArray, List.map_cons, List.map_nil]); first | done | rfl | (simp only [List.length_drop, List.length_take]; rfl)) ?_; (with_reducible refine (impl_StmtOk.calls k4 ((rd_T29 t353 x9_4).f0) ((rd_T29 t353 x9_4).f1) ((rd_T29 t353 x9_4).f2) ((rd_T29 t353 x9_4).f3) _ _ ((rd_T29 t353 x9_4).f4) _ _ ((rd_T29 t353 x9_4).f5) (wrap64 (t356 - 1)) x7_21 false _ ?side1 ?side2 ?side3 ?side4 A37.out).mono ?_); (case side1 => repeat (first | exact (q15_ HR364_4) | (with_reducible refine Kd.C_alloc ?_ _) | (with_reducible refine Kd.C_drewN ?_ _) | (with_reducible refine Kd.C_drew ?_))); (case side2 => exact HC364_4.out); (case side3 => repeat (first | exact (q15_ HR364_5) | (with_reducible refine Kd.C_alloc ?_ _) | (with_reducible refine Kd.C_drewN ?_ _) | (with_reducible refine Kd.C_drew ?_))); (case side4 => exact HC364_5.out); rintro e w42 ⟨rfl, hb⟩; refine ⟨_, rfl, ?_⟩; have n0_ := Aside0.mk (Kd.V_below (q13_ HO_359004) hb); have n1_ := Aside0.mk (Kd.V_below (q13_ HO_359005) hb); have n2_ := Aside0.mk (Kd.V_below (q13_ HL364_4) hb); have n3_ := Aside0.mk (Kd.V_below (q13_ HL364_5) hb); have n4_ := Aside0.mk (blk_below (g := gb358) (o := .cells #[.int .i64 t346, .int .i64 t347, .int .i64 t348, .int .i64 t349, .slice Ao9 t350.length co9, .slice (some ad364) t353.length co10] 29 (0, 0)) (q1_ BK358) hb); have n5_ := Aside0.mk (Kd.C_below (q15_ HR364_4) hb); have n6_ := Aside0.mk (Kd.C_below (q15_ HR364_5) hb); have n7_ := Aside0.mk (below_step (q2_ HB GE358) hb); clear HO_359004; clear HO_359005; clear HL364_4; clear HL364_5; clear BK358; clear HR364_4; clear HR364_5; clear HB; have HO_359004 := n0_; have HO_359005 := n1_; have HL364_4 := n2_; have HL364_5 := n3_; have BK358 := n4_; have HR364_4 := n5_; have HR364_5 := n6_; have HB := n7_; clear n0_ n1_ n2_ n3_ n4_ n5_ n6_ n7_; (try clear hb); (try clear hb2); (try clear hk); (try clear hi)))
                              go_ret
                              exact ⟨by first | rfl | (simp [errW_none, errW_some] <;> rfl) | (simp [*, errW_none, errW_some] <;> rfl), by repeat (first | (with_reducible first | exact HB.out | apply below_alloc | apply pw_below_drewN | apply below_drew1 | refine below_set ?_ GE358.out) | exact HB.out)⟩
                          · rw [if_neg c36] at H
                            exact absurd H (by simp)
                        · rw [if_neg c35] at H
                          have c35b0 : decide (x9_4 < (t353.length : Int)) = false := decide_eq_false c35
                          clear c35
                          obtain rfl := Option.some.inj H
                          have hcz43_0 : wr.cell? ⟨gb358, 0, none⟩ = some (.int .i64 t346) := (blk_cell BK358.out 0).trans rfl
                          have hcz43_1 : wr.cell? ⟨gb358, 1, none⟩ = some (.int .i64 t347) := (blk_cell BK358.out 1).trans rfl
                          have hcz43_2 : wr.cell? ⟨gb358, 2, none⟩ = some (.int .i64 t348) := (blk_cell BK358.out 2).trans rfl
                          have hcz43_3 : wr.cell? ⟨gb358, 3, none⟩ = some (.int .i64 t349) := (blk_cell BK358.out 3).trans rfl
                          have hcz43_4 : wr.cell? ⟨gb358, 4, none⟩ = some (.slice Ao9 t350.length co9) := (blk_cell BK358.out 4).trans rfl
                          have hcz43_5 : wr.cell? ⟨gb358, 5, none⟩ = some (.slice Ao10 t353.length co10) := (blk_cell BK358.out 5).trans rfl
                          have hfz43_0 := blk_frozen BK358.out 0
                          have hfz43_1 := blk_frozen BK358.out 1
                          have hfz43_2 := blk_frozen BK358.out 2
                          have hfz43_3 := blk_frozen BK358.out 3
                          have hfz43_4 := blk_frozen BK358.out 4
                          have hfz43_5 := blk_frozen BK358.out 5
                          go_wp2
                          go_ret
                          exact ⟨by first | rfl | (simp [errW_none, errW_some] <;> rfl) | (simp [*, errW_none, errW_some] <;> rfl), by repeat (first | (with_reducible first | exact HB.out | apply below_alloc | apply pw_below_drewN | apply below_drew1 | refine below_set ?_ GE358.out) | exact HB.out)⟩

/-- THE ONE PURE STATEMENT of laws_FnProgDeep: yours. -/
def laws_FnProgDeep.Pure : Prop := ∀ (l0 : List Int), l0.length ≤ maxLen → l0.length * 1 ≤ 140737488351232 → (∀ x ∈ l0, (Lit.int .u8 x).wf = true) → ∃ k, laws_FnProgDeep.f k l0 = some true
theorem laws_FnProgDeep.walk (P : laws_FnProgDeep.Pure) (a0 : Option Addr) (len0 cap0 : Nat) (z0 : List Int) (w : World) (w0 : (a0 = none ∧ len0 = 0 ∧ cap0 = 0 ∧ z0 = []) ∨ ∃ x, a0 = some x ∧ len0 ≤ cap0 ∧ cap0 ≤ maxLen ∧ z0.length = cap0 ∧ (∀ i, i < z0.length → w.cell? (x.add i) = some (.int .u8 (z0.getD i 0))) ∧ ∀ n ∈ z0, (Lit.int .u8 n).wf = true) (y0 : len0 * 1 ≤ 140737488351232) :
    Calls Try.prog 4 #[.slice a0 len0 cap0] w fun e w' => e = .returned (.bool true) ∧ Below w.heap.size w w' := by
  obtain ⟨l0, rfl, hr0, hm0, hw0, hc0⟩ := ReadsInt.ofRowC w0
  obtain ⟨k, h⟩ := P l0 hm0 y0 hw0
  refine (laws_FnProgDeep.calls k _ _ l0 true w (Kd.C_of_reads (d := (0 : Int)) (h1 := fun _ => rfl) hr0) hc0 h).mono ?_
  rintro e w' ⟨rfl, hd⟩
  exact ⟨rfl, hd⟩

end Go.Proofs.Ytnjaimaaijbacaa.P
