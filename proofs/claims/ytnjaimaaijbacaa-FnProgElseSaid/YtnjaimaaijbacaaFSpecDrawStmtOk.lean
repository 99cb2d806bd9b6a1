/- Plain Lean functions for functions of the Go text, and that each call comes to what its function says; written by a program of this workplace (wip/gen.py) out of the translation; no condition beyond those that each theorem names. -/
import Derived.Test.YtnjaimaaijbacaaK
import Derived.Test.YtnjaimaaijbacaaQp
import Derived.Test.YtnjaimaaijbacaaFGSpecL2Draw
import Derived.Test.YtnjaimaaijbacaaFSpecL11Open
import Derived.Test.YtnjaimaaijbacaaFSpecL11RdNum
import Derived.Test.YtnjaimaaijbacaaFSpecL11RdPick
import Derived.Test.YtnjaimaaijbacaaFSpecL2Bent
namespace Go.Proofs.Ytnjaimaaijbacaa.P
open Go.RowKit Go.Proofs.YtnjaimaaijbacaaW.PrintWords Go.Proofs.YtnjaimaaijbacaaW.PrintLast Go.Proofs.YtnjaimaaijbacaaW.PrintMore
attribute [local go_sem] max2_int min2_int max_two min_two max_three min_three max_four min_four
set_option linter.unusedVariables false
set_option linter.unusedSimpArgs false

/-! ### spec_DrawStmtOk: function 20 -/
def spec_DrawStmtOk.f (k : Nat) (l0 : List Int) : Option (Int × Int × Int × Int × (List (S29)) × (List (S29)) × Int × Int) := (spec_l11Open.f l0).bind fun bt313 => ((spec_l11Rd_pick.f k bt313.1 bt313.2 4).bind fun bt316 => ((spec_l2Draw.f k bt313.1 bt316.2 3 (wrap64 (bt316.1 - 1))).bind fun bt318 => ((spec_l2Bent.f k bt313.1 bt318.2.2.2.2.2.2 (([(⟨bt318.1, bt318.2.1, bt318.2.2.1, bt318.2.2.2.1, bt318.2.2.2.2.1, bt318.2.2.2.2.2.1⟩ : S29)] : List (S29)))).bind fun bt332 => ((spec_l2Bent.f k bt313.1 bt332.2 bt332.1).bind fun bt336 => (if 0 < (bt336.1.length : Int) then ((spec_l11Rd_num.f k bt313.1 bt336.2 (([3, 3, 2, 1, 0, 4, (-1)] : List Int))).bind fun bt344 => (some ((rd_T29 bt336.1 0).f0, (rd_T29 bt336.1 0).f1, (rd_T29 bt336.1 0).f2, (rd_T29 bt336.1 0).f3, (rd_T29 bt336.1 0).f4, (rd_T29 bt336.1 0).f5, bt344.1, wrap64 (bt316.1 - 1)))) else (none))))))
theorem spec_DrawStmtOk.mono : ∀ a0 k, LeO (spec_DrawStmtOk.f k a0) (spec_DrawStmtOk.f (k + 1) a0) := by
  intro a0 k
  unfold spec_DrawStmtOk.f
  repeat' first
      | (with_reducible exact spec_l11Rd_num.mono _ _ _ _)
      | (with_reducible exact spec_l11Rd_pick.mono _ _ _ _)
      | (with_reducible exact spec_l2Bent.mono _ _ _ _)
      | (with_reducible exact spec_l2Draw.mono _ _ _ _ _)
      | (with_reducible exact LeO.refl _)
      | (with_reducible exact LeO.none _)
      | (with_reducible refine LeO.ite ?_ ?_)
      | (with_reducible refine LeO.bind ?_ (fun _ => ?_))
      | exact spec_l11Rd_num.mono _ _ _ _
      | exact spec_l11Rd_pick.mono _ _ _ _
      | exact spec_l2Bent.mono _ _ _ _
      | exact spec_l2Draw.mono _ _ _ _ _
      | exact LeO.none _
      | refine LeO.ite ?_ ?_
      | refine LeO.bind ?_ (fun _ => ?_)
def spec_DrawStmtOk.T4 : Bool × List (List Nat × List Nat) := (true, [([], []), ([0], [0]), ([1], [1]), ([], []), ([], []), ([3, 4], [3, 4]), ([], []), ([2, 5, 0, 1, 2], [2]), ([5, 7, 0, 1, 2, 3, 4, 5, 7], [5]), ([6, 8, 0, 1, 2, 3, 4, 5, 6, 7, 8], [6])])
def spec_DrawStmtOk.B4 : List Nat := [0, 1, 3, 0, 0, 24, 0, 63, 191, 511]
theorem spec_DrawStmtOk.tab4 : rtab .any (opsOf Try.f20 4) = spec_DrawStmtOk.T4 := by kernel_rfl
theorem spec_DrawStmtOk.bits4 : waitsOk spec_DrawStmtOk.T4.2 spec_DrawStmtOk.B4 = true := by kernel_rfl
set_option maxHeartbeats 8000000 in
set_option maxRecDepth 100000 in
theorem spec_DrawStmtOk.calls (k : Nat) (A0 : Option Addr) (c0 : Nat) (l0 : List Int) (r1 : Int) (r2 : Int) (r3 : Int) (r4 : Int) (r5 : List (S29)) (r6 : List (S29)) (r7 : Int) (r8 : Int) (w : World) (hr0 : Kd.C (Kd.int .u8) w A0 l0.length l0) (hc0 : l0.length ≤ c0) (h : spec_DrawStmtOk.f k l0 = some (r1, r2, r3, r4, r5, r6, r7, r8)) :
    Calls Try.prog 20 #[.slice A0 l0.length c0] w fun e w' => ∃ v4_ v5_ : Value, e = .returned (.tuple #[.agg #[.int .i64 r1, .int .i64 r2, .int .i64 r3, .int .i64 r4, v4_, v5_], .int .i64 r7, .int .i64 r8]) ∧ Kd.V k29 29 w' w.heap.size (fun k_ => (w.heap.size ≤ k_)) v4_ r5 ∧ Kd.V k29 29 w' w.heap.size (fun k_ => (w.heap.size ≤ k_)) v5_ r6 ∧ Below w.heap.size w w' := by
  have hu29 := Try.underlying29
  have HR0 := Aside0.mk hr0
  have HC0 := Aside0.mk hc0
  clear hr0 hc0
  have HB := Aside0.mk (Below.refl w.heap.size w)
  have H : ((spec_l11Open.f l0).bind fun bt313 => ((spec_l11Rd_pick.f k bt313.1 bt313.2 4).bind fun bt316 => ((spec_l2Draw.f k bt313.1 bt316.2 3 (wrap64 (bt316.1 - 1))).bind fun bt318 => ((spec_l2Bent.f k bt313.1 bt318.2.2.2.2.2.2 (([(⟨bt318.1, bt318.2.1, bt318.2.2.1, bt318.2.2.2.1, bt318.2.2.2.2.1, bt318.2.2.2.2.2.1⟩ : S29)] : List (S29)))).bind fun bt332 => ((spec_l2Bent.f k bt313.1 bt332.2 bt332.1).bind fun bt336 => (if 0 < (bt336.1.length : Int) then ((spec_l11Rd_num.f k bt313.1 bt336.2 (([3, 3, 2, 1, 0, 4, (-1)] : List Int))).bind fun bt344 => (some ((rd_T29 bt336.1 0).f0, (rd_T29 bt336.1 0).f1, (rd_T29 bt336.1 0).f2, (rd_T29 bt336.1 0).f3, (rd_T29 bt336.1 0).f4, (rd_T29 bt336.1 0).f5, bt344.1, wrap64 (bt316.1 - 1)))) else (none))))))) = some (r1, r2, r3, r4, r5, r6, r7, r8) := h
  clear h
  replace H := Option.bind_eq_some_iff.mp H
  obtain ⟨⟨t313, t314⟩, A20, H⟩ := H
  replace H : ((spec_l11Rd_pick.f k t313 t314 4).bind fun bt316 => ((spec_l2Draw.f k t313 bt316.2 3 (wrap64 (bt316.1 - 1))).bind fun bt318 => ((spec_l2Bent.f k t313 bt318.2.2.2.2.2.2 (([(⟨bt318.1, bt318.2.1, bt318.2.2.1, bt318.2.2.2.1, bt318.2.2.2.2.1, bt318.2.2.2.2.2.1⟩ : S29)] : List (S29)))).bind fun bt332 => ((spec_l2Bent.f k t313 bt332.2 bt332.1).bind fun bt336 => (if 0 < (bt336.1.length : Int) then ((spec_l11Rd_num.f k t313 bt336.2 (([3, 3, 2, 1, 0, 4, (-1)] : List Int))).bind fun bt344 => (some ((rd_T29 bt336.1 0).f0, (rd_T29 bt336.1 0).f1, (rd_T29 bt336.1 0).f2, (rd_T29 bt336.1 0).f3, (rd_T29 bt336.1 0).f4, (rd_T29 bt336.1 0).f5, bt344.1, wrap64 (bt316.1 - 1)))) else (none)))))) = some (r1, r2, r3, r4, r5, r6, r7, r8) := H
  have A2 := Aside0.mk A20
  clear A20
  replace H := Option.bind_eq_some_iff.mp H
  obtain ⟨⟨t316, t317⟩, A30, H⟩ := H
  replace H : ((spec_l2Draw.f k t313 t317 3 (wrap64 (t316 - 1))).bind fun bt318 => ((spec_l2Bent.f k t313 bt318.2.2.2.2.2.2 (([(⟨bt318.1, bt318.2.1, bt318.2.2.1, bt318.2.2.2.1, bt318.2.2.2.2.1, bt318.2.2.2.2.2.1⟩ : S29)] : List (S29)))).bind fun bt332 => ((spec_l2Bent.f k t313 bt332.2 bt332.1).bind fun bt336 => (if 0 < (bt336.1.length : Int) then ((spec_l11Rd_num.f k t313 bt336.2 (([3, 3, 2, 1, 0, 4, (-1)] : List Int))).bind fun bt344 => (some ((rd_T29 bt336.1 0).f0, (rd_T29 bt336.1 0).f1, (rd_T29 bt336.1 0).f2, (rd_T29 bt336.1 0).f3, (rd_T29 bt336.1 0).f4, (rd_T29 bt336.1 0).f5, bt344.1, wrap64 (t316 - 1)))) else (none))))) = some (r1, r2, r3, r4, r5, r6, r7, r8) := H
  have A3 := Aside0.mk A30
  clear A30
  replace H := Option.bind_eq_some_iff.mp H
  obtain ⟨⟨t318, t319, t320, t321, t322, t325, t328⟩, A40, H⟩ := H
  replace H : ((spec_l2Bent.f k t313 t328 (([(⟨t318, t319, t320, t321, t322, t325⟩ : S29)] : List (S29)))).bind fun bt332 => ((spec_l2Bent.f k t313 bt332.2 bt332.1).bind fun bt336 => (if 0 < (bt336.1.length : Int) then ((spec_l11Rd_num.f k t313 bt336.2 (([3, 3, 2, 1, 0, 4, (-1)] : List Int))).bind fun bt344 => (some ((rd_T29 bt336.1 0).f0, (rd_T29 bt336.1 0).f1, (rd_T29 bt336.1 0).f2, (rd_T29 bt336.1 0).f3, (rd_T29 bt336.1 0).f4, (rd_T29 bt336.1 0).f5, bt344.1, wrap64 (t316 - 1)))) else (none)))) = some (r1, r2, r3, r4, r5, r6, r7, r8) := H
  have A4 := Aside0.mk A40
  clear A40
  obtain ⟨y329, hy329⟩ : ∃ y_ : List (S29), y_ = (([(⟨t318, t319, t320, t321, t322, t325⟩ : S29)] : List (S29))) := ⟨_, rfl⟩
  replace H : ((spec_l2Bent.f k t313 t328 y329).bind fun bt332 => ((spec_l2Bent.f k t313 bt332.2 bt332.1).bind fun bt336 => (if 0 < (bt336.1.length : Int) then ((spec_l11Rd_num.f k t313 bt336.2 (([3, 3, 2, 1, 0, 4, (-1)] : List Int))).bind fun bt344 => (some ((rd_T29 bt336.1 0).f0, (rd_T29 bt336.1 0).f1, (rd_T29 bt336.1 0).f2, (rd_T29 bt336.1 0).f3, (rd_T29 bt336.1 0).f4, (rd_T29 bt336.1 0).f5, bt344.1, wrap64 (t316 - 1)))) else (none)))) = some (r1, r2, r3, r4, r5, r6, r7, r8) := by first | (rw [hy329]; with_reducible exact H) | (have H2_ := (Option.bind_some _ _).symm.trans H; rw [hy329]; with_reducible exact H2_) | (have H2_ := (Option.bind_some _ _).symm.trans H; with_reducible exact H2_) | with_reducible exact H | (rw [hy329]; exact H) | exact H
  have Ny329 := Aside0.mk hy329
  clear hy329
  replace H := Option.bind_eq_some_iff.mp H
  obtain ⟨⟨t332, t335⟩, A50, H⟩ := H
  replace H : ((spec_l2Bent.f k t313 t335 t332).bind fun bt336 => (if 0 < (bt336.1.length : Int) then ((spec_l11Rd_num.f k t313 bt336.2 (([3, 3, 2, 1, 0, 4, (-1)] : List Int))).bind fun bt344 => (some ((rd_T29 bt336.1 0).f0, (rd_T29 bt336.1 0).f1, (rd_T29 bt336.1 0).f2, (rd_T29 bt336.1 0).f3, (rd_T29 bt336.1 0).f4, (rd_T29 bt336.1 0).f5, bt344.1, wrap64 (t316 - 1)))) else (none))) = some (r1, r2, r3, r4, r5, r6, r7, r8) := H
  have A5 := Aside0.mk A50
  clear A50
  replace H := Option.bind_eq_some_iff.mp H
  obtain ⟨⟨t336, t339⟩, A60, H⟩ := H
  replace H : (if 0 < (t336.length : Int) then ((spec_l11Rd_num.f k t313 t339 (([3, 3, 2, 1, 0, 4, (-1)] : List Int))).bind fun bt344 => (some ((rd_T29 t336 0).f0, (rd_T29 t336 0).f1, (rd_T29 t336 0).f2, (rd_T29 t336 0).f3, (rd_T29 t336 0).f4, (rd_T29 t336 0).f5, bt344.1, wrap64 (t316 - 1)))) else (none)) = some (r1, r2, r3, r4, r5, r6, r7, r8) := H
  have A6 := Aside0.mk A60
  clear A60
  by_cases c7 : 0 < (t336.length : Int)
  · rw [if_pos c7] at H
    have c7b0 : decide (0 < (t336.length : Int)) = true := decide_eq_true c7
    have c7b1 : decide (0 < t336.length) = true := decide_eq_true (by omega)
    clear c7
    obtain ⟨y341, hy341⟩ : ∃ y_ : List Int, y_ = (([3, 3, 2, 1, 0, 4, (-1)] : List Int)) := ⟨_, rfl⟩
    replace H : ((spec_l11Rd_num.f k t313 t339 y341).bind fun bt344 => (some ((rd_T29 t336 0).f0, (rd_T29 t336 0).f1, (rd_T29 t336 0).f2, (rd_T29 t336 0).f3, (rd_T29 t336 0).f4, (rd_T29 t336 0).f5, bt344.1, wrap64 (t316 - 1)))) = some (r1, r2, r3, r4, r5, r6, r7, r8) := by first | (rw [hy341]; with_reducible exact H) | (have H2_ := (Option.bind_some _ _).symm.trans H; rw [hy341]; with_reducible exact H2_) | (have H2_ := (Option.bind_some _ _).symm.trans H; with_reducible exact H2_) | with_reducible exact H | (rw [hy341]; exact H) | exact H
    have Ny341 := Aside0.mk hy341
    clear hy341
    replace H := Option.bind_eq_some_iff.mp H
    obtain ⟨⟨t344, t345⟩, A80, H⟩ := H
    replace H : (some ((rd_T29 t336 0).f0, (rd_T29 t336 0).f1, (rd_T29 t336 0).f2, (rd_T29 t336 0).f3, (rd_T29 t336 0).f4, (rd_T29 t336 0).f5, t344, wrap64 (t316 - 1))) = some (r1, r2, r3, r4, r5, r6, r7, r8) := H
    have A8 := Aside0.mk A80
    clear A80
    simp only [Option.some.injEq, Prod.mk.injEq] at H
    obtain ⟨rfl, rfl, rfl, rfl, rfl, rfl, rfl, rfl⟩ := H
    go_enter Try.func20, Try.ntmps20
    try go_wp2_with (first | ((with_reducible refine gate_dst (N := 2) rfl ?_); refine box_event ?hg (N := 2) ?hd (cs := #[.int .i64 0, .int .i64 0, .int .i64 0, .int .i64 0, .slice none 0 0, .slice none 0 0]) (t := 29) ?hr ?_; (case hd => rfl); (case hg => rfl); (case hr => first | (go_simp; done) | (go_simp; rfl)); intro gb312 hg w9 hbox hb; have n0_ := Aside0.mk (below_step (q0_ HB) hb); have n1_ := Aside0.mk (hbox); have n2_ := Aside0.mk ((by rw [hg]; exact (below_size (q0_ HB)) : w.heap.size ≤ gb312)); have n3_ := Aside0.mk ((by rw [hg]; exact (below_size (q0_ HB)) : w.heap.size ≤ gb312)); clear HB; have HB := n0_; have BK312 := n1_; have GW312 := n2_; have GE312 := n3_; clear n0_ n1_ n2_ n3_; clear hb hbox hg) | ((with_reducible refine gate_callee (f := 47) rfl ?_); refine goesL_ (some 9) rfl rfl Try.func47 (by kernel_rfl) rfl #[.slice A0 l0.length c0] rfl (by (try simp only [List.map_toArray, List.map_cons, List.map_nil]); first | done | rfl | (simp only [List.length_drop, List.length_take]; rfl)) ?_; (with_reducible refine (spec_l11Open.calls _ _ l0 t313 t314 w _ ?side1 ?side2 ?side3 A2.out).mono ?_); (case side1 => exact q2_ HB GE312); (case side2 => exact HR0.out); (case side3 => exact HC0.out); rintro e w10 ⟨g315, rfl, hi, hb, hb2⟩; refine ⟨_, rfl, ?_⟩; have n0_ := Aside0.mk (blk_below (g := gb312) (o := .cells #[.int .i64 0, .int .i64 0, .int .i64 0, .int .i64 0, .slice none 0 0, .slice none 0 0] 29 (0, 0)) (q1_ BK312) hb2); have n1_ := Aside0.mk (hb); have n2_ := Aside0.mk (hi); have n3_ := Aside0.mk (IsS86.ne_blk hi (blk_below (g := gb312) (o := .cells #[.int .i64 0, .int .i64 0, .int .i64 0, .int .i64 0, .slice none 0 0, .slice none 0 0] 29 (0, 0)) (q1_ BK312) hb2) (by decide)); have n4_ := Aside0.mk (Ne.symm (IsS86.ne_blk hi (blk_below (g := gb312) (o := .cells #[.int .i64 0, .int .i64 0, .int .i64 0, .int .i64 0, .slice none 0 0, .slice none 0 0] 29 (0, 0)) (q1_ BK312) hb2) (by decide))); clear BK312; clear HB; have BK312 := n0_; have HB := n1_; have HI315 := n2_; have NB315_312 := n3_; have NB312_315 := n4_; clear n0_ n1_ n2_ n3_ n4_; (try clear hb); (try clear hb2); (try clear hk); (try clear hi)) | ((with_reducible refine gate_callee (f := 48) rfl ?_); refine goesL_ (some 11) rfl rfl Try.func48 (by kernel_rfl) rfl #[.pointer (some ⟨g315, 0, none⟩), .int .i64 4] rfl (by (try simp only [List.map_toArray, List.map_cons, List.map_nil]); first | done | rfl | (simp only [List.length_drop, List.length_take]; rfl)) ?_; (with_reducible refine (spec_l11Rd_pick.calls k g315 t313 t314 4 t316 t317 w _ ?side1 ?side2 A3.out).mono ?_); (case side1 => exact q16_ HI315 NB315_312); (case side2 => exact q17_ HB HI315 GE312); rintro e w11 ⟨rfl, hi, hb, hk⟩; refine ⟨_, rfl, ?_⟩; have n0_ := Aside0.mk (KeepBut.blk hk (g' := gb312) (o := .cells #[.int .i64 0, .int .i64 0, .int .i64 0, .int .i64 0, .slice none 0 0, .slice none 0 0] 29 (0, 0)) (q1_ BK312) NB312_315.out (by simp)); have n1_ := Aside0.mk (hb); have n2_ := Aside0.mk (hi); clear BK312; clear HB; clear HI315; have BK312 := n0_; have HB := n1_; have HI315 := n2_; clear n0_ n1_ n2_; (try clear hb); (try clear hb2); (try clear hk); (try clear hi)) | ((with_reducible refine gate_callee (f := 50) rfl ?_); refine goesL_ (some 17) rfl rfl Try.func50 (by kernel_rfl) rfl #[.pointer (some ⟨g315, 0, none⟩), .int .i64 3, .int .i64 (wrap64 (t316 - 1))] rfl (by (try simp only [List.map_toArray, List.map_cons, List.map_nil]); first | done | rfl | (simp only [List.length_drop, List.length_take]; rfl)) ?_; (with_reducible refine (spec_l2Draw.calls k g315 t313 t317 3 (wrap64 (t316 - 1)) t318 t319 t320 t321 t322 t325 t328 w _ ?side1 ?side2 A4.out).mono ?_); (case side1 => exact q16_ HI315 NB315_312); (case side2 => exact q17_ HB HI315 GE312); rintro e w12 ⟨v323, v326, rfl, ho0, ho1, hi, hb, hk⟩; refine ⟨_, rfl, ?_⟩; have n0_ := Aside0.mk (KeepBut.blk hk (g' := gb312) (o := .cells #[.int .i64 0, .int .i64 0, .int .i64 0, .int .i64 0, .slice none 0 0, .slice none 0 0] 29 (0, 0)) (q1_ BK312) NB312_315.out (by simp)); have n1_ := Aside0.mk (Kd.N_lower (Kd.N_mono (ok' := fun k_ => (w.heap.size ≤ k_) ∧ some k_ ≠ (v326 : Value).ownBlock ∧ k_ ≠ gb312 ∧ k_ ≠ g315) (Kd.R_N (Kd.R_bound ho0)) (fun k_ hk_ => ⟨(Nat.le_trans (below_size (q17_ HB HI315 GE312)) hk_.2.1), hk_.1, (Kd.freshB (g := gb312) (o := .cells #[.int .i64 0, .int .i64 0, .int .i64 0, .int .i64 0, .slice none 0 0, .slice none 0 0] 29 (0, 0)) (q1_ BK312) k_ hk_.2.1), (IsS86.fresh (q16_ HI315 NB315_312) k_ hk_.2.1)⟩)) (below_size (q17_ HB HI315 GE312))); have n2_ := Aside0.mk (Kd.N_lower (Kd.N_mono (ok' := fun k_ => (w.heap.size ≤ k_) ∧ some k_ ≠ (v323 : Value).ownBlock ∧ k_ ≠ gb312 ∧ k_ ≠ g315) (Kd.R_N (Kd.R_bound ho1)) (fun k_ hk_ => ⟨(Nat.le_trans (below_size (q17_ HB HI315 GE312)) hk_.2.1), hk_.1, (Kd.freshB (g := gb312) (o := .cells #[.int .i64 0, .int .i64 0, .int .i64 0, .int .i64 0, .slice none 0 0, .slice none 0 0] 29 (0, 0)) (q1_ BK312) k_ hk_.2.1), (IsS86.fresh (q16_ HI315 NB315_312) k_ hk_.2.1)⟩)) (below_size (q17_ HB HI315 GE312))); have n3_ := Aside0.mk (hb); have n4_ := Aside0.mk (hi); clear BK312; clear HB; clear HI315; have BK312 := n0_; have HO324 := n1_; have HO327 := n2_; have HB := n3_; have HI315 := n4_; clear n0_ n1_ n2_ n3_ n4_; (try clear hb); (try clear hb2); (try clear hk); (try clear hi); (try clear ho0); (try clear ho1); obtain ⟨Ao13, co13, eo13⟩ := Kd.N_slice HO324.out; subst eo13; obtain ⟨Ao14, co14, eo14⟩ := Kd.N_slice HO327.out; subst eo14) | ((with_reducible refine gate_dst (N := 18) rfl ?_); refine Kd.N_lit k29 _ 29 ?hg (N' := 18) ?hd (xs := ([(⟨t318, t319, t320, t321, t322, t325⟩ : S29)] : List (S29))) (inner := [.int .i64 t318, .int .i64 t319, .int .i64 t320, .int .i64 t321, .slice Ao13 t322.length co13, .slice Ao14 t325.length co14]) (ok := (fun k_ => (w.heap.size ≤ k_) ∧ k_ ≠ gb312 ∧ k_ ≠ g315)) (okp := (fun k_ => (w.heap.size ≤ k_) ∧ k_ ≠ gb312 ∧ k_ ≠ g315)) ?hr ?hp (fun _ hk => hk) ((show ∀ k_, w12.heap.size ≤ k_ → (fun k_ => (w.heap.size ≤ k_) ∧ k_ ≠ gb312 ∧ k_ ≠ g315) k_ from fun k_ hk => ⟨(Nat.le_trans (below_size (q17_ HB HI315 GE312)) hk), Kd.freshB (g := gb312) (o := .cells #[.int .i64 0, .int .i64 0, .int .i64 0, .int .i64 0, .slice none 0 0, .slice none 0 0] 29 (0, 0)) (q1_ BK312) k_ hk, IsS86.fresh (q16_ HI315 NB315_312) k_ hk⟩) _ (Nat.le_refl _)) (Below.refl _ _) (Nat.le_refl _) (by simp) ?_; (case hd => rfl); (case hg => rfl); (case hr => first | (go_simp; done) | (go_simp; rfl)); (case hp => exact (Reps.c6 (show Kd.FK k29 _ _ (⟨t318, t319, t320, t321, t322, t325⟩ : S29) [.int .i64 t318, .int .i64 t319, .int .i64 t320, .int .i64 t321, .slice Ao13 t322.length co13, .slice Ao14 t325.length co14] from (k29_mkF _ _ (⟨t318, t319, t320, t321, t322, t325⟩ : S29) (Kd.N_reads' (Kd.N_mono (ok' := (fun k_ => (w.heap.size ≤ k_) ∧ k_ ≠ gb312 ∧ k_ ≠ g315)) (HO324.out) (fun k_ hk => ⟨hk.1, ⟨hk.2.2.1, hk.2.2.2⟩⟩))).2.1 (Kd.N_F (Kd.N_mono (ok' := (fun k_ => (w.heap.size ≤ k_) ∧ k_ ≠ gb312 ∧ k_ ≠ g315)) (HO324.out) (fun k_ hk => ⟨hk.1, ⟨hk.2.2.1, hk.2.2.2⟩⟩))) (Kd.N_reads' (Kd.N_mono (ok' := (fun k_ => (w.heap.size ≤ k_) ∧ k_ ≠ gb312 ∧ k_ ≠ g315)) (HO327.out) (fun k_ hk => ⟨hk.1, ⟨hk.2.2.1, hk.2.2.2⟩⟩))).2.1 (Kd.N_F (Kd.N_mono (ok' := (fun k_ => (w.heap.size ≤ k_) ∧ k_ ≠ gb312 ∧ k_ ≠ g315)) (HO327.out) (fun k_ hk => ⟨hk.1, ⟨hk.2.2.1, hk.2.2.2⟩⟩))))) (Reps.none _ _))); intro v330 w15 ho16 hb hg_ hnew_; clear hg_ hnew_; (first | rw [← Ny329.out] at ho16 | (simp only [Int.reduceToNat] at ho16; rw [← Ny329.out] at ho16)); have n0_ := Aside0.mk (Kd.N_lower ho16 (below_size (q17_ HB HI315 GE312))); have n1_ := Aside0.mk (blk_below (g := gb312) (o := .cells #[.int .i64 0, .int .i64 0, .int .i64 0, .int .i64 0, .slice none 0 0, .slice none 0 0] 29 (0, 0)) (q1_ BK312) hb); have n2_ := Aside0.mk (IsS86.below (q16_ HI315 NB315_312) hb); have n3_ := Aside0.mk (below_step (q17_ HB HI315 GE312) hb); clear BK312; clear HI315; clear HB; clear HO324; clear HO327; have HO331 := n0_; have BK312 := n1_; have HI315 := n2_; have HB := n3_; clear n0_ n1_ n2_ n3_; clear hb ho16; obtain ⟨Ao17, co17, eo17⟩ := Kd.N_slice HO331.out; subst eo17) | ((with_reducible refine gate_callee (f := 49) rfl ?_); refine goesL_ (some 19) rfl rfl Try.func49 (by kernel_rfl) rfl #[.pointer (some ⟨g315, 0, none⟩), .slice Ao17 y329.length co17] rfl (by (try simp only [List.map_toArray, List.map_cons, List.map_nil]); first | done | rfl | (simp only [List.length_drop, List.length_take]; rfl)) ?_; (with_reducible refine (spec_l2Bent.calls k g315 t313 t328 (fun k_ => ((w.heap.size ≤ k_) ∧ (k_ ≠ gb312 ∧ k_ ≠ g315))) _ _ y329 t332 t335 w _ ?side1 ?side2 ?side3 A5.out).mono ?_); (case side1 => exact q16_ HI315 NB315_312); (case side2 => exact q17_ HB HI315 GE312); (case side3 => exact Kd.V_mono (Kd.N_V (HO331.out)) (fun k_ hk_ => ⟨hk_, hk_.2.2⟩)); rintro e w18 ⟨v333, rfl, ho0, hi, hb, hk⟩; refine ⟨_, rfl, ?_⟩; have n0_ := Aside0.mk (KeepBut.blk hk (g' := gb312) (o := .cells #[.int .i64 0, .int .i64 0, .int .i64 0, .int .i64 0, .slice none 0 0, .slice none 0 0] 29 (0, 0)) (q1_ BK312) NB312_315.out (by simp)); have n1_ := Aside0.mk (Kd.N_mono (Kd.N_told (Kd.N_oldK (Kd.N_mono (ok := fun k_ => (((w.heap.size ≤ k_)) ∧ (k_ ≠ gb312 ∧ k_ ≠ g315))) (q14_ HO331) (fun k_ hk_ => (⟨hk_, hk_.2.2⟩ : _ ∧ k_ ≠ g315))) hk) (Kd.N_base ho0)) (fun _ h_ => h_.1)); have n2_ := Aside0.mk (Kd.N_lower (Kd.N_mono (ok' := fun k_ => (w.heap.size ≤ k_) ∧ k_ ≠ gb312 ∧ k_ ≠ g315) ho0 (fun k_ hk_ => ⟨Or.elim hk_ (fun hs_ => hs_.1) (fun hn_ => (Nat.le_trans (below_size (q17_ HB HI315 GE312)) hn_)), Or.elim hk_ (fun hs_ => hs_.2.1) (fun hn_ => (Kd.freshB (g := gb312) (o := .cells #[.int .i64 0, .int .i64 0, .int .i64 0, .int .i64 0, .slice none 0 0, .slice none 0 0] 29 (0, 0)) (q1_ BK312) k_ hn_)), Or.elim hk_ (fun hs_ => hs_.2.2) (fun hn_ => (IsS86.fresh (q16_ HI315 NB315_312) k_ hn_))⟩)) (below_size (q17_ HB HI315 GE312))); have n3_ := Aside0.mk (hb); have n4_ := Aside0.mk (hi); clear BK312; clear HO331; clear HB; clear HI315; have BK312 := n0_; have HO331 := n1_; have HO334 := n2_; have HB := n3_; have HI315 := n4_; clear n0_ n1_ n2_ n3_ n4_; (try clear hb); (try clear hb2); (try clear hk); (try clear hi); (try clear ho0); obtain ⟨Ao19, co19, eo19⟩ := Kd.N_slice HO334.out; subst eo19) | ((with_reducible refine gate_callee (f := 49) rfl ?_); refine goesL_ (some 20) rfl rfl Try.func49 (by kernel_rfl) rfl #[.pointer (some ⟨g315, 0, none⟩), .slice Ao19 t332.length co19] rfl (by (try simp only [List.map_toArray, List.map_cons, List.map_nil]); first | done | rfl | (simp only [List.length_drop, List.length_take]; rfl)) ?_; (with_reducible refine (spec_l2Bent.calls k g315 t313 t335 (fun k_ => ((w.heap.size ≤ k_) ∧ (k_ ≠ gb312 ∧ k_ ≠ g315))) _ _ t332 t336 t339 w _ ?side1 ?side2 ?side3 A6.out).mono ?_); (case side1 => exact q16_ HI315 NB315_312); (case side2 => exact q17_ HB HI315 GE312); (case side3 => exact Kd.V_mono (Kd.N_V (HO334.out)) (fun k_ hk_ => ⟨hk_, hk_.2.2⟩)); rintro e w20 ⟨v337, rfl, ho0, hi, hb, hk⟩; refine ⟨_, rfl, ?_⟩; have n0_ := Aside0.mk (KeepBut.blk hk (g' := gb312) (o := .cells #[.int .i64 0, .int .i64 0, .int .i64 0, .int .i64 0, .slice none 0 0, .slice none 0 0] 29 (0, 0)) (q1_ BK312) NB312_315.out (by simp)); have n1_ := Aside0.mk (Kd.N_mono (Kd.N_told (Kd.N_oldK (Kd.N_mono (ok := fun k_ => ((((w.heap.size ≤ k_)) ∧ (k_ ≠ gb312 ∧ k_ ≠ g315)) ∧ some k_ ≠ (.slice Ao19 t332.length co19 : Value).ownBlock)) (q14_ HO331) (fun k_ hk_ => (⟨hk_, hk_.1.2.2⟩ : _ ∧ k_ ≠ g315))) hk) (Kd.N_base ho0)) (fun _ h_ => h_.1)); have n2_ := Aside0.mk (Kd.N_mono (Kd.N_told (Kd.N_oldK (Kd.N_mono (ok := fun k_ => (((w.heap.size ≤ k_)) ∧ (k_ ≠ gb312 ∧ k_ ≠ g315))) (q14_ HO334) (fun k_ hk_ => (⟨hk_, hk_.2.2⟩ : _ ∧ k_ ≠ g315))) hk) (Kd.N_base ho0)) (fun _ h_ => h_.1)); have n3_ := Aside0.mk (Kd.N_lower (Kd.N_mono (ok' := fun k_ => (w.heap.size ≤ k_) ∧ k_ ≠ gb312 ∧ k_ ≠ g315) ho0 (fun k_ hk_ => ⟨Or.elim hk_ (fun hs_ => hs_.1) (fun hn_ => (Nat.le_trans (below_size (q17_ HB HI315 GE312)) hn_)), Or.elim hk_ (fun hs_ => hs_.2.1) (fun hn_ => (Kd.freshB (g := gb312) (o := .cells #[.int .i64 0, .int .i64 0, .int .i64 0, .int .i64 0, .slice none 0 0, .slice none 0 0] 29 (0, 0)) (q1_ BK312) k_ hn_)), Or.elim hk_ (fun hs_ => hs_.2.2) (fun hn_ => (IsS86.fresh (q16_ HI315 NB315_312) k_ hn_))⟩)) (below_size (q17_ HB HI315 GE312))); have n4_ := Aside0.mk (hb); have n5_ := Aside0.mk (hi); clear BK312; clear HO331; clear HO334; clear HB; clear HI315; have BK312 := n0_; have HO331 := n1_; have HO334 := n2_; have HO338 := n3_; have HB := n4_; have HI315 := n5_; clear n0_ n1_ n2_ n3_ n4_ n5_; (try clear hb); (try clear hb2); (try clear hk); (try clear hi); (try clear ho0)))
    have n0_ := Aside0.mk (Kd.N_drew HO331.out)
    have n1_ := Aside0.mk (Kd.N_drew HO334.out)
    have n2_ := Aside0.mk (Kd.N_drew HO338.out)
    have n3_ := Aside0.mk (blk_drew BK312.out)
    have n4_ := Aside0.mk (IsS86.drew HI315.out)
    have n5_ := Aside0.mk (below_drew1 HB.out)
    clear HO331
    clear HO334
    clear HO338
    clear BK312
    clear HI315
    clear HB
    have HO331 := n0_
    have HO334 := n1_
    have HO338 := n2_
    have BK312 := n3_
    have HI315 := n4_
    have HB := n5_
    clear n0_ n1_ n2_ n3_ n4_ n5_
    obtain ⟨Ao22, co22, eo22⟩ := Kd.N_slice HO338.out
    (first | subst eo22 | (injection eo22 with f1_ f2_ f3_; have f4_ := f1_.symm; have f5_ := f3_.symm; clear f1_ f2_ f3_; subst f4_; subst f5_))
    have p340 : 0 ≤ (0 : Int) := (by omega)
    have q340 : 0 < (t336.length : Int) := of_decide_eq_true (by first | (with_reducible assumption) | assumption)
    obtain ⟨ad340, A340_4, c340_4, A340_5, c340_5, e340, hx340_0, hx340_1, hx340_2, hx340_3, hx340_4, hx340_5, hl340_4, hi340_4, hl340_5, hi340_5⟩ := at_T29 (Kd.N_reads' HO338.out).2.2 0 p340 q340
    cases e340
    obtain ⟨ce340, hce340, hMe340, hcc340⟩ := Kd.N_get HO338.out z29 0 p340 (by first | exact q340 | exact of_decide_eq_true (by first | (with_reducible assumption) | assumption) | (have e_ := (Kd.N_reads' HO338.out).1; omega))
    obtain ⟨ua340_4, uc340_4, ua340_5, uc340_5, rfl, ul340_4, ge340_4, ul340_5, ge340_5⟩ := k29_openF hMe340
    have hv340_4 := hcc340 4 _ rfl
    rw [add_field _ _ 4 (by omega)] at hv340_4
    replace hv340_4 := Option.some.inj (hv340_4.symm.trans hx340_4)
    injection hv340_4 with hva_ hvn_ hvc_
    rw [hva_] at ge340_4
    rw [hvc_] at ul340_4
    have HL340_4 := Aside0.mk (show Kd.V k29 29 _ w.heap.size _ _ ((rd_T29 t336 0).f4) from Kd.V_mk ul340_4 ge340_4)
    clear hva_ hvn_ hvc_ ge340_4 ul340_4
    have hv340_5 := hcc340 5 _ rfl
    rw [add_field _ _ 5 (by omega)] at hv340_5
    replace hv340_5 := Option.some.inj (hv340_5.symm.trans hx340_5)
    injection hv340_5 with hva_ hvn_ hvc_
    rw [hva_] at ge340_5
    rw [hvc_] at ul340_5
    have HL340_5 := Aside0.mk (show Kd.V k29 29 _ w.heap.size _ _ ((rd_T29 t336 0).f5) from Kd.V_mk ul340_5 ge340_5)
    clear hva_ hvn_ hvc_ ge340_5 ul340_5
    clear hcc340 hce340
    have qi340 : (0 < t336.length) = True := eq_true (by omega)
    (try rw [show ((0 : Int)).toNat = 0 from rfl] at hx340_0)
    (try rw [show 0 * 6 = 0 from rfl] at hx340_0)
    (try rw [Addr.add_zero'] at hx340_0)
    (try rw [show ((0 : Int)).toNat = 0 from rfl] at hx340_1)
    (try rw [show 0 * 6 = 0 from rfl] at hx340_1)
    (try rw [Addr.add_zero'] at hx340_1)
    (try rw [show ((0 : Int)).toNat = 0 from rfl] at hx340_2)
    (try rw [show 0 * 6 = 0 from rfl] at hx340_2)
    (try rw [Addr.add_zero'] at hx340_2)
    (try rw [show ((0 : Int)).toNat = 0 from rfl] at hx340_3)
    (try rw [show 0 * 6 = 0 from rfl] at hx340_3)
    (try rw [Addr.add_zero'] at hx340_3)
    (try rw [show ((0 : Int)).toNat = 0 from rfl] at hx340_4)
    (try rw [show 0 * 6 = 0 from rfl] at hx340_4)
    (try rw [Addr.add_zero'] at hx340_4)
    (try rw [show ((0 : Int)).toNat = 0 from rfl] at hx340_5)
    (try rw [show 0 * 6 = 0 from rfl] at hx340_5)
    (try rw [Addr.add_zero'] at hx340_5)
    have HR340_4 := Aside0.mk hi340_4
    have HC340_4 := Aside0.mk hl340_4
    clear hi340_4 hl340_4
    have HR340_5 := Aside0.mk hi340_5
    have HC340_5 := Aside0.mk hl340_5
    clear hi340_5 hl340_5
    replace p340 := eq_true p340
    replace q340 := eq_true q340
    refine start_ (n := 10) (S := fun w' => w'.cell? ad340 = some (.int .i64 ((rd_T29 t336 0).f0)) ∧ w'.cell? ⟨ad340.block, ad340.off + 1, none⟩ = some (.int .i64 ((rd_T29 t336 0).f1)) ∧ w'.cell? ⟨ad340.block, ad340.off + 2, none⟩ = some (.int .i64 ((rd_T29 t336 0).f2)) ∧ w'.cell? ⟨ad340.block, ad340.off + 3, none⟩ = some (.int .i64 ((rd_T29 t336 0).f3)) ∧ w'.cell? ⟨ad340.block, ad340.off + 4, none⟩ = some (.slice A340_4 ((rd_T29 t336 0).f4).length c340_4) ∧ w'.cell? ⟨ad340.block, ad340.off + 5, none⟩ = some (.slice A340_5 ((rd_T29 t336 0).f5).length c340_5)) (ds := []) #[false, false, false, false, false, false, false, false, false, false] (by kernel_rfl) rfl rfl ⟨hx340_0, hx340_1, hx340_2, hx340_3, hx340_4, hx340_5⟩ (fun hHeld => ?_); refine with_tabW spec_DrawStmtOk.tab4 spec_DrawStmtOk.bits4 (fun HT_ HW_ => ?_)
    generalize w20.drew = w21 at HO331 HO334 HO338 BK312 HI315 HB HL340_4 HL340_5 HR340_4 HR340_5 hx340_0 hx340_1 hx340_2 hx340_3 hx340_4 hx340_5 hHeld ⊢
    refine pure_ (i := 0) (N := some 21) (v := ?_) (a' := ?_) #[true, false, false, false, false, false, false, false, false, false] rfl rfl (any_of HT_.out (by kernel_rfl)) (fun _ _ _ h => h) (Or.inl ⟨by rfl, ?_⟩) ?_ ?_
    rotate_left
    · intro w'
      go_simp
      with_reducible rfl
    rotate_left
    · (try simp only [Act.put, List.setIfInBounds_toArray, List.set_cons_zero, List.set_cons_succ, i64_w, i32_w])
      rfl
    refine pure_ (i := 1) (N := some 22) (v := ?_) (a' := ?_) #[true, true, false, false, false, false, false, false, false, false] rfl rfl (any_of HT_.out (by kernel_rfl)) (fun _ _ _ h => h) (Or.inl ⟨by rfl, ?_⟩) ?_ ?_
    rotate_left
    · intro w'
      go_simp
      with_reducible rfl
    rotate_left
    · (try simp only [Act.put, List.setIfInBounds_toArray, List.set_cons_zero, List.set_cons_succ, i64_w, i32_w])
      rfl
    refine pure_ (i := 3) (N := some 24) (v := ?_) (a' := ?_) #[true, true, false, true, false, false, false, false, false, false] rfl rfl (any_of HT_.out (by kernel_rfl)) (fun _ _ _ h => h) (Or.inl ⟨by rfl, ?_⟩) ?_ ?_
    rotate_left
    · intro w'
      go_simp
      with_reducible rfl
    rotate_left
    · (try simp only [Act.put, List.setIfInBounds_toArray, List.set_cons_zero, List.set_cons_succ, i64_w, i32_w])
      rfl
    refine pure_ (i := 6) (N := some 27) (v := ?_) (a' := ?_) #[true, true, false, true, false, false, true, false, false, false] rfl rfl (any_of HT_.out (by kernel_rfl)) (fun _ _ _ h => h) (Or.inl ⟨by rfl, ?_⟩) ?_ ?_
    rotate_left
    · intro w'
      go_simp
      with_reducible rfl
    rotate_left
    · (try simp only [Act.put, List.setIfInBounds_toArray, List.set_cons_zero, List.set_cons_succ, i64_w, i32_w])
      rfl
    refine take_ (i := 2) (N := some 23) (v := ?_) (a' := ?_) #[true, true, true, true, false, false, true, false, false, false] rfl rfl (take_ofW HT_.out HW_.out (by kernel_rfl)) (fun _ _ _ h => h) (Or.inl ⟨by rfl, ?_⟩) hHeld ?_ ?_
    rotate_left
    · rintro w' ⟨s0, s1, s2, s3, s4, s5⟩
      go_simp
      with_reducible rfl
    rotate_left
    · (try simp only [Act.put, List.setIfInBounds_toArray, List.set_cons_zero, List.set_cons_succ, i64_w, i32_w])
      rfl
    refine one_ (i := 4) (N := some 25) #[true, true, true, true, true, false, true, false, false, false] rfl rfl (one_of HT_.out (by kernel_rfl)) (by decide) (fun K hK => ?_)
    refine Kd.R_lit_step (Kd.int .i64) _ 3 ?hg (N := 25) ?hd (xs := ([3, 3, 2, 1, 0, 4, (-1)] : List Int)) (inner := [.int .i64 3, .int .i64 3, .int .i64 2, .int .i64 1, .int .i64 0, .int .i64 4, .int .i64 (-1)]) (ok := fun _ => True) (okp := fun _ => True) ?hr ?hp (fun _ hk => hk) trivial (Below.refl _ _) (Nat.le_refl _) (by simp) ?_; (case hd => rfl); (case hg => rfl); (case hr => first | (go_simp; done) | (go_simp; rfl)); (case hp => exact (Reps.one (show Kd.M (Kd.int .i64) _ _ _ 3 [.int .i64 3] from rfl) (Reps.one (show Kd.M (Kd.int .i64) _ _ _ 3 [.int .i64 3] from rfl) (Reps.one (show Kd.M (Kd.int .i64) _ _ _ 2 [.int .i64 2] from rfl) (Reps.one (show Kd.M (Kd.int .i64) _ _ _ 1 [.int .i64 1] from rfl) (Reps.one (show Kd.M (Kd.int .i64) _ _ _ 0 [.int .i64 0] from rfl) (Reps.one (show Kd.M (Kd.int .i64) _ _ _ 4 [.int .i64 4] from rfl) (Reps.one (show Kd.M (Kd.int .i64) _ _ _ (-1) [.int .i64 (-1)] from rfl) (Reps.none _ _)))))))))
    intro v342 w23 ho24 hb hg_ hnew_
    have HS0_ := (hb.cell (World.block_lt_of_cell? _ _ (hHeld.1))).trans (hHeld.1)
    have HS1_ := (hb.cell (World.block_lt_of_cell? _ _ (hHeld.2.1))).trans (hHeld.2.1)
    have HS2_ := (hb.cell (World.block_lt_of_cell? _ _ (hHeld.2.2.1))).trans (hHeld.2.2.1)
    have HS3_ := (hb.cell (World.block_lt_of_cell? _ _ (hHeld.2.2.2.1))).trans (hHeld.2.2.2.1)
    have HS4_ := (hb.cell (World.block_lt_of_cell? _ _ (hHeld.2.2.2.2.1))).trans (hHeld.2.2.2.2.1)
    have HS5_ := (hb.cell (World.block_lt_of_cell? _ _ (hHeld.2.2.2.2.2))).trans (hHeld.2.2.2.2.2)
    clear hg_ hnew_
    (first | rw [← Ny341.out] at ho24 | (simp only [Int.reduceToNat] at ho24; rw [← Ny341.out] at ho24))
    have n0_ := Aside0.mk (Kd.N_elder' (q14_ HO331) (Kd.R_base ho24) hb)
    have n1_ := Aside0.mk (Kd.N_elder' (q14_ HO334) (Kd.R_base ho24) hb)
    have n2_ := Aside0.mk (Kd.N_elder' (q14_ HO338) (Kd.R_base ho24) hb)
    have n3_ := Aside0.mk (Kd.V_elder' (q13_ HL340_4) (Kd.R_base ho24) hb)
    have n4_ := Aside0.mk (Kd.V_elder' (q13_ HL340_5) (Kd.R_base ho24) hb)
    have n5_ := Aside0.mk (Kd.R_lower (Kd.R_newM (M := fun k_ => (w.heap.size ≤ k_)) ho24 (below_size (q17_ HB HI315 GE312)) (fun k_ h_ => h_)) (below_size (q17_ HB HI315 GE312)))
    have n6_ := Aside0.mk (blk_below (g := gb312) (o := .cells #[.int .i64 0, .int .i64 0, .int .i64 0, .int .i64 0, .slice none 0 0, .slice none 0 0] 29 (0, 0)) (q1_ BK312) hb)
    have n7_ := Aside0.mk (IsS86.below (q16_ HI315 NB315_312) hb)
    have n8_ := Aside0.mk (Kd.C_below (q15_ HR340_4) hb)
    have n9_ := Aside0.mk (Kd.C_below (q15_ HR340_5) hb)
    have n10_ := Aside0.mk (below_step (q17_ HB HI315 GE312) hb)
    clear HO331
    clear HO334
    clear HO338
    clear HL340_4
    clear HL340_5
    clear BK312
    clear HI315
    clear HR340_4
    clear HR340_5
    clear HB
    have HO331 := n0_
    have HO334 := n1_
    have HO338 := n2_
    have HL340_4 := n3_
    have HL340_5 := n4_
    have HO343 := n5_
    have BK312 := n6_
    have HI315 := n7_
    have HR340_4 := n8_
    have HR340_5 := n9_
    have HB := n10_
    clear n0_ n1_ n2_ n3_ n4_ n5_ n6_ n7_ n8_ n9_ n10_
    clear hb ho24
    obtain ⟨Ao25, co25, eo25⟩ := Kd.R_slice HO343.out
    (first | subst eo25 | (injection eo25 with f1_ f2_ f3_; have f4_ := f1_.symm; have f5_ := f3_.symm; clear f1_ f2_ f3_; subst f4_; subst f5_))
    refine hK.out _ _ ⟨HS0_, HS1_, HS2_, HS3_, HS4_, HS5_⟩ (fun hHeld => ?_)
    clear hK K
    refine norm_ (a' := ?_) ?_ ?_
    rotate_left
    · show Act.put _ (some 25) _ = _
      simp only [Act.put, List.setIfInBounds_toArray, List.set_cons_zero, List.set_cons_succ, i64_w, i32_w]
      rfl
    refine one_ (i := 5) (N := some 26) #[true, true, true, true, true, true, true, false, false, false] rfl rfl (one_of HT_.out (by kernel_rfl)) (by decide) (fun K hK => ?_)
    refine goes_ Try.func51 (by kernel_rfl) rfl #[.pointer (some ⟨g315, 0, none⟩), .slice Ao25 y341.length co25] (by rfl) rfl rfl (by (try simp only [List.map_toArray, List.map_cons, List.map_nil]); first | done | rfl | (simp only [List.length_drop, List.length_take]; rfl)) ?_
    with_reducible refine (spec_l11Rd_num.calls k g315 t313 t339 _ _ y341 t344 t345 w _ ?side1 ?side2 ?side3 ?side4 ?side5 A8.out).mono ?_
    (case side1 => exact q16_ HI315 NB315_312)
    (case side2 => exact q17_ HB HI315 GE312)
    (case side3 => repeat (first | exact (Kd.R_reads' HO343.out).2.2 | (with_reducible refine Kd.C_alloc ?_ _) | (with_reducible refine Kd.C_drewN ?_ _) | (with_reducible refine Kd.C_drew ?_)))
    (case side4 => exact (Kd.R_reads' HO343.out).2.1)
    (case side5 => exact far_slice (IsS86.own_ne HI315.out HO343.out (by decide)))
    rintro e w26 ⟨rfl, hi, hb, hk⟩
    have HS0_ := keep_cell hk (hHeld.1) (by first | (have h_ := Kd.own_blk (IsS86.own_neN HI315.out HO338.out (by decide)); exact h_) | (rw [add_block]; exact Kd.own_blk (IsS86.own_neN HI315.out HO338.out (by decide))) | (show (Addr.add _ _).block ≠ _; rw [add_block]; exact Kd.own_blk (IsS86.own_neN HI315.out HO338.out (by decide))) | exact Kd.own_blk (IsS86.own_neN HI315.out HO338.out (by decide)))
    have HS1_ := keep_cell hk (hHeld.2.1) (by first | (have h_ := Kd.own_blk (IsS86.own_neN HI315.out HO338.out (by decide)); exact h_) | (rw [add_block]; exact Kd.own_blk (IsS86.own_neN HI315.out HO338.out (by decide))) | (show (Addr.add _ _).block ≠ _; rw [add_block]; exact Kd.own_blk (IsS86.own_neN HI315.out HO338.out (by decide))) | exact Kd.own_blk (IsS86.own_neN HI315.out HO338.out (by decide)))
    have HS2_ := keep_cell hk (hHeld.2.2.1) (by first | (have h_ := Kd.own_blk (IsS86.own_neN HI315.out HO338.out (by decide)); exact h_) | (rw [add_block]; exact Kd.own_blk (IsS86.own_neN HI315.out HO338.out (by decide))) | (show (Addr.add _ _).block ≠ _; rw [add_block]; exact Kd.own_blk (IsS86.own_neN HI315.out HO338.out (by decide))) | exact Kd.own_blk (IsS86.own_neN HI315.out HO338.out (by decide)))
    have HS3_ := keep_cell hk (hHeld.2.2.2.1) (by first | (have h_ := Kd.own_blk (IsS86.own_neN HI315.out HO338.out (by decide)); exact h_) | (rw [add_block]; exact Kd.own_blk (IsS86.own_neN HI315.out HO338.out (by decide))) | (show (Addr.add _ _).block ≠ _; rw [add_block]; exact Kd.own_blk (IsS86.own_neN HI315.out HO338.out (by decide))) | exact Kd.own_blk (IsS86.own_neN HI315.out HO338.out (by decide)))
    have HS4_ := keep_cell hk (hHeld.2.2.2.2.1) (by first | (have h_ := Kd.own_blk (IsS86.own_neN HI315.out HO338.out (by decide)); exact h_) | (rw [add_block]; exact Kd.own_blk (IsS86.own_neN HI315.out HO338.out (by decide))) | (show (Addr.add _ _).block ≠ _; rw [add_block]; exact Kd.own_blk (IsS86.own_neN HI315.out HO338.out (by decide))) | exact Kd.own_blk (IsS86.own_neN HI315.out HO338.out (by decide)))
    have HS5_ := keep_cell hk (hHeld.2.2.2.2.2) (by first | (have h_ := Kd.own_blk (IsS86.own_neN HI315.out HO338.out (by decide)); exact h_) | (rw [add_block]; exact Kd.own_blk (IsS86.own_neN HI315.out HO338.out (by decide))) | (show (Addr.add _ _).block ≠ _; rw [add_block]; exact Kd.own_blk (IsS86.own_neN HI315.out HO338.out (by decide))) | exact Kd.own_blk (IsS86.own_neN HI315.out HO338.out (by decide)))
    refine ⟨_, rfl, ?_⟩
    have n0_ := Aside0.mk (KeepBut.blk hk (g' := gb312) (o := .cells #[.int .i64 0, .int .i64 0, .int .i64 0, .int .i64 0, .slice none 0 0, .slice none 0 0] 29 (0, 0)) (q1_ BK312) NB312_315.out (by simp))
    have n1_ := Aside0.mk (Kd.N_mono (Kd.N_keep (Kd.N_mono (ok := fun k_ => ((((((w.heap.size ≤ k_)) ∧ (k_ ≠ gb312 ∧ k_ ≠ g315)) ∧ some k_ ≠ (.slice Ao19 t332.length co19 : Value).ownBlock) ∧ some k_ ≠ (.slice (some ad340) t336.length co22 : Value).ownBlock) ∧ some k_ ≠ (.slice Ao25 y341.length co25 : Value).ownBlock)) (q14_ HO331) (fun k_ hk_ => (⟨hk_, hk_.1.1.1.2.2⟩ : _ ∧ k_ ≠ g315))) hk (fun _ h => h.2)) (fun _ h => h.1))
    have n2_ := Aside0.mk (Kd.N_mono (Kd.N_keep (Kd.N_mono (ok := fun k_ => (((((w.heap.size ≤ k_)) ∧ (k_ ≠ gb312 ∧ k_ ≠ g315)) ∧ some k_ ≠ (.slice (some ad340) t336.length co22 : Value).ownBlock) ∧ some k_ ≠ (.slice Ao25 y341.length co25 : Value).ownBlock)) (q14_ HO334) (fun k_ hk_ => (⟨hk_, hk_.1.1.2.2⟩ : _ ∧ k_ ≠ g315))) hk (fun _ h => h.2)) (fun _ h => h.1))
    have n3_ := Aside0.mk (Kd.N_mono (Kd.N_keep (Kd.N_mono (ok := fun k_ => ((((w.heap.size ≤ k_)) ∧ (k_ ≠ gb312 ∧ k_ ≠ g315)) ∧ some k_ ≠ (.slice Ao25 y341.length co25 : Value).ownBlock)) (q14_ HO338) (fun k_ hk_ => (⟨hk_, hk_.1.2.2⟩ : _ ∧ k_ ≠ g315))) hk (fun _ h => h.2)) (fun _ h => h.1))
    have n4_ := Aside0.mk (Kd.V_mono (Kd.V_keep (Kd.V_mono (ok := fun k_ => (((((w.heap.size ≤ k_)) ∧ (k_ ≠ gb312 ∧ k_ ≠ g315)) ∧ some k_ ≠ (.slice (some ad340) t336.length co22 : Value).ownBlock) ∧ some k_ ≠ (.slice Ao25 y341.length co25 : Value).ownBlock)) (q13_ HL340_4) (fun k_ hk_ => (⟨hk_, hk_.1.1.2.2⟩ : _ ∧ k_ ≠ g315))) hk (fun _ h => h.2)) (fun _ h => h.1))
    have n5_ := Aside0.mk (Kd.V_mono (Kd.V_keep (Kd.V_mono (ok := fun k_ => (((((w.heap.size ≤ k_)) ∧ (k_ ≠ gb312 ∧ k_ ≠ g315)) ∧ some k_ ≠ (.slice (some ad340) t336.length co22 : Value).ownBlock) ∧ some k_ ≠ (.slice Ao25 y341.length co25 : Value).ownBlock)) (q13_ HL340_5) (fun k_ hk_ => (⟨hk_, hk_.1.1.2.2⟩ : _ ∧ k_ ≠ g315))) hk (fun _ h => h.2)) (fun _ h => h.1))
    have n6_ := Aside0.mk (Kd.R_mono (Kd.R_keep (IsS86.apart (show IsS86 w _ g315 t313 t339 from by repeat (first | (with_reducible first | exact HI315.out | apply IsS86.alloc | apply IsS86.drewN | apply IsS86.drew | apply IsS86.set_1 | refine IsS86.far ?_ NB315_312.out _) | exact HI315.out)) (q7_ HO343) (by decide)) hk (fun _ h => h.2)) (fun _ h => h.1))
    have n7_ := Aside0.mk (hb)
    have n8_ := Aside0.mk (hi)
    clear BK312
    clear HO331
    clear HO334
    clear HO338
    clear HL340_4
    clear HL340_5
    clear HO343
    clear HB
    clear HI315
    have BK312 := n0_
    have HO331 := n1_
    have HO334 := n2_
    have HO338 := n3_
    have HL340_4 := n4_
    have HL340_5 := n5_
    have HO343 := n6_
    have HB := n7_
    have HI315 := n8_
    clear n0_ n1_ n2_ n3_ n4_ n5_ n6_ n7_ n8_
    (try clear hb)
    (try clear hb2)
    (try clear hk)
    (try clear hi)
    refine hK.out _ _ ⟨HS0_, HS1_, HS2_, HS3_, HS4_, HS5_⟩ (fun hHeld => ?_)
    clear hK K
    refine norm_ (a' := ?_) ?_ ?_
    rotate_left
    · show Act.put _ (some 26) _ = _
      simp only [Act.put, List.setIfInBounds_toArray, List.set_cons_zero, List.set_cons_succ, i64_w, i32_w]
      rfl
    refine one_ (i := 7) (N := none) #[true, true, true, true, true, true, true, true, false, false] rfl rfl (one_of HT_.out (by kernel_rfl)) (by decide) (fun K hK => ?_)
    have hs27 : w26.cell? ⟨gb312, 0, none⟩ = some (.int .i64 0) := (blk_cell BK312.out 0).trans rfl
    have hfs27 := blk_frozen BK312.out 0
    have hs28 : w26.cell? ⟨gb312, 1, none⟩ = some (.int .i64 0) := (blk_cell BK312.out 1).trans rfl
    have hfs28 := blk_frozen BK312.out 1
    have hs29 : w26.cell? ⟨gb312, 2, none⟩ = some (.int .i64 0) := (blk_cell BK312.out 2).trans rfl
    have hfs29 := blk_frozen BK312.out 2
    have hs30 : w26.cell? ⟨gb312, 3, none⟩ = some (.int .i64 0) := (blk_cell BK312.out 3).trans rfl
    have hfs30 := blk_frozen BK312.out 3
    have hs31 : w26.cell? ⟨gb312, 4, none⟩ = some (.slice none 0 0) := (blk_cell BK312.out 4).trans rfl
    have hfs31 := blk_frozen BK312.out 4
    have hs32 : w26.cell? ⟨gb312, 5, none⟩ = some (.slice none 0 0) := (blk_cell BK312.out 5).trans rfl
    have hfs32 := blk_frozen BK312.out 5
    refine skip_ (w1 := ?_) (by rfl) rfl ?_ ?_
    rotate_left
    · go_simp
      rfl
    refine hK.out _ _ ⟨((cell_far (p := ⟨gb312, _, none⟩) (by first | exact Kd.own_blk (Kd.N_away HO338.out (fun _ hk => hk.1.2.1)) | (rw [add_block]; exact Kd.own_blk (Kd.N_away HO338.out (fun _ hk => hk.1.2.1))) | (show (Addr.add _ _).block ≠ _; rw [add_block]; exact Kd.own_blk (Kd.N_away HO338.out (fun _ hk => hk.1.2.1))) | (dsimp only; exact Kd.own_blk (Kd.N_away HO338.out (fun _ hk => hk.1.2.1)))) _).trans (((cell_far (p := ⟨gb312, _, none⟩) (by first | exact Kd.own_blk (Kd.N_away HO338.out (fun _ hk => hk.1.2.1)) | (rw [add_block]; exact Kd.own_blk (Kd.N_away HO338.out (fun _ hk => hk.1.2.1))) | (show (Addr.add _ _).block ≠ _; rw [add_block]; exact Kd.own_blk (Kd.N_away HO338.out (fun _ hk => hk.1.2.1))) | (dsimp only; exact Kd.own_blk (Kd.N_away HO338.out (fun _ hk => hk.1.2.1)))) _).trans (((cell_far (p := ⟨gb312, _, none⟩) (by first | exact Kd.own_blk (Kd.N_away HO338.out (fun _ hk => hk.1.2.1)) | (rw [add_block]; exact Kd.own_blk (Kd.N_away HO338.out (fun _ hk => hk.1.2.1))) | (show (Addr.add _ _).block ≠ _; rw [add_block]; exact Kd.own_blk (Kd.N_away HO338.out (fun _ hk => hk.1.2.1))) | (dsimp only; exact Kd.own_blk (Kd.N_away HO338.out (fun _ hk => hk.1.2.1)))) _).trans (((cell_far (p := ⟨gb312, _, none⟩) (by first | exact Kd.own_blk (Kd.N_away HO338.out (fun _ hk => hk.1.2.1)) | (rw [add_block]; exact Kd.own_blk (Kd.N_away HO338.out (fun _ hk => hk.1.2.1))) | (show (Addr.add _ _).block ≠ _; rw [add_block]; exact Kd.own_blk (Kd.N_away HO338.out (fun _ hk => hk.1.2.1))) | (dsimp only; exact Kd.own_blk (Kd.N_away HO338.out (fun _ hk => hk.1.2.1)))) _).trans (((cell_far (p := ⟨gb312, _, none⟩) (by first | exact Kd.own_blk (Kd.N_away HO338.out (fun _ hk => hk.1.2.1)) | (rw [add_block]; exact Kd.own_blk (Kd.N_away HO338.out (fun _ hk => hk.1.2.1))) | (show (Addr.add _ _).block ≠ _; rw [add_block]; exact Kd.own_blk (Kd.N_away HO338.out (fun _ hk => hk.1.2.1))) | (dsimp only; exact Kd.own_blk (Kd.N_away HO338.out (fun _ hk => hk.1.2.1)))) _).trans (((cell_far (p := ⟨gb312, _, none⟩) (by first | exact Kd.own_blk (Kd.N_away HO338.out (fun _ hk => hk.1.2.1)) | (rw [add_block]; exact Kd.own_blk (Kd.N_away HO338.out (fun _ hk => hk.1.2.1))) | (show (Addr.add _ _).block ≠ _; rw [add_block]; exact Kd.own_blk (Kd.N_away HO338.out (fun _ hk => hk.1.2.1))) | (dsimp only; exact Kd.own_blk (Kd.N_away HO338.out (fun _ hk => hk.1.2.1)))) _).trans (hHeld.1)))))))))))), ((cell_far (p := ⟨gb312, _, none⟩) (by first | exact Kd.own_blk (Kd.N_away HO338.out (fun _ hk => hk.1.2.1)) | (rw [add_block]; exact Kd.own_blk (Kd.N_away HO338.out (fun _ hk => hk.1.2.1))) | (show (Addr.add _ _).block ≠ _; rw [add_block]; exact Kd.own_blk (Kd.N_away HO338.out (fun _ hk => hk.1.2.1))) | (dsimp only; exact Kd.own_blk (Kd.N_away HO338.out (fun _ hk => hk.1.2.1)))) _).trans (((cell_far (p := ⟨gb312, _, none⟩) (by first | exact Kd.own_blk (Kd.N_away HO338.out (fun _ hk => hk.1.2.1)) | (rw [add_block]; exact Kd.own_blk (Kd.N_away HO338.out (fun _ hk => hk.1.2.1))) | (show (Addr.add _ _).block ≠ _; rw [add_block]; exact Kd.own_blk (Kd.N_away HO338.out (fun _ hk => hk.1.2.1))) | (dsimp only; exact Kd.own_blk (Kd.N_away HO338.out (fun _ hk => hk.1.2.1)))) _).trans (((cell_far (p := ⟨gb312, _, none⟩) (by first | exact Kd.own_blk (Kd.N_away HO338.out (fun _ hk => hk.1.2.1)) | (rw [add_block]; exact Kd.own_blk (Kd.N_away HO338.out (fun _ hk => hk.1.2.1))) | (show (Addr.add _ _).block ≠ _; rw [add_block]; exact Kd.own_blk (Kd.N_away HO338.out (fun _ hk => hk.1.2.1))) | (dsimp only; exact Kd.own_blk (Kd.N_away HO338.out (fun _ hk => hk.1.2.1)))) _).trans (((cell_far (p := ⟨gb312, _, none⟩) (by first | exact Kd.own_blk (Kd.N_away HO338.out (fun _ hk => hk.1.2.1)) | (rw [add_block]; exact Kd.own_blk (Kd.N_away HO338.out (fun _ hk => hk.1.2.1))) | (show (Addr.add _ _).block ≠ _; rw [add_block]; exact Kd.own_blk (Kd.N_away HO338.out (fun _ hk => hk.1.2.1))) | (dsimp only; exact Kd.own_blk (Kd.N_away HO338.out (fun _ hk => hk.1.2.1)))) _).trans (((cell_far (p := ⟨gb312, _, none⟩) (by first | exact Kd.own_blk (Kd.N_away HO338.out (fun _ hk => hk.1.2.1)) | (rw [add_block]; exact Kd.own_blk (Kd.N_away HO338.out (fun _ hk => hk.1.2.1))) | (show (Addr.add _ _).block ≠ _; rw [add_block]; exact Kd.own_blk (Kd.N_away HO338.out (fun _ hk => hk.1.2.1))) | (dsimp only; exact Kd.own_blk (Kd.N_away HO338.out (fun _ hk => hk.1.2.1)))) _).trans (((cell_far (p := ⟨gb312, _, none⟩) (by first | exact Kd.own_blk (Kd.N_away HO338.out (fun _ hk => hk.1.2.1)) | (rw [add_block]; exact Kd.own_blk (Kd.N_away HO338.out (fun _ hk => hk.1.2.1))) | (show (Addr.add _ _).block ≠ _; rw [add_block]; exact Kd.own_blk (Kd.N_away HO338.out (fun _ hk => hk.1.2.1))) | (dsimp only; exact Kd.own_blk (Kd.N_away HO338.out (fun _ hk => hk.1.2.1)))) _).trans (hHeld.2.1)))))))))))), ((cell_far (p := ⟨gb312, _, none⟩) (by first | exact Kd.own_blk (Kd.N_away HO338.out (fun _ hk => hk.1.2.1)) | (rw [add_block]; exact Kd.own_blk (Kd.N_away HO338.out (fun _ hk => hk.1.2.1))) | (show (Addr.add _ _).block ≠ _; rw [add_block]; exact Kd.own_blk (Kd.N_away HO338.out (fun _ hk => hk.1.2.1))) | (dsimp only; exact Kd.own_blk (Kd.N_away HO338.out (fun _ hk => hk.1.2.1)))) _).trans (((cell_far (p := ⟨gb312, _, none⟩) (by first | exact Kd.own_blk (Kd.N_away HO338.out (fun _ hk => hk.1.2.1)) | (rw [add_block]; exact Kd.own_blk (Kd.N_away HO338.out (fun _ hk => hk.1.2.1))) | (show (Addr.add _ _).block ≠ _; rw [add_block]; exact Kd.own_blk (Kd.N_away HO338.out (fun _ hk => hk.1.2.1))) | (dsimp only; exact Kd.own_blk (Kd.N_away HO338.out (fun _ hk => hk.1.2.1)))) _).trans (((cell_far (p := ⟨gb312, _, none⟩) (by first | exact Kd.own_blk (Kd.N_away HO338.out (fun _ hk => hk.1.2.1)) | (rw [add_block]; exact Kd.own_blk (Kd.N_away HO338.out (fun _ hk => hk.1.2.1))) | (show (Addr.add _ _).block ≠ _; rw [add_block]; exact Kd.own_blk (Kd.N_away HO338.out (fun _ hk => hk.1.2.1))) | (dsimp only; exact Kd.own_blk (Kd.N_away HO338.out (fun _ hk => hk.1.2.1)))) _).trans (((cell_far (p := ⟨gb312, _, none⟩) (by first | exact Kd.own_blk (Kd.N_away HO338.out (fun _ hk => hk.1.2.1)) | (rw [add_block]; exact Kd.own_blk (Kd.N_away HO338.out (fun _ hk => hk.1.2.1))) | (show (Addr.add _ _).block ≠ _; rw [add_block]; exact Kd.own_blk (Kd.N_away HO338.out (fun _ hk => hk.1.2.1))) | (dsimp only; exact Kd.own_blk (Kd.N_away HO338.out (fun _ hk => hk.1.2.1)))) _).trans (((cell_far (p := ⟨gb312, _, none⟩) (by first | exact Kd.own_blk (Kd.N_away HO338.out (fun _ hk => hk.1.2.1)) | (rw [add_block]; exact Kd.own_blk (Kd.N_away HO338.out (fun _ hk => hk.1.2.1))) | (show (Addr.add _ _).block ≠ _; rw [add_block]; exact Kd.own_blk (Kd.N_away HO338.out (fun _ hk => hk.1.2.1))) | (dsimp only; exact Kd.own_blk (Kd.N_away HO338.out (fun _ hk => hk.1.2.1)))) _).trans (((cell_far (p := ⟨gb312, _, none⟩) (by first | exact Kd.own_blk (Kd.N_away HO338.out (fun _ hk => hk.1.2.1)) | (rw [add_block]; exact Kd.own_blk (Kd.N_away HO338.out (fun _ hk => hk.1.2.1))) | (show (Addr.add _ _).block ≠ _; rw [add_block]; exact Kd.own_blk (Kd.N_away HO338.out (fun _ hk => hk.1.2.1))) | (dsimp only; exact Kd.own_blk (Kd.N_away HO338.out (fun _ hk => hk.1.2.1)))) _).trans (hHeld.2.2.1)))))))))))), ((cell_far (p := ⟨gb312, _, none⟩) (by first | exact Kd.own_blk (Kd.N_away HO338.out (fun _ hk => hk.1.2.1)) | (rw [add_block]; exact Kd.own_blk (Kd.N_away HO338.out (fun _ hk => hk.1.2.1))) | (show (Addr.add _ _).block ≠ _; rw [add_block]; exact Kd.own_blk (Kd.N_away HO338.out (fun _ hk => hk.1.2.1))) | (dsimp only; exact Kd.own_blk (Kd.N_away HO338.out (fun _ hk => hk.1.2.1)))) _).trans (((cell_far (p := ⟨gb312, _, none⟩) (by first | exact Kd.own_blk (Kd.N_away HO338.out (fun _ hk => hk.1.2.1)) | (rw [add_block]; exact Kd.own_blk (Kd.N_away HO338.out (fun _ hk => hk.1.2.1))) | (show (Addr.add _ _).block ≠ _; rw [add_block]; exact Kd.own_blk (Kd.N_away HO338.out (fun _ hk => hk.1.2.1))) | (dsimp only; exact Kd.own_blk (Kd.N_away HO338.out (fun _ hk => hk.1.2.1)))) _).trans (((cell_far (p := ⟨gb312, _, none⟩) (by first | exact Kd.own_blk (Kd.N_away HO338.out (fun _ hk => hk.1.2.1)) | (rw [add_block]; exact Kd.own_blk (Kd.N_away HO338.out (fun _ hk => hk.1.2.1))) | (show (Addr.add _ _).block ≠ _; rw [add_block]; exact Kd.own_blk (Kd.N_away HO338.out (fun _ hk => hk.1.2.1))) | (dsimp only; exact Kd.own_blk (Kd.N_away HO338.out (fun _ hk => hk.1.2.1)))) _).trans (((cell_far (p := ⟨gb312, _, none⟩) (by first | exact Kd.own_blk (Kd.N_away HO338.out (fun _ hk => hk.1.2.1)) | (rw [add_block]; exact Kd.own_blk (Kd.N_away HO338.out (fun _ hk => hk.1.2.1))) | (show (Addr.add _ _).block ≠ _; rw [add_block]; exact Kd.own_blk (Kd.N_away HO338.out (fun _ hk => hk.1.2.1))) | (dsimp only; exact Kd.own_blk (Kd.N_away HO338.out (fun _ hk => hk.1.2.1)))) _).trans (((cell_far (p := ⟨gb312, _, none⟩) (by first | exact Kd.own_blk (Kd.N_away HO338.out (fun _ hk => hk.1.2.1)) | (rw [add_block]; exact Kd.own_blk (Kd.N_away HO338.out (fun _ hk => hk.1.2.1))) | (show (Addr.add _ _).block ≠ _; rw [add_block]; exact Kd.own_blk (Kd.N_away HO338.out (fun _ hk => hk.1.2.1))) | (dsimp only; exact Kd.own_blk (Kd.N_away HO338.out (fun _ hk => hk.1.2.1)))) _).trans (((cell_far (p := ⟨gb312, _, none⟩) (by first | exact Kd.own_blk (Kd.N_away HO338.out (fun _ hk => hk.1.2.1)) | (rw [add_block]; exact Kd.own_blk (Kd.N_away HO338.out (fun _ hk => hk.1.2.1))) | (show (Addr.add _ _).block ≠ _; rw [add_block]; exact Kd.own_blk (Kd.N_away HO338.out (fun _ hk => hk.1.2.1))) | (dsimp only; exact Kd.own_blk (Kd.N_away HO338.out (fun _ hk => hk.1.2.1)))) _).trans (hHeld.2.2.2.1)))))))))))), ((cell_far (p := ⟨gb312, _, none⟩) (by first | exact Kd.own_blk (Kd.N_away HO338.out (fun _ hk => hk.1.2.1)) | (rw [add_block]; exact Kd.own_blk (Kd.N_away HO338.out (fun _ hk => hk.1.2.1))) | (show (Addr.add _ _).block ≠ _; rw [add_block]; exact Kd.own_blk (Kd.N_away HO338.out (fun _ hk => hk.1.2.1))) | (dsimp only; exact Kd.own_blk (Kd.N_away HO338.out (fun _ hk => hk.1.2.1)))) _).trans (((cell_far (p := ⟨gb312, _, none⟩) (by first | exact Kd.own_blk (Kd.N_away HO338.out (fun _ hk => hk.1.2.1)) | (rw [add_block]; exact Kd.own_blk (Kd.N_away HO338.out (fun _ hk => hk.1.2.1))) | (show (Addr.add _ _).block ≠ _; rw [add_block]; exact Kd.own_blk (Kd.N_away HO338.out (fun _ hk => hk.1.2.1))) | (dsimp only; exact Kd.own_blk (Kd.N_away HO338.out (fun _ hk => hk.1.2.1)))) _).trans (((cell_far (p := ⟨gb312, _, none⟩) (by first | exact Kd.own_blk (Kd.N_away HO338.out (fun _ hk => hk.1.2.1)) | (rw [add_block]; exact Kd.own_blk (Kd.N_away HO338.out (fun _ hk => hk.1.2.1))) | (show (Addr.add _ _).block ≠ _; rw [add_block]; exact Kd.own_blk (Kd.N_away HO338.out (fun _ hk => hk.1.2.1))) | (dsimp only; exact Kd.own_blk (Kd.N_away HO338.out (fun _ hk => hk.1.2.1)))) _).trans (((cell_far (p := ⟨gb312, _, none⟩) (by first | exact Kd.own_blk (Kd.N_away HO338.out (fun _ hk => hk.1.2.1)) | (rw [add_block]; exact Kd.own_blk (Kd.N_away HO338.out (fun _ hk => hk.1.2.1))) | (show (Addr.add _ _).block ≠ _; rw [add_block]; exact Kd.own_blk (Kd.N_away HO338.out (fun _ hk => hk.1.2.1))) | (dsimp only; exact Kd.own_blk (Kd.N_away HO338.out (fun _ hk => hk.1.2.1)))) _).trans (((cell_far (p := ⟨gb312, _, none⟩) (by first | exact Kd.own_blk (Kd.N_away HO338.out (fun _ hk => hk.1.2.1)) | (rw [add_block]; exact Kd.own_blk (Kd.N_away HO338.out (fun _ hk => hk.1.2.1))) | (show (Addr.add _ _).block ≠ _; rw [add_block]; exact Kd.own_blk (Kd.N_away HO338.out (fun _ hk => hk.1.2.1))) | (dsimp only; exact Kd.own_blk (Kd.N_away HO338.out (fun _ hk => hk.1.2.1)))) _).trans (((cell_far (p := ⟨gb312, _, none⟩) (by first | exact Kd.own_blk (Kd.N_away HO338.out (fun _ hk => hk.1.2.1)) | (rw [add_block]; exact Kd.own_blk (Kd.N_away HO338.out (fun _ hk => hk.1.2.1))) | (show (Addr.add _ _).block ≠ _; rw [add_block]; exact Kd.own_blk (Kd.N_away HO338.out (fun _ hk => hk.1.2.1))) | (dsimp only; exact Kd.own_blk (Kd.N_away HO338.out (fun _ hk => hk.1.2.1)))) _).trans (hHeld.2.2.2.2.1)))))))))))), ((cell_far (p := ⟨gb312, _, none⟩) (by first | exact Kd.own_blk (Kd.N_away HO338.out (fun _ hk => hk.1.2.1)) | (rw [add_block]; exact Kd.own_blk (Kd.N_away HO338.out (fun _ hk => hk.1.2.1))) | (show (Addr.add _ _).block ≠ _; rw [add_block]; exact Kd.own_blk (Kd.N_away HO338.out (fun _ hk => hk.1.2.1))) | (dsimp only; exact Kd.own_blk (Kd.N_away HO338.out (fun _ hk => hk.1.2.1)))) _).trans (((cell_far (p := ⟨gb312, _, none⟩) (by first | exact Kd.own_blk (Kd.N_away HO338.out (fun _ hk => hk.1.2.1)) | (rw [add_block]; exact Kd.own_blk (Kd.N_away HO338.out (fun _ hk => hk.1.2.1))) | (show (Addr.add _ _).block ≠ _; rw [add_block]; exact Kd.own_blk (Kd.N_away HO338.out (fun _ hk => hk.1.2.1))) | (dsimp only; exact Kd.own_blk (Kd.N_away HO338.out (fun _ hk => hk.1.2.1)))) _).trans (((cell_far (p := ⟨gb312, _, none⟩) (by first | exact Kd.own_blk (Kd.N_away HO338.out (fun _ hk => hk.1.2.1)) | (rw [add_block]; exact Kd.own_blk (Kd.N_away HO338.out (fun _ hk => hk.1.2.1))) | (show (Addr.add _ _).block ≠ _; rw [add_block]; exact Kd.own_blk (Kd.N_away HO338.out (fun _ hk => hk.1.2.1))) | (dsimp only; exact Kd.own_blk (Kd.N_away HO338.out (fun _ hk => hk.1.2.1)))) _).trans (((cell_far (p := ⟨gb312, _, none⟩) (by first | exact Kd.own_blk (Kd.N_away HO338.out (fun _ hk => hk.1.2.1)) | (rw [add_block]; exact Kd.own_blk (Kd.N_away HO338.out (fun _ hk => hk.1.2.1))) | (show (Addr.add _ _).block ≠ _; rw [add_block]; exact Kd.own_blk (Kd.N_away HO338.out (fun _ hk => hk.1.2.1))) | (dsimp only; exact Kd.own_blk (Kd.N_away HO338.out (fun _ hk => hk.1.2.1)))) _).trans (((cell_far (p := ⟨gb312, _, none⟩) (by first | exact Kd.own_blk (Kd.N_away HO338.out (fun _ hk => hk.1.2.1)) | (rw [add_block]; exact Kd.own_blk (Kd.N_away HO338.out (fun _ hk => hk.1.2.1))) | (show (Addr.add _ _).block ≠ _; rw [add_block]; exact Kd.own_blk (Kd.N_away HO338.out (fun _ hk => hk.1.2.1))) | (dsimp only; exact Kd.own_blk (Kd.N_away HO338.out (fun _ hk => hk.1.2.1)))) _).trans (((cell_far (p := ⟨gb312, _, none⟩) (by first | exact Kd.own_blk (Kd.N_away HO338.out (fun _ hk => hk.1.2.1)) | (rw [add_block]; exact Kd.own_blk (Kd.N_away HO338.out (fun _ hk => hk.1.2.1))) | (show (Addr.add _ _).block ≠ _; rw [add_block]; exact Kd.own_blk (Kd.N_away HO338.out (fun _ hk => hk.1.2.1))) | (dsimp only; exact Kd.own_blk (Kd.N_away HO338.out (fun _ hk => hk.1.2.1)))) _).trans (hHeld.2.2.2.2.2))))))))))))⟩ (fun hHeld => ?_)
    clear hK K
    refine pure_ (i := 8) (N := some 3) (v := ?_) (a' := ?_) #[true, true, true, true, true, true, true, true, true, false] rfl rfl (any_of HT_.out (by kernel_rfl)) (fun _ _ _ h => h) (Or.inl ⟨by rfl, ?_⟩) ?_ ?_
    rotate_left
    · intro w'
      go_simp
      with_reducible rfl
    rotate_left
    · (try simp only [Act.put, List.setIfInBounds_toArray, List.set_cons_zero, List.set_cons_succ, i64_w, i32_w])
      rfl
    refine pure_ (i := 9) (N := some 4) (v := ?_) (a' := ?_) #[true, true, true, true, true, true, true, true, true, true] rfl rfl (any_of HT_.out (by kernel_rfl)) (fun _ _ _ h => h) (Or.inl ⟨by rfl, ?_⟩) ?_ ?_
    rotate_left
    · intro w'
      go_simp
      with_reducible rfl
    rotate_left
    · (try simp only [Act.put, List.setIfInBounds_toArray, List.set_cons_zero, List.set_cons_succ, i64_w, i32_w])
      rfl
    refine done_ (done_of HT_.out (by kernel_rfl)) ?_
    try go_wp2
    refine bodyPost_ret (results_ctt rfl _ _ gb312 29 #[.int .i64 ((rd_T29 t336 0).f0), .int .i64 ((rd_T29 t336 0).f1), .int .i64 ((rd_T29 t336 0).f2), .int .i64 ((rd_T29 t336 0).f3), .slice A340_4 ((rd_T29 t336 0).f4).length c340_4, .slice A340_5 ((rd_T29 t336 0).f5).length c340_5] (0, 0) _ rfl (q9_ BK312) Try.underlying29 rfl (by kernel_rfl)) rfl ?_
    exact ⟨_, _, by first | rfl | (simp [errW_none, errW_some] <;> rfl) | (simp [*, errW_none, errW_some] <;> rfl), by (with_reducible repeat (first | apply Kd.V_alloc | apply Kd.V_drewN | apply Kd.V_drew)); exact Kd.V_mono (Kd.V_far (p := ⟨gb312, 5, none⟩) (Kd.V_far (p := ⟨gb312, 4, none⟩) (Kd.V_far (p := ⟨gb312, 3, none⟩) (Kd.V_far (p := ⟨gb312, 2, none⟩) (Kd.V_far (p := ⟨gb312, 1, none⟩) (Kd.V_far (p := ⟨gb312, 0, none⟩) (Kd.V_mono HL340_4.out (fun k_ hk => (⟨hk, hk.1.1.2.1⟩ : _ ∧ k_ ≠ gb312))) (fun _ hk => hk.2) (.int .i64 ((rd_T29 t336 0).f0))) (fun _ hk => hk.2) (.int .i64 ((rd_T29 t336 0).f1))) (fun _ hk => hk.2) (.int .i64 ((rd_T29 t336 0).f2))) (fun _ hk => hk.2) (.int .i64 ((rd_T29 t336 0).f3))) (fun _ hk => hk.2) (.slice A340_4 ((rd_T29 t336 0).f4).length c340_4)) (fun _ hk => hk.2) (.slice A340_5 ((rd_T29 t336 0).f5).length c340_5)) (fun _ hk => hk.1.1.1.1), by (with_reducible repeat (first | apply Kd.V_alloc | apply Kd.V_drewN | apply Kd.V_drew)); exact Kd.V_mono (Kd.V_far (p := ⟨gb312, 5, none⟩) (Kd.V_far (p := ⟨gb312, 4, none⟩) (Kd.V_far (p := ⟨gb312, 3, none⟩) (Kd.V_far (p := ⟨gb312, 2, none⟩) (Kd.V_far (p := ⟨gb312, 1, none⟩) (Kd.V_far (p := ⟨gb312, 0, none⟩) (Kd.V_mono HL340_5.out (fun k_ hk => (⟨hk, hk.1.1.2.1⟩ : _ ∧ k_ ≠ gb312))) (fun _ hk => hk.2) (.int .i64 ((rd_T29 t336 0).f0))) (fun _ hk => hk.2) (.int .i64 ((rd_T29 t336 0).f1))) (fun _ hk => hk.2) (.int .i64 ((rd_T29 t336 0).f2))) (fun _ hk => hk.2) (.int .i64 ((rd_T29 t336 0).f3))) (fun _ hk => hk.2) (.slice A340_4 ((rd_T29 t336 0).f4).length c340_4)) (fun _ hk => hk.2) (.slice A340_5 ((rd_T29 t336 0).f5).length c340_5)) (fun _ hk => hk.1.1.1.1), by repeat (first | (with_reducible first | exact HB.out | apply below_alloc | apply pw_below_drewN | apply below_drew1 | refine below_set ?_ (IsS86.ge HI315.out) | refine below_set ?_ GE312.out) | exact HB.out)⟩
  · rw [if_neg c7] at H
    exact absurd H (by simp)

end Go.Proofs.Ytnjaimaaijbacaa.P
