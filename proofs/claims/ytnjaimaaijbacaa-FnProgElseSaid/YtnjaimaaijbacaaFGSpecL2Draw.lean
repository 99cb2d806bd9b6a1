/- Plain Lean functions for functions of the Go text, and that each call comes to what its function says; written by a program of this workplace (wip/gen.py) out of the translation; no condition beyond those that each theorem names. -/
import Derived.Test.YtnjaimaaijbacaaK
import Derived.Test.YtnjaimaaijbacaaQp
import Derived.Test.YtnjaimaaijbacaaFSpecL11Open
import Derived.Test.YtnjaimaaijbacaaFSpecL11RdNum
import Derived.Test.YtnjaimaaijbacaaFSpecL11RdPick
namespace Go.Proofs.Ytnjaimaaijbacaa.P
open Go.RowKit Go.Proofs.YtnjaimaaijbacaaW.PrintWords Go.Proofs.YtnjaimaaijbacaaW.PrintLast Go.Proofs.YtnjaimaaijbacaaW.PrintMore
attribute [local go_sem] max2_int min2_int max_two min_two max_three min_three max_four min_four
set_option linter.unusedVariables false
set_option linter.unusedSimpArgs false

mutual
def spec_l2Draw.j0 : Nat → Int → Int → Int → Int → Int → Bool → List Int → Int → Option (Int × Int × Int × Int × (List (S29)) × (List (S29)) × Int)
  | 0, _, _, _, _, _, _, _, _ => none
  | k + 1, x1, x2, x7, x8, x9, x44, x1000, x1001 => if x44 = true then ((spec_l11Rd_num.f k x1000 x1001 (([1, 2, 3, 4, 5] : List Int))).bind fun bt254 => (spec_l2Draw.j1 k x1 x2 x7 x8 bt254.1 x1000 bt254.2)) else (spec_l2Draw.j1 k x1 x2 x7 x8 x9 x1000 x1001)
def spec_l2Draw.j1 : Nat → Int → Int → Int → Int → Int → List Int → Int → Option (Int × Int × Int × Int × (List (S29)) × (List (S29)) × Int)
  | 0, _, _, _, _, _, _, _ => none
  | k + 1, x1, x2, x7, x8, x9, x1000, x1001 => if x9 = 1 then ((spec_l11Rd_num.f k x1000 x1001 (([0, 1, 2, 3, (-1), 5] : List Int))).bind fun bt259 => (some (x9, x7, 0, bt259.1, ([] : List (S29)), ([] : List (S29)), bt259.2))) else (if x9 = 2 then ((spec_l11Rd_pick.f k x1000 x1001 5).bind fun bt261 => (some (x9, x7, x8, wrap64 (1 + bt261.1), ([] : List (S29)), ([] : List (S29)), bt261.2))) else (if x9 = 3 then (spec_l2Draw.j2 k x1 x2 x7 x8 x9 x9 (x9 == 3) x1000 x1001) else (spec_l2Draw.j2 k x1 x2 x7 x8 x9 x9 (x9 == 4) x1000 x1001)))
def spec_l2Draw.j2 : Nat → Int → Int → Int → Int → Int → Int → Bool → List Int → Int → Option (Int × Int × Int × Int × (List (S29)) × (List (S29)) × Int)
  | 0, _, _, _, _, _, _, _, _, _ => none
  | k + 1, x1, x2, x7, x8, x9, x48, x66, x1000, x1001 => if x66 = true then (some (x9, x7, x8, 0, ([] : List (S29)), ([] : List (S29)), x1001)) else (if x48 = 5 then (some (x9, x7, 0, 0, ([] : List (S29)), ([] : List (S29)), x1001)) else (if x48 = 6 then ((spec_l2Draws.f k x1000 x1001 (wrap64 (x1 - 1)) x2 2).bind fun bt263 => ((spec_l2Draws.f k x1000 bt263.2 (wrap64 (x1 - 1)) x2 2).bind fun bt267 => (some (x9, x7, 0, 0, bt263.1, bt267.1, bt267.2)))) else (if x48 = 7 then ((spec_l2Draws.f k x1000 x1001 (wrap64 (x1 - 1)) x2 2).bind fun bt271 => ((spec_l11Rd_num.f k x1000 bt271.2 (([0, 0, 0, 0, 0, 1] : List Int))).bind fun bt278 => (if bt271.1.length < 1759218604441 then (some (x9, x7, 0, 0, (bt271.1 ++ [(⟨1, x7, 0, bt278.1, ([] : List (S29)), ([] : List (S29))⟩ : S29)]), ([] : List (S29)), bt278.2)) else (none)))) else (if x48 = 8 then ((spec_l11Rd_pick.f k x1000 x1001 2).bind fun bt283 => ((spec_l2Draws.f k x1000 bt283.2 (wrap64 (x1 - 1)) bt283.1 3).bind fun bt285 => (some (x9, bt283.1, 0, 0, bt285.1, ([] : List (S29)), bt285.2)))) else (if x48 = 9 then ((spec_l11Rd_pick.f k x1000 x1001 2).bind fun bt289 => (some (x9, bt289.1, 0, 0, ([] : List (S29)), ([] : List (S29)), bt289.2))) else (if x48 = 10 then ((spec_l11Rd_pick.f k x1000 x1001 2).bind fun bt291 => (some (x9, bt291.1, 0, 0, ([] : List (S29)), ([] : List (S29)), bt291.2))) else (some (11, 0, 0, 0, ([] : List (S29)), ([] : List (S29)), x1001))))))))
def spec_l2Draw.f : Nat → List Int → Int → Int → Int → Option (Int × Int × Int × Int × (List (S29)) × (List (S29)) × Int)
  | 0, _, _, _, _ => none
  | k + 1, s0_0, s0_1, a1, a2 => (spec_l11Rd_pick.f k s0_0 s0_1 3).bind fun bt242 => ((spec_l11Rd_pick.f k s0_0 bt242.2 3).bind fun bt244 => ((spec_l11Rd_num.f k s0_0 bt244.2 (([1, 2, 3, 4, 5, 3, 4, 2, 8, 6, 7, 10, 9, 11, 8, 5] : List Int))).bind fun bt249 => (if a1 < 2 then (if bt249.1 ≥ 6 then (if bt249.1 ≤ 8 then (spec_l2Draw.j0 k a1 a2 bt242.1 bt244.1 bt249.1 true s0_0 bt249.2) else (if bt249.1 = 8 then (if a2 ≥ 0 then (spec_l2Draw.j0 k a1 a2 bt242.1 bt244.1 bt249.1 true s0_0 bt249.2) else (if bt249.1 = 9 then (spec_l2Draw.j0 k a1 a2 bt242.1 bt244.1 bt249.1 (decide (a2 < 0)) s0_0 bt249.2) else (spec_l2Draw.j0 k a1 a2 bt242.1 bt244.1 bt249.1 false s0_0 bt249.2))) else (if bt249.1 = 9 then (spec_l2Draw.j0 k a1 a2 bt242.1 bt244.1 bt249.1 (decide (a2 < 0)) s0_0 bt249.2) else (spec_l2Draw.j0 k a1 a2 bt242.1 bt244.1 bt249.1 false s0_0 bt249.2)))) else (if bt249.1 = 8 then (if a2 ≥ 0 then (spec_l2Draw.j0 k a1 a2 bt242.1 bt244.1 bt249.1 true s0_0 bt249.2) else (if bt249.1 = 9 then (spec_l2Draw.j0 k a1 a2 bt242.1 bt244.1 bt249.1 (decide (a2 < 0)) s0_0 bt249.2) else (spec_l2Draw.j0 k a1 a2 bt242.1 bt244.1 bt249.1 false s0_0 bt249.2))) else (if bt249.1 = 9 then (spec_l2Draw.j0 k a1 a2 bt242.1 bt244.1 bt249.1 (decide (a2 < 0)) s0_0 bt249.2) else (spec_l2Draw.j0 k a1 a2 bt242.1 bt244.1 bt249.1 false s0_0 bt249.2)))) else (if bt249.1 = 8 then (if a2 ≥ 0 then (spec_l2Draw.j0 k a1 a2 bt242.1 bt244.1 bt249.1 true s0_0 bt249.2) else (if bt249.1 = 9 then (spec_l2Draw.j0 k a1 a2 bt242.1 bt244.1 bt249.1 (decide (a2 < 0)) s0_0 bt249.2) else (spec_l2Draw.j0 k a1 a2 bt242.1 bt244.1 bt249.1 false s0_0 bt249.2))) else (if bt249.1 = 9 then (spec_l2Draw.j0 k a1 a2 bt242.1 bt244.1 bt249.1 (decide (a2 < 0)) s0_0 bt249.2) else (spec_l2Draw.j0 k a1 a2 bt242.1 bt244.1 bt249.1 false s0_0 bt249.2))))))
def spec_l2Draws.l0 : Nat → Int → Int → List (S29) → Int → List Int → Int → Option ((List (S29)) × Int)
  | 0, _, _, _, _, _, _ => none
  | k + 1, x1, x2, x9, x10, x1000, x1001 => if x10 > 0 then ((spec_l2Draw.f k x1000 x1001 x1 x2).bind fun bt298 => (if x9.length < 1759218604441 then (spec_l2Draws.l0 k x1 x2 (x9 ++ [(⟨bt298.1, bt298.2.1, bt298.2.2.1, bt298.2.2.2.1, bt298.2.2.2.2.1, bt298.2.2.2.2.2.1⟩ : S29)]) (wrap64 (x10 - 1)) x1000 bt298.2.2.2.2.2.2) else (none))) else (some (x9, x1001))
def spec_l2Draws.f : Nat → List Int → Int → Int → Int → Int → Option ((List (S29)) × Int)
  | 0, _, _, _, _, _ => none
  | k + 1, s0_0, s0_1, a1, a2, a3 => (spec_l11Rd_pick.f k s0_0 s0_1 (wrap64 (a3 + 1))).bind fun bt296 => (spec_l2Draws.l0 k a1 a2 (([] : List (S29))) bt296.1 s0_0 bt296.2)
end
theorem spec_l2Draw.grp.mono_l : ∀ k, (∀ y0 y1 y2 y3, LeO (spec_l2Draw.f k y0 y1 y2 y3) (spec_l2Draw.f (k + 1) y0 y1 y2 y3)) ∧ (∀ y0 y1 y2 y3 y4 y5 y6 y7, LeO (spec_l2Draw.j0 k y0 y1 y2 y3 y4 y5 y6 y7) (spec_l2Draw.j0 (k + 1) y0 y1 y2 y3 y4 y5 y6 y7)) ∧ (∀ y0 y1 y2 y3 y4 y5 y6, LeO (spec_l2Draw.j1 k y0 y1 y2 y3 y4 y5 y6) (spec_l2Draw.j1 (k + 1) y0 y1 y2 y3 y4 y5 y6)) ∧ (∀ y0 y1 y2 y3 y4 y5 y6 y7 y8, LeO (spec_l2Draw.j2 k y0 y1 y2 y3 y4 y5 y6 y7 y8) (spec_l2Draw.j2 (k + 1) y0 y1 y2 y3 y4 y5 y6 y7 y8)) ∧ (∀ y0 y1 y2 y3 y4, LeO (spec_l2Draws.f k y0 y1 y2 y3 y4) (spec_l2Draws.f (k + 1) y0 y1 y2 y3 y4)) ∧ (∀ y0 y1 y2 y3 y4 y5, LeO (spec_l2Draws.l0 k y0 y1 y2 y3 y4 y5) (spec_l2Draws.l0 (k + 1) y0 y1 y2 y3 y4 y5))
  | 0 => ⟨fun _ _ _ _ r h => by simp [spec_l2Draw.f] at h, fun _ _ _ _ _ _ _ _ r h => by simp [spec_l2Draw.j0] at h, fun _ _ _ _ _ _ _ r h => by simp [spec_l2Draw.j1] at h, fun _ _ _ _ _ _ _ _ _ r h => by simp [spec_l2Draw.j2] at h, fun _ _ _ _ _ r h => by simp [spec_l2Draws.f] at h, fun _ _ _ _ _ _ r h => by simp [spec_l2Draws.l0] at h⟩
  | k + 1 => by
    obtain ⟨ih0, ih1, ih2, ih3, ih4, ih5⟩ := spec_l2Draw.grp.mono_l k
    refine ⟨?_, ?_, ?_, ?_, ?_, ?_⟩
    · intro y0 y1 y2 y3
      unfold spec_l2Draw.f
      repeat' first
      | (with_reducible exact ih0 _ _ _ _)
      | (with_reducible exact ih1 _ _ _ _ _ _ _ _)
      | (with_reducible exact ih2 _ _ _ _ _ _ _)
      | (with_reducible exact ih3 _ _ _ _ _ _ _ _ _)
      | (with_reducible exact ih4 _ _ _ _ _)
      | (with_reducible exact ih5 _ _ _ _ _ _)
      | (with_reducible exact spec_l11Rd_num.mono _ _ _ _)
      | (with_reducible exact spec_l11Rd_pick.mono _ _ _ _)
      | (with_reducible exact LeO.refl _)
      | (with_reducible exact LeO.none _)
      | (with_reducible refine LeO.ite ?_ ?_)
      | (with_reducible refine LeO.bind ?_ (fun _ => ?_))
      | exact ih0 _ _ _ _
      | exact ih1 _ _ _ _ _ _ _ _
      | exact ih2 _ _ _ _ _ _ _
      | exact ih3 _ _ _ _ _ _ _ _ _
      | exact ih4 _ _ _ _ _
      | exact ih5 _ _ _ _ _ _
      | exact spec_l11Rd_num.mono _ _ _ _
      | exact spec_l11Rd_pick.mono _ _ _ _
      | exact LeO.none _
      | refine LeO.ite ?_ ?_
      | refine LeO.bind ?_ (fun _ => ?_)
    · intro y0 y1 y2 y3 y4 y5 y6 y7
      unfold spec_l2Draw.j0
      repeat' first
      | (with_reducible exact ih0 _ _ _ _)
      | (with_reducible exact ih1 _ _ _ _ _ _ _ _)
      | (with_reducible exact ih2 _ _ _ _ _ _ _)
      | (with_reducible exact ih3 _ _ _ _ _ _ _ _ _)
      | (with_reducible exact ih4 _ _ _ _ _)
      | (with_reducible exact ih5 _ _ _ _ _ _)
      | (with_reducible exact spec_l11Rd_num.mono _ _ _ _)
      | (with_reducible exact spec_l11Rd_pick.mono _ _ _ _)
      | (with_reducible exact LeO.refl _)
      | (with_reducible exact LeO.none _)
      | (with_reducible refine LeO.ite ?_ ?_)
      | (with_reducible refine LeO.bind ?_ (fun _ => ?_))
      | exact ih0 _ _ _ _
      | exact ih1 _ _ _ _ _ _ _ _
      | exact ih2 _ _ _ _ _ _ _
      | exact ih3 _ _ _ _ _ _ _ _ _
      | exact ih4 _ _ _ _ _
      | exact ih5 _ _ _ _ _ _
      | exact spec_l11Rd_num.mono _ _ _ _
      | exact spec_l11Rd_pick.mono _ _ _ _
      | exact LeO.none _
      | refine LeO.ite ?_ ?_
      | refine LeO.bind ?_ (fun _ => ?_)
    · intro y0 y1 y2 y3 y4 y5 y6
      unfold spec_l2Draw.j1
      repeat' first
      | (with_reducible exact ih0 _ _ _ _)
      | (with_reducible exact ih1 _ _ _ _ _ _ _ _)
      | (with_reducible exact ih2 _ _ _ _ _ _ _)
      | (with_reducible exact ih3 _ _ _ _ _ _ _ _ _)
      | (with_reducible exact ih4 _ _ _ _ _)
      | (with_reducible exact ih5 _ _ _ _ _ _)
      | (with_reducible exact spec_l11Rd_num.mono _ _ _ _)
      | (with_reducible exact spec_l11Rd_pick.mono _ _ _ _)
      | (with_reducible exact LeO.refl _)
      | (with_reducible exact LeO.none _)
      | (with_reducible refine LeO.ite ?_ ?_)
      | (with_reducible refine LeO.bind ?_ (fun _ => ?_))
      | exact ih0 _ _ _ _
      | exact ih1 _ _ _ _ _ _ _ _
      | exact ih2 _ _ _ _ _ _ _
      | exact ih3 _ _ _ _ _ _ _ _ _
      | exact ih4 _ _ _ _ _
      | exact ih5 _ _ _ _ _ _
      | exact spec_l11Rd_num.mono _ _ _ _
      | exact spec_l11Rd_pick.mono _ _ _ _
      | exact LeO.none _
      | refine LeO.ite ?_ ?_
      | refine LeO.bind ?_ (fun _ => ?_)
    · intro y0 y1 y2 y3 y4 y5 y6 y7 y8
      unfold spec_l2Draw.j2
      repeat' first
      | (with_reducible exact ih0 _ _ _ _)
      | (with_reducible exact ih1 _ _ _ _ _ _ _ _)
      | (with_reducible exact ih2 _ _ _ _ _ _ _)
      | (with_reducible exact ih3 _ _ _ _ _ _ _ _ _)
      | (with_reducible exact ih4 _ _ _ _ _)
      | (with_reducible exact ih5 _ _ _ _ _ _)
      | (with_reducible exact spec_l11Rd_num.mono _ _ _ _)
      | (with_reducible exact spec_l11Rd_pick.mono _ _ _ _)
      | (with_reducible exact LeO.refl _)
      | (with_reducible exact LeO.none _)
      | (with_reducible refine LeO.ite ?_ ?_)
      | (with_reducible refine LeO.bind ?_ (fun _ => ?_))
      | exact ih0 _ _ _ _
      | exact ih1 _ _ _ _ _ _ _ _
      | exact ih2 _ _ _ _ _ _ _
      | exact ih3 _ _ _ _ _ _ _ _ _
      | exact ih4 _ _ _ _ _
      | exact ih5 _ _ _ _ _ _
      | exact spec_l11Rd_num.mono _ _ _ _
      | exact spec_l11Rd_pick.mono _ _ _ _
      | exact LeO.none _
      | refine LeO.ite ?_ ?_
      | refine LeO.bind ?_ (fun _ => ?_)
    · intro y0 y1 y2 y3 y4
      unfold spec_l2Draws.f
      repeat' first
      | (with_reducible exact ih0 _ _ _ _)
      | (with_reducible exact ih1 _ _ _ _ _ _ _ _)
      | (with_reducible exact ih2 _ _ _ _ _ _ _)
      | (with_reducible exact ih3 _ _ _ _ _ _ _ _ _)
      | (with_reducible exact ih4 _ _ _ _ _)
      | (with_reducible exact ih5 _ _ _ _ _ _)
      | (with_reducible exact spec_l11Rd_num.mono _ _ _ _)
      | (with_reducible exact spec_l11Rd_pick.mono _ _ _ _)
      | (with_reducible exact LeO.refl _)
      | (with_reducible exact LeO.none _)
      | (with_reducible refine LeO.ite ?_ ?_)
      | (with_reducible refine LeO.bind ?_ (fun _ => ?_))
      | exact ih0 _ _ _ _
      | exact ih1 _ _ _ _ _ _ _ _
      | exact ih2 _ _ _ _ _ _ _
      | exact ih3 _ _ _ _ _ _ _ _ _
      | exact ih4 _ _ _ _ _
      | exact ih5 _ _ _ _ _ _
      | exact spec_l11Rd_num.mono _ _ _ _
      | exact spec_l11Rd_pick.mono _ _ _ _
      | exact LeO.none _
      | refine LeO.ite ?_ ?_
      | refine LeO.bind ?_ (fun _ => ?_)
    · intro y0 y1 y2 y3 y4 y5
      unfold spec_l2Draws.l0
      repeat' first
      | (with_reducible exact ih0 _ _ _ _)
      | (with_reducible exact ih1 _ _ _ _ _ _ _ _)
      | (with_reducible exact ih2 _ _ _ _ _ _ _)
      | (with_reducible exact ih3 _ _ _ _ _ _ _ _ _)
      | (with_reducible exact ih4 _ _ _ _ _)
      | (with_reducible exact ih5 _ _ _ _ _ _)
      | (with_reducible exact spec_l11Rd_num.mono _ _ _ _)
      | (with_reducible exact spec_l11Rd_pick.mono _ _ _ _)
      | (with_reducible exact LeO.refl _)
      | (with_reducible exact LeO.none _)
      | (with_reducible refine LeO.ite ?_ ?_)
      | (with_reducible refine LeO.bind ?_ (fun _ => ?_))
      | exact ih0 _ _ _ _
      | exact ih1 _ _ _ _ _ _ _ _
      | exact ih2 _ _ _ _ _ _ _
      | exact ih3 _ _ _ _ _ _ _ _ _
      | exact ih4 _ _ _ _ _
      | exact ih5 _ _ _ _ _ _
      | exact spec_l11Rd_num.mono _ _ _ _
      | exact spec_l11Rd_pick.mono _ _ _ _
      | exact LeO.none _
      | refine LeO.ite ?_ ?_
      | refine LeO.bind ?_ (fun _ => ?_)
theorem spec_l2Draw.mono : ∀ a0 a1 a2 a3 k, LeO (spec_l2Draw.f k a0 a1 a2 a3) (spec_l2Draw.f (k + 1) a0 a1 a2 a3) := by
  intro a0 a1 a2 a3 k
  obtain ⟨ih0, ih1, ih2, ih3, ih4, ih5⟩ := spec_l2Draw.grp.mono_l k
  exact ih0 a0 a1 a2 a3
theorem spec_l2Draws.mono : ∀ a0 a1 a2 a3 a4 k, LeO (spec_l2Draws.f k a0 a1 a2 a3 a4) (spec_l2Draws.f (k + 1) a0 a1 a2 a3 a4) := by
  intro a0 a1 a2 a3 a4 k
  obtain ⟨ih0, ih1, ih2, ih3, ih4, ih5⟩ := spec_l2Draw.grp.mono_l k
  exact ih4 a0 a1 a2 a3 a4
abbrev spec_l2Draw.Says (k : Nat) : Prop := ∀ (g : Nat) (s0_0 : List Int) (s0_1 : Int) (a1 : Int) (a2 : Int) (r1 : Int) (r2 : Int) (r3 : Int) (r4 : Int) (r5 : List (S29)) (r6 : List (S29)) (r7 : Int) (w0 w : World) (hI : IsS86 w0 w g s0_0 s0_1) (hB : Below w0.heap.size w0 w) (h : spec_l2Draw.f k s0_0 s0_1 a1 a2 = some (r1, r2, r3, r4, r5, r6, r7)),
    Calls Try.prog 50 #[.pointer (some ⟨g, 0, none⟩), .int .i64 a1, .int .i64 a2] w fun e w' => ∃ v4_ v5_ : Value, e = .returned (.agg #[.int .i64 r1, .int .i64 r2, .int .i64 r3, .int .i64 r4, v4_, v5_]) ∧ Kd.R k29 29 w' w.heap.size (fun k_ => some k_ ≠ (v5_ : Value).ownBlock) v4_ r5 ∧ Kd.R k29 29 w' w.heap.size (fun k_ => some k_ ≠ (v4_ : Value).ownBlock) v5_ r6 ∧ IsS86 w0 w' g s0_0 r7 ∧ Below w0.heap.size w0 w' ∧ KeepBut w w' g none
abbrev spec_l2Draws.Says (k : Nat) : Prop := ∀ (g : Nat) (s0_0 : List Int) (s0_1 : Int) (a1 : Int) (a2 : Int) (a3 : Int) (r1 : List (S29)) (r2 : Int) (w0 w : World) (hI : IsS86 w0 w g s0_0 s0_1) (hB : Below w0.heap.size w0 w) (h : spec_l2Draws.f k s0_0 s0_1 a1 a2 a3 = some (r1, r2)),
    Calls Try.prog 69 #[.pointer (some ⟨g, 0, none⟩), .int .i64 a1, .int .i64 a2, .int .i64 a3] w fun e w' => ∃ v0_ : Value, e = .returned (v0_) ∧ Kd.R k29 29 w' w.heap.size (fun _ => True) v0_ r1 ∧ IsS86 w0 w' g s0_0 r2 ∧ Below w0.heap.size w0 w' ∧ KeepBut w w' g none
/-! ### spec_l2Draw: function 50 -/
set_option maxHeartbeats 8000000 in
set_option maxRecDepth 100000 in
theorem spec_l2Draw.calls_ (k : Nat) (ih_spec_l2Draw : ∀ k_, k_ < k → spec_l2Draw.Says k_) (ih_spec_l2Draws : ∀ k_, k_ < k → spec_l2Draws.Says k_) : spec_l2Draw.Says k := by
  intro g s0_0 s0_1 a1 a2 r1 r2 r3 r4 r5 r6 r7 w0 w hI hB h
  cases k with
  | zero => exact absurd h (by simp [spec_l2Draw.f])
  | succ k =>
  simp only [spec_l2Draw.f] at h
  have hu29 := Try.underlying29
  have HI0 := Aside0.mk hI
  have HK := Aside0.mk (KeepBut.refl w g none)
  have HL := Aside0.mk hB.size
  clear hI
  have HW0 := Aside0.mk hB.size
  have HB := Aside0.mk hB
  clear hB
  have H : ((spec_l11Rd_pick.f k s0_0 s0_1 3).bind fun bt242 => ((spec_l11Rd_pick.f k s0_0 bt242.2 3).bind fun bt244 => ((spec_l11Rd_num.f k s0_0 bt244.2 (([1, 2, 3, 4, 5, 3, 4, 2, 8, 6, 7, 10, 9, 11, 8, 5] : List Int))).bind fun bt249 => (if a1 < 2 then (if bt249.1 ≥ 6 then (if bt249.1 ≤ 8 then (spec_l2Draw.j0 k a1 a2 bt242.1 bt244.1 bt249.1 true s0_0 bt249.2) else (if bt249.1 = 8 then (if a2 ≥ 0 then (spec_l2Draw.j0 k a1 a2 bt242.1 bt244.1 bt249.1 true s0_0 bt249.2) else (if bt249.1 = 9 then (spec_l2Draw.j0 k a1 a2 bt242.1 bt244.1 bt249.1 (decide (a2 < 0)) s0_0 bt249.2) else (spec_l2Draw.j0 k a1 a2 bt242.1 bt244.1 bt249.1 false s0_0 bt249.2))) else (if bt249.1 = 9 then (spec_l2Draw.j0 k a1 a2 bt242.1 bt244.1 bt249.1 (decide (a2 < 0)) s0_0 bt249.2) else (spec_l2Draw.j0 k a1 a2 bt242.1 bt244.1 bt249.1 false s0_0 bt249.2)))) else (if bt249.1 = 8 then (if a2 ≥ 0 then (spec_l2Draw.j0 k a1 a2 bt242.1 bt244.1 bt249.1 true s0_0 bt249.2) else (if bt249.1 = 9 then (spec_l2Draw.j0 k a1 a2 bt242.1 bt244.1 bt249.1 (decide (a2 < 0)) s0_0 bt249.2) else (spec_l2Draw.j0 k a1 a2 bt242.1 bt244.1 bt249.1 false s0_0 bt249.2))) else (if bt249.1 = 9 then (spec_l2Draw.j0 k a1 a2 bt242.1 bt244.1 bt249.1 (decide (a2 < 0)) s0_0 bt249.2) else (spec_l2Draw.j0 k a1 a2 bt242.1 bt244.1 bt249.1 false s0_0 bt249.2)))) else (if bt249.1 = 8 then (if a2 ≥ 0 then (spec_l2Draw.j0 k a1 a2 bt242.1 bt244.1 bt249.1 true s0_0 bt249.2) else (if bt249.1 = 9 then (spec_l2Draw.j0 k a1 a2 bt242.1 bt244.1 bt249.1 (decide (a2 < 0)) s0_0 bt249.2) else (spec_l2Draw.j0 k a1 a2 bt242.1 bt244.1 bt249.1 false s0_0 bt249.2))) else (if bt249.1 = 9 then (spec_l2Draw.j0 k a1 a2 bt242.1 bt244.1 bt249.1 (decide (a2 < 0)) s0_0 bt249.2) else (spec_l2Draw.j0 k a1 a2 bt242.1 bt244.1 bt249.1 false s0_0 bt249.2))))))) = some (r1, r2, r3, r4, r5, r6, r7) := h
  clear h
  replace H := Option.bind_eq_some_iff.mp H
  obtain ⟨⟨t242, t243⟩, A40, H⟩ := H
  replace H : ((spec_l11Rd_pick.f k s0_0 t243 3).bind fun bt244 => ((spec_l11Rd_num.f k s0_0 bt244.2 (([1, 2, 3, 4, 5, 3, 4, 2, 8, 6, 7, 10, 9, 11, 8, 5] : List Int))).bind fun bt249 => (if a1 < 2 then (if bt249.1 ≥ 6 then (if bt249.1 ≤ 8 then (spec_l2Draw.j0 k a1 a2 t242 bt244.1 bt249.1 true s0_0 bt249.2) else (if bt249.1 = 8 then (if a2 ≥ 0 then (spec_l2Draw.j0 k a1 a2 t242 bt244.1 bt249.1 true s0_0 bt249.2) else (if bt249.1 = 9 then (spec_l2Draw.j0 k a1 a2 t242 bt244.1 bt249.1 (decide (a2 < 0)) s0_0 bt249.2) else (spec_l2Draw.j0 k a1 a2 t242 bt244.1 bt249.1 false s0_0 bt249.2))) else (if bt249.1 = 9 then (spec_l2Draw.j0 k a1 a2 t242 bt244.1 bt249.1 (decide (a2 < 0)) s0_0 bt249.2) else (spec_l2Draw.j0 k a1 a2 t242 bt244.1 bt249.1 false s0_0 bt249.2)))) else (if bt249.1 = 8 then (if a2 ≥ 0 then (spec_l2Draw.j0 k a1 a2 t242 bt244.1 bt249.1 true s0_0 bt249.2) else (if bt249.1 = 9 then (spec_l2Draw.j0 k a1 a2 t242 bt244.1 bt249.1 (decide (a2 < 0)) s0_0 bt249.2) else (spec_l2Draw.j0 k a1 a2 t242 bt244.1 bt249.1 false s0_0 bt249.2))) else (if bt249.1 = 9 then (spec_l2Draw.j0 k a1 a2 t242 bt244.1 bt249.1 (decide (a2 < 0)) s0_0 bt249.2) else (spec_l2Draw.j0 k a1 a2 t242 bt244.1 bt249.1 false s0_0 bt249.2)))) else (if bt249.1 = 8 then (if a2 ≥ 0 then (spec_l2Draw.j0 k a1 a2 t242 bt244.1 bt249.1 true s0_0 bt249.2) else (if bt249.1 = 9 then (spec_l2Draw.j0 k a1 a2 t242 bt244.1 bt249.1 (decide (a2 < 0)) s0_0 bt249.2) else (spec_l2Draw.j0 k a1 a2 t242 bt244.1 bt249.1 false s0_0 bt249.2))) else (if bt249.1 = 9 then (spec_l2Draw.j0 k a1 a2 t242 bt244.1 bt249.1 (decide (a2 < 0)) s0_0 bt249.2) else (spec_l2Draw.j0 k a1 a2 t242 bt244.1 bt249.1 false s0_0 bt249.2)))))) = some (r1, r2, r3, r4, r5, r6, r7) := H
  have A4 := Aside0.mk A40
  clear A40
  replace H := Option.bind_eq_some_iff.mp H
  obtain ⟨⟨t244, t245⟩, A50, H⟩ := H
  replace H : ((spec_l11Rd_num.f k s0_0 t245 (([1, 2, 3, 4, 5, 3, 4, 2, 8, 6, 7, 10, 9, 11, 8, 5] : List Int))).bind fun bt249 => (if a1 < 2 then (if bt249.1 ≥ 6 then (if bt249.1 ≤ 8 then (spec_l2Draw.j0 k a1 a2 t242 t244 bt249.1 true s0_0 bt249.2) else (if bt249.1 = 8 then (if a2 ≥ 0 then (spec_l2Draw.j0 k a1 a2 t242 t244 bt249.1 true s0_0 bt249.2) else (if bt249.1 = 9 then (spec_l2Draw.j0 k a1 a2 t242 t244 bt249.1 (decide (a2 < 0)) s0_0 bt249.2) else (spec_l2Draw.j0 k a1 a2 t242 t244 bt249.1 false s0_0 bt249.2))) else (if bt249.1 = 9 then (spec_l2Draw.j0 k a1 a2 t242 t244 bt249.1 (decide (a2 < 0)) s0_0 bt249.2) else (spec_l2Draw.j0 k a1 a2 t242 t244 bt249.1 false s0_0 bt249.2)))) else (if bt249.1 = 8 then (if a2 ≥ 0 then (spec_l2Draw.j0 k a1 a2 t242 t244 bt249.1 true s0_0 bt249.2) else (if bt249.1 = 9 then (spec_l2Draw.j0 k a1 a2 t242 t244 bt249.1 (decide (a2 < 0)) s0_0 bt249.2) else (spec_l2Draw.j0 k a1 a2 t242 t244 bt249.1 false s0_0 bt249.2))) else (if bt249.1 = 9 then (spec_l2Draw.j0 k a1 a2 t242 t244 bt249.1 (decide (a2 < 0)) s0_0 bt249.2) else (spec_l2Draw.j0 k a1 a2 t242 t244 bt249.1 false s0_0 bt249.2)))) else (if bt249.1 = 8 then (if a2 ≥ 0 then (spec_l2Draw.j0 k a1 a2 t242 t244 bt249.1 true s0_0 bt249.2) else (if bt249.1 = 9 then (spec_l2Draw.j0 k a1 a2 t242 t244 bt249.1 (decide (a2 < 0)) s0_0 bt249.2) else (spec_l2Draw.j0 k a1 a2 t242 t244 bt249.1 false s0_0 bt249.2))) else (if bt249.1 = 9 then (spec_l2Draw.j0 k a1 a2 t242 t244 bt249.1 (decide (a2 < 0)) s0_0 bt249.2) else (spec_l2Draw.j0 k a1 a2 t242 t244 bt249.1 false s0_0 bt249.2))))) = some (r1, r2, r3, r4, r5, r6, r7) := H
  have A5 := Aside0.mk A50
  clear A50
  obtain ⟨y246, hy246⟩ : ∃ y_ : List Int, y_ = (([1, 2, 3, 4, 5, 3, 4, 2, 8, 6, 7, 10, 9, 11, 8, 5] : List Int)) := ⟨_, rfl⟩
  replace H : ((spec_l11Rd_num.f k s0_0 t245 y246).bind fun bt249 => (if a1 < 2 then (if bt249.1 ≥ 6 then (if bt249.1 ≤ 8 then (spec_l2Draw.j0 k a1 a2 t242 t244 bt249.1 true s0_0 bt249.2) else (if bt249.1 = 8 then (if a2 ≥ 0 then (spec_l2Draw.j0 k a1 a2 t242 t244 bt249.1 true s0_0 bt249.2) else (if bt249.1 = 9 then (spec_l2Draw.j0 k a1 a2 t242 t244 bt249.1 (decide (a2 < 0)) s0_0 bt249.2) else (spec_l2Draw.j0 k a1 a2 t242 t244 bt249.1 false s0_0 bt249.2))) else (if bt249.1 = 9 then (spec_l2Draw.j0 k a1 a2 t242 t244 bt249.1 (decide (a2 < 0)) s0_0 bt249.2) else (spec_l2Draw.j0 k a1 a2 t242 t244 bt249.1 false s0_0 bt249.2)))) else (if bt249.1 = 8 then (if a2 ≥ 0 then (spec_l2Draw.j0 k a1 a2 t242 t244 bt249.1 true s0_0 bt249.2) else (if bt249.1 = 9 then (spec_l2Draw.j0 k a1 a2 t242 t244 bt249.1 (decide (a2 < 0)) s0_0 bt249.2) else (spec_l2Draw.j0 k a1 a2 t242 t244 bt249.1 false s0_0 bt249.2))) else (if bt249.1 = 9 then (spec_l2Draw.j0 k a1 a2 t242 t244 bt249.1 (decide (a2 < 0)) s0_0 bt249.2) else (spec_l2Draw.j0 k a1 a2 t242 t244 bt249.1 false s0_0 bt249.2)))) else (if bt249.1 = 8 then (if a2 ≥ 0 then (spec_l2Draw.j0 k a1 a2 t242 t244 bt249.1 true s0_0 bt249.2) else (if bt249.1 = 9 then (spec_l2Draw.j0 k a1 a2 t242 t244 bt249.1 (decide (a2 < 0)) s0_0 bt249.2) else (spec_l2Draw.j0 k a1 a2 t242 t244 bt249.1 false s0_0 bt249.2))) else (if bt249.1 = 9 then (spec_l2Draw.j0 k a1 a2 t242 t244 bt249.1 (decide (a2 < 0)) s0_0 bt249.2) else (spec_l2Draw.j0 k a1 a2 t242 t244 bt249.1 false s0_0 bt249.2))))) = some (r1, r2, r3, r4, r5, r6, r7) := by first | (rw [hy246]; with_reducible exact H) | (have H2_ := (Option.bind_some _ _).symm.trans H; rw [hy246]; with_reducible exact H2_) | (have H2_ := (Option.bind_some _ _).symm.trans H; with_reducible exact H2_) | with_reducible exact H | (rw [hy246]; exact H) | exact H
  have Ny246 := Aside0.mk hy246
  clear hy246
  replace H := Option.bind_eq_some_iff.mp H
  obtain ⟨⟨t249, t250⟩, A60, H⟩ := H
  replace H : (if a1 < 2 then (if t249 ≥ 6 then (if t249 ≤ 8 then (spec_l2Draw.j0 k a1 a2 t242 t244 t249 true s0_0 t250) else (if t249 = 8 then (if a2 ≥ 0 then (spec_l2Draw.j0 k a1 a2 t242 t244 t249 true s0_0 t250) else (if t249 = 9 then (spec_l2Draw.j0 k a1 a2 t242 t244 t249 (decide (a2 < 0)) s0_0 t250) else (spec_l2Draw.j0 k a1 a2 t242 t244 t249 false s0_0 t250))) else (if t249 = 9 then (spec_l2Draw.j0 k a1 a2 t242 t244 t249 (decide (a2 < 0)) s0_0 t250) else (spec_l2Draw.j0 k a1 a2 t242 t244 t249 false s0_0 t250)))) else (if t249 = 8 then (if a2 ≥ 0 then (spec_l2Draw.j0 k a1 a2 t242 t244 t249 true s0_0 t250) else (if t249 = 9 then (spec_l2Draw.j0 k a1 a2 t242 t244 t249 (decide (a2 < 0)) s0_0 t250) else (spec_l2Draw.j0 k a1 a2 t242 t244 t249 false s0_0 t250))) else (if t249 = 9 then (spec_l2Draw.j0 k a1 a2 t242 t244 t249 (decide (a2 < 0)) s0_0 t250) else (spec_l2Draw.j0 k a1 a2 t242 t244 t249 false s0_0 t250)))) else (if t249 = 8 then (if a2 ≥ 0 then (spec_l2Draw.j0 k a1 a2 t242 t244 t249 true s0_0 t250) else (if t249 = 9 then (spec_l2Draw.j0 k a1 a2 t242 t244 t249 (decide (a2 < 0)) s0_0 t250) else (spec_l2Draw.j0 k a1 a2 t242 t244 t249 false s0_0 t250))) else (if t249 = 9 then (spec_l2Draw.j0 k a1 a2 t242 t244 t249 (decide (a2 < 0)) s0_0 t250) else (spec_l2Draw.j0 k a1 a2 t242 t244 t249 false s0_0 t250)))) = some (r1, r2, r3, r4, r5, r6, r7) := H
  have A6 := Aside0.mk A60
  clear A60
  have HC7 := Aside0.mk H
  clear H
  go_enter Try.func50, Try.ntmps50
  go_upto_region 4 with (first | ((with_reducible refine gate_dst (N := 6) rfl ?_); refine box_event ?hg (N := 6) ?hd (cs := #[.int .i64 0, .int .i64 0, .int .i64 0, .int .i64 0, .slice none 0 0, .slice none 0 0]) (t := 29) ?hr ?_; (case hd => rfl); (case hg => rfl); (case hr => first | (go_simp; done) | (go_simp; rfl)); intro gb241 hg w8 hbox hb; have n0_ := Aside0.mk (IsS86.below (q10_ HI0) hb); have n1_ := Aside0.mk (KeepBut.trans (q12_ HK) (KeepBut.of_below hb g none) (.inl rfl)); have n2_ := Aside0.mk (below_step (q11_ HB HI0) hb); have n3_ := Aside0.mk (hbox); have n4_ := Aside0.mk ((by rw [hg]; exact (keep_size (w := w) (g := g) (row := none) (q12_ HK)) : w.heap.size ≤ gb241)); have n5_ := Aside0.mk ((Nat.le_trans HW0.out (by rw [hg]; exact (keep_size (w := w) (g := g) (row := none) (q12_ HK)) : w.heap.size ≤ gb241) : w0.heap.size ≤ gb241)); have n6_ := Aside0.mk ((by rw [hg]; exact Nat.ne_of_lt (IsS86.lt (show IsS86 w0 _ g s0_0 s0_1 from by repeat (first | (with_reducible first | exact HI0.out | apply IsS86.alloc | apply IsS86.drewN | apply IsS86.drew | apply IsS86.set_1) | exact HI0.out))) : g ≠ gb241)); have n7_ := Aside0.mk ((by rw [hg]; exact Nat.ne_of_gt (IsS86.lt (show IsS86 w0 _ g s0_0 s0_1 from by repeat (first | (with_reducible first | exact HI0.out | apply IsS86.alloc | apply IsS86.drewN | apply IsS86.drew | apply IsS86.set_1) | exact HI0.out))) : gb241 ≠ g)); clear HI0; clear HK; clear HB; have HI0 := n0_; have HK := n1_; have HB := n2_; have BK241 := n3_; have GW241 := n4_; have GE241 := n5_; have NB0_241 := n6_; have NB241_0 := n7_; clear n0_ n1_ n2_ n3_ n4_ n5_ n6_ n7_; clear hb hbox hg) | ((with_reducible refine gate_callee (f := 48) rfl ?_); refine goesL_ (some 13) rfl rfl Try.func48 (by kernel_rfl) rfl #[.pointer (some ⟨g, 0, none⟩), .int .i64 3] rfl (by (try simp only [List.map_toArray, List.map_cons, List.map_nil]); first | done | rfl | (simp only [List.length_drop, List.length_take]; rfl)) ?_; (with_reducible refine (spec_l11Rd_pick.calls k g s0_0 s0_1 3 t242 t243 w0 _ ?side1 ?side2 A4.out).mono ?_); (case side1 => exact q16_ HI0 NB0_241); (case side2 => exact q17_ HB HI0 GE241); rintro e w9 ⟨rfl, hi, hb, hk⟩; refine ⟨_, rfl, ?_⟩; have n0_ := Aside0.mk (KeepBut.blk hk (g' := gb241) (o := .cells #[.int .i64 0, .int .i64 0, .int .i64 0, .int .i64 0, .slice none 0 0, .slice none 0 0] 29 (0, 0)) (q1_ BK241) NB241_0.out (by simp)); have n1_ := Aside0.mk (KeepBut.trans (q18_ HK GW241) hk (.inl rfl)); have n2_ := Aside0.mk (hb); have n3_ := Aside0.mk (hi); clear BK241; clear HK; clear HB; clear HI0; have BK241 := n0_; have HK := n1_; have HB := n2_; have HI0 := n3_; clear n0_ n1_ n2_ n3_; (try clear hb); (try clear hb2); (try clear hk); (try clear hi)) | ((with_reducible refine gate_callee (f := 48) rfl ?_); refine goesL_ (some 15) rfl rfl Try.func48 (by kernel_rfl) rfl #[.pointer (some ⟨g, 0, none⟩), .int .i64 3] rfl (by (try simp only [List.map_toArray, List.map_cons, List.map_nil]); first | done | rfl | (simp only [List.length_drop, List.length_take]; rfl)) ?_; (with_reducible refine (spec_l11Rd_pick.calls k g s0_0 t243 3 t244 t245 w0 _ ?side1 ?side2 A5.out).mono ?_); (case side1 => exact q16_ HI0 NB0_241); (case side2 => exact q17_ HB HI0 GE241); rintro e w10 ⟨rfl, hi, hb, hk⟩; refine ⟨_, rfl, ?_⟩; have n0_ := Aside0.mk (KeepBut.blk hk (g' := gb241) (o := .cells #[.int .i64 0, .int .i64 0, .int .i64 0, .int .i64 0, .slice none 0 0, .slice none 0 0] 29 (0, 0)) (q1_ BK241) NB241_0.out (by simp)); have n1_ := Aside0.mk (KeepBut.trans (q18_ HK GW241) hk (.inl rfl)); have n2_ := Aside0.mk (hb); have n3_ := Aside0.mk (hi); clear BK241; clear HK; clear HB; clear HI0; have BK241 := n0_; have HK := n1_; have HB := n2_; have HI0 := n3_; clear n0_ n1_ n2_ n3_; (try clear hb); (try clear hb2); (try clear hk); (try clear hi)) | ((with_reducible refine gate_dst (N := 17) rfl ?_); refine Kd.R_lit (Kd.int .i64) _ 3 ?hg (N := 17) ?hd (xs := ([1, 2, 3, 4, 5, 3, 4, 2, 8, 6, 7, 10, 9, 11, 8, 5] : List Int)) (inner := [.int .i64 1, .int .i64 2, .int .i64 3, .int .i64 4, .int .i64 5, .int .i64 3, .int .i64 4, .int .i64 2, .int .i64 8, .int .i64 6, .int .i64 7, .int .i64 10, .int .i64 9, .int .i64 11, .int .i64 8, .int .i64 5]) (ok := fun _ => True) (okp := fun _ => True) ?hr ?hp (fun _ hk => hk) trivial (Below.refl _ _) (Nat.le_refl _) (by simp) ?_; (case hd => rfl); (case hg => rfl); (case hr => first | (go_simp; done) | (go_simp; rfl)); (case hp => exact (Reps.one (show Kd.M (Kd.int .i64) _ _ _ 1 [.int .i64 1] from rfl) (Reps.one (show Kd.M (Kd.int .i64) _ _ _ 2 [.int .i64 2] from rfl) (Reps.one (show Kd.M (Kd.int .i64) _ _ _ 3 [.int .i64 3] from rfl) (Reps.one (show Kd.M (Kd.int .i64) _ _ _ 4 [.int .i64 4] from rfl) (Reps.one (show Kd.M (Kd.int .i64) _ _ _ 5 [.int .i64 5] from rfl) (Reps.one (show Kd.M (Kd.int .i64) _ _ _ 3 [.int .i64 3] from rfl) (Reps.one (show Kd.M (Kd.int .i64) _ _ _ 4 [.int .i64 4] from rfl) (Reps.one (show Kd.M (Kd.int .i64) _ _ _ 2 [.int .i64 2] from rfl) (Reps.one (show Kd.M (Kd.int .i64) _ _ _ 8 [.int .i64 8] from rfl) (Reps.one (show Kd.M (Kd.int .i64) _ _ _ 6 [.int .i64 6] from rfl) (Reps.one (show Kd.M (Kd.int .i64) _ _ _ 7 [.int .i64 7] from rfl) (Reps.one (show Kd.M (Kd.int .i64) _ _ _ 10 [.int .i64 10] from rfl) (Reps.one (show Kd.M (Kd.int .i64) _ _ _ 9 [.int .i64 9] from rfl) (Reps.one (show Kd.M (Kd.int .i64) _ _ _ 11 [.int .i64 11] from rfl) (Reps.one (show Kd.M (Kd.int .i64) _ _ _ 8 [.int .i64 8] from rfl) (Reps.one (show Kd.M (Kd.int .i64) _ _ _ 5 [.int .i64 5] from rfl) (Reps.none _ _)))))))))))))))))); intro v247 w11 ho12 hb hg_ hnew_; clear hg_ hnew_; (first | rw [← Ny246.out] at ho12 | (simp only [Int.reduceToNat] at ho12; rw [← Ny246.out] at ho12)); have n0_ := Aside0.mk (Kd.R_lower ho12 (keep_size (w := w) (g := g) (row := none) (q18_ HK GW241))); have n1_ := Aside0.mk (IsS86.below (q16_ HI0 NB0_241) hb); have n2_ := Aside0.mk (blk_below (g := gb241) (o := .cells #[.int .i64 0, .int .i64 0, .int .i64 0, .int .i64 0, .slice none 0 0, .slice none 0 0] 29 (0, 0)) (q1_ BK241) hb); have n3_ := Aside0.mk (KeepBut.trans (q18_ HK GW241) (KeepBut.of_below hb g none) (.inl rfl)); have n4_ := Aside0.mk (below_step (q17_ HB HI0 GE241) hb); clear HI0; clear BK241; clear HK; clear HB; have HO248 := n0_; have HI0 := n1_; have BK241 := n2_; have HK := n3_; have HB := n4_; clear n0_ n1_ n2_ n3_ n4_; clear hb ho12; obtain ⟨Ao13, co13, eo13⟩ := Kd.R_slice HO248.out; subst eo13) | ((with_reducible refine gate_callee (f := 51) rfl ?_); refine goesL_ (some 18) rfl rfl Try.func51 (by kernel_rfl) rfl #[.pointer (some ⟨g, 0, none⟩), .slice Ao13 y246.length co13] rfl (by (try simp only [List.map_toArray, List.map_cons, List.map_nil]); first | done | rfl | (simp only [List.length_drop, List.length_take]; rfl)) ?_; (with_reducible refine (spec_l11Rd_num.calls k g s0_0 t245 _ _ y246 t249 t250 w0 _ ?side1 ?side2 ?side3 ?side4 ?side5 A6.out).mono ?_); (case side1 => exact q16_ HI0 NB0_241); (case side2 => exact q17_ HB HI0 GE241); (case side3 => repeat (first | exact (Kd.R_reads' HO248.out).2.2 | (with_reducible refine Kd.C_alloc ?_ _) | (with_reducible refine Kd.C_drewN ?_ _) | (with_reducible refine Kd.C_drew ?_))); (case side4 => exact (Kd.R_reads' HO248.out).2.1); (case side5 => exact far_slice (IsS86.own_ne HI0.out HO248.out (by decide))); rintro e w14 ⟨rfl, hi, hb, hk⟩; refine ⟨_, rfl, ?_⟩; have n0_ := Aside0.mk (KeepBut.blk hk (g' := gb241) (o := .cells #[.int .i64 0, .int .i64 0, .int .i64 0, .int .i64 0, .slice none 0 0, .slice none 0 0] 29 (0, 0)) (q1_ BK241) NB241_0.out (by simp)); have n1_ := Aside0.mk (Kd.R_mono (Kd.R_keep (IsS86.apart (show IsS86 w0 _ g s0_0 t245 from by repeat (first | (with_reducible first | exact HI0.out | apply IsS86.alloc | apply IsS86.drewN | apply IsS86.drew | apply IsS86.set_1 | refine IsS86.far ?_ NB0_241.out _) | exact HI0.out)) (q7_ HO248) (by decide)) hk (fun _ h => h.2)) (fun _ h => h.1)); have n2_ := Aside0.mk (KeepBut.trans (q18_ HK GW241) hk (.inl rfl)); have n3_ := Aside0.mk (hb); have n4_ := Aside0.mk (hi); clear BK241; clear HO248; clear HK; clear HB; clear HI0; have BK241 := n0_; have HO248 := n1_; have HK := n2_; have HB := n3_; have HI0 := n4_; clear n0_ n1_ n2_ n3_ n4_; (try clear hb); (try clear hb2); (try clear hk); (try clear hi)))
  (try simp only [Act.put, List.setIfInBounds_toArray, List.set_cons_zero, List.set_cons_succ])
  go_cut [44] (fun v44 wc => ∃ (kq : Nat) (x44_6 : Bool), v44 = .bool x44_6 ∧ Aside0 (spec_l2Draw.j0 kq a1 a2 t242 t244 t249 x44_6 s0_0 t250 = some (r1, r2, r3, r4, r5, r6, r7)) ∧ Aside0 (kq ≤ k) ∧ Aside0 (wc.heap[gb241]? = some (.cells #[.int .i64 0, .int .i64 0, .int .i64 0, .int .i64 0, (.slice none 0 0), (.slice none 0 0)] 29 (0, 0))) ∧ Aside0 (IsS86 w0 wc g s0_0 t250) ∧ Aside0 (KeepBut w wc g none) ∧ Aside0 (Below w0.heap.size w0 wc))
  case first =>
    have H := HC7.out
    clear HC7
    by_cases c15 : a1 < 2
    · rw [if_pos c15] at H
      have c15b0 : decide (a1 < 2) = true := decide_eq_true c15
      clear c15
      (first | rw [c15b0] | (simp only [i64_w, i32_w]; rw [c15b0]) | skip)
      by_cases c16 : t249 ≥ 6
      · rw [if_pos c16] at H
        have c16b0 : decide (6 ≤ t249) = true := decide_eq_true c16
        clear c16
        by_cases c17 : t249 ≤ 8
        · rw [if_pos c17] at H
          have c17b0 : decide (t249 ≤ 8) = true := decide_eq_true c17
          clear c17
          have H' := Aside0.mk H
          clear H
          go_wp2
          go_meet
          case rel => exact ⟨_, (true), (by first | rfl | (simp; done) | (simp [*]; done)), H', ⟨by first | omega | exact Nat.le_refl _⟩, ⟨by (with_reducible repeat (first | refine blk_drewN ?_ _ | refine blk_drew ?_ | refine blk_alloc ?_ _)); exact BK241.out⟩, ⟨by repeat (first | (with_reducible first | exact HI0.out | apply IsS86.alloc | apply IsS86.drewN | apply IsS86.drew | apply IsS86.set_1 | refine IsS86.far ?_ NB0_241.out _) | exact HI0.out)⟩, ⟨by repeat (first | (with_reducible first | exact HK.out | apply KeepBut.set_ | apply keep_drewN | apply keep_drew | apply keep_alloc | refine keep_far ?_ GW241.out _) | exact HK.out)⟩, ⟨by repeat (first | (with_reducible first | exact HB.out | apply below_alloc | apply pw_below_drewN | apply below_drew1 | refine below_set ?_ (IsS86.ge HI0.out) | refine below_set ?_ GE241.out) | exact HB.out)⟩⟩
        · rw [if_neg c17] at H
          have c17b0 : decide (t249 ≤ 8) = false := decide_eq_false c17
          clear c17
          by_cases c18 : t249 = 8
          · rw [if_pos c18] at H
            have c18b0 : (t249 == 8) = true := beq_iff_eq.mpr c18
            have c18b1 : (t249 != 8) = false := bne_eq_false_iff_eq.mpr c18
            clear c18
            by_cases c19 : a2 ≥ 0
            · rw [if_pos c19] at H
              have c19b0 : decide (0 ≤ a2) = true := decide_eq_true c19
              clear c19
              have H' := Aside0.mk H
              clear H
              go_wp2
              go_meet
              case rel => exact ⟨_, (true), (by first | rfl | (simp; done) | (simp [*]; done)), H', ⟨by first | omega | exact Nat.le_refl _⟩, ⟨by (with_reducible repeat (first | refine blk_drewN ?_ _ | refine blk_drew ?_ | refine blk_alloc ?_ _)); exact BK241.out⟩, ⟨by repeat (first | (with_reducible first | exact HI0.out | apply IsS86.alloc | apply IsS86.drewN | apply IsS86.drew | apply IsS86.set_1 | refine IsS86.far ?_ NB0_241.out _) | exact HI0.out)⟩, ⟨by repeat (first | (with_reducible first | exact HK.out | apply KeepBut.set_ | apply keep_drewN | apply keep_drew | apply keep_alloc | refine keep_far ?_ GW241.out _) | exact HK.out)⟩, ⟨by repeat (first | (with_reducible first | exact HB.out | apply below_alloc | apply pw_below_drewN | apply below_drew1 | refine below_set ?_ (IsS86.ge HI0.out) | refine below_set ?_ GE241.out) | exact HB.out)⟩⟩
            · rw [if_neg c19] at H
              have c19b0 : decide (0 ≤ a2) = false := decide_eq_false c19
              clear c19
              by_cases c20 : t249 = 9
              · rw [if_pos c20] at H
                have c20b0 : (t249 == 9) = true := beq_iff_eq.mpr c20
                have c20b1 : (t249 != 9) = false := bne_eq_false_iff_eq.mpr c20
                clear c20
                have H' := Aside0.mk H
                clear H
                go_wp2
                go_meet
                case rel => exact ⟨_, (decide (a2 < 0)), (by first | rfl | (simp; done) | (simp [*]; done)), H', ⟨by first | omega | exact Nat.le_refl _⟩, ⟨by (with_reducible repeat (first | refine blk_drewN ?_ _ | refine blk_drew ?_ | refine blk_alloc ?_ _)); exact BK241.out⟩, ⟨by repeat (first | (with_reducible first | exact HI0.out | apply IsS86.alloc | apply IsS86.drewN | apply IsS86.drew | apply IsS86.set_1 | refine IsS86.far ?_ NB0_241.out _) | exact HI0.out)⟩, ⟨by repeat (first | (with_reducible first | exact HK.out | apply KeepBut.set_ | apply keep_drewN | apply keep_drew | apply keep_alloc | refine keep_far ?_ GW241.out _) | exact HK.out)⟩, ⟨by repeat (first | (with_reducible first | exact HB.out | apply below_alloc | apply pw_below_drewN | apply below_drew1 | refine below_set ?_ (IsS86.ge HI0.out) | refine below_set ?_ GE241.out) | exact HB.out)⟩⟩
              · rw [if_neg c20] at H
                have c20b0 : (t249 == 9) = false := beq_eq_false_iff_ne.mpr c20
                have c20b1 : (t249 != 9) = true := bne_iff_ne.mpr c20
                have H' := Aside0.mk H
                clear H
                go_wp2
                go_meet
                case rel => exact ⟨_, (false), (by first | rfl | (simp; done) | (simp [*]; done)), H', ⟨by first | omega | exact Nat.le_refl _⟩, ⟨by (with_reducible repeat (first | refine blk_drewN ?_ _ | refine blk_drew ?_ | refine blk_alloc ?_ _)); exact BK241.out⟩, ⟨by repeat (first | (with_reducible first | exact HI0.out | apply IsS86.alloc | apply IsS86.drewN | apply IsS86.drew | apply IsS86.set_1 | refine IsS86.far ?_ NB0_241.out _) | exact HI0.out)⟩, ⟨by repeat (first | (with_reducible first | exact HK.out | apply KeepBut.set_ | apply keep_drewN | apply keep_drew | apply keep_alloc | refine keep_far ?_ GW241.out _) | exact HK.out)⟩, ⟨by repeat (first | (with_reducible first | exact HB.out | apply below_alloc | apply pw_below_drewN | apply below_drew1 | refine below_set ?_ (IsS86.ge HI0.out) | refine below_set ?_ GE241.out) | exact HB.out)⟩⟩
          · rw [if_neg c18] at H
            have c18b0 : (t249 == 8) = false := beq_eq_false_iff_ne.mpr c18
            have c18b1 : (t249 != 8) = true := bne_iff_ne.mpr c18
            by_cases c21 : t249 = 9
            · rw [if_pos c21] at H
              have c21b0 : (t249 == 9) = true := beq_iff_eq.mpr c21
              have c21b1 : (t249 != 9) = false := bne_eq_false_iff_eq.mpr c21
              clear c21
              have H' := Aside0.mk H
              clear H
              go_wp2
              go_meet
              case rel => exact ⟨_, (decide (a2 < 0)), (by first | rfl | (simp; done) | (simp [*]; done)), H', ⟨by first | omega | exact Nat.le_refl _⟩, ⟨by (with_reducible repeat (first | refine blk_drewN ?_ _ | refine blk_drew ?_ | refine blk_alloc ?_ _)); exact BK241.out⟩, ⟨by repeat (first | (with_reducible first | exact HI0.out | apply IsS86.alloc | apply IsS86.drewN | apply IsS86.drew | apply IsS86.set_1 | refine IsS86.far ?_ NB0_241.out _) | exact HI0.out)⟩, ⟨by repeat (first | (with_reducible first | exact HK.out | apply KeepBut.set_ | apply keep_drewN | apply keep_drew | apply keep_alloc | refine keep_far ?_ GW241.out _) | exact HK.out)⟩, ⟨by repeat (first | (with_reducible first | exact HB.out | apply below_alloc | apply pw_below_drewN | apply below_drew1 | refine below_set ?_ (IsS86.ge HI0.out) | refine below_set ?_ GE241.out) | exact HB.out)⟩⟩
            · rw [if_neg c21] at H
              have c21b0 : (t249 == 9) = false := beq_eq_false_iff_ne.mpr c21
              have c21b1 : (t249 != 9) = true := bne_iff_ne.mpr c21
              have H' := Aside0.mk H
              clear H
              go_wp2
              go_meet
              case rel => exact ⟨_, (false), (by first | rfl | (simp; done) | (simp [*]; done)), H', ⟨by first | omega | exact Nat.le_refl _⟩, ⟨by (with_reducible repeat (first | refine blk_drewN ?_ _ | refine blk_drew ?_ | refine blk_alloc ?_ _)); exact BK241.out⟩, ⟨by repeat (first | (with_reducible first | exact HI0.out | apply IsS86.alloc | apply IsS86.drewN | apply IsS86.drew | apply IsS86.set_1 | refine IsS86.far ?_ NB0_241.out _) | exact HI0.out)⟩, ⟨by repeat (first | (with_reducible first | exact HK.out | apply KeepBut.set_ | apply keep_drewN | apply keep_drew | apply keep_alloc | refine keep_far ?_ GW241.out _) | exact HK.out)⟩, ⟨by repeat (first | (with_reducible first | exact HB.out | apply below_alloc | apply pw_below_drewN | apply below_drew1 | refine below_set ?_ (IsS86.ge HI0.out) | refine below_set ?_ GE241.out) | exact HB.out)⟩⟩
      · rw [if_neg c16] at H
        have c16b0 : decide (6 ≤ t249) = false := decide_eq_false c16
        clear c16
        by_cases c22 : t249 = 8
        · rw [if_pos c22] at H
          have c22b0 : (t249 == 8) = true := beq_iff_eq.mpr c22
          have c22b1 : (t249 != 8) = false := bne_eq_false_iff_eq.mpr c22
          clear c22
          by_cases c23 : a2 ≥ 0
          · rw [if_pos c23] at H
            have c23b0 : decide (0 ≤ a2) = true := decide_eq_true c23
            clear c23
            have H' := Aside0.mk H
            clear H
            go_wp2
            go_meet
            case rel => exact ⟨_, (true), (by first | rfl | (simp; done) | (simp [*]; done)), H', ⟨by first | omega | exact Nat.le_refl _⟩, ⟨by (with_reducible repeat (first | refine blk_drewN ?_ _ | refine blk_drew ?_ | refine blk_alloc ?_ _)); exact BK241.out⟩, ⟨by repeat (first | (with_reducible first | exact HI0.out | apply IsS86.alloc | apply IsS86.drewN | apply IsS86.drew | apply IsS86.set_1 | refine IsS86.far ?_ NB0_241.out _) | exact HI0.out)⟩, ⟨by repeat (first | (with_reducible first | exact HK.out | apply KeepBut.set_ | apply keep_drewN | apply keep_drew | apply keep_alloc | refine keep_far ?_ GW241.out _) | exact HK.out)⟩, ⟨by repeat (first | (with_reducible first | exact HB.out | apply below_alloc | apply pw_below_drewN | apply below_drew1 | refine below_set ?_ (IsS86.ge HI0.out) | refine below_set ?_ GE241.out) | exact HB.out)⟩⟩
          · rw [if_neg c23] at H
            have c23b0 : decide (0 ≤ a2) = false := decide_eq_false c23
            clear c23
            by_cases c24 : t249 = 9
            · rw [if_pos c24] at H
              have c24b0 : (t249 == 9) = true := beq_iff_eq.mpr c24
              have c24b1 : (t249 != 9) = false := bne_eq_false_iff_eq.mpr c24
              clear c24
              have H' := Aside0.mk H
              clear H
              go_wp2
              go_meet
              case rel => exact ⟨_, (decide (a2 < 0)), (by first | rfl | (simp; done) | (simp [*]; done)), H', ⟨by first | omega | exact Nat.le_refl _⟩, ⟨by (with_reducible repeat (first | refine blk_drewN ?_ _ | refine blk_drew ?_ | refine blk_alloc ?_ _)); exact BK241.out⟩, ⟨by repeat (first | (with_reducible first | exact HI0.out | apply IsS86.alloc | apply IsS86.drewN | apply IsS86.drew | apply IsS86.set_1 | refine IsS86.far ?_ NB0_241.out _) | exact HI0.out)⟩, ⟨by repeat (first | (with_reducible first | exact HK.out | apply KeepBut.set_ | apply keep_drewN | apply keep_drew | apply keep_alloc | refine keep_far ?_ GW241.out _) | exact HK.out)⟩, ⟨by repeat (first | (with_reducible first | exact HB.out | apply below_alloc | apply pw_below_drewN | apply below_drew1 | refine below_set ?_ (IsS86.ge HI0.out) | refine below_set ?_ GE241.out) | exact HB.out)⟩⟩
            · rw [if_neg c24] at H
              have c24b0 : (t249 == 9) = false := beq_eq_false_iff_ne.mpr c24
              have c24b1 : (t249 != 9) = true := bne_iff_ne.mpr c24
              have H' := Aside0.mk H
              clear H
              go_wp2
              go_meet
              case rel => exact ⟨_, (false), (by first | rfl | (simp; done) | (simp [*]; done)), H', ⟨by first | omega | exact Nat.le_refl _⟩, ⟨by (with_reducible repeat (first | refine blk_drewN ?_ _ | refine blk_drew ?_ | refine blk_alloc ?_ _)); exact BK241.out⟩, ⟨by repeat (first | (with_reducible first | exact HI0.out | apply IsS86.alloc | apply IsS86.drewN | apply IsS86.drew | apply IsS86.set_1 | refine IsS86.far ?_ NB0_241.out _) | exact HI0.out)⟩, ⟨by repeat (first | (with_reducible first | exact HK.out | apply KeepBut.set_ | apply keep_drewN | apply keep_drew | apply keep_alloc | refine keep_far ?_ GW241.out _) | exact HK.out)⟩, ⟨by repeat (first | (with_reducible first | exact HB.out | apply below_alloc | apply pw_below_drewN | apply below_drew1 | refine below_set ?_ (IsS86.ge HI0.out) | refine below_set ?_ GE241.out) | exact HB.out)⟩⟩
        · rw [if_neg c22] at H
          have c22b0 : (t249 == 8) = false := beq_eq_false_iff_ne.mpr c22
          have c22b1 : (t249 != 8) = true := bne_iff_ne.mpr c22
          by_cases c25 : t249 = 9
          · rw [if_pos c25] at H
            have c25b0 : (t249 == 9) = true := beq_iff_eq.mpr c25
            have c25b1 : (t249 != 9) = false := bne_eq_false_iff_eq.mpr c25
            clear c25
            have H' := Aside0.mk H
            clear H
            go_wp2
            go_meet
            case rel => exact ⟨_, (decide (a2 < 0)), (by first | rfl | (simp; done) | (simp [*]; done)), H', ⟨by first | omega | exact Nat.le_refl _⟩, ⟨by (with_reducible repeat (first | refine blk_drewN ?_ _ | refine blk_drew ?_ | refine blk_alloc ?_ _)); exact BK241.out⟩, ⟨by repeat (first | (with_reducible first | exact HI0.out | apply IsS86.alloc | apply IsS86.drewN | apply IsS86.drew | apply IsS86.set_1 | refine IsS86.far ?_ NB0_241.out _) | exact HI0.out)⟩, ⟨by repeat (first | (with_reducible first | exact HK.out | apply KeepBut.set_ | apply keep_drewN | apply keep_drew | apply keep_alloc | refine keep_far ?_ GW241.out _) | exact HK.out)⟩, ⟨by repeat (first | (with_reducible first | exact HB.out | apply below_alloc | apply pw_below_drewN | apply below_drew1 | refine below_set ?_ (IsS86.ge HI0.out) | refine below_set ?_ GE241.out) | exact HB.out)⟩⟩
          · rw [if_neg c25] at H
            have c25b0 : (t249 == 9) = false := beq_eq_false_iff_ne.mpr c25
            have c25b1 : (t249 != 9) = true := bne_iff_ne.mpr c25
            have H' := Aside0.mk H
            clear H
            go_wp2
            go_meet
            case rel => exact ⟨_, (false), (by first | rfl | (simp; done) | (simp [*]; done)), H', ⟨by first | omega | exact Nat.le_refl _⟩, ⟨by (with_reducible repeat (first | refine blk_drewN ?_ _ | refine blk_drew ?_ | refine blk_alloc ?_ _)); exact BK241.out⟩, ⟨by repeat (first | (with_reducible first | exact HI0.out | apply IsS86.alloc | apply IsS86.drewN | apply IsS86.drew | apply IsS86.set_1 | refine IsS86.far ?_ NB0_241.out _) | exact HI0.out)⟩, ⟨by repeat (first | (with_reducible first | exact HK.out | apply KeepBut.set_ | apply keep_drewN | apply keep_drew | apply keep_alloc | refine keep_far ?_ GW241.out _) | exact HK.out)⟩, ⟨by repeat (first | (with_reducible first | exact HB.out | apply below_alloc | apply pw_below_drewN | apply below_drew1 | refine below_set ?_ (IsS86.ge HI0.out) | refine below_set ?_ GE241.out) | exact HB.out)⟩⟩
    · rw [if_neg c15] at H
      have c15b0 : decide (a1 < 2) = false := decide_eq_false c15
      clear c15
      (first | rw [c15b0] | (simp only [i64_w, i32_w]; rw [c15b0]) | skip)
      by_cases c26 : t249 = 8
      · rw [if_pos c26] at H
        have c26b0 : (t249 == 8) = true := beq_iff_eq.mpr c26
        have c26b1 : (t249 != 8) = false := bne_eq_false_iff_eq.mpr c26
        clear c26
        by_cases c27 : a2 ≥ 0
        · rw [if_pos c27] at H
          have c27b0 : decide (0 ≤ a2) = true := decide_eq_true c27
          clear c27
          have H' := Aside0.mk H
          clear H
          go_wp2
          go_meet
          case rel => exact ⟨_, (true), (by first | rfl | (simp; done) | (simp [*]; done)), H', ⟨by first | omega | exact Nat.le_refl _⟩, ⟨by (with_reducible repeat (first | refine blk_drewN ?_ _ | refine blk_drew ?_ | refine blk_alloc ?_ _)); exact BK241.out⟩, ⟨by repeat (first | (with_reducible first | exact HI0.out | apply IsS86.alloc | apply IsS86.drewN | apply IsS86.drew | apply IsS86.set_1 | refine IsS86.far ?_ NB0_241.out _) | exact HI0.out)⟩, ⟨by repeat (first | (with_reducible first | exact HK.out | apply KeepBut.set_ | apply keep_drewN | apply keep_drew | apply keep_alloc | refine keep_far ?_ GW241.out _) | exact HK.out)⟩, ⟨by repeat (first | (with_reducible first | exact HB.out | apply below_alloc | apply pw_below_drewN | apply below_drew1 | refine below_set ?_ (IsS86.ge HI0.out) | refine below_set ?_ GE241.out) | exact HB.out)⟩⟩
        · rw [if_neg c27] at H
          have c27b0 : decide (0 ≤ a2) = false := decide_eq_false c27
          clear c27
          by_cases c28 : t249 = 9
          · rw [if_pos c28] at H
            have c28b0 : (t249 == 9) = true := beq_iff_eq.mpr c28
            have c28b1 : (t249 != 9) = false := bne_eq_false_iff_eq.mpr c28
            clear c28
            have H' := Aside0.mk H
            clear H
            go_wp2
            go_meet
            case rel => exact ⟨_, (decide (a2 < 0)), (by first | rfl | (simp; done) | (simp [*]; done)), H', ⟨by first | omega | exact Nat.le_refl _⟩, ⟨by (with_reducible repeat (first | refine blk_drewN ?_ _ | refine blk_drew ?_ | refine blk_alloc ?_ _)); exact BK241.out⟩, ⟨by repeat (first | (with_reducible first | exact HI0.out | apply IsS86.alloc | apply IsS86.drewN | apply IsS86.drew | apply IsS86.set_1 | refine IsS86.far ?_ NB0_241.out _) | exact HI0.out)⟩, ⟨by repeat (first | (with_reducible first | exact HK.out | apply KeepBut.set_ | apply keep_drewN | apply keep_drew | apply keep_alloc | refine keep_far ?_ GW241.out _) | exact HK.out)⟩, ⟨by repeat (first | (with_reducible first | exact HB.out | apply below_alloc | apply pw_below_drewN | apply below_drew1 | refine below_set ?_ (IsS86.ge HI0.out) | refine below_set ?_ GE241.out) | exact HB.out)⟩⟩
          · rw [if_neg c28] at H
            have c28b0 : (t249 == 9) = false := beq_eq_false_iff_ne.mpr c28
            have c28b1 : (t249 != 9) = true := bne_iff_ne.mpr c28
            have H' := Aside0.mk H
            clear H
            go_wp2
            go_meet
            case rel => exact ⟨_, (false), (by first | rfl | (simp; done) | (simp [*]; done)), H', ⟨by first | omega | exact Nat.le_refl _⟩, ⟨by (with_reducible repeat (first | refine blk_drewN ?_ _ | refine blk_drew ?_ | refine blk_alloc ?_ _)); exact BK241.out⟩, ⟨by repeat (first | (with_reducible first | exact HI0.out | apply IsS86.alloc | apply IsS86.drewN | apply IsS86.drew | apply IsS86.set_1 | refine IsS86.far ?_ NB0_241.out _) | exact HI0.out)⟩, ⟨by repeat (first | (with_reducible first | exact HK.out | apply KeepBut.set_ | apply keep_drewN | apply keep_drew | apply keep_alloc | refine keep_far ?_ GW241.out _) | exact HK.out)⟩, ⟨by repeat (first | (with_reducible first | exact HB.out | apply below_alloc | apply pw_below_drewN | apply below_drew1 | refine below_set ?_ (IsS86.ge HI0.out) | refine below_set ?_ GE241.out) | exact HB.out)⟩⟩
      · rw [if_neg c26] at H
        have c26b0 : (t249 == 8) = false := beq_eq_false_iff_ne.mpr c26
        have c26b1 : (t249 != 8) = true := bne_iff_ne.mpr c26
        by_cases c29 : t249 = 9
        · rw [if_pos c29] at H
          have c29b0 : (t249 == 9) = true := beq_iff_eq.mpr c29
          have c29b1 : (t249 != 9) = false := bne_eq_false_iff_eq.mpr c29
          clear c29
          have H' := Aside0.mk H
          clear H
          go_wp2
          go_meet
          case rel => exact ⟨_, (decide (a2 < 0)), (by first | rfl | (simp; done) | (simp [*]; done)), H', ⟨by first | omega | exact Nat.le_refl _⟩, ⟨by (with_reducible repeat (first | refine blk_drewN ?_ _ | refine blk_drew ?_ | refine blk_alloc ?_ _)); exact BK241.out⟩, ⟨by repeat (first | (with_reducible first | exact HI0.out | apply IsS86.alloc | apply IsS86.drewN | apply IsS86.drew | apply IsS86.set_1 | refine IsS86.far ?_ NB0_241.out _) | exact HI0.out)⟩, ⟨by repeat (first | (with_reducible first | exact HK.out | apply KeepBut.set_ | apply keep_drewN | apply keep_drew | apply keep_alloc | refine keep_far ?_ GW241.out _) | exact HK.out)⟩, ⟨by repeat (first | (with_reducible first | exact HB.out | apply below_alloc | apply pw_below_drewN | apply below_drew1 | refine below_set ?_ (IsS86.ge HI0.out) | refine below_set ?_ GE241.out) | exact HB.out)⟩⟩
        · rw [if_neg c29] at H
          have c29b0 : (t249 == 9) = false := beq_eq_false_iff_ne.mpr c29
          have c29b1 : (t249 != 9) = true := bne_iff_ne.mpr c29
          have H' := Aside0.mk H
          clear H
          go_wp2
          go_meet
          case rel => exact ⟨_, (false), (by first | rfl | (simp; done) | (simp [*]; done)), H', ⟨by first | omega | exact Nat.le_refl _⟩, ⟨by (with_reducible repeat (first | refine blk_drewN ?_ _ | refine blk_drew ?_ | refine blk_alloc ?_ _)); exact BK241.out⟩, ⟨by repeat (first | (with_reducible first | exact HI0.out | apply IsS86.alloc | apply IsS86.drewN | apply IsS86.drew | apply IsS86.set_1 | refine IsS86.far ?_ NB0_241.out _) | exact HI0.out)⟩, ⟨by repeat (first | (with_reducible first | exact HK.out | apply KeepBut.set_ | apply keep_drewN | apply keep_drew | apply keep_alloc | refine keep_far ?_ GW241.out _) | exact HK.out)⟩, ⟨by repeat (first | (with_reducible first | exact HB.out | apply below_alloc | apply pw_below_drewN | apply below_drew1 | refine below_set ?_ (IsS86.ge HI0.out) | refine below_set ?_ GE241.out) | exact HB.out)⟩⟩
  case rest =>
    clear HC7
    try clear c1
    try clear c2
    try clear p2
    try clear c4
    try clear c5
    try clear c15
    try clear c15b0
    try clear c16
    try clear c16b0
    try clear c17
    try clear c17b0
    try clear c18
    try clear c18b0
    try clear c18b1
    try clear c19
    try clear c19b0
    try clear c20
    try clear c20b0
    try clear c20b1
    try clear c21
    try clear c21b0
    try clear c21b1
    try clear c22
    try clear c22b0
    try clear c22b1
    try clear c23
    try clear c23b0
    try clear c24
    try clear c24b0
    try clear c24b1
    try clear c25
    try clear c25b0
    try clear c25b1
    try clear c26
    try clear c26b0
    try clear c26b1
    try clear c27
    try clear c27b0
    try clear c28
    try clear c28b0
    try clear c28b1
    try clear c29
    try clear c29b0
    try clear c29b1
    obtain ⟨kq, x44_6, rfl, HA, HJ6, BK241, HI0, HK, HB⟩ := hcut
    cases kq with
    | zero => exact absurd HA.out (by simp [spec_l2Draw.j0])
    | succ kj6 =>
      have H := HA.out
      clear HA
      simp only [spec_l2Draw.j0] at H
      have HC30 := Aside0.mk H
      clear H
      go_upto_if 44 with (fail)
      go_cut [9] (fun v9 wc => ∃ (kq : Nat) (x9_29 : Int) (x1001_29 : Int), v9 = .int .i64 x9_29 ∧ Aside0 (spec_l2Draw.j1 kq a1 a2 t242 t244 x9_29 s0_0 x1001_29 = some (r1, r2, r3, r4, r5, r6, r7)) ∧ Aside0 (kq ≤ kj6) ∧ Aside0 (wc.heap[gb241]? = some (.cells #[.int .i64 0, .int .i64 0, .int .i64 0, .int .i64 0, (.slice none 0 0), (.slice none 0 0)] 29 (0, 0))) ∧ Aside0 (IsS86 w0 wc g s0_0 x1001_29) ∧ Aside0 (KeepBut w wc g none) ∧ Aside0 (Below w0.heap.size w0 wc))
      case first =>
        have H := HC30.out
        clear HC30
        by_cases c31 : x44_6 = true
        · subst c31
          have H1 : ((spec_l11Rd_num.f kj6 s0_0 t250 (([1, 2, 3, 4, 5] : List Int))).bind fun bt254 => (spec_l2Draw.j1 kj6 a1 a2 t242 t244 bt254.1 s0_0 bt254.2)) = some (r1, r2, r3, r4, r5, r6, r7) := by rw [if_pos rfl] at H; exact H
          clear H
          have H := H1
          clear H1
          obtain ⟨y251, hy251⟩ : ∃ y_ : List Int, y_ = (([1, 2, 3, 4, 5] : List Int)) := ⟨_, rfl⟩
          replace H : ((spec_l11Rd_num.f kj6 s0_0 t250 y251).bind fun bt254 => (spec_l2Draw.j1 kj6 a1 a2 t242 t244 bt254.1 s0_0 bt254.2)) = some (r1, r2, r3, r4, r5, r6, r7) := by first | (rw [hy251]; with_reducible exact H) | (have H2_ := (Option.bind_some _ _).symm.trans H; rw [hy251]; with_reducible exact H2_) | (have H2_ := (Option.bind_some _ _).symm.trans H; with_reducible exact H2_) | with_reducible exact H | (rw [hy251]; exact H) | exact H
          have Ny251 := Aside0.mk hy251
          clear hy251
          replace H := Option.bind_eq_some_iff.mp H
          obtain ⟨⟨t254, t255⟩, A320, H⟩ := H
          replace H : (spec_l2Draw.j1 kj6 a1 a2 t242 t244 t254 s0_0 t255) = some (r1, r2, r3, r4, r5, r6, r7) := H
          have A32 := Aside0.mk A320
          clear A320
          have H' := Aside0.mk H
          clear H
          go_wp2_with (first | ((with_reducible refine gate_dst (N := 46) rfl ?_); refine Kd.R_lit (Kd.int .i64) _ 3 ?hg (N := 46) ?hd (xs := ([1, 2, 3, 4, 5] : List Int)) (inner := [.int .i64 1, .int .i64 2, .int .i64 3, .int .i64 4, .int .i64 5]) (ok := fun _ => True) (okp := fun _ => True) ?hr ?hp (fun _ hk => hk) trivial (Below.refl _ _) (Nat.le_refl _) (by simp) ?_; (case hd => rfl); (case hg => rfl); (case hr => first | (go_simp; done) | (go_simp; rfl)); (case hp => exact (Reps.one (show Kd.M (Kd.int .i64) _ _ _ 1 [.int .i64 1] from rfl) (Reps.one (show Kd.M (Kd.int .i64) _ _ _ 2 [.int .i64 2] from rfl) (Reps.one (show Kd.M (Kd.int .i64) _ _ _ 3 [.int .i64 3] from rfl) (Reps.one (show Kd.M (Kd.int .i64) _ _ _ 4 [.int .i64 4] from rfl) (Reps.one (show Kd.M (Kd.int .i64) _ _ _ 5 [.int .i64 5] from rfl) (Reps.none _ _))))))); intro v252 w33 ho34 hb hg_ hnew_; clear hg_ hnew_; (first | rw [← Ny251.out] at ho34 | (simp only [Int.reduceToNat] at ho34; rw [← Ny251.out] at ho34)); have n0_ := Aside0.mk (Kd.R_lower ho34 (keep_size (w := w) (g := g) (row := none) (q18_ HK GW241))); have n1_ := Aside0.mk (blk_below (g := gb241) (o := .cells #[.int .i64 0, .int .i64 0, .int .i64 0, .int .i64 0, .slice none 0 0, .slice none 0 0] 29 (0, 0)) (q1_ BK241) hb); have n2_ := Aside0.mk (IsS86.below (q16_ HI0 NB0_241) hb); have n3_ := Aside0.mk (KeepBut.trans (q18_ HK GW241) (KeepBut.of_below hb g none) (.inl rfl)); have n4_ := Aside0.mk (below_step (q17_ HB HI0 GE241) hb); clear BK241; clear HI0; clear HK; clear HB; have HO253 := n0_; have BK241 := n1_; have HI0 := n2_; have HK := n3_; have HB := n4_; clear n0_ n1_ n2_ n3_ n4_; clear hb ho34; obtain ⟨Ao35, co35, eo35⟩ := Kd.R_slice HO253.out; subst eo35) | ((with_reducible refine gate_callee (f := 51) rfl ?_); refine goesL_ (some 47) rfl rfl Try.func51 (by kernel_rfl) rfl #[.pointer (some ⟨g, 0, none⟩), .slice Ao35 y251.length co35] rfl (by (try simp only [List.map_toArray, List.map_cons, List.map_nil]); first | done | rfl | (simp only [List.length_drop, List.length_take]; rfl)) ?_; (with_reducible refine (spec_l11Rd_num.calls kj6 g s0_0 t250 _ _ y251 t254 t255 w0 _ ?side1 ?side2 ?side3 ?side4 ?side5 A32.out).mono ?_); (case side1 => exact q16_ HI0 NB0_241); (case side2 => exact q17_ HB HI0 GE241); (case side3 => repeat (first | exact (Kd.R_reads' HO253.out).2.2 | (with_reducible refine Kd.C_alloc ?_ _) | (with_reducible refine Kd.C_drewN ?_ _) | (with_reducible refine Kd.C_drew ?_))); (case side4 => exact (Kd.R_reads' HO253.out).2.1); (case side5 => exact far_slice (IsS86.own_ne HI0.out HO253.out (by decide))); rintro e w36 ⟨rfl, hi, hb, hk⟩; refine ⟨_, rfl, ?_⟩; have n0_ := Aside0.mk (KeepBut.blk hk (g' := gb241) (o := .cells #[.int .i64 0, .int .i64 0, .int .i64 0, .int .i64 0, .slice none 0 0, .slice none 0 0] 29 (0, 0)) (q1_ BK241) NB241_0.out (by simp)); have n1_ := Aside0.mk (Kd.R_mono (Kd.R_keep (IsS86.apart (show IsS86 w0 _ g s0_0 t250 from by repeat (first | (with_reducible first | exact HI0.out | apply IsS86.alloc | apply IsS86.drewN | apply IsS86.drew | apply IsS86.set_1 | refine IsS86.far ?_ NB0_241.out _) | exact HI0.out)) (q7_ HO253) (by decide)) hk (fun _ h => h.2)) (fun _ h => h.1)); have n2_ := Aside0.mk (KeepBut.trans (q18_ HK GW241) hk (.inl rfl)); have n3_ := Aside0.mk (hb); have n4_ := Aside0.mk (hi); clear BK241; clear HO253; clear HK; clear HB; clear HI0; have BK241 := n0_; have HO253 := n1_; have HK := n2_; have HB := n3_; have HI0 := n4_; clear n0_ n1_ n2_ n3_ n4_; (try clear hb); (try clear hb2); (try clear hk); (try clear hi)))
          go_meet
          case rel => exact ⟨_, (t254), (t255), (by first | rfl | (simp; done) | (simp [*]; done)), H', ⟨by have := HJ6.out; first | omega | exact Nat.le_refl _⟩, ⟨by (with_reducible repeat (first | refine blk_drewN ?_ _ | refine blk_drew ?_ | refine blk_alloc ?_ _)); exact BK241.out⟩, ⟨by repeat (first | (with_reducible first | exact HI0.out | apply IsS86.alloc | apply IsS86.drewN | apply IsS86.drew | apply IsS86.set_1 | refine IsS86.far ?_ NB0_241.out _) | exact HI0.out)⟩, ⟨by repeat (first | (with_reducible first | exact HK.out | apply KeepBut.set_ | apply keep_drewN | apply keep_drew | apply keep_alloc | refine keep_far ?_ GW241.out _) | exact HK.out)⟩, ⟨by repeat (first | (with_reducible first | exact HB.out | apply below_alloc | apply pw_below_drewN | apply below_drew1 | refine below_set ?_ (IsS86.ge HI0.out) | refine below_set ?_ GE241.out) | exact HB.out)⟩⟩
        · replace c31 := Bool.eq_false_iff.mpr c31
          subst c31
          have H1 : (spec_l2Draw.j1 kj6 a1 a2 t242 t244 t249 s0_0 t250) = some (r1, r2, r3, r4, r5, r6, r7) := by rw [if_neg (show ¬ (false = true) by decide)] at H; exact H
          clear H
          have H := H1
          clear H1
          have H' := Aside0.mk H
          clear H
          go_wp2
          go_meet
          case rel => exact ⟨_, (t249), (t250), (by first | rfl | (simp; done) | (simp [*]; done)), H', ⟨by have := HJ6.out; first | omega | exact Nat.le_refl _⟩, ⟨by (with_reducible repeat (first | refine blk_drewN ?_ _ | refine blk_drew ?_ | refine blk_alloc ?_ _)); exact BK241.out⟩, ⟨by repeat (first | (with_reducible first | exact HI0.out | apply IsS86.alloc | apply IsS86.drewN | apply IsS86.drew | apply IsS86.set_1 | refine IsS86.far ?_ NB0_241.out _) | exact HI0.out)⟩, ⟨by repeat (first | (with_reducible first | exact HK.out | apply KeepBut.set_ | apply keep_drewN | apply keep_drew | apply keep_alloc | refine keep_far ?_ GW241.out _) | exact HK.out)⟩, ⟨by repeat (first | (with_reducible first | exact HB.out | apply below_alloc | apply pw_below_drewN | apply below_drew1 | refine below_set ?_ (IsS86.ge HI0.out) | refine below_set ?_ GE241.out) | exact HB.out)⟩⟩
      case rest =>
        clear HC30
        try clear c1
        try clear c2
        try clear p2
        try clear c3
        try clear c4
        try clear c5
        try clear c15
        try clear c15b0
        try clear c16
        try clear c16b0
        try clear c17
        try clear c17b0
        try clear c18
        try clear c18b0
        try clear c18b1
        try clear c19
        try clear c19b0
        try clear c20
        try clear c20b0
        try clear c20b1
        try clear c21
        try clear c21b0
        try clear c21b1
        try clear c22
        try clear c22b0
        try clear c22b1
        try clear c23
        try clear c23b0
        try clear c24
        try clear c24b0
        try clear c24b1
        try clear c25
        try clear c25b0
        try clear c25b1
        try clear c26
        try clear c26b0
        try clear c26b1
        try clear c27
        try clear c27b0
        try clear c28
        try clear c28b0
        try clear c28b1
        try clear c29
        try clear c29b0
        try clear c29b1
        try clear c31
        try clear p2
        obtain ⟨kq, x9_29, x1001_29, rfl, HA, HJ29, BK241, HI0, HK, HB⟩ := hcut
        cases kq with
        | zero => exact absurd HA.out (by simp [spec_l2Draw.j1])
        | succ kj29 =>
          have H := HA.out
          clear HA
          simp only [spec_l2Draw.j1] at H
          by_cases c37 : x9_29 = 1
          · rw [if_pos c37] at H
            have c37b0 : (x9_29 == 1) = true := beq_iff_eq.mpr c37
            have c37b1 : (x9_29 != 1) = false := bne_eq_false_iff_eq.mpr c37
            clear c37
            obtain ⟨y256, hy256⟩ : ∃ y_ : List Int, y_ = (([0, 1, 2, 3, (-1), 5] : List Int)) := ⟨_, rfl⟩
            replace H : ((spec_l11Rd_num.f kj29 s0_0 x1001_29 y256).bind fun bt259 => (some (x9_29, t242, 0, bt259.1, ([] : List (S29)), ([] : List (S29)), bt259.2))) = some (r1, r2, r3, r4, r5, r6, r7) := by first | (rw [hy256]; with_reducible exact H) | (have H2_ := (Option.bind_some _ _).symm.trans H; rw [hy256]; with_reducible exact H2_) | (have H2_ := (Option.bind_some _ _).symm.trans H; with_reducible exact H2_) | with_reducible exact H | (rw [hy256]; exact H) | exact H
            have Ny256 := Aside0.mk hy256
            clear hy256
            replace H := Option.bind_eq_some_iff.mp H
            obtain ⟨⟨t259, t260⟩, A380, H⟩ := H
            replace H : (some (x9_29, t242, 0, t259, ([] : List (S29)), ([] : List (S29)), t260)) = some (r1, r2, r3, r4, r5, r6, r7) := H
            have A38 := Aside0.mk A380
            clear A380
            simp only [Option.some.injEq, Prod.mk.injEq] at H
            obtain ⟨rfl, rfl, rfl, rfl, rfl, rfl, rfl⟩ := H
            go_wp2_with (first | ((with_reducible refine gate_dst (N := 54) rfl ?_); refine Kd.R_lit (Kd.int .i64) _ 3 ?hg (N := 54) ?hd (xs := ([0, 1, 2, 3, (-1), 5] : List Int)) (inner := [.int .i64 0, .int .i64 1, .int .i64 2, .int .i64 3, .int .i64 (-1), .int .i64 5]) (ok := fun _ => True) (okp := fun _ => True) ?hr ?hp (fun _ hk => hk) trivial (Below.refl _ _) (Nat.le_refl _) (by simp) ?_; (case hd => rfl); (case hg => rfl); (case hr => first | (go_simp; done) | (go_simp; rfl)); (case hp => exact (Reps.one (show Kd.M (Kd.int .i64) _ _ _ 0 [.int .i64 0] from rfl) (Reps.one (show Kd.M (Kd.int .i64) _ _ _ 1 [.int .i64 1] from rfl) (Reps.one (show Kd.M (Kd.int .i64) _ _ _ 2 [.int .i64 2] from rfl) (Reps.one (show Kd.M (Kd.int .i64) _ _ _ 3 [.int .i64 3] from rfl) (Reps.one (show Kd.M (Kd.int .i64) _ _ _ (-1) [.int .i64 (-1)] from rfl) (Reps.one (show Kd.M (Kd.int .i64) _ _ _ 5 [.int .i64 5] from rfl) (Reps.none _ _)))))))); intro v257 w39 ho40 hb hg_ hnew_; clear hg_ hnew_; (first | rw [← Ny256.out] at ho40 | (simp only [Int.reduceToNat] at ho40; rw [← Ny256.out] at ho40)); have n0_ := Aside0.mk (Kd.R_lower ho40 (keep_size (w := w) (g := g) (row := none) (q18_ HK GW241))); have n1_ := Aside0.mk (blk_below (g := gb241) (o := .cells #[.int .i64 0, .int .i64 0, .int .i64 0, .int .i64 0, .slice none 0 0, .slice none 0 0] 29 (0, 0)) (q1_ BK241) hb); have n2_ := Aside0.mk (IsS86.below (q16_ HI0 NB0_241) hb); have n3_ := Aside0.mk (KeepBut.trans (q18_ HK GW241) (KeepBut.of_below hb g none) (.inl rfl)); have n4_ := Aside0.mk (below_step (q17_ HB HI0 GE241) hb); clear BK241; clear HI0; clear HK; clear HB; have HO258 := n0_; have BK241 := n1_; have HI0 := n2_; have HK := n3_; have HB := n4_; clear n0_ n1_ n2_ n3_ n4_; clear hb ho40; obtain ⟨Ao41, co41, eo41⟩ := Kd.R_slice HO258.out; subst eo41) | ((with_reducible refine gate_callee (f := 51) rfl ?_); refine goesL_ (some 55) rfl rfl Try.func51 (by kernel_rfl) rfl #[.pointer (some ⟨g, 0, none⟩), .slice Ao41 y256.length co41] rfl (by (try simp only [List.map_toArray, List.map_cons, List.map_nil]); first | done | rfl | (simp only [List.length_drop, List.length_take]; rfl)) ?_; (with_reducible refine (spec_l11Rd_num.calls kj29 g s0_0 x1001_29 _ _ y256 t259 t260 w0 _ ?side1 ?side2 ?side3 ?side4 ?side5 A38.out).mono ?_); (case side1 => exact q16_ HI0 NB0_241); (case side2 => exact q17_ HB HI0 GE241); (case side3 => repeat (first | exact (Kd.R_reads' HO258.out).2.2 | (with_reducible refine Kd.C_alloc ?_ _) | (with_reducible refine Kd.C_drewN ?_ _) | (with_reducible refine Kd.C_drew ?_))); (case side4 => exact (Kd.R_reads' HO258.out).2.1); (case side5 => exact far_slice (IsS86.own_ne HI0.out HO258.out (by decide))); rintro e w42 ⟨rfl, hi, hb, hk⟩; refine ⟨_, rfl, ?_⟩; have n0_ := Aside0.mk (KeepBut.blk hk (g' := gb241) (o := .cells #[.int .i64 0, .int .i64 0, .int .i64 0, .int .i64 0, .slice none 0 0, .slice none 0 0] 29 (0, 0)) (q1_ BK241) NB241_0.out (by simp)); have n1_ := Aside0.mk (Kd.R_mono (Kd.R_keep (IsS86.apart (show IsS86 w0 _ g s0_0 x1001_29 from by repeat (first | (with_reducible first | exact HI0.out | apply IsS86.alloc | apply IsS86.drewN | apply IsS86.drew | apply IsS86.set_1 | refine IsS86.far ?_ NB0_241.out _) | exact HI0.out)) (q7_ HO258) (by decide)) hk (fun _ h => h.2)) (fun _ h => h.1)); have n2_ := Aside0.mk (KeepBut.trans (q18_ HK GW241) hk (.inl rfl)); have n3_ := Aside0.mk (hb); have n4_ := Aside0.mk (hi); clear BK241; clear HO258; clear HK; clear HB; clear HI0; have BK241 := n0_; have HO258 := n1_; have HK := n2_; have HB := n3_; have HI0 := n4_; clear n0_ n1_ n2_ n3_ n4_; (try clear hb); (try clear hb2); (try clear hk); (try clear hi); have hnb43 := NB241_0.out; have hnc43 := NB0_241.out; obtain ⟨hcz44_0, hcz44_1, hcz44_2, hcz44_3, hcz44_4, hcz44_5, hfz44_0, hfz44_1, hfz44_2, hfz44_3, hfz44_4, hfz44_5⟩ := bz6_ BK241))
            refine bodyPost_ret (results_cell_row rfl _ _ gb241 29 #[.int .i64 x9_29, .int .i64 t242, .int .i64 0, .int .i64 t259, .slice none 0 0, .slice none 0 0] (0, 0) _ rfl (q9_ BK241) Try.underlying29 rfl (by kernel_rfl)) rfl ?_
            exact ⟨_, _, by first | rfl | (simp [errW_none, errW_some] <;> rfl) | (simp [*, errW_none, errW_some] <;> rfl), by first | exact Kd.R_nil _ _ _ _ _ | exact Kd.N_nil _ _ _ _ _ | exact Kd.V_nil _ _ _ _ _ | exact Kd.Q_nil _ _ _ _ _ | exact Kd.S_nil _ _ _ _ _, by first | exact Kd.R_nil _ _ _ _ _ | exact Kd.N_nil _ _ _ _ _ | exact Kd.V_nil _ _ _ _ _ | exact Kd.Q_nil _ _ _ _ _ | exact Kd.S_nil _ _ _ _ _, by repeat (first | (with_reducible first | exact HI0.out | apply IsS86.alloc | apply IsS86.drewN | apply IsS86.drew | apply IsS86.set_1 | refine IsS86.far ?_ NB0_241.out _) | exact HI0.out), by repeat (first | (with_reducible first | exact HB.out | apply below_alloc | apply pw_below_drewN | apply below_drew1 | refine below_set ?_ (IsS86.ge HI0.out) | refine below_set ?_ GE241.out) | exact HB.out), by repeat (first | (with_reducible first | exact HK.out | apply KeepBut.set_ | apply keep_drewN | apply keep_drew | apply keep_alloc | refine keep_far ?_ GW241.out _) | exact HK.out)⟩
          · rw [if_neg c37] at H
            have c37b0 : (x9_29 == 1) = false := beq_eq_false_iff_ne.mpr c37
            have c37b1 : (x9_29 != 1) = true := bne_iff_ne.mpr c37
            by_cases c45 : x9_29 = 2
            · rw [if_pos c45] at H
              have c45b0 : (x9_29 == 2) = true := beq_iff_eq.mpr c45
              have c45b1 : (x9_29 != 2) = false := bne_eq_false_iff_eq.mpr c45
              clear c45
              replace H := Option.bind_eq_some_iff.mp H
              obtain ⟨⟨t261, t262⟩, A460, H⟩ := H
              replace H : (some (x9_29, t242, t244, wrap64 (1 + t261), ([] : List (S29)), ([] : List (S29)), t262)) = some (r1, r2, r3, r4, r5, r6, r7) := H
              have A46 := Aside0.mk A460
              clear A460
              simp only [Option.some.injEq, Prod.mk.injEq] at H
              obtain ⟨rfl, rfl, rfl, rfl, rfl, rfl, rfl⟩ := H
              go_wp2_with (first | ((with_reducible refine gate_callee (f := 48) rfl ?_); refine goesL_ (some 63) rfl rfl Try.func48 (by kernel_rfl) rfl #[.pointer (some ⟨g, 0, none⟩), .int .i64 5] rfl (by (try simp only [List.map_toArray, List.map_cons, List.map_nil]); first | done | rfl | (simp only [List.length_drop, List.length_take]; rfl)) ?_; (with_reducible refine (spec_l11Rd_pick.calls kj29 g s0_0 x1001_29 5 t261 t262 w0 _ ?side1 ?side2 A46.out).mono ?_); (case side1 => exact q16_ HI0 NB0_241); (case side2 => exact q17_ HB HI0 GE241); rintro e w47 ⟨rfl, hi, hb, hk⟩; refine ⟨_, rfl, ?_⟩; have n0_ := Aside0.mk (KeepBut.blk hk (g' := gb241) (o := .cells #[.int .i64 0, .int .i64 0, .int .i64 0, .int .i64 0, .slice none 0 0, .slice none 0 0] 29 (0, 0)) (q1_ BK241) NB241_0.out (by simp)); have n1_ := Aside0.mk (KeepBut.trans (q18_ HK GW241) hk (.inl rfl)); have n2_ := Aside0.mk (hb); have n3_ := Aside0.mk (hi); clear BK241; clear HK; clear HB; clear HI0; have BK241 := n0_; have HK := n1_; have HB := n2_; have HI0 := n3_; clear n0_ n1_ n2_ n3_; (try clear hb); (try clear hb2); (try clear hk); (try clear hi); have hnb48 := NB241_0.out; have hnc48 := NB0_241.out; obtain ⟨hcz49_0, hcz49_1, hcz49_2, hcz49_3, hcz49_4, hcz49_5, hfz49_0, hfz49_1, hfz49_2, hfz49_3, hfz49_4, hfz49_5⟩ := bz6_ BK241))
              refine bodyPost_ret (results_cell_row rfl _ _ gb241 29 #[.int .i64 x9_29, .int .i64 t242, .int .i64 t244, .int .i64 (wrap64 (1 + t261)), .slice none 0 0, .slice none 0 0] (0, 0) _ rfl (q9_ BK241) Try.underlying29 rfl (by kernel_rfl)) rfl ?_
              exact ⟨_, _, by first | rfl | (simp [errW_none, errW_some] <;> rfl) | (simp [*, errW_none, errW_some] <;> rfl), by first | exact Kd.R_nil _ _ _ _ _ | exact Kd.N_nil _ _ _ _ _ | exact Kd.V_nil _ _ _ _ _ | exact Kd.Q_nil _ _ _ _ _ | exact Kd.S_nil _ _ _ _ _, by first | exact Kd.R_nil _ _ _ _ _ | exact Kd.N_nil _ _ _ _ _ | exact Kd.V_nil _ _ _ _ _ | exact Kd.Q_nil _ _ _ _ _ | exact Kd.S_nil _ _ _ _ _, by repeat (first | (with_reducible first | exact HI0.out | apply IsS86.alloc | apply IsS86.drewN | apply IsS86.drew | apply IsS86.set_1 | refine IsS86.far ?_ NB0_241.out _) | exact HI0.out), by repeat (first | (with_reducible first | exact HB.out | apply below_alloc | apply pw_below_drewN | apply below_drew1 | refine below_set ?_ (IsS86.ge HI0.out) | refine below_set ?_ GE241.out) | exact HB.out), by repeat (first | (with_reducible first | exact HK.out | apply KeepBut.set_ | apply keep_drewN | apply keep_drew | apply keep_alloc | refine keep_far ?_ GW241.out _) | exact HK.out)⟩
            · rw [if_neg c45] at H
              have c45b0 : (x9_29 == 2) = false := beq_eq_false_iff_ne.mpr c45
              have c45b1 : (x9_29 != 2) = true := bne_iff_ne.mpr c45
              have HC50 := Aside0.mk H
              clear H
              go_upto_if 66 with (fail)
              go_cut [66] (fun v66 wc => ∃ (kq : Nat) (x66_49 : Bool), v66 = .bool x66_49 ∧ Aside0 (spec_l2Draw.j2 kq a1 a2 t242 t244 x9_29 x9_29 x66_49 s0_0 x1001_29 = some (r1, r2, r3, r4, r5, r6, r7)) ∧ Aside0 (kq ≤ kj29) ∧ Aside0 (wc.heap[gb241]? = some (.cells #[.int .i64 0, .int .i64 0, .int .i64 0, .int .i64 0, (.slice none 0 0), (.slice none 0 0)] 29 (0, 0))) ∧ Aside0 (IsS86 w0 wc g s0_0 x1001_29) ∧ Aside0 (KeepBut w wc g none) ∧ Aside0 (Below w0.heap.size w0 wc))
              case first =>
                have H := HC50.out
                clear HC50
                by_cases c51 : x9_29 = 3
                · rw [if_pos c51] at H
                  have c51b0 : (x9_29 == 3) = true := beq_iff_eq.mpr c51
                  have c51b1 : (x9_29 != 3) = false := bne_eq_false_iff_eq.mpr c51
                  clear c51
                  (first | rw [c51b0] | (simp only [i64_w, i32_w]; rw [c51b0]) | skip)
                  have H' := Aside0.mk H
                  clear H
                  go_wp2
                  go_meet
                  case rel => exact ⟨_, ((x9_29 == 3)), (by first | rfl | (simp; done) | (simp [*]; done)), H', ⟨by have := HJ6.out; have := HJ29.out; first | omega | exact Nat.le_refl _⟩, ⟨by (with_reducible repeat (first | refine blk_drewN ?_ _ | refine blk_drew ?_ | refine blk_alloc ?_ _)); exact BK241.out⟩, ⟨by repeat (first | (with_reducible first | exact HI0.out | apply IsS86.alloc | apply IsS86.drewN | apply IsS86.drew | apply IsS86.set_1 | refine IsS86.far ?_ NB0_241.out _) | exact HI0.out)⟩, ⟨by repeat (first | (with_reducible first | exact HK.out | apply KeepBut.set_ | apply keep_drewN | apply keep_drew | apply keep_alloc | refine keep_far ?_ GW241.out _) | exact HK.out)⟩, ⟨by repeat (first | (with_reducible first | exact HB.out | apply below_alloc | apply pw_below_drewN | apply below_drew1 | refine below_set ?_ (IsS86.ge HI0.out) | refine below_set ?_ GE241.out) | exact HB.out)⟩⟩
                · rw [if_neg c51] at H
                  have c51b0 : (x9_29 == 3) = false := beq_eq_false_iff_ne.mpr c51
                  have c51b1 : (x9_29 != 3) = true := bne_iff_ne.mpr c51
                  (first | rw [c51b0] | (simp only [i64_w, i32_w]; rw [c51b0]) | skip)
                  have H' := Aside0.mk H
                  clear H
                  go_wp2
                  go_meet
                  case rel => exact ⟨_, ((x9_29 == 4)), (by first | rfl | (simp; done) | (simp [*]; done)), H', ⟨by have := HJ6.out; have := HJ29.out; first | omega | exact Nat.le_refl _⟩, ⟨by (with_reducible repeat (first | refine blk_drewN ?_ _ | refine blk_drew ?_ | refine blk_alloc ?_ _)); exact BK241.out⟩, ⟨by repeat (first | (with_reducible first | exact HI0.out | apply IsS86.alloc | apply IsS86.drewN | apply IsS86.drew | apply IsS86.set_1 | refine IsS86.far ?_ NB0_241.out _) | exact HI0.out)⟩, ⟨by repeat (first | (with_reducible first | exact HK.out | apply KeepBut.set_ | apply keep_drewN | apply keep_drew | apply keep_alloc | refine keep_far ?_ GW241.out _) | exact HK.out)⟩, ⟨by repeat (first | (with_reducible first | exact HB.out | apply below_alloc | apply pw_below_drewN | apply below_drew1 | refine below_set ?_ (IsS86.ge HI0.out) | refine below_set ?_ GE241.out) | exact HB.out)⟩⟩
              case rest =>
                clear HC50
                try clear c1
                try clear c2
                try clear p2
                try clear c3
                try clear c4
                try clear c5
                try clear p6
                try clear c15
                try clear c15b0
                try clear c16
                try clear c16b0
                try clear c17
                try clear c17b0
                try clear c18
                try clear c18b0
                try clear c18b1
                try clear c19
                try clear c19b0
                try clear c20
                try clear c20b0
                try clear c20b1
                try clear c21
                try clear c21b0
                try clear c21b1
                try clear c22
                try clear c22b0
                try clear c22b1
                try clear c23
                try clear c23b0
                try clear c24
                try clear c24b0
                try clear c24b1
                try clear c25
                try clear c25b0
                try clear c25b1
                try clear c26
                try clear c26b0
                try clear c26b1
                try clear c27
                try clear c27b0
                try clear c28
                try clear c28b0
                try clear c28b1
                try clear c29
                try clear c29b0
                try clear c29b1
                try clear c31
                try clear c37
                try clear c37b0
                try clear c37b1
                try clear c43
                try clear c45
                try clear c45b0
                try clear c45b1
                try clear c48
                try clear c50
                try clear c51
                try clear c51b0
                try clear c51b1
                try clear hcz44_0
                try clear hcz44_1
                try clear hcz44_2
                try clear hcz44_3
                try clear hcz44_4
                try clear hcz44_5
                try clear hcz49_0
                try clear hcz49_1
                try clear hcz49_2
                try clear hcz49_3
                try clear hcz49_4
                try clear hcz49_5
                try clear hfz44_0
                try clear hfz44_1
                try clear hfz44_2
                try clear hfz44_3
                try clear hfz44_4
                try clear hfz44_5
                try clear hfz49_0
                try clear hfz49_1
                try clear hfz49_2
                try clear hfz49_3
                try clear hfz49_4
                try clear hfz49_5
                try clear p2
                obtain ⟨kq, x66_49, rfl, HA, HJ49, BK241, HI0, HK, HB⟩ := hcut
                cases kq with
                | zero => exact absurd HA.out (by simp [spec_l2Draw.j2])
                | succ kj49 =>
                  have H := HA.out
                  clear HA
                  simp only [spec_l2Draw.j2] at H
                  by_cases c52 : x66_49 = true
                  · subst c52
                    have H1 : (some (x9_29, t242, t244, 0, ([] : List (S29)), ([] : List (S29)), x1001_29)) = some (r1, r2, r3, r4, r5, r6, r7) := by rw [if_pos rfl] at H; exact H
                    clear H
                    have H := H1
                    clear H1
                    simp only [Option.some.injEq, Prod.mk.injEq] at H
                    obtain ⟨rfl, rfl, rfl, rfl, rfl, rfl, rfl⟩ := H
                    have hnb53 := NB241_0.out
                    have hnc53 := NB0_241.out
                    have hcz54_0 : wc.cell? ⟨gb241, 0, none⟩ = some (.int .i64 0) := (blk_cell BK241.out 0).trans rfl
                    have hcz54_1 : wc.cell? ⟨gb241, 1, none⟩ = some (.int .i64 0) := (blk_cell BK241.out 1).trans rfl
                    have hcz54_2 : wc.cell? ⟨gb241, 2, none⟩ = some (.int .i64 0) := (blk_cell BK241.out 2).trans rfl
                    have hcz54_3 : wc.cell? ⟨gb241, 3, none⟩ = some (.int .i64 0) := (blk_cell BK241.out 3).trans rfl
                    have hcz54_4 : wc.cell? ⟨gb241, 4, none⟩ = some (.slice none 0 0) := (blk_cell BK241.out 4).trans rfl
                    have hcz54_5 : wc.cell? ⟨gb241, 5, none⟩ = some (.slice none 0 0) := (blk_cell BK241.out 5).trans rfl
                    have hfz54_0 := blk_frozen BK241.out 0
                    have hfz54_1 := blk_frozen BK241.out 1
                    have hfz54_2 := blk_frozen BK241.out 2
                    have hfz54_3 := blk_frozen BK241.out 3
                    have hfz54_4 := blk_frozen BK241.out 4
                    have hfz54_5 := blk_frozen BK241.out 5
                    go_wp2
                    refine bodyPost_ret (results_cell_row rfl _ _ gb241 29 #[.int .i64 x9_29, .int .i64 t242, .int .i64 t244, .int .i64 0, .slice none 0 0, .slice none 0 0] (0, 0) _ rfl (q9_ BK241) Try.underlying29 rfl (by kernel_rfl)) rfl ?_
                    exact ⟨_, _, by first | rfl | (simp [errW_none, errW_some] <;> rfl) | (simp [*, errW_none, errW_some] <;> rfl), by first | exact Kd.R_nil _ _ _ _ _ | exact Kd.N_nil _ _ _ _ _ | exact Kd.V_nil _ _ _ _ _ | exact Kd.Q_nil _ _ _ _ _ | exact Kd.S_nil _ _ _ _ _, by first | exact Kd.R_nil _ _ _ _ _ | exact Kd.N_nil _ _ _ _ _ | exact Kd.V_nil _ _ _ _ _ | exact Kd.Q_nil _ _ _ _ _ | exact Kd.S_nil _ _ _ _ _, by repeat (first | (with_reducible first | exact HI0.out | apply IsS86.alloc | apply IsS86.drewN | apply IsS86.drew | apply IsS86.set_1 | refine IsS86.far ?_ NB0_241.out _) | exact HI0.out), by repeat (first | (with_reducible first | exact HB.out | apply below_alloc | apply pw_below_drewN | apply below_drew1 | refine below_set ?_ (IsS86.ge HI0.out) | refine below_set ?_ GE241.out) | exact HB.out), by repeat (first | (with_reducible first | exact HK.out | apply KeepBut.set_ | apply keep_drewN | apply keep_drew | apply keep_alloc | refine keep_far ?_ GW241.out _) | exact HK.out)⟩
                  · replace c52 := Bool.eq_false_iff.mpr c52
                    subst c52
                    have H1 : (if x9_29 = 5 then (some (x9_29, t242, 0, 0, ([] : List (S29)), ([] : List (S29)), x1001_29)) else (if x9_29 = 6 then ((spec_l2Draws.f kj49 s0_0 x1001_29 (wrap64 (a1 - 1)) a2 2).bind fun bt263 => ((spec_l2Draws.f kj49 s0_0 bt263.2 (wrap64 (a1 - 1)) a2 2).bind fun bt267 => (some (x9_29, t242, 0, 0, bt263.1, bt267.1, bt267.2)))) else (if x9_29 = 7 then ((spec_l2Draws.f kj49 s0_0 x1001_29 (wrap64 (a1 - 1)) a2 2).bind fun bt271 => ((spec_l11Rd_num.f kj49 s0_0 bt271.2 (([0, 0, 0, 0, 0, 1] : List Int))).bind fun bt278 => (if bt271.1.length < 1759218604441 then (some (x9_29, t242, 0, 0, (bt271.1 ++ [(⟨1, t242, 0, bt278.1, ([] : List (S29)), ([] : List (S29))⟩ : S29)]), ([] : List (S29)), bt278.2)) else (none)))) else (if x9_29 = 8 then ((spec_l11Rd_pick.f kj49 s0_0 x1001_29 2).bind fun bt283 => ((spec_l2Draws.f kj49 s0_0 bt283.2 (wrap64 (a1 - 1)) bt283.1 3).bind fun bt285 => (some (x9_29, bt283.1, 0, 0, bt285.1, ([] : List (S29)), bt285.2)))) else (if x9_29 = 9 then ((spec_l11Rd_pick.f kj49 s0_0 x1001_29 2).bind fun bt289 => (some (x9_29, bt289.1, 0, 0, ([] : List (S29)), ([] : List (S29)), bt289.2))) else (if x9_29 = 10 then ((spec_l11Rd_pick.f kj49 s0_0 x1001_29 2).bind fun bt291 => (some (x9_29, bt291.1, 0, 0, ([] : List (S29)), ([] : List (S29)), bt291.2))) else (some (11, 0, 0, 0, ([] : List (S29)), ([] : List (S29)), x1001_29)))))))) = some (r1, r2, r3, r4, r5, r6, r7) := by rw [if_neg (show ¬ (false = true) by decide)] at H; exact H
                    clear H
                    have H := H1
                    clear H1
                    by_cases c55 : x9_29 = 5
                    · rw [if_pos c55] at H
                      have c55b0 : (x9_29 == 5) = true := beq_iff_eq.mpr c55
                      have c55b1 : (x9_29 != 5) = false := bne_eq_false_iff_eq.mpr c55
                      clear c55
                      simp only [Option.some.injEq, Prod.mk.injEq] at H
                      obtain ⟨rfl, rfl, rfl, rfl, rfl, rfl, rfl⟩ := H
                      have hnb56 := NB241_0.out
                      have hnc56 := NB0_241.out
                      have hcz57_0 : wc.cell? ⟨gb241, 0, none⟩ = some (.int .i64 0) := (blk_cell BK241.out 0).trans rfl
                      have hcz57_1 : wc.cell? ⟨gb241, 1, none⟩ = some (.int .i64 0) := (blk_cell BK241.out 1).trans rfl
                      have hcz57_2 : wc.cell? ⟨gb241, 2, none⟩ = some (.int .i64 0) := (blk_cell BK241.out 2).trans rfl
                      have hcz57_3 : wc.cell? ⟨gb241, 3, none⟩ = some (.int .i64 0) := (blk_cell BK241.out 3).trans rfl
                      have hcz57_4 : wc.cell? ⟨gb241, 4, none⟩ = some (.slice none 0 0) := (blk_cell BK241.out 4).trans rfl
                      have hcz57_5 : wc.cell? ⟨gb241, 5, none⟩ = some (.slice none 0 0) := (blk_cell BK241.out 5).trans rfl
                      have hfz57_0 := blk_frozen BK241.out 0
                      have hfz57_1 := blk_frozen BK241.out 1
                      have hfz57_2 := blk_frozen BK241.out 2
                      have hfz57_3 := blk_frozen BK241.out 3
                      have hfz57_4 := blk_frozen BK241.out 4
                      have hfz57_5 := blk_frozen BK241.out 5
                      go_wp2
                      refine bodyPost_ret (results_cell_row rfl _ _ gb241 29 #[.int .i64 x9_29, .int .i64 t242, .int .i64 0, .int .i64 0, .slice none 0 0, .slice none 0 0] (0, 0) _ rfl (q9_ BK241) Try.underlying29 rfl (by kernel_rfl)) rfl ?_
                      exact ⟨_, _, by first | rfl | (simp [errW_none, errW_some] <;> rfl) | (simp [*, errW_none, errW_some] <;> rfl), by first | exact Kd.R_nil _ _ _ _ _ | exact Kd.N_nil _ _ _ _ _ | exact Kd.V_nil _ _ _ _ _ | exact Kd.Q_nil _ _ _ _ _ | exact Kd.S_nil _ _ _ _ _, by first | exact Kd.R_nil _ _ _ _ _ | exact Kd.N_nil _ _ _ _ _ | exact Kd.V_nil _ _ _ _ _ | exact Kd.Q_nil _ _ _ _ _ | exact Kd.S_nil _ _ _ _ _, by repeat (first | (with_reducible first | exact HI0.out | apply IsS86.alloc | apply IsS86.drewN | apply IsS86.drew | apply IsS86.set_1 | refine IsS86.far ?_ NB0_241.out _) | exact HI0.out), by repeat (first | (with_reducible first | exact HB.out | apply below_alloc | apply pw_below_drewN | apply below_drew1 | refine below_set ?_ (IsS86.ge HI0.out) | refine below_set ?_ GE241.out) | exact HB.out), by repeat (first | (with_reducible first | exact HK.out | apply KeepBut.set_ | apply keep_drewN | apply keep_drew | apply keep_alloc | refine keep_far ?_ GW241.out _) | exact HK.out)⟩
                    · rw [if_neg c55] at H
                      have c55b0 : (x9_29 == 5) = false := beq_eq_false_iff_ne.mpr c55
                      have c55b1 : (x9_29 != 5) = true := bne_iff_ne.mpr c55
                      by_cases c58 : x9_29 = 6
                      · rw [if_pos c58] at H
                        have c58b0 : (x9_29 == 6) = true := beq_iff_eq.mpr c58
                        have c58b1 : (x9_29 != 6) = false := bne_eq_false_iff_eq.mpr c58
                        clear c58
                        replace H := Option.bind_eq_some_iff.mp H
                        obtain ⟨⟨t263, t266⟩, A590, H⟩ := H
                        replace H : ((spec_l2Draws.f kj49 s0_0 t266 (wrap64 (a1 - 1)) a2 2).bind fun bt267 => (some (x9_29, t242, 0, 0, t263, bt267.1, bt267.2))) = some (r1, r2, r3, r4, r5, r6, r7) := H
                        have A59 := Aside0.mk A590
                        clear A590
                        replace H := Option.bind_eq_some_iff.mp H
                        obtain ⟨⟨t267, t270⟩, A600, H⟩ := H
                        replace H : (some (x9_29, t242, 0, 0, t263, t267, t270)) = some (r1, r2, r3, r4, r5, r6, r7) := H
                        have A60 := Aside0.mk A600
                        clear A600
                        simp only [Option.some.injEq, Prod.mk.injEq] at H
                        obtain ⟨rfl, rfl, rfl, rfl, rfl, rfl, rfl⟩ := H
                        go_wp2_with (first | ((with_reducible refine gate_callee (f := 69) rfl ?_); refine goesL_ (some 86) rfl rfl Try.func69 (by kernel_rfl) rfl #[.pointer (some ⟨g, 0, none⟩), .int .i64 (wrap64 (a1 - 1)), .int .i64 a2, .int .i64 2] rfl (by (try simp only [List.map_toArray, List.map_cons, List.map_nil]); first | done | rfl | (simp only [List.length_drop, List.length_take]; rfl)) ?_; (with_reducible refine (ih_spec_l2Draws kj49 (by have := HJ6.out; have := HJ29.out; have := HJ49.out; omega) g s0_0 x1001_29 (wrap64 (a1 - 1)) a2 2 t263 t266 w0 _ ?side1 ?side2 A59.out).mono ?_); (case side1 => exact q16_ HI0 NB0_241); (case side2 => exact q17_ HB HI0 GE241); rintro e w61 ⟨v264, rfl, ho0, hi, hb, hk⟩; refine ⟨_, rfl, ?_⟩; have n0_ := Aside0.mk (KeepBut.blk hk (g' := gb241) (o := .cells #[.int .i64 0, .int .i64 0, .int .i64 0, .int .i64 0, .slice none 0 0, .slice none 0 0] 29 (0, 0)) (q1_ BK241) NB241_0.out (by simp)); have n1_ := Aside0.mk (Kd.R_lower (Kd.R_newB ho0 (g := gb241) (o := .cells #[.int .i64 0, .int .i64 0, .int .i64 0, .int .i64 0, .slice none 0 0, .slice none 0 0] 29 (0, 0)) (q1_ BK241)) (keep_size (w := w) (g := g) (row := none) (q18_ HK GW241))); have n2_ := Aside0.mk (KeepBut.trans (q18_ HK GW241) hk (.inl rfl)); have n3_ := Aside0.mk (hb); have n4_ := Aside0.mk (hi); clear BK241; clear HK; clear HB; clear HI0; have BK241 := n0_; have HO265 := n1_; have HK := n2_; have HB := n3_; have HI0 := n4_; clear n0_ n1_ n2_ n3_ n4_; (try clear hb); (try clear hb2); (try clear hk); (try clear hi); (try clear ho0)) | ((with_reducible refine gate_callee (f := 69) rfl ?_); refine goesL_ (some 91) rfl rfl Try.func69 (by kernel_rfl) rfl #[.pointer (some ⟨g, 0, none⟩), .int .i64 (wrap64 (a1 - 1)), .int .i64 a2, .int .i64 2] rfl (by (try simp only [List.map_toArray, List.map_cons, List.map_nil]); first | done | rfl | (simp only [List.length_drop, List.length_take]; rfl)) ?_; (with_reducible refine (ih_spec_l2Draws kj49 (by have := HJ6.out; have := HJ29.out; have := HJ49.out; omega) g s0_0 t266 (wrap64 (a1 - 1)) a2 2 t267 t270 w0 _ ?side1 ?side2 A60.out).mono ?_); (case side1 => exact q16_ HI0 NB0_241); (case side2 => exact q17_ HB HI0 GE241); rintro e w62 ⟨v268, rfl, ho0, hi, hb, hk⟩; refine ⟨_, rfl, ?_⟩; have n0_ := Aside0.mk (KeepBut.blk hk (g' := gb241) (o := .cells #[.int .i64 0, .int .i64 0, .int .i64 0, .int .i64 0, .slice none 0 0, .slice none 0 0] 29 (0, 0)) (q1_ BK241) NB241_0.out (by simp)); have n1_ := Aside0.mk (Kd.R_mono (Kd.R_told (Kd.R_oldK (IsS86.apart (show IsS86 w0 _ g s0_0 t266 from by repeat (first | (with_reducible first | exact HI0.out | apply IsS86.alloc | apply IsS86.drewN | apply IsS86.drew | apply IsS86.set_1 | refine IsS86.far ?_ NB0_241.out _) | exact HI0.out)) (q7_ HO265) (by decide)) hk) (Kd.R_base ho0)) (fun _ h_ => h_.1)); have n2_ := Aside0.mk (Kd.R_lower (Kd.R_newB (Kd.R_new' ho0 (Kd.R_lt (q7_ HO265))) (g := gb241) (o := .cells #[.int .i64 0, .int .i64 0, .int .i64 0, .int .i64 0, .slice none 0 0, .slice none 0 0] 29 (0, 0)) (q1_ BK241)) (keep_size (w := w) (g := g) (row := none) (q18_ HK GW241))); have n3_ := Aside0.mk (KeepBut.trans (q18_ HK GW241) hk (.inl rfl)); have n4_ := Aside0.mk (hb); have n5_ := Aside0.mk (hi); clear BK241; clear HO265; clear HK; clear HB; clear HI0; have BK241 := n0_; have HO265 := n1_; have HO269 := n2_; have HK := n3_; have HB := n4_; have HI0 := n5_; clear n0_ n1_ n2_ n3_ n4_ n5_; (try clear hb); (try clear hb2); (try clear hk); (try clear hi); (try clear ho0); obtain ⟨Ao63, co63, eo63⟩ := Kd.R_slice HO269.out; subst eo63; obtain ⟨Ao64, co64, eo64⟩ := Kd.R_slice HO265.out; subst eo64; have hnb65 := NB241_0.out; have hnc65 := NB0_241.out; obtain ⟨hcz66_0, hcz66_1, hcz66_2, hcz66_3, hcz66_4, hcz66_5, hfz66_0, hfz66_1, hfz66_2, hfz66_3, hfz66_4, hfz66_5⟩ := bz6_ BK241))
                        refine bodyPost_ret (results_cell_row rfl _ _ gb241 29 #[.int .i64 x9_29, .int .i64 t242, .int .i64 0, .int .i64 0, .slice Ao64 t263.length co64, .slice Ao63 t267.length co63] (0, 0) _ rfl (q9_ BK241) Try.underlying29 rfl (by kernel_rfl)) rfl ?_
                        exact ⟨_, _, by first | rfl | (simp [errW_none, errW_some] <;> rfl) | (simp [*, errW_none, errW_some] <;> rfl), by (with_reducible repeat (first | apply Kd.R_alloc | apply Kd.R_drewN | apply Kd.R_drew)); exact Kd.R_mono (Kd.R_far (p := ⟨gb241, 5, none⟩) (Kd.R_far (p := ⟨gb241, 4, none⟩) (Kd.R_far (p := ⟨gb241, 3, none⟩) (Kd.R_far (p := ⟨gb241, 2, none⟩) (Kd.R_far (p := ⟨gb241, 1, none⟩) (Kd.R_far (p := ⟨gb241, 0, none⟩) (Kd.R_mono HO265.out (fun k_ hk => (⟨hk, hk.1.2⟩ : _ ∧ k_ ≠ gb241))) (fun _ hk => hk.2) (.int .i64 x9_29)) (fun _ hk => hk.2) (.int .i64 t242)) (fun _ hk => hk.2) (.int .i64 0)) (fun _ hk => hk.2) (.int .i64 0)) (fun _ hk => hk.2) (.slice Ao64 t263.length co64)) (fun _ hk => hk.2) (.slice Ao63 t267.length co63)) (fun _ hk => hk.1.2), by (with_reducible repeat (first | apply Kd.R_alloc | apply Kd.R_drewN | apply Kd.R_drew)); exact Kd.R_mono (Kd.R_far (p := ⟨gb241, 5, none⟩) (Kd.R_far (p := ⟨gb241, 4, none⟩) (Kd.R_far (p := ⟨gb241, 3, none⟩) (Kd.R_far (p := ⟨gb241, 2, none⟩) (Kd.R_far (p := ⟨gb241, 1, none⟩) (Kd.R_far (p := ⟨gb241, 0, none⟩) (Kd.R_mono HO269.out (fun k_ hk => (⟨hk, hk.2⟩ : _ ∧ k_ ≠ gb241))) (fun _ hk => hk.2) (.int .i64 x9_29)) (fun _ hk => hk.2) (.int .i64 t242)) (fun _ hk => hk.2) (.int .i64 0)) (fun _ hk => hk.2) (.int .i64 0)) (fun _ hk => hk.2) (.slice Ao64 t263.length co64)) (fun _ hk => hk.2) (.slice Ao63 t267.length co63)) (fun _ hk => hk.1.1.2), by repeat (first | (with_reducible first | exact HI0.out | apply IsS86.alloc | apply IsS86.drewN | apply IsS86.drew | apply IsS86.set_1 | refine IsS86.far ?_ NB0_241.out _) | exact HI0.out), by repeat (first | (with_reducible first | exact HB.out | apply below_alloc | apply pw_below_drewN | apply below_drew1 | refine below_set ?_ (IsS86.ge HI0.out) | refine below_set ?_ GE241.out) | exact HB.out), by repeat (first | (with_reducible first | exact HK.out | apply KeepBut.set_ | apply keep_drewN | apply keep_drew | apply keep_alloc | refine keep_far ?_ GW241.out _) | exact HK.out)⟩
                      · rw [if_neg c58] at H
                        have c58b0 : (x9_29 == 6) = false := beq_eq_false_iff_ne.mpr c58
                        have c58b1 : (x9_29 != 6) = true := bne_iff_ne.mpr c58
                        by_cases c67 : x9_29 = 7
                        · rw [if_pos c67] at H
                          have c67b0 : (x9_29 == 7) = true := beq_iff_eq.mpr c67
                          have c67b1 : (x9_29 != 7) = false := bne_eq_false_iff_eq.mpr c67
                          clear c67
                          replace H := Option.bind_eq_some_iff.mp H
                          obtain ⟨⟨t271, t274⟩, A680, H⟩ := H
                          replace H : ((spec_l11Rd_num.f kj49 s0_0 t274 (([0, 0, 0, 0, 0, 1] : List Int))).bind fun bt278 => (if t271.length < 1759218604441 then (some (x9_29, t242, 0, 0, (t271 ++ [(⟨1, t242, 0, bt278.1, ([] : List (S29)), ([] : List (S29))⟩ : S29)]), ([] : List (S29)), bt278.2)) else (none))) = some (r1, r2, r3, r4, r5, r6, r7) := H
                          have A68 := Aside0.mk A680
                          clear A680
                          obtain ⟨y275, hy275⟩ : ∃ y_ : List Int, y_ = (([0, 0, 0, 0, 0, 1] : List Int)) := ⟨_, rfl⟩
                          replace H : ((spec_l11Rd_num.f kj49 s0_0 t274 y275).bind fun bt278 => (if t271.length < 1759218604441 then (some (x9_29, t242, 0, 0, (t271 ++ [(⟨1, t242, 0, bt278.1, ([] : List (S29)), ([] : List (S29))⟩ : S29)]), ([] : List (S29)), bt278.2)) else (none))) = some (r1, r2, r3, r4, r5, r6, r7) := by first | (rw [hy275]; with_reducible exact H) | (have H2_ := (Option.bind_some _ _).symm.trans H; rw [hy275]; with_reducible exact H2_) | (have H2_ := (Option.bind_some _ _).symm.trans H; with_reducible exact H2_) | with_reducible exact H | (rw [hy275]; exact H) | exact H
                          have Ny275 := Aside0.mk hy275
                          clear hy275
                          replace H := Option.bind_eq_some_iff.mp H
                          obtain ⟨⟨t278, t279⟩, A690, H⟩ := H
                          replace H : (if t271.length < 1759218604441 then (some (x9_29, t242, 0, 0, (t271 ++ [(⟨1, t242, 0, t278, ([] : List (S29)), ([] : List (S29))⟩ : S29)]), ([] : List (S29)), t279)) else (none)) = some (r1, r2, r3, r4, r5, r6, r7) := H
                          have A69 := Aside0.mk A690
                          clear A690
                          by_cases c70 : t271.length < 1759218604441
                          · rw [if_pos c70] at H
                            have LMc70 := Aside0.mk c70
                            clear c70
                            obtain ⟨y280, hy280⟩ : ∃ y_ : List (S29), y_ = (t271 ++ [(⟨1, t242, 0, t278, ([] : List (S29)), ([] : List (S29))⟩ : S29)]) := ⟨_, rfl⟩
                            replace H : (some (x9_29, t242, 0, 0, y280, ([] : List (S29)), t279)) = some (r1, r2, r3, r4, r5, r6, r7) := by first | (rw [hy280]; with_reducible exact H) | (have H2_ := (Option.bind_some _ _).symm.trans H; rw [hy280]; with_reducible exact H2_) | (have H2_ := (Option.bind_some _ _).symm.trans H; with_reducible exact H2_) | with_reducible exact H | (rw [hy280]; exact H) | exact H
                            have Ny280 := Aside0.mk hy280
                            clear hy280
                            simp only [Option.some.injEq, Prod.mk.injEq] at H
                            obtain ⟨rfl, rfl, rfl, rfl, rfl, rfl, rfl⟩ := H
                            go_wp2_with (first | ((with_reducible refine gate_callee (f := 69) rfl ?_); refine goesL_ (some 99) rfl rfl Try.func69 (by kernel_rfl) rfl #[.pointer (some ⟨g, 0, none⟩), .int .i64 (wrap64 (a1 - 1)), .int .i64 a2, .int .i64 2] rfl (by (try simp only [List.map_toArray, List.map_cons, List.map_nil]); first | done | rfl | (simp only [List.length_drop, List.length_take]; rfl)) ?_; (with_reducible refine (ih_spec_l2Draws kj49 (by have := HJ6.out; have := HJ29.out; have := HJ49.out; omega) g s0_0 x1001_29 (wrap64 (a1 - 1)) a2 2 t271 t274 w0 _ ?side1 ?side2 A68.out).mono ?_); (case side1 => exact q16_ HI0 NB0_241); (case side2 => exact q17_ HB HI0 GE241); rintro e w71 ⟨v272, rfl, ho0, hi, hb, hk⟩; refine ⟨_, rfl, ?_⟩; have n0_ := Aside0.mk (KeepBut.blk hk (g' := gb241) (o := .cells #[.int .i64 0, .int .i64 0, .int .i64 0, .int .i64 0, .slice none 0 0, .slice none 0 0] 29 (0, 0)) (q1_ BK241) NB241_0.out (by simp)); have n1_ := Aside0.mk (Kd.R_lower (Kd.R_newB ho0 (g := gb241) (o := .cells #[.int .i64 0, .int .i64 0, .int .i64 0, .int .i64 0, .slice none 0 0, .slice none 0 0] 29 (0, 0)) (q1_ BK241)) (keep_size (w := w) (g := g) (row := none) (q18_ HK GW241))); have n2_ := Aside0.mk (KeepBut.trans (q18_ HK GW241) hk (.inl rfl)); have n3_ := Aside0.mk (hb); have n4_ := Aside0.mk (hi); clear BK241; clear HK; clear HB; clear HI0; have BK241 := n0_; have HO273 := n1_; have HK := n2_; have HB := n3_; have HI0 := n4_; clear n0_ n1_ n2_ n3_ n4_; (try clear hb); (try clear hb2); (try clear hk); (try clear hi); (try clear ho0)) | ((with_reducible refine gate_dst (N := 102) rfl ?_); refine Kd.R_lit (Kd.int .i64) _ 3 ?hg (N := 102) ?hd (xs := ([0, 0, 0, 0, 0, 1] : List Int)) (inner := [.int .i64 0, .int .i64 0, .int .i64 0, .int .i64 0, .int .i64 0, .int .i64 1]) (ok := fun _ => True) (okp := fun _ => True) ?hr ?hp (fun _ hk => hk) trivial (Below.refl _ _) (Nat.le_refl _) (by simp) ?_; (case hd => rfl); (case hg => rfl); (case hr => first | (go_simp; done) | (go_simp; rfl)); (case hp => exact (Reps.one (show Kd.M (Kd.int .i64) _ _ _ 0 [.int .i64 0] from rfl) (Reps.one (show Kd.M (Kd.int .i64) _ _ _ 0 [.int .i64 0] from rfl) (Reps.one (show Kd.M (Kd.int .i64) _ _ _ 0 [.int .i64 0] from rfl) (Reps.one (show Kd.M (Kd.int .i64) _ _ _ 0 [.int .i64 0] from rfl) (Reps.one (show Kd.M (Kd.int .i64) _ _ _ 0 [.int .i64 0] from rfl) (Reps.one (show Kd.M (Kd.int .i64) _ _ _ 1 [.int .i64 1] from rfl) (Reps.none _ _)))))))); intro v276 w72 ho73 hb hg_ hnew_; clear hg_ hnew_; (first | rw [← Ny275.out] at ho73 | (simp only [Int.reduceToNat] at ho73; rw [← Ny275.out] at ho73)); have n0_ := Aside0.mk (Kd.R_below (q7_ HO273) hb); have n1_ := Aside0.mk (Kd.R_lower ho73 (keep_size (w := w) (g := g) (row := none) (q18_ HK GW241))); have n2_ := Aside0.mk (blk_below (g := gb241) (o := .cells #[.int .i64 0, .int .i64 0, .int .i64 0, .int .i64 0, .slice none 0 0, .slice none 0 0] 29 (0, 0)) (q1_ BK241) hb); have n3_ := Aside0.mk (IsS86.below (q16_ HI0 NB0_241) hb); have n4_ := Aside0.mk (KeepBut.trans (q18_ HK GW241) (KeepBut.of_below hb g none) (.inl rfl)); have n5_ := Aside0.mk (below_step (q17_ HB HI0 GE241) hb); clear HO273; clear BK241; clear HI0; clear HK; clear HB; have HO273 := n0_; have HO277 := n1_; have BK241 := n2_; have HI0 := n3_; have HK := n4_; have HB := n5_; clear n0_ n1_ n2_ n3_ n4_ n5_; clear hb ho73; obtain ⟨Ao74, co74, eo74⟩ := Kd.R_slice HO277.out; subst eo74) | ((with_reducible refine gate_callee (f := 51) rfl ?_); refine goesL_ (some 103) rfl rfl Try.func51 (by kernel_rfl) rfl #[.pointer (some ⟨g, 0, none⟩), .slice Ao74 y275.length co74] rfl (by (try simp only [List.map_toArray, List.map_cons, List.map_nil]); first | done | rfl | (simp only [List.length_drop, List.length_take]; rfl)) ?_; (with_reducible refine (spec_l11Rd_num.calls kj49 g s0_0 t274 _ _ y275 t278 t279 w0 _ ?side1 ?side2 ?side3 ?side4 ?side5 A69.out).mono ?_); (case side1 => exact q16_ HI0 NB0_241); (case side2 => exact q17_ HB HI0 GE241); (case side3 => repeat (first | exact (Kd.R_reads' HO277.out).2.2 | (with_reducible refine Kd.C_alloc ?_ _) | (with_reducible refine Kd.C_drewN ?_ _) | (with_reducible refine Kd.C_drew ?_))); (case side4 => exact (Kd.R_reads' HO277.out).2.1); (case side5 => exact far_slice (IsS86.own_ne HI0.out HO277.out (by decide))); rintro e w75 ⟨rfl, hi, hb, hk⟩; refine ⟨_, rfl, ?_⟩; have n0_ := Aside0.mk (KeepBut.blk hk (g' := gb241) (o := .cells #[.int .i64 0, .int .i64 0, .int .i64 0, .int .i64 0, .slice none 0 0, .slice none 0 0] 29 (0, 0)) (q1_ BK241) NB241_0.out (by simp)); have n1_ := Aside0.mk (Kd.R_mono (Kd.R_keep (IsS86.apart (show IsS86 w0 _ g s0_0 t274 from by repeat (first | (with_reducible first | exact HI0.out | apply IsS86.alloc | apply IsS86.drewN | apply IsS86.drew | apply IsS86.set_1 | refine IsS86.far ?_ NB0_241.out _) | exact HI0.out)) (q7_ HO273) (by decide)) hk (fun _ h => h.2)) (fun _ h => h.1)); have n2_ := Aside0.mk (Kd.R_mono (Kd.R_keep (IsS86.apart (show IsS86 w0 _ g s0_0 t274 from by repeat (first | (with_reducible first | exact HI0.out | apply IsS86.alloc | apply IsS86.drewN | apply IsS86.drew | apply IsS86.set_1 | refine IsS86.far ?_ NB0_241.out _) | exact HI0.out)) (q7_ HO277) (by decide)) hk (fun _ h => h.2)) (fun _ h => h.1)); have n3_ := Aside0.mk (KeepBut.trans (q18_ HK GW241) hk (.inl rfl)); have n4_ := Aside0.mk (hb); have n5_ := Aside0.mk (hi); clear BK241; clear HO273; clear HO277; clear HK; clear HB; clear HI0; have BK241 := n0_; have HO273 := n1_; have HO277 := n2_; have HK := n3_; have HB := n4_; have HI0 := n5_; clear n0_ n1_ n2_ n3_ n4_ n5_; (try clear hb); (try clear hb2); (try clear hk); (try clear hi)) | ((with_reducible refine gate_builtin (b := .append) (xs := #[.tmp 99, .tmp 105]) rfl ?_); at_builtin; refine Kd.R_append k29 w.heap.size rfl (.tmp 99) (.tmp 105) 27 29 (.agg #[(.int .i64 0), (.int .i64 0), (.int .i64 0), (.int .i64 0), (.slice none 0 0), (.slice none 0 0)]) 80 rfl Try.underlying27 info29 rfl (by decide) (by omega) v272 t271 (⟨1, t242, 0, t278, ([] : List (S29)), ([] : List (S29))⟩ : S29) [.int .i64 1, .int .i64 t242, .int .i64 0, .int .i64 t278, .slice none 0 0, .slice none 0 0] (fun k_ => k_ ≠ gb241) (fun k_ => ((fun k_ => k_ ≠ gb241)) k_ ∧ some k_ ≠ (v272 : Value).ownBlock) rfl rfl ?aP (fun _ hk => hk) ?aF ?aO (Below.refl _ _) ?aS ?aL ?_; (case aP => exact k29_mkM _ _ _ (⟨1, t242, 0, t278, ([] : List (S29)), ([] : List (S29))⟩ : S29) (Kd.R_nil _ _ _ _ _) (Kd.R_nil _ _ _ _ _)); (case aF => exact (fun k_ hk => Kd.freshB (g := gb241) (o := .cells #[.int .i64 0, .int .i64 0, .int .i64 0, .int .i64 0, .slice none 0 0, .slice none 0 0] 29 (0, 0)) (q1_ BK241) k_ hk)); (case aO => exact (by (with_reducible repeat (first | apply Kd.R_alloc | apply Kd.R_drewN | apply Kd.R_drew)); exact Kd.R_mono HO273.out (fun _ hk => hk.2))); (case aS => exact (keep_size (w := w) (g := g) (row := none) (q18_ HK GW241))); (case aL => have := LMc70.out; omega); intro v281 w76 ho hb hg hat; rw [← Ny280.out] at ho; have n0_ := Aside0.mk (blk_grown (g := gb241) (o := .cells #[.int .i64 0, .int .i64 0, .int .i64 0, .int .i64 0, .slice none 0 0, .slice none 0 0] 29 (0, 0)) (q1_ BK241) hg (Kd.R_away HO273.out (fun _ hk => hk.2))); have n1_ := Aside0.mk (IsS86.grown (q16_ HI0 NB0_241) hg (IsS86.own_ne HI0.out HO273.out (by decide))); have n2_ := Aside0.mk (Kd.R_over' (q7_ HO277) (Kd.R_typed (q7_ HO273)) (by decide) hg); have n3_ := Aside0.mk (below_weaken (q17_ HB HI0 GE241) HL.out hb); have n4_ := Aside0.mk (KeepBut.trans (q18_ HK GW241) (KeepBut.of_grown hg g) (Kd.R_base2 HO273.out)); have n5_ := Aside0.mk (ho); clear BK241; clear HI0; clear HO277; clear HB; clear HK; clear HO273; have BK241 := n0_; have HI0 := n1_; have HO277 := n2_; have HB := n3_; have HK := n4_; have HO282 := n5_; clear n0_ n1_ n2_ n3_ n4_ n5_; clear ho hb hg hat; obtain ⟨Ao77, co77, eo77⟩ := Kd.R_slice HO282.out; subst eo77; have hnb78 := NB241_0.out; have hnc78 := NB0_241.out; obtain ⟨hcz79_0, hcz79_1, hcz79_2, hcz79_3, hcz79_4, hcz79_5, hfz79_0, hfz79_1, hfz79_2, hfz79_3, hfz79_4, hfz79_5⟩ := bz6_ BK241))
                            refine bodyPost_ret (results_cell_row rfl _ _ gb241 29 #[.int .i64 x9_29, .int .i64 t242, .int .i64 0, .int .i64 0, .slice Ao77 y280.length co77, .slice none 0 0] (0, 0) _ rfl (q9_ BK241) Try.underlying29 rfl (by kernel_rfl)) rfl ?_
                            exact ⟨_, _, by first | rfl | (simp [errW_none, errW_some] <;> rfl) | (simp [*, errW_none, errW_some] <;> rfl), by (with_reducible repeat (first | apply Kd.R_alloc | apply Kd.R_drewN | apply Kd.R_drew)); exact Kd.R_mono (Kd.R_far (p := ⟨gb241, 5, none⟩) (Kd.R_far (p := ⟨gb241, 4, none⟩) (Kd.R_far (p := ⟨gb241, 3, none⟩) (Kd.R_far (p := ⟨gb241, 2, none⟩) (Kd.R_far (p := ⟨gb241, 1, none⟩) (Kd.R_far (p := ⟨gb241, 0, none⟩) (Kd.R_mono HO282.out (fun k_ hk => (⟨hk, hk⟩ : _ ∧ k_ ≠ gb241))) (fun _ hk => hk.2) (.int .i64 x9_29)) (fun _ hk => hk.2) (.int .i64 t242)) (fun _ hk => hk.2) (.int .i64 0)) (fun _ hk => hk.2) (.int .i64 0)) (fun _ hk => hk.2) (.slice Ao77 y280.length co77)) (fun _ hk => hk.2) (.slice none 0 0)) (fun _ hk => (by simp [Value.ownBlock])), by first | exact Kd.R_nil _ _ _ _ _ | exact Kd.N_nil _ _ _ _ _ | exact Kd.V_nil _ _ _ _ _ | exact Kd.Q_nil _ _ _ _ _ | exact Kd.S_nil _ _ _ _ _, by repeat (first | (with_reducible first | exact HI0.out | apply IsS86.alloc | apply IsS86.drewN | apply IsS86.drew | apply IsS86.set_1 | refine IsS86.far ?_ NB0_241.out _) | exact HI0.out), by repeat (first | (with_reducible first | exact HB.out | apply below_alloc | apply pw_below_drewN | apply below_drew1 | refine below_set ?_ (IsS86.ge HI0.out) | refine below_set ?_ GE241.out) | exact HB.out), by repeat (first | (with_reducible first | exact HK.out | apply KeepBut.set_ | apply keep_drewN | apply keep_drew | apply keep_alloc | refine keep_far ?_ GW241.out _) | exact HK.out)⟩
                          · rw [if_neg c70] at H
                            exact absurd H (by simp)
                        · rw [if_neg c67] at H
                          have c67b0 : (x9_29 == 7) = false := beq_eq_false_iff_ne.mpr c67
                          have c67b1 : (x9_29 != 7) = true := bne_iff_ne.mpr c67
                          by_cases c80 : x9_29 = 8
                          · rw [if_pos c80] at H
                            have c80b0 : (x9_29 == 8) = true := beq_iff_eq.mpr c80
                            have c80b1 : (x9_29 != 8) = false := bne_eq_false_iff_eq.mpr c80
                            clear c80
                            replace H := Option.bind_eq_some_iff.mp H
                            obtain ⟨⟨t283, t284⟩, A810, H⟩ := H
                            replace H : ((spec_l2Draws.f kj49 s0_0 t284 (wrap64 (a1 - 1)) t283 3).bind fun bt285 => (some (x9_29, t283, 0, 0, bt285.1, ([] : List (S29)), bt285.2))) = some (r1, r2, r3, r4, r5, r6, r7) := H
                            have A81 := Aside0.mk A810
                            clear A810
                            replace H := Option.bind_eq_some_iff.mp H
                            obtain ⟨⟨t285, t288⟩, A820, H⟩ := H
                            replace H : (some (x9_29, t283, 0, 0, t285, ([] : List (S29)), t288)) = some (r1, r2, r3, r4, r5, r6, r7) := H
                            have A82 := Aside0.mk A820
                            clear A820
                            simp only [Option.some.injEq, Prod.mk.injEq] at H
                            obtain ⟨rfl, rfl, rfl, rfl, rfl, rfl, rfl⟩ := H
                            go_wp2_with (first | ((with_reducible refine gate_callee (f := 48) rfl ?_); refine goesL_ (some 114) rfl rfl Try.func48 (by kernel_rfl) rfl #[.pointer (some ⟨g, 0, none⟩), .int .i64 2] rfl (by (try simp only [List.map_toArray, List.map_cons, List.map_nil]); first | done | rfl | (simp only [List.length_drop, List.length_take]; rfl)) ?_; (with_reducible refine (spec_l11Rd_pick.calls kj49 g s0_0 x1001_29 2 t283 t284 w0 _ ?side1 ?side2 A81.out).mono ?_); (case side1 => exact q16_ HI0 NB0_241); (case side2 => exact q17_ HB HI0 GE241); rintro e w83 ⟨rfl, hi, hb, hk⟩; refine ⟨_, rfl, ?_⟩; have n0_ := Aside0.mk (KeepBut.blk hk (g' := gb241) (o := .cells #[.int .i64 0, .int .i64 0, .int .i64 0, .int .i64 0, .slice none 0 0, .slice none 0 0] 29 (0, 0)) (q1_ BK241) NB241_0.out (by simp)); have n1_ := Aside0.mk (KeepBut.trans (q18_ HK GW241) hk (.inl rfl)); have n2_ := Aside0.mk (hb); have n3_ := Aside0.mk (hi); clear BK241; clear HK; clear HB; clear HI0; have BK241 := n0_; have HK := n1_; have HB := n2_; have HI0 := n3_; clear n0_ n1_ n2_ n3_; (try clear hb); (try clear hb2); (try clear hk); (try clear hi)) | ((with_reducible refine gate_callee (f := 69) rfl ?_); refine goesL_ (some 121) rfl rfl Try.func69 (by kernel_rfl) rfl #[.pointer (some ⟨g, 0, none⟩), .int .i64 (wrap64 (a1 - 1)), .int .i64 t283, .int .i64 3] rfl (by (try simp only [List.map_toArray, List.map_cons, List.map_nil]); first | done | rfl | (simp only [List.length_drop, List.length_take]; rfl)) ?_; (with_reducible refine (ih_spec_l2Draws kj49 (by have := HJ6.out; have := HJ29.out; have := HJ49.out; omega) g s0_0 t284 (wrap64 (a1 - 1)) t283 3 t285 t288 w0 _ ?side1 ?side2 A82.out).mono ?_); (case side1 => exact q16_ HI0 NB0_241); (case side2 => exact q17_ HB HI0 GE241); rintro e w84 ⟨v286, rfl, ho0, hi, hb, hk⟩; refine ⟨_, rfl, ?_⟩; have n0_ := Aside0.mk (KeepBut.blk hk (g' := gb241) (o := .cells #[.int .i64 0, .int .i64 0, .int .i64 0, .int .i64 0, .slice none 0 0, .slice none 0 0] 29 (0, 0)) (q1_ BK241) NB241_0.out (by simp)); have n1_ := Aside0.mk (Kd.R_lower (Kd.R_newB ho0 (g := gb241) (o := .cells #[.int .i64 0, .int .i64 0, .int .i64 0, .int .i64 0, .slice none 0 0, .slice none 0 0] 29 (0, 0)) (q1_ BK241)) (keep_size (w := w) (g := g) (row := none) (q18_ HK GW241))); have n2_ := Aside0.mk (KeepBut.trans (q18_ HK GW241) hk (.inl rfl)); have n3_ := Aside0.mk (hb); have n4_ := Aside0.mk (hi); clear BK241; clear HK; clear HB; clear HI0; have BK241 := n0_; have HO287 := n1_; have HK := n2_; have HB := n3_; have HI0 := n4_; clear n0_ n1_ n2_ n3_ n4_; (try clear hb); (try clear hb2); (try clear hk); (try clear hi); (try clear ho0); obtain ⟨Ao85, co85, eo85⟩ := Kd.R_slice HO287.out; subst eo85; have hnb86 := NB241_0.out; have hnc86 := NB0_241.out; obtain ⟨hcz87_0, hcz87_1, hcz87_2, hcz87_3, hcz87_4, hcz87_5, hfz87_0, hfz87_1, hfz87_2, hfz87_3, hfz87_4, hfz87_5⟩ := bz6_ BK241))
                            refine bodyPost_ret (results_cell_row rfl _ _ gb241 29 #[.int .i64 x9_29, .int .i64 t283, .int .i64 0, .int .i64 0, .slice Ao85 t285.length co85, .slice none 0 0] (0, 0) _ rfl (q9_ BK241) Try.underlying29 rfl (by kernel_rfl)) rfl ?_
                            exact ⟨_, _, by first | rfl | (simp [errW_none, errW_some] <;> rfl) | (simp [*, errW_none, errW_some] <;> rfl), by (with_reducible repeat (first | apply Kd.R_alloc | apply Kd.R_drewN | apply Kd.R_drew)); exact Kd.R_mono (Kd.R_far (p := ⟨gb241, 5, none⟩) (Kd.R_far (p := ⟨gb241, 4, none⟩) (Kd.R_far (p := ⟨gb241, 3, none⟩) (Kd.R_far (p := ⟨gb241, 2, none⟩) (Kd.R_far (p := ⟨gb241, 1, none⟩) (Kd.R_far (p := ⟨gb241, 0, none⟩) (Kd.R_mono HO287.out (fun k_ hk => (⟨hk, hk.2⟩ : _ ∧ k_ ≠ gb241))) (fun _ hk => hk.2) (.int .i64 x9_29)) (fun _ hk => hk.2) (.int .i64 t283)) (fun _ hk => hk.2) (.int .i64 0)) (fun _ hk => hk.2) (.int .i64 0)) (fun _ hk => hk.2) (.slice Ao85 t285.length co85)) (fun _ hk => hk.2) (.slice none 0 0)) (fun _ hk => (by simp [Value.ownBlock])), by first | exact Kd.R_nil _ _ _ _ _ | exact Kd.N_nil _ _ _ _ _ | exact Kd.V_nil _ _ _ _ _ | exact Kd.Q_nil _ _ _ _ _ | exact Kd.S_nil _ _ _ _ _, by repeat (first | (with_reducible first | exact HI0.out | apply IsS86.alloc | apply IsS86.drewN | apply IsS86.drew | apply IsS86.set_1 | refine IsS86.far ?_ NB0_241.out _) | exact HI0.out), by repeat (first | (with_reducible first | exact HB.out | apply below_alloc | apply pw_below_drewN | apply below_drew1 | refine below_set ?_ (IsS86.ge HI0.out) | refine below_set ?_ GE241.out) | exact HB.out), by repeat (first | (with_reducible first | exact HK.out | apply KeepBut.set_ | apply keep_drewN | apply keep_drew | apply keep_alloc | refine keep_far ?_ GW241.out _) | exact HK.out)⟩
                          · rw [if_neg c80] at H
                            have c80b0 : (x9_29 == 8) = false := beq_eq_false_iff_ne.mpr c80
                            have c80b1 : (x9_29 != 8) = true := bne_iff_ne.mpr c80
                            by_cases c88 : x9_29 = 9
                            · rw [if_pos c88] at H
                              have c88b0 : (x9_29 == 9) = true := beq_iff_eq.mpr c88
                              have c88b1 : (x9_29 != 9) = false := bne_eq_false_iff_eq.mpr c88
                              clear c88
                              replace H := Option.bind_eq_some_iff.mp H
                              obtain ⟨⟨t289, t290⟩, A890, H⟩ := H
                              replace H : (some (x9_29, t289, 0, 0, ([] : List (S29)), ([] : List (S29)), t290)) = some (r1, r2, r3, r4, r5, r6, r7) := H
                              have A89 := Aside0.mk A890
                              clear A890
                              simp only [Option.some.injEq, Prod.mk.injEq] at H
                              obtain ⟨rfl, rfl, rfl, rfl, rfl, rfl, rfl⟩ := H
                              go_wp2_with (first | ((with_reducible refine gate_callee (f := 48) rfl ?_); refine goesL_ (some 128) rfl rfl Try.func48 (by kernel_rfl) rfl #[.pointer (some ⟨g, 0, none⟩), .int .i64 2] rfl (by (try simp only [List.map_toArray, List.map_cons, List.map_nil]); first | done | rfl | (simp only [List.length_drop, List.length_take]; rfl)) ?_; (with_reducible refine (spec_l11Rd_pick.calls kj49 g s0_0 x1001_29 2 t289 t290 w0 _ ?side1 ?side2 A89.out).mono ?_); (case side1 => exact q16_ HI0 NB0_241); (case side2 => exact q17_ HB HI0 GE241); rintro e w90 ⟨rfl, hi, hb, hk⟩; refine ⟨_, rfl, ?_⟩; have n0_ := Aside0.mk (KeepBut.blk hk (g' := gb241) (o := .cells #[.int .i64 0, .int .i64 0, .int .i64 0, .int .i64 0, .slice none 0 0, .slice none 0 0] 29 (0, 0)) (q1_ BK241) NB241_0.out (by simp)); have n1_ := Aside0.mk (KeepBut.trans (q18_ HK GW241) hk (.inl rfl)); have n2_ := Aside0.mk (hb); have n3_ := Aside0.mk (hi); clear BK241; clear HK; clear HB; clear HI0; have BK241 := n0_; have HK := n1_; have HB := n2_; have HI0 := n3_; clear n0_ n1_ n2_ n3_; (try clear hb); (try clear hb2); (try clear hk); (try clear hi); have hnb91 := NB241_0.out; have hnc91 := NB0_241.out; obtain ⟨hcz92_0, hcz92_1, hcz92_2, hcz92_3, hcz92_4, hcz92_5, hfz92_0, hfz92_1, hfz92_2, hfz92_3, hfz92_4, hfz92_5⟩ := bz6_ BK241))
                              refine bodyPost_ret (results_cell_row rfl _ _ gb241 29 #[.int .i64 x9_29, .int .i64 t289, .int .i64 0, .int .i64 0, .slice none 0 0, .slice none 0 0] (0, 0) _ rfl (q9_ BK241) Try.underlying29 rfl (by kernel_rfl)) rfl ?_
                              exact ⟨_, _, by first | rfl | (simp [errW_none, errW_some] <;> rfl) | (simp [*, errW_none, errW_some] <;> rfl), by first | exact Kd.R_nil _ _ _ _ _ | exact Kd.N_nil _ _ _ _ _ | exact Kd.V_nil _ _ _ _ _ | exact Kd.Q_nil _ _ _ _ _ | exact Kd.S_nil _ _ _ _ _, by first | exact Kd.R_nil _ _ _ _ _ | exact Kd.N_nil _ _ _ _ _ | exact Kd.V_nil _ _ _ _ _ | exact Kd.Q_nil _ _ _ _ _ | exact Kd.S_nil _ _ _ _ _, by repeat (first | (with_reducible first | exact HI0.out | apply IsS86.alloc | apply IsS86.drewN | apply IsS86.drew | apply IsS86.set_1 | refine IsS86.far ?_ NB0_241.out _) | exact HI0.out), by repeat (first | (with_reducible first | exact HB.out | apply below_alloc | apply pw_below_drewN | apply below_drew1 | refine below_set ?_ (IsS86.ge HI0.out) | refine below_set ?_ GE241.out) | exact HB.out), by repeat (first | (with_reducible first | exact HK.out | apply KeepBut.set_ | apply keep_drewN | apply keep_drew | apply keep_alloc | refine keep_far ?_ GW241.out _) | exact HK.out)⟩
                            · rw [if_neg c88] at H
                              have c88b0 : (x9_29 == 9) = false := beq_eq_false_iff_ne.mpr c88
                              have c88b1 : (x9_29 != 9) = true := bne_iff_ne.mpr c88
                              by_cases c93 : x9_29 = 10
                              · rw [if_pos c93] at H
                                have c93b0 : (x9_29 == 10) = true := beq_iff_eq.mpr c93
                                have c93b1 : (x9_29 != 10) = false := bne_eq_false_iff_eq.mpr c93
                                clear c93
                                replace H := Option.bind_eq_some_iff.mp H
                                obtain ⟨⟨t291, t292⟩, A940, H⟩ := H
                                replace H : (some (x9_29, t291, 0, 0, ([] : List (S29)), ([] : List (S29)), t292)) = some (r1, r2, r3, r4, r5, r6, r7) := H
                                have A94 := Aside0.mk A940
                                clear A940
                                simp only [Option.some.injEq, Prod.mk.injEq] at H
                                obtain ⟨rfl, rfl, rfl, rfl, rfl, rfl, rfl⟩ := H
                                go_wp2_with (first | ((with_reducible refine gate_callee (f := 48) rfl ?_); refine goesL_ (some 128) rfl rfl Try.func48 (by kernel_rfl) rfl #[.pointer (some ⟨g, 0, none⟩), .int .i64 2] rfl (by (try simp only [List.map_toArray, List.map_cons, List.map_nil]); first | done | rfl | (simp only [List.length_drop, List.length_take]; rfl)) ?_; (with_reducible refine (spec_l11Rd_pick.calls kj49 g s0_0 x1001_29 2 t291 t292 w0 _ ?side1 ?side2 A94.out).mono ?_); (case side1 => exact q16_ HI0 NB0_241); (case side2 => exact q17_ HB HI0 GE241); rintro e w95 ⟨rfl, hi, hb, hk⟩; refine ⟨_, rfl, ?_⟩; have n0_ := Aside0.mk (KeepBut.blk hk (g' := gb241) (o := .cells #[.int .i64 0, .int .i64 0, .int .i64 0, .int .i64 0, .slice none 0 0, .slice none 0 0] 29 (0, 0)) (q1_ BK241) NB241_0.out (by simp)); have n1_ := Aside0.mk (KeepBut.trans (q18_ HK GW241) hk (.inl rfl)); have n2_ := Aside0.mk (hb); have n3_ := Aside0.mk (hi); clear BK241; clear HK; clear HB; clear HI0; have BK241 := n0_; have HK := n1_; have HB := n2_; have HI0 := n3_; clear n0_ n1_ n2_ n3_; (try clear hb); (try clear hb2); (try clear hk); (try clear hi); have hnb96 := NB241_0.out; have hnc96 := NB0_241.out; obtain ⟨hcz97_0, hcz97_1, hcz97_2, hcz97_3, hcz97_4, hcz97_5, hfz97_0, hfz97_1, hfz97_2, hfz97_3, hfz97_4, hfz97_5⟩ := bz6_ BK241))
                                refine bodyPost_ret (results_cell_row rfl _ _ gb241 29 #[.int .i64 x9_29, .int .i64 t291, .int .i64 0, .int .i64 0, .slice none 0 0, .slice none 0 0] (0, 0) _ rfl (q9_ BK241) Try.underlying29 rfl (by kernel_rfl)) rfl ?_
                                exact ⟨_, _, by first | rfl | (simp [errW_none, errW_some] <;> rfl) | (simp [*, errW_none, errW_some] <;> rfl), by first | exact Kd.R_nil _ _ _ _ _ | exact Kd.N_nil _ _ _ _ _ | exact Kd.V_nil _ _ _ _ _ | exact Kd.Q_nil _ _ _ _ _ | exact Kd.S_nil _ _ _ _ _, by first | exact Kd.R_nil _ _ _ _ _ | exact Kd.N_nil _ _ _ _ _ | exact Kd.V_nil _ _ _ _ _ | exact Kd.Q_nil _ _ _ _ _ | exact Kd.S_nil _ _ _ _ _, by repeat (first | (with_reducible first | exact HI0.out | apply IsS86.alloc | apply IsS86.drewN | apply IsS86.drew | apply IsS86.set_1 | refine IsS86.far ?_ NB0_241.out _) | exact HI0.out), by repeat (first | (with_reducible first | exact HB.out | apply below_alloc | apply pw_below_drewN | apply below_drew1 | refine below_set ?_ (IsS86.ge HI0.out) | refine below_set ?_ GE241.out) | exact HB.out), by repeat (first | (with_reducible first | exact HK.out | apply KeepBut.set_ | apply keep_drewN | apply keep_drew | apply keep_alloc | refine keep_far ?_ GW241.out _) | exact HK.out)⟩
                              · rw [if_neg c93] at H
                                have c93b0 : (x9_29 == 10) = false := beq_eq_false_iff_ne.mpr c93
                                have c93b1 : (x9_29 != 10) = true := bne_iff_ne.mpr c93
                                simp only [Option.some.injEq, Prod.mk.injEq] at H
                                obtain ⟨rfl, rfl, rfl, rfl, rfl, rfl, rfl⟩ := H
                                have hnb98 := NB241_0.out
                                have hnc98 := NB0_241.out
                                have hcz99_0 : wc.cell? ⟨gb241, 0, none⟩ = some (.int .i64 0) := (blk_cell BK241.out 0).trans rfl
                                have hcz99_1 : wc.cell? ⟨gb241, 1, none⟩ = some (.int .i64 0) := (blk_cell BK241.out 1).trans rfl
                                have hcz99_2 : wc.cell? ⟨gb241, 2, none⟩ = some (.int .i64 0) := (blk_cell BK241.out 2).trans rfl
                                have hcz99_3 : wc.cell? ⟨gb241, 3, none⟩ = some (.int .i64 0) := (blk_cell BK241.out 3).trans rfl
                                have hcz99_4 : wc.cell? ⟨gb241, 4, none⟩ = some (.slice none 0 0) := (blk_cell BK241.out 4).trans rfl
                                have hcz99_5 : wc.cell? ⟨gb241, 5, none⟩ = some (.slice none 0 0) := (blk_cell BK241.out 5).trans rfl
                                have hfz99_0 := blk_frozen BK241.out 0
                                have hfz99_1 := blk_frozen BK241.out 1
                                have hfz99_2 := blk_frozen BK241.out 2
                                have hfz99_3 := blk_frozen BK241.out 3
                                have hfz99_4 := blk_frozen BK241.out 4
                                have hfz99_5 := blk_frozen BK241.out 5
                                go_wp2
                                refine bodyPost_ret (results_cell_row rfl _ _ gb241 29 #[.int .i64 11, .int .i64 0, .int .i64 0, .int .i64 0, .slice none 0 0, .slice none 0 0] (0, 0) _ rfl (q9_ BK241) Try.underlying29 rfl (by kernel_rfl)) rfl ?_
                                exact ⟨_, _, by first | rfl | (simp [errW_none, errW_some] <;> rfl) | (simp [*, errW_none, errW_some] <;> rfl), by first | exact Kd.R_nil _ _ _ _ _ | exact Kd.N_nil _ _ _ _ _ | exact Kd.V_nil _ _ _ _ _ | exact Kd.Q_nil _ _ _ _ _ | exact Kd.S_nil _ _ _ _ _, by first | exact Kd.R_nil _ _ _ _ _ | exact Kd.N_nil _ _ _ _ _ | exact Kd.V_nil _ _ _ _ _ | exact Kd.Q_nil _ _ _ _ _ | exact Kd.S_nil _ _ _ _ _, by repeat (first | (with_reducible first | exact HI0.out | apply IsS86.alloc | apply IsS86.drewN | apply IsS86.drew | apply IsS86.set_1 | refine IsS86.far ?_ NB0_241.out _) | exact HI0.out), by repeat (first | (with_reducible first | exact HB.out | apply below_alloc | apply pw_below_drewN | apply below_drew1 | refine below_set ?_ (IsS86.ge HI0.out) | refine below_set ?_ GE241.out) | exact HB.out), by repeat (first | (with_reducible first | exact HK.out | apply KeepBut.set_ | apply keep_drewN | apply keep_drew | apply keep_alloc | refine keep_far ?_ GW241.out _) | exact HK.out)⟩

/-! ### spec_l2Draws: function 69 -/
set_option maxHeartbeats 8000000 in
set_option maxRecDepth 100000 in
theorem spec_l2Draws.calls_ (k : Nat) (ih_spec_l2Draw : ∀ k_, k_ < k → spec_l2Draw.Says k_) (ih_spec_l2Draws : ∀ k_, k_ < k → spec_l2Draws.Says k_) : spec_l2Draws.Says k := by
  intro g s0_0 s0_1 a1 a2 a3 r1 r2 w0 w hI hB h
  cases k with
  | zero => exact absurd h (by simp [spec_l2Draws.f])
  | succ k =>
  simp only [spec_l2Draws.f] at h
  have HI0 := Aside0.mk hI
  have HK := Aside0.mk (KeepBut.refl w g none)
  have HL := Aside0.mk hB.size
  clear hI
  have HW0 := Aside0.mk hB.size
  have HB := Aside0.mk hB
  clear hB
  have H : ((spec_l11Rd_pick.f k s0_0 s0_1 (wrap64 (a3 + 1))).bind fun bt296 => (spec_l2Draws.l0 k a1 a2 (([] : List (S29))) bt296.1 s0_0 bt296.2)) = some (r1, r2) := h
  clear h
  obtain ⟨y293, hy293⟩ : ∃ y_ : List (S29), y_ = (([] : List (S29))) := ⟨_, rfl⟩
  replace H : ((spec_l11Rd_pick.f k s0_0 s0_1 (wrap64 (a3 + 1))).bind fun bt296 => (spec_l2Draws.l0 k a1 a2 y293 bt296.1 s0_0 bt296.2)) = some (r1, r2) := by first | (rw [hy293]; with_reducible exact H) | (have H2_ := (Option.bind_some _ _).symm.trans H; rw [hy293]; with_reducible exact H2_) | (have H2_ := (Option.bind_some _ _).symm.trans H; with_reducible exact H2_) | with_reducible exact H | (rw [hy293]; exact H) | exact H
  have Ny293 := Aside0.mk hy293
  clear hy293
  replace H := Option.bind_eq_some_iff.mp H
  obtain ⟨⟨t296, t297⟩, A50, H⟩ := H
  replace H : (spec_l2Draws.l0 k a1 a2 y293 t296 s0_0 t297) = some (r1, r2) := H
  have A5 := Aside0.mk A50
  clear A50
  have H' := Aside0.mk H
  clear H
  go_enter Try.func69, Try.ntmps69
  go_wp2_with (first | ((with_reducible refine gate_dst (N := 11) rfl ?_); refine Kd.R_lit k29 _ 29 ?hg (N := 11) ?hd (xs := ([] : List (S29))) (inner := []) (ok := fun _ => True) (okp := fun _ => True) ?hr ?hp (fun _ hk => hk) trivial (Below.refl _ _) (Nat.le_refl _) (by simp) ?_; (case hd => rfl); (case hg => rfl); (case hr => first | (go_simp; done) | (go_simp; rfl)); (case hp => exact (Reps.none _ _)); intro v294 w6 ho7 hb hg_ hnew_; clear hg_ hnew_; (first | rw [← Ny293.out] at ho7 | (simp only [Int.reduceToNat] at ho7; rw [← Ny293.out] at ho7)); have n0_ := Aside0.mk (Kd.R_lower ho7 (keep_size (w := w) (g := g) (row := none) (q12_ HK))); have n1_ := Aside0.mk (IsS86.below (q10_ HI0) hb); have n2_ := Aside0.mk (KeepBut.trans (q12_ HK) (KeepBut.of_below hb g none) (.inl rfl)); have n3_ := Aside0.mk (below_step (q11_ HB HI0) hb); clear HI0; clear HK; clear HB; have HO295 := n0_; have HI0 := n1_; have HK := n2_; have HB := n3_; clear n0_ n1_ n2_ n3_; clear hb ho7) | ((with_reducible refine gate_callee (f := 48) rfl ?_); refine goesL_ (some 15) rfl rfl Try.func48 (by kernel_rfl) rfl #[.pointer (some ⟨g, 0, none⟩), .int .i64 (wrap64 (a3 + 1))] rfl (by (try simp only [List.map_toArray, List.map_cons, List.map_nil]); first | done | rfl | (simp only [List.length_drop, List.length_take]; rfl)) ?_; (with_reducible refine (spec_l11Rd_pick.calls k g s0_0 s0_1 (wrap64 (a3 + 1)) t296 t297 w0 _ ?side1 ?side2 A5.out).mono ?_); (case side1 => exact q10_ HI0); (case side2 => exact q11_ HB HI0); rintro e w8 ⟨rfl, hi, hb, hk⟩; refine ⟨_, rfl, ?_⟩; have n0_ := Aside0.mk (Kd.R_mono (Kd.R_keep (IsS86.apart (show IsS86 w0 _ g s0_0 s0_1 from by repeat (first | (with_reducible first | exact HI0.out | apply IsS86.alloc | apply IsS86.drewN | apply IsS86.drew | apply IsS86.set_1) | exact HI0.out)) (q7_ HO295) (by decide)) hk (fun _ h => h.2)) (fun _ h => h.1)); have n1_ := Aside0.mk (KeepBut.trans (q12_ HK) hk (.inl rfl)); have n2_ := Aside0.mk (hb); have n3_ := Aside0.mk (hi); clear HO295; clear HK; clear HB; clear HI0; have HO295 := n0_; have HK := n1_; have HB := n2_; have HI0 := n3_; clear n0_ n1_ n2_ n3_; (try clear hb); (try clear hb2); (try clear hk); (try clear hi)))
  go_loopg [9, 10] k (fun kq v9 v10 w' => ∃ (x9_1 : List (S29)) (x10_1 : Int) (x1001_1 : Int), v10 = .int .i64 x10_1 ∧ Aside0 (spec_l2Draws.l0 kq a1 a2 x9_1 x10_1 s0_0 x1001_1 = some (r1, r2)) ∧ Aside0 (kq ≤ k) ∧ Aside0 (Kd.R k29 29 w' w.heap.size (fun _ => True) v9 x9_1) ∧ Aside0 (IsS86 w0 w' g s0_0 x1001_1) ∧ Aside0 (KeepBut w w' g none) ∧ Aside0 (Below w0.heap.size w0 w'))
  case atStart => exact ⟨(y293), (t296), (t297), (by first | rfl | (simp; done) | (simp [*]; done)), H', ⟨Nat.le_refl _⟩, ⟨by (with_reducible repeat (first | apply Kd.R_alloc | apply Kd.R_drewN | apply Kd.R_drew)); exact HO295.out⟩, ⟨by repeat (first | (with_reducible first | exact HI0.out | apply IsS86.alloc | apply IsS86.drewN | apply IsS86.drew | apply IsS86.set_1) | exact HI0.out)⟩, ⟨by repeat (first | (with_reducible first | exact HK.out | apply KeepBut.set_ | apply keep_drewN | apply keep_drew | apply keep_alloc) | exact HK.out)⟩, ⟨by repeat (first | (with_reducible first | exact HB.out | apply below_alloc | apply pw_below_drewN | apply below_drew1 | refine below_set ?_ (IsS86.ge HI0.out)) | exact HB.out)⟩⟩
  case round =>
    clear H'
    try clear p2
    try clear c4
    try clear c6
    try clear p6
    obtain ⟨x9_1, x10_1, x1001_1, rfl, HA, HK1, HO_9, HI0, HK, HB⟩ := hrel
    cases gk with
    | zero => exact absurd HA.out (by simp [spec_l2Draws.l0])
    | succ k1 =>
      have H := HA.out
      clear HA
      simp only [spec_l2Draws.l0] at H
      by_cases c9 : x10_1 > 0
      · rw [if_pos c9] at H
        have c9b0 : decide (0 < x10_1) = true := decide_eq_true c9
        clear c9
        replace H := Option.bind_eq_some_iff.mp H
        obtain ⟨⟨t298, t299, t300, t301, t302, t305, t308⟩, A100, H⟩ := H
        replace H : (if x9_1.length < 1759218604441 then (spec_l2Draws.l0 k1 a1 a2 (x9_1 ++ [(⟨t298, t299, t300, t301, t302, t305⟩ : S29)]) (wrap64 (x10_1 - 1)) s0_0 t308) else (none)) = some (r1, r2) := H
        have A10 := Aside0.mk A100
        clear A100
        by_cases c11 : x9_1.length < 1759218604441
        · rw [if_pos c11] at H
          have LMc11 := Aside0.mk c11
          clear c11
          obtain ⟨y309, hy309⟩ : ∃ y_ : List (S29), y_ = (x9_1 ++ [(⟨t298, t299, t300, t301, t302, t305⟩ : S29)]) := ⟨_, rfl⟩
          replace H : (spec_l2Draws.l0 k1 a1 a2 y309 (wrap64 (x10_1 - 1)) s0_0 t308) = some (r1, r2) := by first | (rw [hy309]; with_reducible exact H) | (have H2_ := (Option.bind_some _ _).symm.trans H; rw [hy309]; with_reducible exact H2_) | (have H2_ := (Option.bind_some _ _).symm.trans H; with_reducible exact H2_) | with_reducible exact H | (rw [hy309]; exact H) | exact H
          have Ny309 := Aside0.mk hy309
          clear hy309
          have H' := Aside0.mk H
          clear H
          go_wp2_with (first | ((with_reducible refine gate_callee (f := 50) rfl ?_); refine goesL_ (some 24) rfl rfl Try.func50 (by kernel_rfl) rfl #[.pointer (some ⟨g, 0, none⟩), .int .i64 a1, .int .i64 a2] rfl (by (try simp only [List.map_toArray, List.map_cons, List.map_nil]); first | done | rfl | (simp only [List.length_drop, List.length_take]; rfl)) ?_; (with_reducible refine (ih_spec_l2Draw k1 (by have := HK1.out; omega) g s0_0 x1001_1 a1 a2 t298 t299 t300 t301 t302 t305 t308 w0 _ ?side1 ?side2 A10.out).mono ?_); (case side1 => exact q10_ HI0); (case side2 => exact q11_ HB HI0); rintro e w12 ⟨v303, v306, rfl, ho0, ho1, hi, hb, hk⟩; refine ⟨_, rfl, ?_⟩; have n0_ := Aside0.mk (Kd.R_mono (Kd.R_told (Kd.R_told (Kd.R_oldK (IsS86.apart (show IsS86 w0 _ g s0_0 x1001_1 from by repeat (first | (with_reducible first | exact HI0.out | apply IsS86.alloc | apply IsS86.drewN | apply IsS86.drew | apply IsS86.set_1) | exact HI0.out)) (q7_ HO_9) (by decide)) hk) (Kd.R_base ho0)) (Kd.R_base ho1)) (fun _ h_ => h_.1)); have n1_ := Aside0.mk (Kd.R_lower (Kd.R_new' ho0 (Kd.R_lt (q7_ HO_9))) (keep_size (w := w) (g := g) (row := none) (q12_ HK))); have n2_ := Aside0.mk (Kd.R_lower (Kd.R_new' ho1 (Kd.R_lt (q7_ HO_9))) (keep_size (w := w) (g := g) (row := none) (q12_ HK))); have n3_ := Aside0.mk (KeepBut.trans (q12_ HK) hk (.inl rfl)); have n4_ := Aside0.mk (hb); have n5_ := Aside0.mk (hi); clear HO_9; clear HK; clear HB; clear HI0; have HO_9 := n0_; have HO304 := n1_; have HO307 := n2_; have HK := n3_; have HB := n4_; have HI0 := n5_; clear n0_ n1_ n2_ n3_ n4_ n5_; (try clear hb); (try clear hb2); (try clear hk); (try clear hi); (try clear ho0); (try clear ho1); obtain ⟨Ao14, co14, eo14⟩ := Kd.R_slice HO304.out; subst eo14; obtain ⟨Ao15, co15, eo15⟩ := Kd.R_slice HO307.out; subst eo15) | ((with_reducible refine gate_builtin (b := .append) (xs := #[.tmp 20, .tmp 25]) rfl ?_); at_builtin; refine Kd.R_append k29 w.heap.size rfl (.tmp 20) (.tmp 25) 27 29 (.agg #[(.int .i64 0), (.int .i64 0), (.int .i64 0), (.int .i64 0), (.slice none 0 0), (.slice none 0 0)]) 80 rfl Try.underlying27 info29 rfl (by decide) (by omega) u9 x9_1 (⟨t298, t299, t300, t301, t302, t305⟩ : S29) [.int .i64 t298, .int .i64 t299, .int .i64 t300, .int .i64 t301, .slice Ao14 t302.length co14, .slice Ao15 t305.length co15] (fun _ => True) (fun k_ => ((fun _ => True)) k_ ∧ some k_ ≠ (u9 : Value).ownBlock) rfl rfl ?aP (fun _ hk => hk) ?aF ?aO (Below.refl _ _) ?aS ?aL ?_; (case aP => exact k29_mkM _ _ _ (⟨t298, t299, t300, t301, t302, t305⟩ : S29) (Kd.R_mono (HO304.out) (fun k_ hk => ⟨trivial, hk.2⟩)) (Kd.R_mono (HO307.out) (fun k_ hk => ⟨trivial, hk.2⟩))); (case aF => exact (fun _ _ => trivial)); (case aO => exact (by (with_reducible repeat (first | apply Kd.R_alloc | apply Kd.R_drewN | apply Kd.R_drew)); exact Kd.R_mono HO_9.out (fun _ hk => trivial))); (case aS => exact (keep_size (w := w) (g := g) (row := none) (q12_ HK))); (case aL => have := LMc11.out; omega); intro v310 w13 ho hb hg hat; rw [← Ny309.out] at ho; have n0_ := Aside0.mk (IsS86.grown (q10_ HI0) hg (IsS86.own_ne HI0.out HO_9.out (by decide))); have n1_ := Aside0.mk (below_weaken (q11_ HB HI0) HL.out hb); have n2_ := Aside0.mk (KeepBut.trans (q12_ HK) (KeepBut.of_grown hg g) (Kd.R_base2 HO_9.out)); have n3_ := Aside0.mk (ho); clear HI0; clear HB; clear HK; clear HO_9; clear HO304; clear HO307; have HI0 := n0_; have HB := n1_; have HK := n2_; have HO311 := n3_; clear n0_ n1_ n2_ n3_; clear ho hb hg hat))
          go_roundg k1
          case measure => have := HK1.out; omega
          case rel => exact ⟨(y309), (wrap64 (x10_1 - 1)), (t308), (by first | rfl | (simp; done) | (simp [*]; done)), H', ⟨by have := HK1.out; omega⟩, ⟨by (with_reducible repeat (first | apply Kd.R_alloc | apply Kd.R_drewN | apply Kd.R_drew)); exact HO311.out⟩, ⟨by repeat (first | (with_reducible first | exact HI0.out | apply IsS86.alloc | apply IsS86.drewN | apply IsS86.drew | apply IsS86.set_1) | exact HI0.out)⟩, ⟨by repeat (first | (with_reducible first | exact HK.out | apply KeepBut.set_ | apply keep_drewN | apply keep_drew | apply keep_alloc) | exact HK.out)⟩, ⟨by repeat (first | (with_reducible first | exact HB.out | apply below_alloc | apply pw_below_drewN | apply below_drew1 | refine below_set ?_ (IsS86.ge HI0.out)) | exact HB.out)⟩⟩
        · rw [if_neg c11] at H
          exact absurd H (by simp)
      · rw [if_neg c9] at H
        have c9b0 : decide (0 < x10_1) = false := decide_eq_false c9
        clear c9
        simp only [Option.some.injEq, Prod.mk.injEq] at H
        obtain ⟨rfl, rfl⟩ := H
        go_wp2
        go_ret
        exact ⟨_, by first | rfl | (simp [errW_none, errW_some] <;> rfl) | (simp [*, errW_none, errW_some] <;> rfl), by (with_reducible repeat (first | apply Kd.R_alloc | apply Kd.R_drewN | apply Kd.R_drew)); exact HO_9.out, by repeat (first | (with_reducible first | exact HI0.out | apply IsS86.alloc | apply IsS86.drewN | apply IsS86.drew | apply IsS86.set_1) | exact HI0.out), by repeat (first | (with_reducible first | exact HB.out | apply below_alloc | apply pw_below_drewN | apply below_drew1 | refine below_set ?_ (IsS86.ge HI0.out)) | exact HB.out), by repeat (first | (with_reducible first | exact HK.out | apply KeepBut.set_ | apply keep_drewN | apply keep_drew | apply keep_alloc) | exact HK.out)⟩
theorem spec_l2Draw.grp.calls_all (k : Nat) : spec_l2Draw.Says k ∧ spec_l2Draws.Says k := by
  induction k using Nat.strongRecOn with
  | _ k ih => exact ⟨spec_l2Draw.calls_ k (fun j h => (ih j h).1) (fun j h => (ih j h).2), spec_l2Draws.calls_ k (fun j h => (ih j h).1) (fun j h => (ih j h).2)⟩
theorem spec_l2Draw.calls (k : Nat) : spec_l2Draw.Says k := (spec_l2Draw.grp.calls_all k).1
theorem spec_l2Draws.calls (k : Nat) : spec_l2Draws.Says k := (spec_l2Draw.grp.calls_all k).2

end Go.Proofs.Ytnjaimaaijbacaa.P
