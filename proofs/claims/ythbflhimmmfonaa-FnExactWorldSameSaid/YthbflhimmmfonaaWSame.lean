/- impl.sameWorld by its contract: the closure that compares two processes, the library's comparison with it, and the function; no condition beyond the reading of the lists. -/
import Derived.Test.YthbflhimmmfonaaEqRows
import Derived.Test.YthbflhimmmfonaaFImplSay
namespace Go.Proofs.Ythbflhimmmfonaa.P
open Go.RowKit Go.Proofs.YthbflhimmmfonaaW.PrintWords Go.Proofs.YthbflhimmmfonaaW.PrintLast Go.Proofs.YthbflhimmmfonaaW.PrintMore
attribute [local go_sem] max2_int min2_int max_two min_two max_three min_three max_four min_four
set_option linter.unusedVariables false
set_option linter.unusedSimpArgs false
theorem calls_dr {P : Program} {f : FuncId} {args : Array Value} {w : World} {r : Bool} (h : Calls P f args w fun e w' => e = .returned (.bool r) ∧ Drawn0 w w') : Calls P f args w fun e w' => e = .returned (.bool r) ∧ Below w.heap.size w w' := h.mono (fun e w' q => ⟨q.1, drawn_below q.2⟩)
theorem cells5_ {w : World} {g : Nat} {t : TypeId} {c0 c1 c2 c3 c4 : Value} (h : Aside0 (w.heap[g]? = some (.cells #[c0, c1, c2, c3, c4] t (0, 0)))) : w.cell? ⟨g, 0, none⟩ = some c0 ∧ w.cell? ⟨g, 1, none⟩ = some c1 ∧ w.cell? ⟨g, 2, none⟩ = some c2 ∧ w.cell? ⟨g, 3, none⟩ = some c3 ∧ w.cell? ⟨g, 4, none⟩ = some c4 := ⟨(blk_cell h.out 0).trans rfl, (blk_cell h.out 1).trans rfl, (blk_cell h.out 2).trans rfl, (blk_cell h.out 3).trans rfl, (blk_cell h.out 4).trans rfl⟩
def procV (k : Nat) (x y : S84) : Option Bool := (slices_Equal_int_int.f k x.f0 y.f0).bind fun b => if b = true then (impl_sameStmts.f k x.f1 y.f1).bind fun b => if b = true then if x.f2 = y.f2 then if x.f3 = y.f3 then if x.f4 = y.f4 then some true else some false else some false else some false else some false else some false
theorem procV_mono (k : Nat) (x y : S84) : LeO (procV k x y) (procV (k + 1) x y) := by
  unfold procV
  repeat' first
    | exact LeO.refl _
    | exact slices_Equal_int_int.mono _ _ _
    | exact impl_sameStmts.mono _ _ _
    | refine LeO.ite ?_ ?_
    | refine LeO.bind ?_ (fun _ => ?_)
set_option maxHeartbeats 8000000 in
set_option maxRecDepth 100000 in
theorem procW (k : Nat) (x : S84) (y : S84) (A0 : Option Addr) (c0 : Nat) (A1 : Option Addr) (c1 : Nat) (B0 : Option Addr) (d0 : Nat) (B1 : Option Addr) (d1 : Nat) (r : Bool) (w : World)
    (h0 : Kd.C (Kd.int .i64) w A0 x.f0.length x.f0) (hc0 : x.f0.length ≤ c0)
    (h1 : Kd.C k104 w A1 x.f1.length x.f1) (hc1 : x.f1.length ≤ c1)
    (g0 : Kd.C (Kd.int .i64) w B0 y.f0.length y.f0) (gc0 : y.f0.length ≤ d0)
    (g1 : Kd.C k104 w B1 y.f1.length y.f1) (gc1 : y.f1.length ≤ d1)
    (h : procV k x y = some r) :
    Calls Try.prog 94 #[.agg #[.slice A0 x.f0.length c0, .slice A1 x.f1.length c1, .int .i64 x.f2, .int .i64 x.f3, .int .i64 x.f4], .agg #[.slice B0 y.f0.length d0, .slice B1 y.f1.length d1, .int .i64 y.f2, .int .i64 y.f3, .int .i64 y.f4]] w fun e w' => e = .returned (.bool r) ∧ Below w.heap.size w w' := by
  unfold procV at h
  have hu := Try.underlying84
  have b1 := blk_alloc (blk_new w (.cells #[.slice A0 x.f0.length c0, .slice A1 x.f1.length c1, .int .i64 x.f2, .int .i64 x.f3, .int .i64 x.f4] 84)) (.cells #[.slice B0 y.f0.length d0, .slice B1 y.f1.length d1, .int .i64 y.f2, .int .i64 y.f3, .int .i64 y.f4] 84)
  have b2 := blk_new (w.alloc (.cells #[.slice A0 x.f0.length c0, .slice A1 x.f1.length c1, .int .i64 x.f2, .int .i64 x.f3, .int .i64 x.f4] 84)) (.cells #[.slice B0 y.f0.length d0, .slice B1 y.f1.length d1, .int .i64 y.f2, .int .i64 y.f3, .int .i64 y.f4] 84)
  rw [size_alloc2] at b2
  have HX := Aside0.mk b1
  have HY := Aside0.mk b2
  have HB := Aside0.mk (below_alloc (below_alloc (Below.refl _ w) (.cells #[.slice A0 x.f0.length c0, .slice A1 x.f1.length c1, .int .i64 x.f2, .int .i64 x.f3, .int .i64 x.f4] 84)) (.cells #[.slice B0 y.f0.length d0, .slice B1 y.f1.length d1, .int .i64 y.f2, .int .i64 y.f3, .int .i64 y.f4] 84))
  have HH0 := Aside0.mk h0
  have HH1 := Aside0.mk h1
  have GG0 := Aside0.mk g0
  have GG1 := Aside0.mk g1
  clear b1 b2 h0 h1 g0 g1
  obtain ⟨b0, hv, h⟩ := Option.bind_eq_some_iff.1 h
  have HC0 := Aside0.mk (fun W hx hy => calls_dr (slices_Equal_int_int.calls k A0 c0 x.f0 B0 d0 y.f0 b0 W hx hc0 hy gc0 hv))
  clear hv
  cases b0 with
  | false =>
    obtain rfl := Option.some.inj (show some false = some r by simpa using h)
    clear h
    go_enter Try.func94, Try.ntmps94
    go_wp2_with (first
      | (go_at_call 46; refine (HC0.out _ (Kd.C_below HH0.out (by repeat (first | exact HB.out | (with_reducible apply pw_below_drewN) | (with_reducible apply below_drew1) | (with_reducible apply below_alloc) | exact Below.refl _ _))) (Kd.C_below GG0.out (by repeat (first | exact HB.out | (with_reducible apply pw_below_drewN) | (with_reducible apply below_drew1) | (with_reducible apply below_alloc) | exact Below.refl _ _)))).mono ?_; rintro e w' ⟨rfl, hd⟩; have hb := hd; have n1 := Aside0.mk (below_step (by repeat (first | exact HB.out | (with_reducible apply pw_below_drewN) | (with_reducible apply below_drew1) | (with_reducible apply below_alloc) | exact Below.refl _ _)) hb); have n2 := Aside0.mk (blk_below (by first | exact HX.out) hb); have n3 := Aside0.mk (blk_below (by first | exact HY.out) hb); clear HC0 HB HX HY hb hd ; have HB := n1; have HX := n2; have HY := n3; clear n1 n2 n3; obtain ⟨u0, u1, u2, u3, u4⟩ := cells5_ HX; obtain ⟨v0, v1, v2, v3, v4⟩ := cells5_ HY))
    go_ret
    exact ⟨by first | rfl | (simp; done) | (simp [*]; done), (by repeat (first | exact HB.out | (with_reducible apply pw_below_drewN) | (with_reducible apply below_drew1) | (with_reducible apply below_alloc) | exact Below.refl _ _))⟩
  | true =>
    rw [if_pos rfl] at h
    obtain ⟨b1, hv, h⟩ := Option.bind_eq_some_iff.1 h
    have HC1 := Aside0.mk (fun W hx hy => (impl_sameStmts.calls k A1 c1 x.f1 B1 d1 y.f1 b1 W hx hc1 hy gc1 hv))
    clear hv
    cases b1 with
    | false =>
      obtain rfl := Option.some.inj (show some false = some r by simpa using h)
      clear h
      go_enter Try.func94, Try.ntmps94
      go_wp2_with (first
        | (go_at_call 46; refine (HC0.out _ (Kd.C_below HH0.out (by repeat (first | exact HB.out | (with_reducible apply pw_below_drewN) | (with_reducible apply below_drew1) | (with_reducible apply below_alloc) | exact Below.refl _ _))) (Kd.C_below GG0.out (by repeat (first | exact HB.out | (with_reducible apply pw_below_drewN) | (with_reducible apply below_drew1) | (with_reducible apply below_alloc) | exact Below.refl _ _)))).mono ?_; rintro e w' ⟨rfl, hd⟩; have hb := hd; have n1 := Aside0.mk (below_step (by repeat (first | exact HB.out | (with_reducible apply pw_below_drewN) | (with_reducible apply below_drew1) | (with_reducible apply below_alloc) | exact Below.refl _ _)) hb); have n2 := Aside0.mk (blk_below (by first | exact HX.out) hb); have n3 := Aside0.mk (blk_below (by first | exact HY.out) hb); clear HC0 HB HX HY hb hd ; have HB := n1; have HX := n2; have HY := n3; clear n1 n2 n3; obtain ⟨u0, u1, u2, u3, u4⟩ := cells5_ HX; obtain ⟨v0, v1, v2, v3, v4⟩ := cells5_ HY)
        | (go_at_call 95; refine (HC1.out _ (Kd.C_below HH1.out (by repeat (first | exact HB.out | (with_reducible apply pw_below_drewN) | (with_reducible apply below_drew1) | (with_reducible apply below_alloc) | exact Below.refl _ _))) (Kd.C_below GG1.out (by repeat (first | exact HB.out | (with_reducible apply pw_below_drewN) | (with_reducible apply below_drew1) | (with_reducible apply below_alloc) | exact Below.refl _ _)))).mono ?_; rintro e w' ⟨rfl, hd⟩; have hb := hd; have n1 := Aside0.mk (below_step (by repeat (first | exact HB.out | (with_reducible apply pw_below_drewN) | (with_reducible apply below_drew1) | (with_reducible apply below_alloc) | exact Below.refl _ _)) hb); have n2 := Aside0.mk (blk_below (by first | exact HX.out) hb); have n3 := Aside0.mk (blk_below (by first | exact HY.out) hb); clear HC1 HB HX HY hb hd u0 u1 u2 u3 u4 v0 v1 v2 v3 v4; have HB := n1; have HX := n2; have HY := n3; clear n1 n2 n3; obtain ⟨u0, u1, u2, u3, u4⟩ := cells5_ HX; obtain ⟨v0, v1, v2, v3, v4⟩ := cells5_ HY))
      go_ret
      exact ⟨by first | rfl | (simp; done) | (simp [*]; done), (by repeat (first | exact HB.out | (with_reducible apply pw_below_drewN) | (with_reducible apply below_drew1) | (with_reducible apply below_alloc) | exact Below.refl _ _))⟩
    | true =>
      rw [if_pos rfl] at h
      by_cases e2 : x.f2 = y.f2
      · rw [if_pos e2] at h
        have k2 : (x.f2 == y.f2) = true := by simpa using e2
        clear e2
        by_cases e3 : x.f3 = y.f3
        · rw [if_pos e3] at h
          have k3 : (x.f3 == y.f3) = true := by simpa using e3
          clear e3
          by_cases e4 : x.f4 = y.f4
          · rw [if_pos e4] at h
            have k4 : (x.f4 == y.f4) = true := by simpa using e4
            clear e4
            obtain rfl := Option.some.inj h
            clear h
            go_enter Try.func94, Try.ntmps94
            go_wp2_with (first
              | (go_at_call 46; refine (HC0.out _ (Kd.C_below HH0.out (by repeat (first | exact HB.out | (with_reducible apply pw_below_drewN) | (with_reducible apply below_drew1) | (with_reducible apply below_alloc) | exact Below.refl _ _))) (Kd.C_below GG0.out (by repeat (first | exact HB.out | (with_reducible apply pw_below_drewN) | (with_reducible apply below_drew1) | (with_reducible apply below_alloc) | exact Below.refl _ _)))).mono ?_; rintro e w' ⟨rfl, hd⟩; have hb := hd; have n1 := Aside0.mk (below_step (by repeat (first | exact HB.out | (with_reducible apply pw_below_drewN) | (with_reducible apply below_drew1) | (with_reducible apply below_alloc) | exact Below.refl _ _)) hb); have n2 := Aside0.mk (blk_below (by first | exact HX.out) hb); have n3 := Aside0.mk (blk_below (by first | exact HY.out) hb); clear HC0 HB HX HY hb hd ; have HB := n1; have HX := n2; have HY := n3; clear n1 n2 n3; obtain ⟨u0, u1, u2, u3, u4⟩ := cells5_ HX; obtain ⟨v0, v1, v2, v3, v4⟩ := cells5_ HY)
              | (go_at_call 95; refine (HC1.out _ (Kd.C_below HH1.out (by repeat (first | exact HB.out | (with_reducible apply pw_below_drewN) | (with_reducible apply below_drew1) | (with_reducible apply below_alloc) | exact Below.refl _ _))) (Kd.C_below GG1.out (by repeat (first | exact HB.out | (with_reducible apply pw_below_drewN) | (with_reducible apply below_drew1) | (with_reducible apply below_alloc) | exact Below.refl _ _)))).mono ?_; rintro e w' ⟨rfl, hd⟩; have hb := hd; have n1 := Aside0.mk (below_step (by repeat (first | exact HB.out | (with_reducible apply pw_below_drewN) | (with_reducible apply below_drew1) | (with_reducible apply below_alloc) | exact Below.refl _ _)) hb); have n2 := Aside0.mk (blk_below (by first | exact HX.out) hb); have n3 := Aside0.mk (blk_below (by first | exact HY.out) hb); clear HC1 HB HX HY hb hd u0 u1 u2 u3 u4 v0 v1 v2 v3 v4; have HB := n1; have HX := n2; have HY := n3; clear n1 n2 n3; obtain ⟨u0, u1, u2, u3, u4⟩ := cells5_ HX; obtain ⟨v0, v1, v2, v3, v4⟩ := cells5_ HY))
            go_ret
            exact ⟨by first | rfl | (simp; done) | (simp [*]; done), (by repeat (first | exact HB.out | (with_reducible apply pw_below_drewN) | (with_reducible apply below_drew1) | (with_reducible apply below_alloc) | exact Below.refl _ _))⟩
          · rw [if_neg e4] at h
            have k4 : (x.f4 == y.f4) = false := by simpa using e4
            clear e4
            obtain rfl := Option.some.inj h
            clear h
            go_enter Try.func94, Try.ntmps94
            go_wp2_with (first
              | (go_at_call 46; refine (HC0.out _ (Kd.C_below HH0.out (by repeat (first | exact HB.out | (with_reducible apply pw_below_drewN) | (with_reducible apply below_drew1) | (with_reducible apply below_alloc) | exact Below.refl _ _))) (Kd.C_below GG0.out (by repeat (first | exact HB.out | (with_reducible apply pw_below_drewN) | (with_reducible apply below_drew1) | (with_reducible apply below_alloc) | exact Below.refl _ _)))).mono ?_; rintro e w' ⟨rfl, hd⟩; have hb := hd; have n1 := Aside0.mk (below_step (by repeat (first | exact HB.out | (with_reducible apply pw_below_drewN) | (with_reducible apply below_drew1) | (with_reducible apply below_alloc) | exact Below.refl _ _)) hb); have n2 := Aside0.mk (blk_below (by first | exact HX.out) hb); have n3 := Aside0.mk (blk_below (by first | exact HY.out) hb); clear HC0 HB HX HY hb hd ; have HB := n1; have HX := n2; have HY := n3; clear n1 n2 n3; obtain ⟨u0, u1, u2, u3, u4⟩ := cells5_ HX; obtain ⟨v0, v1, v2, v3, v4⟩ := cells5_ HY)
              | (go_at_call 95; refine (HC1.out _ (Kd.C_below HH1.out (by repeat (first | exact HB.out | (with_reducible apply pw_below_drewN) | (with_reducible apply below_drew1) | (with_reducible apply below_alloc) | exact Below.refl _ _))) (Kd.C_below GG1.out (by repeat (first | exact HB.out | (with_reducible apply pw_below_drewN) | (with_reducible apply below_drew1) | (with_reducible apply below_alloc) | exact Below.refl _ _)))).mono ?_; rintro e w' ⟨rfl, hd⟩; have hb := hd; have n1 := Aside0.mk (below_step (by repeat (first | exact HB.out | (with_reducible apply pw_below_drewN) | (with_reducible apply below_drew1) | (with_reducible apply below_alloc) | exact Below.refl _ _)) hb); have n2 := Aside0.mk (blk_below (by first | exact HX.out) hb); have n3 := Aside0.mk (blk_below (by first | exact HY.out) hb); clear HC1 HB HX HY hb hd u0 u1 u2 u3 u4 v0 v1 v2 v3 v4; have HB := n1; have HX := n2; have HY := n3; clear n1 n2 n3; obtain ⟨u0, u1, u2, u3, u4⟩ := cells5_ HX; obtain ⟨v0, v1, v2, v3, v4⟩ := cells5_ HY))
            go_ret
            exact ⟨by first | rfl | (simp; done) | (simp [*]; done), (by repeat (first | exact HB.out | (with_reducible apply pw_below_drewN) | (with_reducible apply below_drew1) | (with_reducible apply below_alloc) | exact Below.refl _ _))⟩
        · rw [if_neg e3] at h
          have k3 : (x.f3 == y.f3) = false := by simpa using e3
          clear e3
          obtain rfl := Option.some.inj h
          clear h
          go_enter Try.func94, Try.ntmps94
          go_wp2_with (first
            | (go_at_call 46; refine (HC0.out _ (Kd.C_below HH0.out (by repeat (first | exact HB.out | (with_reducible apply pw_below_drewN) | (with_reducible apply below_drew1) | (with_reducible apply below_alloc) | exact Below.refl _ _))) (Kd.C_below GG0.out (by repeat (first | exact HB.out | (with_reducible apply pw_below_drewN) | (with_reducible apply below_drew1) | (with_reducible apply below_alloc) | exact Below.refl _ _)))).mono ?_; rintro e w' ⟨rfl, hd⟩; have hb := hd; have n1 := Aside0.mk (below_step (by repeat (first | exact HB.out | (with_reducible apply pw_below_drewN) | (with_reducible apply below_drew1) | (with_reducible apply below_alloc) | exact Below.refl _ _)) hb); have n2 := Aside0.mk (blk_below (by first | exact HX.out) hb); have n3 := Aside0.mk (blk_below (by first | exact HY.out) hb); clear HC0 HB HX HY hb hd ; have HB := n1; have HX := n2; have HY := n3; clear n1 n2 n3; obtain ⟨u0, u1, u2, u3, u4⟩ := cells5_ HX; obtain ⟨v0, v1, v2, v3, v4⟩ := cells5_ HY)
            | (go_at_call 95; refine (HC1.out _ (Kd.C_below HH1.out (by repeat (first | exact HB.out | (with_reducible apply pw_below_drewN) | (with_reducible apply below_drew1) | (with_reducible apply below_alloc) | exact Below.refl _ _))) (Kd.C_below GG1.out (by repeat (first | exact HB.out | (with_reducible apply pw_below_drewN) | (with_reducible apply below_drew1) | (with_reducible apply below_alloc) | exact Below.refl _ _)))).mono ?_; rintro e w' ⟨rfl, hd⟩; have hb := hd; have n1 := Aside0.mk (below_step (by repeat (first | exact HB.out | (with_reducible apply pw_below_drewN) | (with_reducible apply below_drew1) | (with_reducible apply below_alloc) | exact Below.refl _ _)) hb); have n2 := Aside0.mk (blk_below (by first | exact HX.out) hb); have n3 := Aside0.mk (blk_below (by first | exact HY.out) hb); clear HC1 HB HX HY hb hd u0 u1 u2 u3 u4 v0 v1 v2 v3 v4; have HB := n1; have HX := n2; have HY := n3; clear n1 n2 n3; obtain ⟨u0, u1, u2, u3, u4⟩ := cells5_ HX; obtain ⟨v0, v1, v2, v3, v4⟩ := cells5_ HY))
          go_ret
          exact ⟨by first | rfl | (simp; done) | (simp [*]; done), (by repeat (first | exact HB.out | (with_reducible apply pw_below_drewN) | (with_reducible apply below_drew1) | (with_reducible apply below_alloc) | exact Below.refl _ _))⟩
      · rw [if_neg e2] at h
        have k2 : (x.f2 == y.f2) = false := by simpa using e2
        clear e2
        obtain rfl := Option.some.inj h
        clear h
        go_enter Try.func94, Try.ntmps94
        go_wp2_with (first
          | (go_at_call 46; refine (HC0.out _ (Kd.C_below HH0.out (by repeat (first | exact HB.out | (with_reducible apply pw_below_drewN) | (with_reducible apply below_drew1) | (with_reducible apply below_alloc) | exact Below.refl _ _))) (Kd.C_below GG0.out (by repeat (first | exact HB.out | (with_reducible apply pw_below_drewN) | (with_reducible apply below_drew1) | (with_reducible apply below_alloc) | exact Below.refl _ _)))).mono ?_; rintro e w' ⟨rfl, hd⟩; have hb := hd; have n1 := Aside0.mk (below_step (by repeat (first | exact HB.out | (with_reducible apply pw_below_drewN) | (with_reducible apply below_drew1) | (with_reducible apply below_alloc) | exact Below.refl _ _)) hb); have n2 := Aside0.mk (blk_below (by first | exact HX.out) hb); have n3 := Aside0.mk (blk_below (by first | exact HY.out) hb); clear HC0 HB HX HY hb hd ; have HB := n1; have HX := n2; have HY := n3; clear n1 n2 n3; obtain ⟨u0, u1, u2, u3, u4⟩ := cells5_ HX; obtain ⟨v0, v1, v2, v3, v4⟩ := cells5_ HY)
          | (go_at_call 95; refine (HC1.out _ (Kd.C_below HH1.out (by repeat (first | exact HB.out | (with_reducible apply pw_below_drewN) | (with_reducible apply below_drew1) | (with_reducible apply below_alloc) | exact Below.refl _ _))) (Kd.C_below GG1.out (by repeat (first | exact HB.out | (with_reducible apply pw_below_drewN) | (with_reducible apply below_drew1) | (with_reducible apply below_alloc) | exact Below.refl _ _)))).mono ?_; rintro e w' ⟨rfl, hd⟩; have hb := hd; have n1 := Aside0.mk (below_step (by repeat (first | exact HB.out | (with_reducible apply pw_below_drewN) | (with_reducible apply below_drew1) | (with_reducible apply below_alloc) | exact Below.refl _ _)) hb); have n2 := Aside0.mk (blk_below (by first | exact HX.out) hb); have n3 := Aside0.mk (blk_below (by first | exact HY.out) hb); clear HC1 HB HX HY hb hd u0 u1 u2 u3 u4 v0 v1 v2 v3 v4; have HB := n1; have HX := n2; have HY := n3; clear n1 n2 n3; obtain ⟨u0, u1, u2, u3, u4⟩ := cells5_ HX; obtain ⟨v0, v1, v2, v3, v4⟩ := cells5_ HY))
        go_ret
        exact ⟨by first | rfl | (simp; done) | (simp [*]; done), (by repeat (first | exact HB.out | (with_reducible apply pw_below_drewN) | (with_reducible apply below_drew1) | (with_reducible apply below_alloc) | exact Below.refl _ _))⟩
def SaysP (T : S84 → S84 → Option Bool) : Prop := ∀ (x : S84) (y : S84) (A0 : Option Addr) (c0 : Nat) (A1 : Option Addr) (c1 : Nat) (B0 : Option Addr) (d0 : Nat) (B1 : Option Addr) (d1 : Nat) (r : Bool) (w : World),
    Kd.C (Kd.int .i64) w A0 x.f0.length x.f0 → x.f0.length ≤ c0 → Kd.C k104 w A1 x.f1.length x.f1 → x.f1.length ≤ c1 → Kd.C (Kd.int .i64) w B0 y.f0.length y.f0 → y.f0.length ≤ d0 → Kd.C k104 w B1 y.f1.length y.f1 → y.f1.length ≤ d1 → T x y = some r →
    Calls Try.prog 94 #[.agg #[.slice A0 x.f0.length c0, .slice A1 x.f1.length c1, .int .i64 x.f2, .int .i64 x.f3, .int .i64 x.f4], .agg #[.slice B0 y.f0.length d0, .slice B1 y.f1.length d1, .int .i64 y.f2, .int .i64 y.f3, .int .i64 y.f4]] w fun e w' => e = .returned (.bool r) ∧ Below w.heap.size w w'
set_option maxHeartbeats 4000000 in
set_option maxRecDepth 100000 in
theorem procEq_calls (T : S84 → S84 → Option Bool) (hT : SaysP T) (A B : Option Addr) (c d : Nat) (a : List S84) (b : List S84) (r : Bool) (w : World) (ha : Kd.C k84 w A a.length a) (hb : Kd.C k84 w B b.length b) (h : eqL2 T a b = some r) :
    Calls Try.prog 96 #[.slice A a.length c, .slice B b.length d, .func (.func 94) #[] #[]] w fun e w' => e = .returned (.bool r) ∧ Below w.heap.size w w' := by
  have HT := Aside0.mk hT
  have HA := Aside0.mk ha
  have HB := Aside0.mk hb
  have H := Aside0.mk h
  have hla : a.length ≤ 9223372036854775807 := ha.2.1
  have hlb : b.length ≤ 9223372036854775807 := hb.2.1
  have hu := Try.underlying84
  clear hT ha hb h
  by_cases hn : a.length = b.length
  · have hnz : ((a.length : Int) != (b.length : Int)) = false := bne_eq_false_iff_eq.mpr (by omega)
    have h0 := H.out
    unfold eqL2 at h0
    rw [if_pos hn] at h0
    have H0 := Aside0.mk h0
    have HNE := Aside0.mk hn
    clear h0 H hn
    go_enter Try.func96, Try.ntmps96
    go_wp2
    go_loopg [7, 17] a.length (fun gg _ p wr => ∃ kk : Nat, kk ≤ a.length ∧ a.length - kk ≤ gg ∧ p = .int .i64 kk ∧ Aside0 (eqM2 T (a.drop kk) (b.drop kk) = some r) ∧ Aside0 (Below w.heap.size w wr))
    case atStart => exact ⟨0, Nat.zero_le _, by omega, rfl, H0, ⟨Below.refl _ w⟩⟩
    case round =>
      obtain ⟨kk, hkk, hg, rfl, HE, HW⟩ := hrel
      clear H0
      by_cases hlt : kk < a.length
      · have hltz : decide ((kk : Int) < (a.length : Int)) = true := decide_eq_true (by omega)
        have p1 : 0 ≤ (kk : Int) := by omega
        have q1 : (kk : Int) < (a.length : Int) := by omega
        have q2 : (kk : Int) < (b.length : Int) := by have := HNE.out; omega
        obtain ⟨ad, A0, c0, A1, c1, e1, f0, f1, f2, f3, f4, hc0, H0, hc1, H1⟩ := at_T84 (Kd.C_below HA.out HW.out) (kk : Int) p1 q1
        obtain ⟨bd, B0, d0, B1, d1, e2, g0, g1, g2, g3, g4, gc0, G0, gc1, G1⟩ := at_T84 (Kd.C_below HB.out HW.out) (kk : Int) p1 q2
        cases e1
        cases e2
        rw [Int.toNat_natCast] at f0 f1 f2 f3 f4 g0 g1 g2 g3 g4
        have he := HE.out
        rw [show a.drop kk = rd_T84 a (kk : Int) :: a.drop (kk + 1) from by rw [List.drop_eq_getElem_cons hlt]; unfold rd_T84; rw [Int.toNat_natCast, List.getD_eq_getElem?_getD, List.getElem?_eq_getElem hlt]; rfl,
          show b.drop kk = rd_T84 b (kk : Int) :: b.drop (kk + 1) from by rw [List.drop_eq_getElem_cons (by have := HNE.out; omega)]; unfold rd_T84; rw [Int.toNat_natCast, List.getD_eq_getElem?_getD, List.getElem?_eq_getElem (by have := HNE.out; omega)]; rfl] at he
        clear HE
        obtain ⟨v, hv1, hv2⟩ := Option.bind_eq_some_iff.1 he
        clear he
        generalize rd_T84 a (kk : Int) = x at *
        generalize rd_T84 b (kk : Int) = y at *
        have al : ∀ {p : Addr} {u : Value}, wr.cell? p = some u → ∀ o, (wr.alloc o).cell? p = some u := fun h o => ((below_alloc (Below.refl _ wr) o).cell (World.block_lt_of_cell? wr _ h)).trans h
        have i0 := al g0
        have i1 := al g1
        have i2 := al g2
        have i3 := al g3
        have i4 := al g4
        clear al g0 g1 g2 g3 g4
        have HC := Aside0.mk (fun W h0 h1 g0 g1 => HT.out x y A0 c0 A1 c1 B0 d0 B1 d1 v W h0 hc0 h1 hc1 g0 gc0 g1 gc1 hv1)
        have HHx0 := Aside0.mk H0
        clear H0
        have HHx1 := Aside0.mk H1
        clear H1
        have HHy0 := Aside0.mk G0
        clear G0
        have HHy1 := Aside0.mk G1
        clear G1
        clear hv1
        replace p1 := eq_true p1
        replace q1 := eq_true q1
        replace q2 := eq_true q2
        cases v with
        | false =>
          obtain rfl := Option.some.inj (show some false = some r by simpa using hv2)
          clear hv2
          go_wp2_with (go_at_call 94; refine (HC.out _ (Kd.C_alloc (Kd.C_alloc HHx0.out _) _) (Kd.C_alloc (Kd.C_alloc HHx1.out _) _) (Kd.C_alloc (Kd.C_alloc HHy0.out _) _) (Kd.C_alloc (Kd.C_alloc HHy1.out _) _)).mono ?_; rintro e w' ⟨rfl, hb'⟩; have n2 := Aside0.mk (below_step (below_alloc (below_alloc HW.out _) _) hb'); clear HW HC hb' f0 f1 f2 f3 f4 i0 i1 i2 i3 i4; have HW := n2; clear n2)
          go_ret
          exact ⟨by first | rfl | (simp; done), (by repeat (first | exact HW.out | (with_reducible apply pw_below_drewN) | (with_reducible apply below_drew1) | (with_reducible apply below_alloc) | exact Below.refl _ _))⟩
        | true =>
          have HN := Aside0.mk (show eqM2 T (a.drop (kk + 1)) (b.drop (kk + 1)) = some r by simpa using hv2)
          clear hv2
          go_wp2_with (go_at_call 94; refine (HC.out _ (Kd.C_alloc (Kd.C_alloc HHx0.out _) _) (Kd.C_alloc (Kd.C_alloc HHx1.out _) _) (Kd.C_alloc (Kd.C_alloc HHy0.out _) _) (Kd.C_alloc (Kd.C_alloc HHy1.out _) _)).mono ?_; rintro e w' ⟨rfl, hb'⟩; have n2 := Aside0.mk (below_step (below_alloc (below_alloc HW.out _) _) hb'); clear HW HC hb' f0 f1 f2 f3 f4 i0 i1 i2 i3 i4; have HW := n2; clear n2)
          go_roundg (a.length - (kk + 1))
          case measure => omega
          case rel => exact ⟨kk + 1, by omega, by omega, by go_num, HN, ⟨(by repeat (first | exact HW.out | (with_reducible apply pw_below_drewN) | (with_reducible apply below_drew1) | (with_reducible apply below_alloc) | exact Below.refl _ _))⟩⟩
      · have hltz : decide ((kk : Int) < (a.length : Int)) = false := decide_eq_false (by omega)
        have he := HE.out
        rw [List.drop_of_length_le (by omega)] at he
        obtain rfl := Option.some.inj (show some true = some r from he)
        clear he HE
        go_wp2
        go_ret
        exact ⟨by first | rfl | (simp; done), (by repeat (first | exact HW.out | (with_reducible apply pw_below_drewN) | (with_reducible apply below_drew1) | (with_reducible apply below_alloc) | exact Below.refl _ _))⟩
  · have hnz : ((a.length : Int) != (b.length : Int)) = true := bne_iff_ne.mpr (by omega)
    have h0 := H.out
    unfold eqL2 at h0
    rw [if_neg hn] at h0
    obtain rfl := Option.some.inj h0
    clear h0 H
    go_enter Try.func96, Try.ntmps96
    go_wp2
    go_ret
    exact ⟨by first | rfl | (simp; done), (by repeat (first | (with_reducible apply pw_below_drewN) | (with_reducible apply below_drew1) | (with_reducible apply below_alloc) | exact Below.refl _ _))⟩
structure SWld where
  f0 : List S84
  f1 : List Int
  f2 : List Int
  f3 : List (List Int)
  f4 : List S74
def worldV (k : Nat) (x y : SWld) : Option Bool := (slices_Equal_int_int.f k x.f1 y.f1).bind fun b => if b = true then (slices_Equal_int_int.f k x.f2 y.f2).bind fun b => if b = true then (impl_Say.f k x.f4 y.f4).bind fun b => if b = true then (impl_sameQueues.f k x.f3 y.f3).bind fun b => if b = true then eqL2 (procV k) x.f0 y.f0 else some false else some false else some false else some false
theorem worldV_mono (k : Nat) (x y : SWld) : LeO (worldV k x y) (worldV (k + 1) x y) := by
  unfold worldV
  repeat' first
    | exact LeO.refl _
    | exact slices_Equal_int_int.mono _ _ _
    | exact impl_Say.mono _ _ _
    | exact impl_sameQueues.mono _ _ _
    | exact eqL2_mono (procV_mono k) _ _
    | refine LeO.ite ?_ ?_
    | refine LeO.bind ?_ (fun _ => ?_)
theorem procs_say (k : Nat) : SaysP (procV k) := fun x y A0 c0 A1 c1 B0 d0 B1 d1 r w h0 hc0 h1 hc1 g0 gc0 g1 gc1 h => procW k x y A0 c0 A1 c1 B0 d0 B1 d1 r w h0 hc0 h1 hc1 g0 gc0 g1 gc1 h
set_option maxHeartbeats 8000000 in
set_option maxRecDepth 100000 in
theorem worldW (k : Nat) (x : SWld) (y : SWld) (A0 : Option Addr) (c0 : Nat) (A1 : Option Addr) (c1 : Nat) (A2 : Option Addr) (c2 : Nat) (A3 : Option Addr) (c3 : Nat) (A4 : Option Addr) (c4 : Nat) (B0 : Option Addr) (d0 : Nat) (B1 : Option Addr) (d1 : Nat) (B2 : Option Addr) (d2 : Nat) (B3 : Option Addr) (d3 : Nat) (B4 : Option Addr) (d4 : Nat) (r : Bool) (w : World)
    (h0 : Kd.C k84 w A0 x.f0.length x.f0) (hc0 : x.f0.length ≤ c0)
    (h1 : Kd.C (Kd.int .i64) w A1 x.f1.length x.f1) (hc1 : x.f1.length ≤ c1)
    (h2 : Kd.C (Kd.int .i64) w A2 x.f2.length x.f2) (hc2 : x.f2.length ≤ c2)
    (h3 : Kd.C (Kd.slice 3 (Kd.int .i64)) w A3 x.f3.length x.f3) (hc3 : x.f3.length ≤ c3)
    (h4 : Kd.C k74 w A4 x.f4.length x.f4) (hc4 : x.f4.length ≤ c4)
    (g0 : Kd.C k84 w B0 y.f0.length y.f0) (gc0 : y.f0.length ≤ d0)
    (g1 : Kd.C (Kd.int .i64) w B1 y.f1.length y.f1) (gc1 : y.f1.length ≤ d1)
    (g2 : Kd.C (Kd.int .i64) w B2 y.f2.length y.f2) (gc2 : y.f2.length ≤ d2)
    (g3 : Kd.C (Kd.slice 3 (Kd.int .i64)) w B3 y.f3.length y.f3) (gc3 : y.f3.length ≤ d3)
    (g4 : Kd.C k74 w B4 y.f4.length y.f4) (gc4 : y.f4.length ≤ d4)
    (h : worldV k x y = some r) :
    Calls Try.prog 59 #[.agg #[.slice A0 x.f0.length c0, .slice A1 x.f1.length c1, .slice A2 x.f2.length c2, .slice A3 x.f3.length c3, .slice A4 x.f4.length c4], .agg #[.slice B0 y.f0.length d0, .slice B1 y.f1.length d1, .slice B2 y.f2.length d2, .slice B3 y.f3.length d3, .slice B4 y.f4.length d4]] w fun e w' => e = .returned (.bool r) ∧ Below w.heap.size w w' := by
  unfold worldV at h
  have hu := Try.underlying43
  have b1 := blk_alloc (blk_new w (.cells #[.slice A0 x.f0.length c0, .slice A1 x.f1.length c1, .slice A2 x.f2.length c2, .slice A3 x.f3.length c3, .slice A4 x.f4.length c4] 43)) (.cells #[.slice B0 y.f0.length d0, .slice B1 y.f1.length d1, .slice B2 y.f2.length d2, .slice B3 y.f3.length d3, .slice B4 y.f4.length d4] 43)
  have b2 := blk_new (w.alloc (.cells #[.slice A0 x.f0.length c0, .slice A1 x.f1.length c1, .slice A2 x.f2.length c2, .slice A3 x.f3.length c3, .slice A4 x.f4.length c4] 43)) (.cells #[.slice B0 y.f0.length d0, .slice B1 y.f1.length d1, .slice B2 y.f2.length d2, .slice B3 y.f3.length d3, .slice B4 y.f4.length d4] 43)
  rw [size_alloc2] at b2
  have HX := Aside0.mk b1
  have HY := Aside0.mk b2
  have HB := Aside0.mk (below_alloc (below_alloc (Below.refl _ w) (.cells #[.slice A0 x.f0.length c0, .slice A1 x.f1.length c1, .slice A2 x.f2.length c2, .slice A3 x.f3.length c3, .slice A4 x.f4.length c4] 43)) (.cells #[.slice B0 y.f0.length d0, .slice B1 y.f1.length d1, .slice B2 y.f2.length d2, .slice B3 y.f3.length d3, .slice B4 y.f4.length d4] 43))
  have HH0 := Aside0.mk h0
  have HH1 := Aside0.mk h1
  have HH2 := Aside0.mk h2
  have HH3 := Aside0.mk h3
  have HH4 := Aside0.mk h4
  have GG0 := Aside0.mk g0
  have GG1 := Aside0.mk g1
  have GG2 := Aside0.mk g2
  have GG3 := Aside0.mk g3
  have GG4 := Aside0.mk g4
  clear b1 b2 h0 h1 h2 h3 h4 g0 g1 g2 g3 g4
  obtain ⟨b0, hv, h⟩ := Option.bind_eq_some_iff.1 h
  have HC0 := Aside0.mk (fun W hx hy => calls_dr (slices_Equal_int_int.calls k A1 c1 x.f1 B1 d1 y.f1 b0 W hx hc1 hy gc1 hv))
  clear hv
  cases b0 with
  | false =>
    obtain rfl := Option.some.inj (show some false = some r by simpa using h)
    clear h
    go_enter Try.func59, Try.ntmps59
    go_wp2_with (first
      | (go_at_call 46; refine (HC0.out _ (Kd.C_below HH1.out (by repeat (first | exact HB.out | (with_reducible apply pw_below_drewN) | (with_reducible apply below_drew1) | (with_reducible apply below_alloc) | exact Below.refl _ _))) (Kd.C_below GG1.out (by repeat (first | exact HB.out | (with_reducible apply pw_below_drewN) | (with_reducible apply below_drew1) | (with_reducible apply below_alloc) | exact Below.refl _ _)))).mono ?_; rintro e w' ⟨rfl, hd⟩; have hb := hd; have n1 := Aside0.mk (below_step (by repeat (first | exact HB.out | (with_reducible apply pw_below_drewN) | (with_reducible apply below_drew1) | (with_reducible apply below_alloc) | exact Below.refl _ _)) hb); have n2 := Aside0.mk (blk_below (by first | exact HX.out) hb); have n3 := Aside0.mk (blk_below (by first | exact HY.out) hb); clear HC0 HB HX HY hb hd ; have HB := n1; have HX := n2; have HY := n3; clear n1 n2 n3; obtain ⟨u0, u1, u2, u3, u4⟩ := cells5_ HX; obtain ⟨v0, v1, v2, v3, v4⟩ := cells5_ HY))
    go_ret
    exact ⟨by first | rfl | (simp; done) | (simp [*]; done), (by repeat (first | exact HB.out | (with_reducible apply pw_below_drewN) | (with_reducible apply below_drew1) | (with_reducible apply below_alloc) | exact Below.refl _ _))⟩
  | true =>
    rw [if_pos rfl] at h
    obtain ⟨b1, hv, h⟩ := Option.bind_eq_some_iff.1 h
    have HC1 := Aside0.mk (fun W hx hy => calls_dr (slices_Equal_int_int.calls k A2 c2 x.f2 B2 d2 y.f2 b1 W hx hc2 hy gc2 hv))
    clear hv
    cases b1 with
    | false =>
      obtain rfl := Option.some.inj (show some false = some r by simpa using h)
      clear h
      go_enter Try.func59, Try.ntmps59
      go_wp2_with (first
        | (go_at_call 46; refine (HC0.out _ (Kd.C_below HH1.out (by repeat (first | exact HB.out | (with_reducible apply pw_below_drewN) | (with_reducible apply below_drew1) | (with_reducible apply below_alloc) | exact Below.refl _ _))) (Kd.C_below GG1.out (by repeat (first | exact HB.out | (with_reducible apply pw_below_drewN) | (with_reducible apply below_drew1) | (with_reducible apply below_alloc) | exact Below.refl _ _)))).mono ?_; rintro e w' ⟨rfl, hd⟩; have hb := hd; have n1 := Aside0.mk (below_step (by repeat (first | exact HB.out | (with_reducible apply pw_below_drewN) | (with_reducible apply below_drew1) | (with_reducible apply below_alloc) | exact Below.refl _ _)) hb); have n2 := Aside0.mk (blk_below (by first | exact HX.out) hb); have n3 := Aside0.mk (blk_below (by first | exact HY.out) hb); clear HC0 HB HX HY hb hd ; have HB := n1; have HX := n2; have HY := n3; clear n1 n2 n3; obtain ⟨u0, u1, u2, u3, u4⟩ := cells5_ HX; obtain ⟨v0, v1, v2, v3, v4⟩ := cells5_ HY)
        | (go_at_call 46; refine (HC1.out _ (Kd.C_below HH2.out (by repeat (first | exact HB.out | (with_reducible apply pw_below_drewN) | (with_reducible apply below_drew1) | (with_reducible apply below_alloc) | exact Below.refl _ _))) (Kd.C_below GG2.out (by repeat (first | exact HB.out | (with_reducible apply pw_below_drewN) | (with_reducible apply below_drew1) | (with_reducible apply below_alloc) | exact Below.refl _ _)))).mono ?_; rintro e w' ⟨rfl, hd⟩; have hb := hd; have n1 := Aside0.mk (below_step (by repeat (first | exact HB.out | (with_reducible apply pw_below_drewN) | (with_reducible apply below_drew1) | (with_reducible apply below_alloc) | exact Below.refl _ _)) hb); have n2 := Aside0.mk (blk_below (by first | exact HX.out) hb); have n3 := Aside0.mk (blk_below (by first | exact HY.out) hb); clear HC1 HB HX HY hb hd u0 u1 u2 u3 u4 v0 v1 v2 v3 v4; have HB := n1; have HX := n2; have HY := n3; clear n1 n2 n3; obtain ⟨u0, u1, u2, u3, u4⟩ := cells5_ HX; obtain ⟨v0, v1, v2, v3, v4⟩ := cells5_ HY))
      go_ret
      exact ⟨by first | rfl | (simp; done) | (simp [*]; done), (by repeat (first | exact HB.out | (with_reducible apply pw_below_drewN) | (with_reducible apply below_drew1) | (with_reducible apply below_alloc) | exact Below.refl _ _))⟩
    | true =>
      rw [if_pos rfl] at h
      obtain ⟨b2, hv, h⟩ := Option.bind_eq_some_iff.1 h
      have HC2 := Aside0.mk (fun W hx hy => calls_dr (impl_Say.calls k A4 c4 x.f4 B4 d4 y.f4 b2 W hx hc4 hy gc4 hv))
      clear hv
      cases b2 with
      | false =>
        obtain rfl := Option.some.inj (show some false = some r by simpa using h)
        clear h
        go_enter Try.func59, Try.ntmps59
        go_wp2_with (first
          | (go_at_call 46; refine (HC0.out _ (Kd.C_below HH1.out (by repeat (first | exact HB.out | (with_reducible apply pw_below_drewN) | (with_reducible apply below_drew1) | (with_reducible apply below_alloc) | exact Below.refl _ _))) (Kd.C_below GG1.out (by repeat (first | exact HB.out | (with_reducible apply pw_below_drewN) | (with_reducible apply below_drew1) | (with_reducible apply below_alloc) | exact Below.refl _ _)))).mono ?_; rintro e w' ⟨rfl, hd⟩; have hb := hd; have n1 := Aside0.mk (below_step (by repeat (first | exact HB.out | (with_reducible apply pw_below_drewN) | (with_reducible apply below_drew1) | (with_reducible apply below_alloc) | exact Below.refl _ _)) hb); have n2 := Aside0.mk (blk_below (by first | exact HX.out) hb); have n3 := Aside0.mk (blk_below (by first | exact HY.out) hb); clear HC0 HB HX HY hb hd ; have HB := n1; have HX := n2; have HY := n3; clear n1 n2 n3; obtain ⟨u0, u1, u2, u3, u4⟩ := cells5_ HX; obtain ⟨v0, v1, v2, v3, v4⟩ := cells5_ HY)
          | (go_at_call 46; refine (HC1.out _ (Kd.C_below HH2.out (by repeat (first | exact HB.out | (with_reducible apply pw_below_drewN) | (with_reducible apply below_drew1) | (with_reducible apply below_alloc) | exact Below.refl _ _))) (Kd.C_below GG2.out (by repeat (first | exact HB.out | (with_reducible apply pw_below_drewN) | (with_reducible apply below_drew1) | (with_reducible apply below_alloc) | exact Below.refl _ _)))).mono ?_; rintro e w' ⟨rfl, hd⟩; have hb := hd; have n1 := Aside0.mk (below_step (by repeat (first | exact HB.out | (with_reducible apply pw_below_drewN) | (with_reducible apply below_drew1) | (with_reducible apply below_alloc) | exact Below.refl _ _)) hb); have n2 := Aside0.mk (blk_below (by first | exact HX.out) hb); have n3 := Aside0.mk (blk_below (by first | exact HY.out) hb); clear HC1 HB HX HY hb hd u0 u1 u2 u3 u4 v0 v1 v2 v3 v4; have HB := n1; have HX := n2; have HY := n3; clear n1 n2 n3; obtain ⟨u0, u1, u2, u3, u4⟩ := cells5_ HX; obtain ⟨v0, v1, v2, v3, v4⟩ := cells5_ HY)
          | (go_at_call 47; refine (HC2.out _ (Kd.C_below HH4.out (by repeat (first | exact HB.out | (with_reducible apply pw_below_drewN) | (with_reducible apply below_drew1) | (with_reducible apply below_alloc) | exact Below.refl _ _))) (Kd.C_below GG4.out (by repeat (first | exact HB.out | (with_reducible apply pw_below_drewN) | (with_reducible apply below_drew1) | (with_reducible apply below_alloc) | exact Below.refl _ _)))).mono ?_; rintro e w' ⟨rfl, hd⟩; have hb := hd; have n1 := Aside0.mk (below_step (by repeat (first | exact HB.out | (with_reducible apply pw_below_drewN) | (with_reducible apply below_drew1) | (with_reducible apply below_alloc) | exact Below.refl _ _)) hb); have n2 := Aside0.mk (blk_below (by first | exact HX.out) hb); have n3 := Aside0.mk (blk_below (by first | exact HY.out) hb); clear HC2 HB HX HY hb hd u0 u1 u2 u3 u4 v0 v1 v2 v3 v4; have HB := n1; have HX := n2; have HY := n3; clear n1 n2 n3; obtain ⟨u0, u1, u2, u3, u4⟩ := cells5_ HX; obtain ⟨v0, v1, v2, v3, v4⟩ := cells5_ HY))
        go_ret
        exact ⟨by first | rfl | (simp; done) | (simp [*]; done), (by repeat (first | exact HB.out | (with_reducible apply pw_below_drewN) | (with_reducible apply below_drew1) | (with_reducible apply below_alloc) | exact Below.refl _ _))⟩
      | true =>
        rw [if_pos rfl] at h
        obtain ⟨b3, hv, h⟩ := Option.bind_eq_some_iff.1 h
        have HC3 := Aside0.mk (fun W hx hy => (impl_sameQueues.calls k A3 c3 x.f3 B3 d3 y.f3 b3 W hx hc3 hy gc3 hv))
        clear hv
        cases b3 with
        | false =>
          obtain rfl := Option.some.inj (show some false = some r by simpa using h)
          clear h
          go_enter Try.func59, Try.ntmps59
          go_wp2_with (first
            | (go_at_call 46; refine (HC0.out _ (Kd.C_below HH1.out (by repeat (first | exact HB.out | (with_reducible apply pw_below_drewN) | (with_reducible apply below_drew1) | (with_reducible apply below_alloc) | exact Below.refl _ _))) (Kd.C_below GG1.out (by repeat (first | exact HB.out | (with_reducible apply pw_below_drewN) | (with_reducible apply below_drew1) | (with_reducible apply below_alloc) | exact Below.refl _ _)))).mono ?_; rintro e w' ⟨rfl, hd⟩; have hb := hd; have n1 := Aside0.mk (below_step (by repeat (first | exact HB.out | (with_reducible apply pw_below_drewN) | (with_reducible apply below_drew1) | (with_reducible apply below_alloc) | exact Below.refl _ _)) hb); have n2 := Aside0.mk (blk_below (by first | exact HX.out) hb); have n3 := Aside0.mk (blk_below (by first | exact HY.out) hb); clear HC0 HB HX HY hb hd ; have HB := n1; have HX := n2; have HY := n3; clear n1 n2 n3; obtain ⟨u0, u1, u2, u3, u4⟩ := cells5_ HX; obtain ⟨v0, v1, v2, v3, v4⟩ := cells5_ HY)
            | (go_at_call 46; refine (HC1.out _ (Kd.C_below HH2.out (by repeat (first | exact HB.out | (with_reducible apply pw_below_drewN) | (with_reducible apply below_drew1) | (with_reducible apply below_alloc) | exact Below.refl _ _))) (Kd.C_below GG2.out (by repeat (first | exact HB.out | (with_reducible apply pw_below_drewN) | (with_reducible apply below_drew1) | (with_reducible apply below_alloc) | exact Below.refl _ _)))).mono ?_; rintro e w' ⟨rfl, hd⟩; have hb := hd; have n1 := Aside0.mk (below_step (by repeat (first | exact HB.out | (with_reducible apply pw_below_drewN) | (with_reducible apply below_drew1) | (with_reducible apply below_alloc) | exact Below.refl _ _)) hb); have n2 := Aside0.mk (blk_below (by first | exact HX.out) hb); have n3 := Aside0.mk (blk_below (by first | exact HY.out) hb); clear HC1 HB HX HY hb hd u0 u1 u2 u3 u4 v0 v1 v2 v3 v4; have HB := n1; have HX := n2; have HY := n3; clear n1 n2 n3; obtain ⟨u0, u1, u2, u3, u4⟩ := cells5_ HX; obtain ⟨v0, v1, v2, v3, v4⟩ := cells5_ HY)
            | (go_at_call 47; refine (HC2.out _ (Kd.C_below HH4.out (by repeat (first | exact HB.out | (with_reducible apply pw_below_drewN) | (with_reducible apply below_drew1) | (with_reducible apply below_alloc) | exact Below.refl _ _))) (Kd.C_below GG4.out (by repeat (first | exact HB.out | (with_reducible apply pw_below_drewN) | (with_reducible apply below_drew1) | (with_reducible apply below_alloc) | exact Below.refl _ _)))).mono ?_; rintro e w' ⟨rfl, hd⟩; have hb := hd; have n1 := Aside0.mk (below_step (by repeat (first | exact HB.out | (with_reducible apply pw_below_drewN) | (with_reducible apply below_drew1) | (with_reducible apply below_alloc) | exact Below.refl _ _)) hb); have n2 := Aside0.mk (blk_below (by first | exact HX.out) hb); have n3 := Aside0.mk (blk_below (by first | exact HY.out) hb); clear HC2 HB HX HY hb hd u0 u1 u2 u3 u4 v0 v1 v2 v3 v4; have HB := n1; have HX := n2; have HY := n3; clear n1 n2 n3; obtain ⟨u0, u1, u2, u3, u4⟩ := cells5_ HX; obtain ⟨v0, v1, v2, v3, v4⟩ := cells5_ HY)
            | (go_at_call 48; refine (HC3.out _ (Kd.C_below HH3.out (by repeat (first | exact HB.out | (with_reducible apply pw_below_drewN) | (with_reducible apply below_drew1) | (with_reducible apply below_alloc) | exact Below.refl _ _))) (Kd.C_below GG3.out (by repeat (first | exact HB.out | (with_reducible apply pw_below_drewN) | (with_reducible apply below_drew1) | (with_reducible apply below_alloc) | exact Below.refl _ _)))).mono ?_; rintro e w' ⟨rfl, hd⟩; have hb := hd; have n1 := Aside0.mk (below_step (by repeat (first | exact HB.out | (with_reducible apply pw_below_drewN) | (with_reducible apply below_drew1) | (with_reducible apply below_alloc) | exact Below.refl _ _)) hb); have n2 := Aside0.mk (blk_below (by first | exact HX.out) hb); have n3 := Aside0.mk (blk_below (by first | exact HY.out) hb); clear HC3 HB HX HY hb hd u0 u1 u2 u3 u4 v0 v1 v2 v3 v4; have HB := n1; have HX := n2; have HY := n3; clear n1 n2 n3; obtain ⟨u0, u1, u2, u3, u4⟩ := cells5_ HX; obtain ⟨v0, v1, v2, v3, v4⟩ := cells5_ HY))
          go_ret
          exact ⟨by first | rfl | (simp; done) | (simp [*]; done), (by repeat (first | exact HB.out | (with_reducible apply pw_below_drewN) | (with_reducible apply below_drew1) | (with_reducible apply below_alloc) | exact Below.refl _ _))⟩
        | true =>
          rw [if_pos rfl] at h
          have hv := h
          clear h
          have HC4 := Aside0.mk (fun W hx hy => (procEq_calls (procV k) (procs_say k) A0 B0 c0 d0 x.f0 y.f0 r W hx hy hv))
          clear hv
          go_enter Try.func59, Try.ntmps59
          go_wp2_with (first
            | (go_at_call 46; refine (HC0.out _ (Kd.C_below HH1.out (by repeat (first | exact HB.out | (with_reducible apply pw_below_drewN) | (with_reducible apply below_drew1) | (with_reducible apply below_alloc) | exact Below.refl _ _))) (Kd.C_below GG1.out (by repeat (first | exact HB.out | (with_reducible apply pw_below_drewN) | (with_reducible apply below_drew1) | (with_reducible apply below_alloc) | exact Below.refl _ _)))).mono ?_; rintro e w' ⟨rfl, hd⟩; have hb := hd; have n1 := Aside0.mk (below_step (by repeat (first | exact HB.out | (with_reducible apply pw_below_drewN) | (with_reducible apply below_drew1) | (with_reducible apply below_alloc) | exact Below.refl _ _)) hb); have n2 := Aside0.mk (blk_below (by first | exact HX.out) hb); have n3 := Aside0.mk (blk_below (by first | exact HY.out) hb); clear HC0 HB HX HY hb hd ; have HB := n1; have HX := n2; have HY := n3; clear n1 n2 n3; obtain ⟨u0, u1, u2, u3, u4⟩ := cells5_ HX; obtain ⟨v0, v1, v2, v3, v4⟩ := cells5_ HY)
            | (go_at_call 46; refine (HC1.out _ (Kd.C_below HH2.out (by repeat (first | exact HB.out | (with_reducible apply pw_below_drewN) | (with_reducible apply below_drew1) | (with_reducible apply below_alloc) | exact Below.refl _ _))) (Kd.C_below GG2.out (by repeat (first | exact HB.out | (with_reducible apply pw_below_drewN) | (with_reducible apply below_drew1) | (with_reducible apply below_alloc) | exact Below.refl _ _)))).mono ?_; rintro e w' ⟨rfl, hd⟩; have hb := hd; have n1 := Aside0.mk (below_step (by repeat (first | exact HB.out | (with_reducible apply pw_below_drewN) | (with_reducible apply below_drew1) | (with_reducible apply below_alloc) | exact Below.refl _ _)) hb); have n2 := Aside0.mk (blk_below (by first | exact HX.out) hb); have n3 := Aside0.mk (blk_below (by first | exact HY.out) hb); clear HC1 HB HX HY hb hd u0 u1 u2 u3 u4 v0 v1 v2 v3 v4; have HB := n1; have HX := n2; have HY := n3; clear n1 n2 n3; obtain ⟨u0, u1, u2, u3, u4⟩ := cells5_ HX; obtain ⟨v0, v1, v2, v3, v4⟩ := cells5_ HY)
            | (go_at_call 47; refine (HC2.out _ (Kd.C_below HH4.out (by repeat (first | exact HB.out | (with_reducible apply pw_below_drewN) | (with_reducible apply below_drew1) | (with_reducible apply below_alloc) | exact Below.refl _ _))) (Kd.C_below GG4.out (by repeat (first | exact HB.out | (with_reducible apply pw_below_drewN) | (with_reducible apply below_drew1) | (with_reducible apply below_alloc) | exact Below.refl _ _)))).mono ?_; rintro e w' ⟨rfl, hd⟩; have hb := hd; have n1 := Aside0.mk (below_step (by repeat (first | exact HB.out | (with_reducible apply pw_below_drewN) | (with_reducible apply below_drew1) | (with_reducible apply below_alloc) | exact Below.refl _ _)) hb); have n2 := Aside0.mk (blk_below (by first | exact HX.out) hb); have n3 := Aside0.mk (blk_below (by first | exact HY.out) hb); clear HC2 HB HX HY hb hd u0 u1 u2 u3 u4 v0 v1 v2 v3 v4; have HB := n1; have HX := n2; have HY := n3; clear n1 n2 n3; obtain ⟨u0, u1, u2, u3, u4⟩ := cells5_ HX; obtain ⟨v0, v1, v2, v3, v4⟩ := cells5_ HY)
            | (go_at_call 48; refine (HC3.out _ (Kd.C_below HH3.out (by repeat (first | exact HB.out | (with_reducible apply pw_below_drewN) | (with_reducible apply below_drew1) | (with_reducible apply below_alloc) | exact Below.refl _ _))) (Kd.C_below GG3.out (by repeat (first | exact HB.out | (with_reducible apply pw_below_drewN) | (with_reducible apply below_drew1) | (with_reducible apply below_alloc) | exact Below.refl _ _)))).mono ?_; rintro e w' ⟨rfl, hd⟩; have hb := hd; have n1 := Aside0.mk (below_step (by repeat (first | exact HB.out | (with_reducible apply pw_below_drewN) | (with_reducible apply below_drew1) | (with_reducible apply below_alloc) | exact Below.refl _ _)) hb); have n2 := Aside0.mk (blk_below (by first | exact HX.out) hb); have n3 := Aside0.mk (blk_below (by first | exact HY.out) hb); clear HC3 HB HX HY hb hd u0 u1 u2 u3 u4 v0 v1 v2 v3 v4; have HB := n1; have HX := n2; have HY := n3; clear n1 n2 n3; obtain ⟨u0, u1, u2, u3, u4⟩ := cells5_ HX; obtain ⟨v0, v1, v2, v3, v4⟩ := cells5_ HY)
            | (go_at_call 96; refine (HC4.out _ (Kd.C_below HH0.out (by repeat (first | exact HB.out | (with_reducible apply pw_below_drewN) | (with_reducible apply below_drew1) | (with_reducible apply below_alloc) | exact Below.refl _ _))) (Kd.C_below GG0.out (by repeat (first | exact HB.out | (with_reducible apply pw_below_drewN) | (with_reducible apply below_drew1) | (with_reducible apply below_alloc) | exact Below.refl _ _)))).mono ?_; rintro e w' ⟨rfl, hd⟩; have hb := hd; have n1 := Aside0.mk (below_step (by repeat (first | exact HB.out | (with_reducible apply pw_below_drewN) | (with_reducible apply below_drew1) | (with_reducible apply below_alloc) | exact Below.refl _ _)) hb); have n2 := Aside0.mk (blk_below (by first | exact HX.out) hb); have n3 := Aside0.mk (blk_below (by first | exact HY.out) hb); clear HC4 HB HX HY hb hd u0 u1 u2 u3 u4 v0 v1 v2 v3 v4; have HB := n1; have HX := n2; have HY := n3; clear n1 n2 n3; obtain ⟨u0, u1, u2, u3, u4⟩ := cells5_ HX; obtain ⟨v0, v1, v2, v3, v4⟩ := cells5_ HY))
          go_ret
          exact ⟨by first | rfl | (simp; done) | (simp [*]; done), (by repeat (first | exact HB.out | (with_reducible apply pw_below_drewN) | (with_reducible apply below_drew1) | (with_reducible apply below_alloc) | exact Below.refl _ _))⟩
def impl_sameWorld.f (k : Nat) (l0_0 : List S84) (l0_1 l0_2 : List Int) (l0_3 : List (List Int)) (l0_4 : List S74) (l1_0 : List S84) (l1_1 l1_2 : List Int) (l1_3 : List (List Int)) (l1_4 : List S74) : Option Bool := worldV k ⟨l0_0, l0_1, l0_2, l0_3, l0_4⟩ ⟨l1_0, l1_1, l1_2, l1_3, l1_4⟩
theorem impl_sameWorld.mono : ∀ a0 a1 a2 a3 a4 a5 a6 a7 a8 a9 k, LeO (impl_sameWorld.f k a0 a1 a2 a3 a4 a5 a6 a7 a8 a9) (impl_sameWorld.f (k + 1) a0 a1 a2 a3 a4 a5 a6 a7 a8 a9) := fun a0 a1 a2 a3 a4 a5 a6 a7 a8 a9 k => worldV_mono k _ _
theorem impl_sameWorld.calls (k : Nat) (A0_0 : Option Addr) (c0_0 : Nat) (l0_0 : List S84) (A0_1 : Option Addr) (c0_1 : Nat) (l0_1 : List Int) (A0_2 : Option Addr) (c0_2 : Nat) (l0_2 : List Int) (A0_3 : Option Addr) (c0_3 : Nat) (l0_3 : List (List Int)) (A0_4 : Option Addr) (c0_4 : Nat) (l0_4 : List S74) (A1_0 : Option Addr) (c1_0 : Nat) (l1_0 : List S84) (A1_1 : Option Addr) (c1_1 : Nat) (l1_1 : List Int) (A1_2 : Option Addr) (c1_2 : Nat) (l1_2 : List Int) (A1_3 : Option Addr) (c1_3 : Nat) (l1_3 : List (List Int)) (A1_4 : Option Addr) (c1_4 : Nat) (l1_4 : List S74) (r : Bool) (w : World) (hr0_0 : Kd.C k84 w A0_0 l0_0.length l0_0) (hc0_0 : l0_0.length ≤ c0_0) (hr0_1 : Kd.C (Kd.int .i64) w A0_1 l0_1.length l0_1) (hc0_1 : l0_1.length ≤ c0_1) (hr0_2 : Kd.C (Kd.int .i64) w A0_2 l0_2.length l0_2) (hc0_2 : l0_2.length ≤ c0_2) (hr0_3 : Kd.C (Kd.slice 3 (Kd.int .i64)) w A0_3 l0_3.length l0_3) (hc0_3 : l0_3.length ≤ c0_3) (hr0_4 : Kd.C k74 w A0_4 l0_4.length l0_4) (hc0_4 : l0_4.length ≤ c0_4) (hr1_0 : Kd.C k84 w A1_0 l1_0.length l1_0) (hc1_0 : l1_0.length ≤ c1_0) (hr1_1 : Kd.C (Kd.int .i64) w A1_1 l1_1.length l1_1) (hc1_1 : l1_1.length ≤ c1_1) (hr1_2 : Kd.C (Kd.int .i64) w A1_2 l1_2.length l1_2) (hc1_2 : l1_2.length ≤ c1_2) (hr1_3 : Kd.C (Kd.slice 3 (Kd.int .i64)) w A1_3 l1_3.length l1_3) (hc1_3 : l1_3.length ≤ c1_3) (hr1_4 : Kd.C k74 w A1_4 l1_4.length l1_4) (hc1_4 : l1_4.length ≤ c1_4) (h : impl_sameWorld.f k l0_0 l0_1 l0_2 l0_3 l0_4 l1_0 l1_1 l1_2 l1_3 l1_4 = some r) :
    Calls Try.prog 59 #[.agg #[.slice A0_0 l0_0.length c0_0, .slice A0_1 l0_1.length c0_1, .slice A0_2 l0_2.length c0_2, .slice A0_3 l0_3.length c0_3, .slice A0_4 l0_4.length c0_4], .agg #[.slice A1_0 l1_0.length c1_0, .slice A1_1 l1_1.length c1_1, .slice A1_2 l1_2.length c1_2, .slice A1_3 l1_3.length c1_3, .slice A1_4 l1_4.length c1_4]] w fun e w' => e = .returned (.bool r) ∧ Below w.heap.size w w' :=
  worldW k ⟨l0_0, l0_1, l0_2, l0_3, l0_4⟩ ⟨l1_0, l1_1, l1_2, l1_3, l1_4⟩ A0_0 c0_0 A0_1 c0_1 A0_2 c0_2 A0_3 c0_3 A0_4 c0_4 A1_0 c1_0 A1_1 c1_1 A1_2 c1_2 A1_3 c1_3 A1_4 c1_4 r w hr0_0 hc0_0 hr0_1 hc0_1 hr0_2 hc0_2 hr0_3 hc0_3 hr0_4 hc0_4 hr1_0 hc1_0 hr1_1 hc1_1 hr1_2 hc1_2 hr1_3 hc1_3 hr1_4 hc1_4 h
end Go.Proofs.Ythbflhimmmfonaa.P
