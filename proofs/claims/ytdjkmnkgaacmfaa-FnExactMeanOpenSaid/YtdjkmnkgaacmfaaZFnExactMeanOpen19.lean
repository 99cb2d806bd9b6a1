/- Parts of the proof of FnExactMeanOpen: plain Lean functions of Go functions, and that the calls come to what they say; no condition beyond those that each theorem names. -/
import Derived.Test.YtdjkmnkgaacmfaaZFnExactMeanOpen17
import Derived.Test.YtdjkmnkgaacmfaaZFnExactMeanOpen12
import Derived.Test.YtdjkmnkgaacmfaaZFnExactMeanOpen18
import Derived.Test.YtdjkmnkgaacmfaaZFnExactMeanOpen13
namespace Go.Proofs.Ytdjkmnkgaacmfaa.P
open Go.RowKit Go.Proofs.YtdjkmnkgaacmfaaW.PrintWords Go.Proofs.YtdjkmnkgaacmfaaW.PrintLast Go.Proofs.YtdjkmnkgaacmfaaW.PrintMore
attribute [local go_sem] max2_int min2_int max_two min_two max_three min_three max_four min_four
set_option linter.unusedVariables false
set_option linter.unusedSimpArgs false
theorem eqW_says (k : Nat) (x0 y0 : List S59) (x1 x2 y1 y2 : List Int) (x3 y3 : List (List Int)) (x4 y4 : List S69) (v0 v1 v2 v3 v4 u0 u1 u2 u3 u4 : Value) (r : Bool) (w : World) (h : WC w x0 x1 x2 x3 x4 v0 v1 v2 v3 v4) (g : WC w y0 y1 y2 y3 y4 u0 u1 u2 u3 u4) (hf : laws_eqWorld.f k x0 x1 x2 x3 x4 y0 y1 y2 y3 y4 = some r) :
    Calls Try.prog 8 #[.agg #[v0, v1, v2, v3, v4], .agg #[u0, u1, u2, u3, u4]] w fun e w' => e = .returned (.bool r) ∧ Below w.heap.size w w' := by
  obtain ⟨⟨A0, c0, rfl, l0, h0⟩, ⟨A1, c1, rfl, l1, h1⟩, ⟨A2, c2, rfl, l2, h2⟩, ⟨A3, c3, rfl, l3, h3⟩, ⟨A4, c4, rfl, l4, h4⟩⟩ := h
  obtain ⟨⟨B0, d0, rfl, m0, g0⟩, ⟨B1, d1, rfl, m1, g1⟩, ⟨B2, d2, rfl, m2, g2⟩, ⟨B3, d3, rfl, m3, g3⟩, ⟨B4, d4, rfl, m4, g4⟩⟩ := g
  exact laws_eqWorld.calls k A0 c0 x0 A1 c1 x1 A2 c2 x2 A3 c3 x3 A4 c4 x4 B0 d0 y0 B1 d1 y1 B2 d2 y2 B3 d3 y3 B4 d4 y4 r w h0 l0 h1 l1 h2 l2 h3 l3 h4 l4 g0 m0 g1 m1 g2 m2 g3 m3 g4 m4 hf
theorem heldW_says (k : Nat) (x0 : List S59) (x1 x2 : List Int) (x3 : List (List Int)) (x4 : List S69) (v0 v1 v2 v3 v4 : Value) (a r : Int) (w : World) (h : WC w x0 x1 x2 x3 x4 v0 v1 v2 v3 v4) (hf : laws_heldWorld.f k x0 x1 x2 x3 x4 a = some r) :
    Calls Try.prog 12 #[.agg #[v0, v1, v2, v3, v4], .int .i64 a] w fun e w' => e = .returned (.int .i64 r) ∧ Below w.heap.size w w' := by
  obtain ⟨⟨A0, c0, rfl, l0, h0⟩, ⟨A1, c1, rfl, l1, h1⟩, ⟨A2, c2, rfl, l2, h2⟩, ⟨A3, c3, rfl, l3, h3⟩, ⟨A4, c4, rfl, l4, h4⟩⟩ := h
  exact laws_heldWorld.calls k A0 c0 x0 A1 c1 x1 A2 c2 x2 A3 c3 x3 A4 c4 x4 a r w h0 l0 h1 l1 h2 l2 h3 l3 h4 l4 hf
theorem WorldM.forms {d n M : Nat} {x0 : List S59} {x1 x2 : List Int} {x3 : List (List Int)} {v0 v1 v2 v3 : Value} {w : World} (h : WorldM d n M x0 x1 x2 x3 v0 v1 v2 v3 w) : ∃ A0 c0 A1 c1 A2 c2 A3 c3, v0 = .slice A0 x0.length c0 ∧ v1 = .slice A1 x1.length c1 ∧ v2 = .slice A2 x2.length c2 ∧ v3 = .slice A3 x3.length c3 := by
  obtain ⟨P, a, b, c, e, _⟩ := h
  obtain ⟨A0, c0, e0⟩ := a.slice
  obtain ⟨A1, c1, e1⟩ := b.slice
  obtain ⟨A2, c2, e2⟩ := c.slice
  obtain ⟨A3, c3, e3⟩ := Kd.S_slice e
  exact ⟨A0, c0, A1, c1, A2, c2, A3, c3, e0, e1, e2, e3⟩
theorem WorldM.wc {d n M : Nat} {x0 : List S59} {x1 x2 : List Int} {x3 : List (List Int)} {v0 v1 v2 v3 : Value} {w : World} (h : WorldM d n M x0 x1 x2 x3 v0 v1 v2 v3 w) : WC w x0 x1 x2 x3 [] v0 v1 v2 v3 (.slice none 0 0) := by
  obtain ⟨A0, c0, A1, c1, A2, c2, A3, c3, rfl, rfl, rfl, rfl⟩ := h.forms
  obtain ⟨P, a, b, c, e, _⟩ := h
  obtain ⟨_, m3, r3⟩ := Kd.S_reads' e
  exact ⟨⟨_, _, rfl, a.reads.2, a.reads.1⟩, ⟨_, _, rfl, b.reads.2, b.reads.1⟩, ⟨_, _, rfl, c.reads.2, c.reads.1⟩, ⟨_, _, rfl, m3, r3⟩, Rd.nil _ _⟩
theorem ints_of_below {P : Nat → Prop} {W W' : World} (h : Below W.heap.size W W') : Ints P W W' := ⟨Below.zero h, fun b hb _ => h.block b hb, fun b c hc => ⟨c, (h.block b (blk_lt hc)).trans hc, fun _ _ h => h, fun _ _ => rfl⟩⟩
structure LW (d base n M g4 g6 : Nat) (w wA : World) (u0 u1 u2 u3 u4 v0 v1 v2 v3 : Value) (x0 : List S59) (x1 x2 : List Int) (x3 : List (List Int)) (W : World) : Prop where
  hb : Below w.heap.size w W
  ba : Below wA.heap.size wA W
  hg : WorldM d n M x0 x1 x2 x3 v0 v1 v2 v3 W
  gm : M ≤ W.heap.size
  b4 : W.heap[g4]? = some (.cells #[u0, u1, u2, u3, u4] 29 (0, 0))
  b6 : W.heap[g6]? = some (.cells #[v0, v1, v2, v3, .slice none 0 0] 29 (0, 0))
  s : w.heap.size ≤ wA.heap.size ∧ wA.heap.size ≤ g4 ∧ g4 < base ∧ base ≤ n ∧ n ≤ M ∧ M ≤ g6
section
variable {d base n M g4 g6 : Nat} {w wA W W' : World} {u0 u1 u2 u3 u4 v0 v1 v2 v3 : Value} {x0 : List S59} {x1 x2 : List Int} {x3 : List (List Int)}
theorem LW.below (h : LW d base n M g4 g6 w wA u0 u1 u2 u3 u4 v0 v1 v2 v3 x0 x1 x2 x3 W) (hb : Below W.heap.size W W') : LW d base n M g4 g6 w wA u0 u1 u2 u3 u4 v0 v1 v2 v3 x0 x1 x2 x3 W' :=
  ⟨below_step h.hb hb, below_step h.ba hb, h.hg.move fun k _ hk => hb.block k (Nat.lt_of_lt_of_le hk h.gm), Nat.le_trans h.gm hb.size, blk_below h.b4 hb, blk_below h.b6 hb, h.s⟩
theorem LW.set (h : LW d base n M g4 g6 w wA u0 u1 u2 u3 u4 v0 v1 v2 v3 x0 x1 x2 x3 W) {g : Nat} (hg : g6 < g) (j : Nat) (v : Value) : LW d base n M g4 g6 w wA u0 u1 u2 u3 u4 v0 v1 v2 v3 x0 x1 x2 x3 (W.setCell ⟨g, j, none⟩ v) := by
  obtain ⟨s1, s2, s3, s4, s5, s6⟩ := h.s
  exact ⟨below_set h.hb (by omega), below_set h.ba (by omega), h.hg.move fun k _ hk => Below.heap_setCell W ⟨g, j, none⟩ v k (show k ≠ g by omega), by simpa [World.setCell] using h.gm, blk_far (p := ⟨g, j, none⟩) h.b4 (show g4 ≠ g by omega) v, blk_far (p := ⟨g, j, none⟩) h.b6 (show g6 ≠ g by omega) v, h.s⟩
theorem Frn.to {n M m : Nat} {w0 w w' : World} (h : Frn n M w w') (hb : Below m w0 w) (hm : m ≤ n) (hs : m ≤ w.heap.size) : Below m w0 w' := hb.trans ⟨h.1.os, h.1.tape, h.1.output, h.1.size, fun k hk => h.2 k (by omega) (by omega)⟩
theorem LW.frn {y0 : List S59} {y1 y2 : List Int} (h : LW d base n M g4 g6 w wA u0 u1 u2 u3 u4 v0 v1 v2 v3 x0 x1 x2 x3 W) (hf : Frn n M W W') (hw : WorldM d n M y0 y1 y2 x3 v0 v1 v2 v3 W') : LW d base n M g4 g6 w wA u0 u1 u2 u3 u4 v0 v1 v2 v3 y0 y1 y2 x3 W' := by
  obtain ⟨s1, s2, s3, s4, s5, s6⟩ := h.s
  have l4 := blk_lt h.b4
  have l6 := blk_lt h.b6
  exact ⟨hf.to h.hb (by omega) (by omega), hf.to h.ba (by omega) (by omega), hw, Nat.le_trans h.gm hf.1.size, (hf.2 g4 l4 (by omega)).trans h.b4, (hf.2 g6 l6 (by omega)).trans h.b6, h.s⟩
theorem LW.ints {P : Nat → Prop} (h : LW d base n M g4 g6 w wA u0 u1 u2 u3 u4 v0 v1 v2 v3 x0 x1 x2 x3 W) (hi : Ints P W W') (hP : ∀ k, P k → base ≤ k ∧ k < n) : LW d base n M g4 g6 w wA u0 u1 u2 u3 u4 v0 v1 v2 v3 x0 x1 x2 x3 W' := by
  obtain ⟨s1, s2, s3, s4, s5, s6⟩ := h.s
  have l4 := blk_lt h.b4
  have l6 := blk_lt h.b6
  have hf : Frn base n W W' := ⟨hi.1, fun k hk hn => hi.2.1 k hk fun z => hn (hP k z)⟩
  have gm := h.gm
  exact ⟨hf.to h.hb (by omega) (by omega), hf.to h.ba (by omega) (by omega), h.hg.move fun k hn hk => hf.2 k (by omega) (by omega), Nat.le_trans h.gm hf.1.size, (hf.2 g4 l4 (by omega)).trans h.b4, (hf.2 g6 l6 (by omega)).trans h.b6, h.s⟩
end
theorem sets5_ {W : World} {g k : Nat} (u0 u1 u2 u3 u4 : Value) (hk : k ≠ g) : (((((W.setCell ⟨g, 0, none⟩ u0).setCell ⟨g, 1, none⟩ u1).setCell ⟨g, 2, none⟩ u2).setCell ⟨g, 3, none⟩ u3).setCell ⟨g, 4, none⟩ u4).heap[k]? = W.heap[k]? := by
  rw [Below.heap_setCell _ ⟨g, 4, none⟩ _ k hk, Below.heap_setCell _ ⟨g, 3, none⟩ _ k hk, Below.heap_setCell _ ⟨g, 2, none⟩ _ k hk, Below.heap_setCell _ ⟨g, 1, none⟩ _ k hk, Below.heap_setCell _ ⟨g, 0, none⟩ _ k hk]
theorem below_sets {w0 W : World} {g : Nat} {u0 u1 u2 u3 u4 : Value} (h : Below w0.heap.size w0 W) (hg : w0.heap.size ≤ g) : Below w0.heap.size w0 (((((W.setCell ⟨g, 0, none⟩ u0).setCell ⟨g, 1, none⟩ u1).setCell ⟨g, 2, none⟩ u2).setCell ⟨g, 3, none⟩ u3).setCell ⟨g, 4, none⟩ u4) :=
  below_set (below_set (below_set (below_set (below_set h hg) hg) hg) hg) hg
theorem lw_of {d base n M g4 g6 : Nat} {w wA W : World} {u0 u1 u2 u3 u4 v0 v1 v2 v3 : Value} {x0 : List S59} {x1 x2 : List Int} {x3 : List (List Int)} {z0 z1 z2 z3 z4 : Value} (hb : Below w.heap.size w W) (ba : Below wA.heap.size wA W) (hg : WorldM d n M x0 x1 x2 x3 v0 v1 v2 v3 W) (gm : M ≤ W.heap.size) (b4 : W.heap[g4]? = some (.cells #[u0, u1, u2, u3, u4] 29 (0, 0))) (b6 : W.heap[g6]? = some (.cells #[z0, z1, z2, z3, z4] 29 (0, 0)))
    (s : w.heap.size ≤ wA.heap.size ∧ wA.heap.size ≤ g4 ∧ g4 < base ∧ base ≤ n ∧ n ≤ M ∧ M ≤ g6) : LW d base n M g4 g6 w wA u0 u1 u2 u3 u4 v0 v1 v2 v3 x0 x1 x2 x3 (((((W.setCell ⟨g6, 0, none⟩ v0).setCell ⟨g6, 1, none⟩ v1).setCell ⟨g6, 2, none⟩ v2).setCell ⟨g6, 3, none⟩ v3).setCell ⟨g6, 4, none⟩ (.slice none 0 0)) := by
  obtain ⟨s1, s2, s3, s4, s5, s6⟩ := s
  exact ⟨below_sets hb (by omega), below_sets ba (by omega), hg.move fun k _ hk => sets5_ _ _ _ _ _ (by omega), by simpa [World.setCell] using gm, (sets5_ _ _ _ _ _ (by omega)).trans b4, by apply bp5_4_; apply bp5_3_; apply bp5_2_; apply bp5_1_; apply bp5_0_; exact b6, s1, s2, s3, s4, s5, s6⟩
theorem MkSS.at_ {W W' : World} {base : Nat} {v : Value} {xs : List (List S61)} (h : Kd.R (Kd.slice 61 k61) 41 W base (fun _ => True) v xs) (hb : Below W.heap.size W W') : MkSS W' (fun k => base ≤ k ∧ k < W.heap.size ∧ ∃ cells, W.heap[k]? = some (.cells cells 61 (0, 0))) v xs := (mkSS_of h).ints (ints_of_below hb)
structure MOk (k d : Nat) (l0 : List (List S56)) (ts : List (List S61)) (x0 : List S59) (x1 x2 : List Int) (x3 : List (List Int)) (q : Int) : Prop where
  ct : laws_toStmtSS.f k l0 = some ts
  sp : ∀ (A : Option Addr) (c : Nat) (w : World), Kd.C (Kd.slice 61 k61) w A ts.length ts → ts.length ≤ c → Calls Try.prog 5 #[.slice A ts.length c] w fun e w' => ∃ v0 v1 v2 v3 v4 : Value, e = .returned (.agg #[v0, v1, v2, v3, v4]) ∧ WC w' x0 x1 x2 x3 [] v0 v1 v2 v3 v4 ∧ Below w.heap.size w w'
  im : ∀ (A : Option Addr) (c : Nat) (w : World), Kd.C (Kd.slice 61 k61) w A ts.length ts → ts.length ≤ c → Calls Try.prog 7 #[.slice A ts.length c] w fun e w' => ∃ v0 v1 v2 v3 : Value, e = .returned (.agg #[v0, v1, v2, v3, .slice none 0 0]) ∧ WorldR d w.heap.size x0 x1 x2 x3 v0 v1 v2 v3 w' ∧ Below w.heap.size w w'
  eqW : laws_eqWorld.f k x0 x1 x2 x3 [] x0 x1 x2 x3 [] = some true
  eqS : laws_eqStmtSS.f k ts ts = some true
  mm : mkS (mkF k) ts 1 = some q
  hq : ¬ q < 0
  hh : laws_heldWorld.f k (mkPL d x0 1).1 (mkI x1 (mkPL d x0 1).2).1 (mkI x2 (mkI x1 (mkPL d x0 1).2).2).1 x3 [] 1 = some (mkI x2 (mkI x1 (mkPL d x0 1).2).2).2
  hm : ¬ (mkI x2 (mkI x1 (mkPL d x0 1).2).2).2 < 0
def MLaw (k d : Nat) (l0 : List (List S56)) : Prop := ∃ t, laws_szStmtSS.f k l0 1048576 = some t ∧ (t < 0 ∨ (¬ t < 0 ∧ ∃ ts x0 x1 x2 x3 q, MOk k d l0 ts x0 x1 x2 x3 q))
set_option maxHeartbeats 8000000 in
set_option maxRecDepth 100000 in
theorem meanlaw_says (k d : Nat) (A0 : Option Addr) (c0 : Nat) (l0 : List (List S56)) (w : World) (hr0 : Kd.C (Kd.slice 56 k56) w A0 l0.length l0) (hc0 : l0.length ≤ c0) (h : MLaw k d l0) :
    Calls Try.prog 3 #[.slice A0 l0.length c0] w fun e w' => e = .returned (.bool true) ∧ Below w.heap.size w w' := by
  have hu29 := Try.underlying29
  obtain ⟨t, ht, hc⟩ := h
  have HR0 := Aside0.mk hr0
  have HC0 := Aside0.mk hc0
  have HT := Aside0.mk ht
  clear hr0 hc0 ht
  have HB := Aside0.mk (Below.refl w.heap.size w)
  rcases hc with hc | ⟨hc, ts, x0, x1, x2, x3, q, hok⟩
  · have hz : decide (t < 0) = true := decide_eq_true hc
    clear hc
    go_enter Try.func3, Try.ntmps3
    go_wp2_with (first | ((with_reducible refine gate_callee (f := 4) rfl ?_); refine goesM_ (some 13) Try.func4 #[.slice A0 l0.length c0, .int .i64 1048576] ?_; refine (laws_szStmtSS.calls k A0 c0 l0 1048576 t w HR0.out HC0.out HT.out).mono ?_; rintro e w1 ⟨rfl, hb⟩; refine ⟨_, rfl, ?_⟩; have n0_ := Aside0.mk (below_step HB.out hb); clear HB hb; have HB := n0_; clear n0_))
    go_ret
    exact ⟨rfl, HB.out⟩
  · have hz : decide (t < 0) = false := decide_eq_false hc
    clear hc
    have OK := Aside0.mk hok
    have hqz : decide (q < 0) = false := decide_eq_false hok.hq
    obtain ⟨m, hm⟩ : ∃ m, m = (mkI x2 (mkI x1 (mkPL d x0 1).2).2).2 := ⟨_, rfl⟩
    have hmz : decide (m < 0) = false := by rw [hm]; exact decide_eq_false hok.hm
    have HM := Aside0.mk hm
    have HH := Aside0.mk (hm ▸ hok.hh)
    clear hok hm
    go_enter Try.func3, Try.ntmps3
    go_wp2_with (first | ((with_reducible refine gate_callee (f := 4) rfl ?_); refine goesM_ (some 13) Try.func4 #[.slice A0 l0.length c0, .int .i64 1048576] ?_; refine (laws_szStmtSS.calls k A0 c0 l0 1048576 t w HR0.out HC0.out HT.out).mono ?_; rintro e w1 ⟨rfl, hb⟩; refine ⟨_, rfl, ?_⟩; have n0_ := Aside0.mk (below_step HB.out hb); clear HB hb; have HB := n0_; clear n0_) | ((with_reducible refine gate_callee (f := 6) rfl ?_); refine goesM_ (some 17) Try.func6 #[.slice A0 l0.length c0] ?_; refine (laws_toStmtSS.calls k A0 c0 l0 ts _ (Kd.C_below HR0.out HB.out) HC0.out OK.out.ct).mono ?_; rintro e w2 ⟨y1, rfl, hy, hb⟩; refine ⟨_, rfl, ?_⟩; have HY1 := Aside0.mk hy; have n0_ := Aside0.mk (below_step HB.out hb); clear HB hb; have HB := n0_; clear n0_; clear hy; obtain ⟨D1, i1, e1⟩ := Kd.R_slice HY1.out; subst e1) | ((with_reducible refine gate_callee (f := 5) rfl ?_); refine goesM_ (some 18) Try.func5 #[.slice D1 ts.length i1] ?_; refine (OK.out.sp D1 i1 _ (Kd.R_reads' HY1.out).2.2 (Kd.R_reads' HY1.out).2.1).mono ?_; rintro e w3 ⟨u0, u1, u2, u3, u4, rfl, hw, hb⟩; refine ⟨_, rfl, ?_⟩; have HV := Aside0.mk hw; have SA := Aside0.mk (below_size (below_step HB.out hb)); have n0_ := Aside0.mk (below_step HB.out hb); clear HB hb; have HB := n0_; clear n0_; clear hw HY1; obtain ⟨E0, i0, e0, _, _⟩ := HV.out.r0; obtain ⟨E1, i1, e1, _, _⟩ := HV.out.r1; obtain ⟨E2, i2, e2, _, _⟩ := HV.out.r2; obtain ⟨E3, i3, e3, _, _⟩ := HV.out.r3; obtain ⟨E4, i4, e4, _, _⟩ := HV.out.r4; subst e0; subst e1; subst e2; subst e3; subst e4) | ((with_reducible refine gate_dst (N := 4) rfl ?_); refine box_event ?hg (N := 4) ?hd (cs := #[.slice none 0 0, .slice none 0 0, .slice none 0 0, .slice none 0 0, .slice none 0 0]) (t := 29) ?hr ?_; (case hd => rfl); (case hg => rfl); (case hr => first | (go_simp; done) | (go_simp; rfl)); intro g4 hg w4 hbox hb; have BA := Aside0.mk hb; have G4 := Aside0.mk (Nat.le_of_eq hg.symm); have BK4 := Aside0.mk hbox; have n0_ := Aside0.mk (below_step HB.out hb); clear HB hb; have HB := n0_; clear n0_; clear hbox hg; obtain ⟨hcz_0, hcz_1, hcz_2, hcz_3, hcz_4, hfz_0, hfz_1, hfz_2, hfz_3, hfz_4⟩ := bz5_ BK4) | ((with_reducible refine gate_callee (f := 6) rfl ?_); refine goesM_ (some 20) Try.func6 #[.slice A0 l0.length c0] ?_; refine (laws_toStmtSS.calls k A0 c0 l0 ts _ (Kd.C_below HR0.out (below_set (v := .slice E4 ([] : List S69).length i4) (j := 4) (below_set (v := .slice E3 x3.length i3) (j := 3) (below_set (v := .slice E2 x2.length i2) (j := 2) (below_set (v := .slice E1 x1.length i1) (j := 1) (below_set (v := .slice E0 x0.length i0) (j := 0) HB.out (Nat.le_trans SA.out G4.out)) (Nat.le_trans SA.out G4.out)) (Nat.le_trans SA.out G4.out)) (Nat.le_trans SA.out G4.out)) (Nat.le_trans SA.out G4.out))) HC0.out OK.out.ct).mono ?_; rintro e w5 ⟨y2, rfl, hy, hb⟩; refine ⟨_, rfl, ?_⟩; have n0_ := Aside0.mk (below_step (below_set (v := .slice E4 ([] : List S69).length i4) (j := 4) (below_set (v := .slice E3 x3.length i3) (j := 3) (below_set (v := .slice E2 x2.length i2) (j := 2) (below_set (v := .slice E1 x1.length i1) (j := 1) (below_set (v := .slice E0 x0.length i0) (j := 0) HB.out (Nat.le_trans SA.out G4.out)) (Nat.le_trans SA.out G4.out)) (Nat.le_trans SA.out G4.out)) (Nat.le_trans SA.out G4.out)) (Nat.le_trans SA.out G4.out)) hb); have n1_ := Aside0.mk (below_step (below_set (v := .slice E4 ([] : List S69).length i4) (j := 4) (below_set (v := .slice E3 x3.length i3) (j := 3) (below_set (v := .slice E2 x2.length i2) (j := 2) (below_set (v := .slice E1 x1.length i1) (j := 1) (below_set (v := .slice E0 x0.length i0) (j := 0) BA.out G4.out) G4.out) G4.out) G4.out) G4.out) hb); have n2_ := Aside0.mk (show w5.heap[g4]? = some (.cells #[.slice E0 x0.length i0, .slice E1 x1.length i1, .slice E2 x2.length i2, .slice E3 x3.length i3, .slice E4 ([] : List S69).length i4] 29 (0, 0)) from blk_below (by apply bp5_4_; apply bp5_3_; apply bp5_2_; apply bp5_1_; apply bp5_0_; exact BK4.out) hb); obtain ⟨base, hb1, hb2, hy2⟩ : ∃ base, g4 < base ∧ base ≤ w5.heap.size ∧ Kd.R (Kd.slice 61 k61) 41 w5 base (fun _ => True) y2 ts := ⟨_, by simpa [World.setCell] using blk_lt BK4.out, hb.size, hy⟩; have LB := Aside0.mk hb1; have LB2 := Aside0.mk hb2; have HX := Aside0.mk hy2; clear HB BA BK4 hy hb hb1 hb2 hy2 hcz_0 hcz_1 hcz_2 hcz_3 hcz_4 hfz_0 hfz_1 hfz_2 hfz_3 hfz_4; have HB := n0_; have BA := n1_; have BK4 := n2_; clear n0_ n1_ n2_; obtain ⟨D2, i2_, e2⟩ := Kd.R_slice HX.out; subst e2) | ((with_reducible refine gate_callee (f := 7) rfl ?_); refine goesM_ (some 22) Try.func7 #[.slice D2 ts.length i2_] ?_; refine (OK.out.im D2 i2_ _ (Kd.R_reads' HX.out).2.2 (Kd.R_reads' HX.out).2.1).mono ?_; rintro e w6 ⟨v0, v1, v2, v3, rfl, hw, hb⟩; refine ⟨_, rfl, ?_⟩; have n0_ := Aside0.mk (below_step HB.out hb); have n1_ := Aside0.mk (below_step BA.out hb); have n2_ := Aside0.mk (blk_below BK4.out hb); have HG := Aside0.mk hw.toM; have BB := Aside0.mk hb; clear HB BA BK4 hw hb; have HB := n0_; have BA := n1_; have BK4 := n2_; clear n0_ n1_ n2_; obtain ⟨F0, j0, F1, j1, F2, j2, F3, j3, e0, e1, e2, e3⟩ := HG.out.forms; subst e0; subst e1; subst e2; subst e3) | ((with_reducible refine gate_dst (N := 6) rfl ?_); refine box_event ?hg (N := 6) ?hd (cs := #[.slice none 0 0, .slice none 0 0, .slice none 0 0, .slice none 0 0, .slice none 0 0]) (t := 29) ?hr ?_; (case hd => rfl); (case hg => rfl); (case hr => first | (go_simp; done) | (go_simp; rfl)); intro g6 hg w7 hbox hb; have n0_ := Aside0.mk (below_step HB.out hb); have n1_ := Aside0.mk (below_step BA.out hb); have n2_ := Aside0.mk (blk_below BK4.out hb); have n3_ := Aside0.mk (HG.out.move (fun k _ hk => hb.block k hk)); have n4_ := Aside0.mk (below_step BB.out hb); have G6 := Aside0.mk hg; have L5 := Aside0.mk BB.out.size; have GM := Aside0.mk hb.size; have BK6 := Aside0.mk hbox; clear HB BA BK4 HG BB hb hbox hg; have HB := n0_; have BA := n1_; have BK4 := n2_; have HG := n3_; have BB := n4_; clear n0_ n1_ n2_ n3_ n4_; obtain ⟨hcz_0, hcz_1, hcz_2, hcz_3, hcz_4, hfz_0, hfz_1, hfz_2, hfz_3, hfz_4⟩ := bz5_ BK6; obtain ⟨hcy_0, hcy_1, hcy_2, hcy_3, hcy_4, hfy_0, hfy_1, hfy_2, hfy_3, hfy_4⟩ := bz5_ BK4; have hn46 : g4 ≠ g6 := by have h1 := LB.out; have h2 := LB2.out; have h3 := L5.out; have h4 := G6.out; omega) | ((with_reducible refine gate_callee (f := 8) rfl ?_); refine goesM_ (some 25) Try.func8 #[.agg #[.slice F0 x0.length j0, .slice F1 x1.length j1, .slice F2 x2.length j2, .slice F3 x3.length j3, .slice none 0 0], .agg #[.slice E0 x0.length i0, .slice E1 x1.length i1, .slice E2 x2.length i2, .slice E3 x3.length i3, .slice E4 ([] : List S69).length i4]] ?_; have lw : LW d base w5.heap.size w6.heap.size g4 g6 w w3 (.slice E0 x0.length i0) (.slice E1 x1.length i1) (.slice E2 x2.length i2) (.slice E3 x3.length i3) (.slice E4 ([] : List S69).length i4) (.slice F0 x0.length j0) (.slice F1 x1.length j1) (.slice F2 x2.length j2) (.slice F3 x3.length j3) x0 x1 x2 x3 (((((w7.setCell ⟨g6, 0, none⟩ (.slice F0 x0.length j0)).setCell ⟨g6, 1, none⟩ (.slice F1 x1.length j1)).setCell ⟨g6, 2, none⟩ (.slice F2 x2.length j2)).setCell ⟨g6, 3, none⟩ (.slice F3 x3.length j3)).setCell ⟨g6, 4, none⟩ (.slice none 0 0)) := lw_of HB.out BA.out HG.out GM.out BK4.out BK6.out ⟨SA.out, G4.out, LB.out, LB2.out, L5.out, Nat.le_of_eq G6.out.symm⟩; have bb : Below w5.heap.size w5 (((((w7.setCell ⟨g6, 0, none⟩ (.slice F0 x0.length j0)).setCell ⟨g6, 1, none⟩ (.slice F1 x1.length j1)).setCell ⟨g6, 2, none⟩ (.slice F2 x2.length j2)).setCell ⟨g6, 3, none⟩ (.slice F3 x3.length j3)).setCell ⟨g6, 4, none⟩ (.slice none 0 0)) := below_sets BB.out (by have := L5.out; have := G6.out; omega); clear HB BA HG GM BK4 BK6 BB hcz_0 hcz_1 hcz_2 hcz_3 hcz_4 hfz_0 hfz_1 hfz_2 hfz_3 hfz_4 hcy_0 hcy_1 hcy_2 hcy_3 hcy_4 hfy_0 hfy_1 hfy_2 hfy_3 hfy_4; refine (eqW_says k x0 x0 x1 x2 x1 x2 x3 x3 [] [] _ _ _ _ _ _ _ _ _ _ true _ lw.hg.wc (HV.out.below lw.ba) OK.out.eqW).mono ?_; rintro e w8 ⟨rfl, hb⟩; refine ⟨_, rfl, ?_⟩; have LWc := Aside0.mk (lw.below hb); have BB := Aside0.mk (below_step bb hb); clear lw bb hb; have BK4_ := Aside0.mk LWc.out.b4; have BK6_ := Aside0.mk LWc.out.b6; obtain ⟨hcz_0, hcz_1, hcz_2, hcz_3, hcz_4, hfz_0, hfz_1, hfz_2, hfz_3, hfz_4⟩ := bz5_ BK4_; obtain ⟨hcy_0, hcy_1, hcy_2, hcy_3, hcy_4, hfy_0, hfy_1, hfy_2, hfy_3, hfy_4⟩ := bz5_ BK6_) | ((with_reducible refine gate_callee (f := 6) rfl ?_); refine goesM_ (some 29) Try.func6 #[.slice A0 l0.length c0] ?_; refine (laws_toStmtSS.calls k A0 c0 l0 ts _ (Kd.C_below HR0.out LWc.out.hb) HC0.out OK.out.ct).mono ?_; rintro e w9 ⟨y3, rfl, hy, hb⟩; refine ⟨_, rfl, ?_⟩; have n0_ := Aside0.mk (LWc.out.below hb); clear LWc; have LWc := n0_; clear n0_; have n0_ := Aside0.mk (below_step BB.out hb); clear BB; have BB := n0_; clear n0_; have HY3 := Aside0.mk hy; clear hb hy; clear BK4_ BK6_ hcz_0 hcz_1 hcz_2 hcz_3 hcz_4 hfz_0 hfz_1 hfz_2 hfz_3 hfz_4 hcy_0 hcy_1 hcy_2 hcy_3 hcy_4 hfy_0 hfy_1 hfy_2 hfy_3 hfy_4; obtain ⟨D3, i3_, e3⟩ := Kd.R_slice HY3.out; subst e3) | ((with_reducible refine gate_callee (f := 9) rfl ?_); refine goesM_ (some 30) Try.func9 #[.slice D2 ts.length i2_, .slice D3 ts.length i3_] ?_; refine (laws_eqStmtSS.calls k D2 i2_ ts D3 i3_ ts true _ (Kd.C_below (Kd.R_reads' HX.out).2.2 BB.out) (Kd.R_reads' HX.out).2.1 (Kd.R_reads' HY3.out).2.2 (Kd.R_reads' HY3.out).2.1 OK.out.eqS).mono ?_; rintro e w10 ⟨rfl, hb⟩; refine ⟨_, rfl, ?_⟩; have n0_ := Aside0.mk (LWc.out.below hb); clear LWc; have LWc := n0_; clear n0_; have n0_ := Aside0.mk (below_step BB.out hb); clear BB; have BB := n0_; clear n0_; clear hb HY3) | ((with_reducible refine gate_callee (f := 10) rfl ?_); refine goesM_ (some 34) Try.func10 #[.slice D2 ts.length i2_, .int .i64 1] ?_; refine (markSS_says k _ ts 1 q _ _ (MkSS.at_ HX.out BB.out) OK.out.mm).mono ?_; rintro e w11 ⟨rfl, hi⟩; refine ⟨_, rfl, ?_⟩; have n0_ := Aside0.mk (LWc.out.ints hi (fun k hk => ⟨hk.1, hk.2.1⟩)); clear LWc; have LWc := n0_; clear n0_ hi; have BK4_ := Aside0.mk LWc.out.b4; have BK6_ := Aside0.mk LWc.out.b6; obtain ⟨hcz_0, hcz_1, hcz_2, hcz_3, hcz_4, hfz_0, hfz_1, hfz_2, hfz_3, hfz_4⟩ := bz5_ BK4_; obtain ⟨hcy_0, hcy_1, hcy_2, hcy_3, hcy_4, hfy_0, hfy_1, hfy_2, hfy_3, hfy_4⟩ := bz5_ BK6_) | (go_at_call 8; refine (eqW_says k x0 x0 x1 x2 x1 x2 x3 x3 [] [] _ _ _ _ _ _ _ _ _ _ true _ LWc.out.hg.wc (HV.out.below LWc.out.ba) OK.out.eqW).mono ?_; rintro e w12 ⟨rfl, hb⟩; have n0_ := Aside0.mk (LWc.out.below hb); clear LWc; have LWc := n0_; clear n0_; clear hb; clear BK4_ BK6_ hcz_0 hcz_1 hcz_2 hcz_3 hcz_4 hfz_0 hfz_1 hfz_2 hfz_3 hfz_4 hcy_0 hcy_1 hcy_2 hcy_3 hcy_4 hfy_0 hfy_1 hfy_2 hfy_3 hfy_4; have BK4_ := Aside0.mk LWc.out.b4; have BK6_ := Aside0.mk LWc.out.b6; obtain ⟨hcz_0, hcz_1, hcz_2, hcz_3, hcz_4, hfz_0, hfz_1, hfz_2, hfz_3, hfz_4⟩ := bz5_ BK4_; obtain ⟨hcy_0, hcy_1, hcy_2, hcy_3, hcy_4, hfy_0, hfy_1, hfy_2, hfy_3, hfy_4⟩ := bz5_ BK6_) | ((with_reducible refine gate_callee (f := 11) rfl ?_); refine goesM_ (some 45) Try.func11 #[.agg #[.slice F0 x0.length j0, .slice F1 x1.length j1, .slice F2 x2.length j2, .slice F3 x3.length j3, .slice none 0 0], .int .i64 1] ?_; refine (markM_says d _ _ x0 x1 x2 x3 _ _ _ _ 1 _ LWc.out.hg LWc.out.gm).mono ?_; rintro e w13 ⟨he, hw, hf⟩; rw [← HM.out] at he; subst he; refine ⟨_, rfl, ?_⟩; have n0_ := Aside0.mk (LWc.out.frn hf hw); clear LWc hf hw; have LWc := n0_; clear n0_; clear BK4_ BK6_ hcz_0 hcz_1 hcz_2 hcz_3 hcz_4 hfz_0 hfz_1 hfz_2 hfz_3 hfz_4 hcy_0 hcy_1 hcy_2 hcy_3 hcy_4 hfy_0 hfy_1 hfy_2 hfy_3 hfy_4; have BK4_ := Aside0.mk LWc.out.b4; have BK6_ := Aside0.mk LWc.out.b6; obtain ⟨hcz_0, hcz_1, hcz_2, hcz_3, hcz_4, hfz_0, hfz_1, hfz_2, hfz_3, hfz_4⟩ := bz5_ BK4_; obtain ⟨hcy_0, hcy_1, hcy_2, hcy_3, hcy_4, hfy_0, hfy_1, hfy_2, hfy_3, hfy_4⟩ := bz5_ BK6_) | ((with_reducible refine gate_callee (f := 12) rfl ?_); refine goesM_ (some 48) Try.func12 #[.agg #[.slice F0 x0.length j0, .slice F1 x1.length j1, .slice F2 x2.length j2, .slice F3 x3.length j3, .slice none 0 0], .int .i64 1] ?_; refine (heldW_says k _ _ _ _ [] _ _ _ _ _ 1 m _ LWc.out.hg.wc HH.out).mono ?_; rintro e w14 ⟨rfl, hb⟩; refine ⟨_, rfl, ?_⟩; have n0_ := Aside0.mk (LWc.out.below hb); clear LWc; have LWc := n0_; clear n0_; clear hb; clear BK4_ BK6_ hcz_0 hcz_1 hcz_2 hcz_3 hcz_4 hfz_0 hfz_1 hfz_2 hfz_3 hfz_4 hcy_0 hcy_1 hcy_2 hcy_3 hcy_4 hfy_0 hfy_1 hfy_2 hfy_3 hfy_4; have BK4_ := Aside0.mk LWc.out.b4; have BK6_ := Aside0.mk LWc.out.b6; obtain ⟨hcz_0, hcz_1, hcz_2, hcz_3, hcz_4, hfz_0, hfz_1, hfz_2, hfz_3, hfz_4⟩ := bz5_ BK4_; obtain ⟨hcy_0, hcy_1, hcy_2, hcy_3, hcy_4, hfy_0, hfy_1, hfy_2, hfy_3, hfy_4⟩ := bz5_ BK6_) | ((with_reducible refine gate_callee (f := 6) rfl ?_); refine goesM_ (some 55) Try.func6 #[.slice A0 l0.length c0] ?_; refine (laws_toStmtSS.calls k A0 c0 l0 ts _ (Kd.C_below HR0.out LWc.out.hb) HC0.out OK.out.ct).mono ?_; rintro e w15 ⟨y4, rfl, hy, hb⟩; refine ⟨_, rfl, ?_⟩; have n0_ := Aside0.mk (LWc.out.below hb); clear LWc; have LWc := n0_; clear n0_; have HY4 := Aside0.mk hy; clear hb hy; clear BK4_ BK6_ hcz_0 hcz_1 hcz_2 hcz_3 hcz_4 hfz_0 hfz_1 hfz_2 hfz_3 hfz_4 hcy_0 hcy_1 hcy_2 hcy_3 hcy_4 hfy_0 hfy_1 hfy_2 hfy_3 hfy_4; obtain ⟨D4, i4_, e4⟩ := Kd.R_slice HY4.out; subst e4) | ((with_reducible refine gate_callee (f := 7) rfl ?_); refine goesM_ (some 56) Try.func7 #[.slice D4 ts.length i4_] ?_; refine (OK.out.im D4 i4_ _ (Kd.R_reads' HY4.out).2.2 (Kd.R_reads' HY4.out).2.1).mono ?_; rintro e w16 ⟨v0, v1, v2, v3, rfl, hw, hb⟩; refine ⟨_, rfl, ?_⟩; have n0_ := Aside0.mk (LWc.out.below hb); clear LWc; have LWc := n0_; clear n0_; have HH0 := Aside0.mk hw.toM; clear hw hb HY4; obtain ⟨H0_, p0_, H1_, p1_, H2_, p2_, H3_, p3_, e0, e1, e2, e3⟩ := HH0.out.forms; subst e0; subst e1; subst e2; subst e3) | ((with_reducible refine gate_dst (N := 10) rfl ?_); refine box_event ?hg (N := 10) ?hd (cs := #[.slice none 0 0, .slice none 0 0, .slice none 0 0, .slice none 0 0, .slice none 0 0]) (t := 29) ?hr ?_; (case hd => rfl); (case hg => rfl); (case hr => first | (go_simp; done) | (go_simp; rfl)); intro g10 hg w17 hbox hb; have G10 := Aside0.mk (show g6 < g10 by rw [hg]; exact blk_lt LWc.out.b6); have K10 := Aside0.mk hg; have n0_ := Aside0.mk (LWc.out.below hb); clear LWc; have LWc := n0_; clear n0_; have n0_ := Aside0.mk (HH0.out.move (fun k _ hk => hb.block k hk)); clear HH0; have HH0 := n0_; clear n0_; have BK10 := Aside0.mk hbox; clear hbox hb hg; have BK4_ := Aside0.mk LWc.out.b4; have BK6_ := Aside0.mk LWc.out.b6; obtain ⟨hcz_0, hcz_1, hcz_2, hcz_3, hcz_4, hfz_0, hfz_1, hfz_2, hfz_3, hfz_4⟩ := bz5_ BK4_; obtain ⟨hcy_0, hcy_1, hcy_2, hcy_3, hcy_4, hfy_0, hfy_1, hfy_2, hfy_3, hfy_4⟩ := bz5_ BK6_; obtain ⟨hcx_0, hcx_1, hcx_2, hcx_3, hcx_4, hfx_0, hfx_1, hfx_2, hfx_3, hfx_4⟩ := bz5_ BK10; have hn4 : g4 ≠ g10 := by have h1 := G10.out; have h2 := LWc.out.s; omega) | ((with_reducible refine gate_callee (f := 8) rfl ?_); refine goesM_ (some 59) Try.func8 #[.agg #[.slice H0_ x0.length p0_, .slice H1_ x1.length p1_, .slice H2_ x2.length p2_, .slice H3_ x3.length p3_, .slice none 0 0], .agg #[.slice E0 x0.length i0, .slice E1 x1.length i1, .slice E2 x2.length i2, .slice E3 x3.length i3, .slice E4 ([] : List S69).length i4]] ?_; have lw := (((((LWc.out.set G10.out 0 (.slice H0_ x0.length p0_)).set G10.out 1 (.slice H1_ x1.length p1_)).set G10.out 2 (.slice H2_ x2.length p2_)).set G10.out 3 (.slice H3_ x3.length p3_)).set G10.out 4 (.slice none 0 0)); have hw := HH0.out.move (w' := (((((w17.setCell ⟨g10, 0, none⟩ (.slice H0_ x0.length p0_)).setCell ⟨g10, 1, none⟩ (.slice H1_ x1.length p1_)).setCell ⟨g10, 2, none⟩ (.slice H2_ x2.length p2_)).setCell ⟨g10, 3, none⟩ (.slice H3_ x3.length p3_)).setCell ⟨g10, 4, none⟩ (.slice none 0 0))) (fun k _ hk => sets5_ _ _ _ _ _ (by have := K10.out; omega)); refine (eqW_says k x0 x0 x1 x2 x1 x2 x3 x3 [] [] _ _ _ _ _ _ _ _ _ _ true _ hw.wc (HV.out.below lw.ba) OK.out.eqW).mono ?_; rintro e w18 ⟨rfl, hb⟩; refine ⟨_, rfl, ?_⟩; have n0_ := Aside0.mk (lw.below hb); clear LWc HH0 lw hw hb; have LWc := n0_; clear n0_; clear BK4_ BK6_ hcz_0 hcz_1 hcz_2 hcz_3 hcz_4 hfz_0 hfz_1 hfz_2 hfz_3 hfz_4 hcy_0 hcy_1 hcy_2 hcy_3 hcy_4 hfy_0 hfy_1 hfy_2 hfy_3 hfy_4; clear BK10 hcx_0 hcx_1 hcx_2 hcx_3 hcx_4 hfx_0 hfx_1 hfx_2 hfx_3 hfx_4; have BK4_ := Aside0.mk LWc.out.b4; have BK6_ := Aside0.mk LWc.out.b6; obtain ⟨hcz_0, hcz_1, hcz_2, hcz_3, hcz_4, hfz_0, hfz_1, hfz_2, hfz_3, hfz_4⟩ := bz5_ BK4_; obtain ⟨hcy_0, hcy_1, hcy_2, hcy_3, hcy_4, hfy_0, hfy_1, hfy_2, hfy_3, hfy_4⟩ := bz5_ BK6_) | ((with_reducible refine gate_callee (f := 12) rfl ?_); refine goesM_ (some 63) Try.func12 #[.agg #[.slice F0 x0.length j0, .slice F1 x1.length j1, .slice F2 x2.length j2, .slice F3 x3.length j3, .slice none 0 0], .int .i64 1] ?_; refine (heldW_says k _ _ _ _ [] _ _ _ _ _ 1 m _ LWc.out.hg.wc HH.out).mono ?_; rintro e w19 ⟨rfl, hb⟩; refine ⟨_, rfl, ?_⟩; have n0_ := Aside0.mk (LWc.out.below hb); clear LWc; have LWc := n0_; clear n0_; clear hb))
    go_ret
    exact ⟨rfl, LWc.out.hb⟩
end Go.Proofs.Ytdjkmnkgaacmfaa.P

namespace Go.Proofs.Ytdjkmnkgaacmfaa.P
open Go.RowKit Go.Proofs.YtdjkmnkgaacmfaaW.PrintWords Go.Proofs.YtdjkmnkgaacmfaaW.PrintMore
set_option linter.unusedVariables false
set_option linter.unusedSimpArgs false
theorem fits_of : ∀ (d : Nat) (l : List S61),dep d l → SL d l → Fits d l
  | 0,l,h,_=>h
  | d + 1,l,h,s=>⟨by have:=s.1;omega,fun x hx=>⟨fits_of d x.f4 (h x hx).1 (s.2 x hx).1,fits_of d x.f5 (h x hx).2 (s.2 x hx).2⟩⟩
theorem rdT_mid (pre : List S61) (x : S61) (t : List S61) : rd_T61 (pre ++ x :: t) (pre.length : Int) = x:=by simp [rd_T61,List.getD_eq_getElem?_getD]
theorem rdP_mid (pre : List S59) (x : S59) (t : List S59) : rd_T59 (pre ++ x :: t) (pre.length : Int) = x:=by simp [rd_T59,List.getD_eq_getElem?_getD]
theorem rdI_mid (pre : List Int) (x : Int) (t : List Int) : rd (pre ++ x :: t) (pre.length : Int) = x:=by simp [rd,List.getD_eq_getElem?_getD]
theorem l2copy_ev : ∀ (d e : Nat) (l : List S61),Fits d l → d ≤ e → e ≤ 1000 → Ev (fun k=>spec_l2Copy.f k l (e : Int)) l
  | 0,e,l,h,_,_=>by
    obtain rfl : l = []:=h
    exact Evs.succ (fun k=>by simp only [spec_l2Copy.f];rfl) (Evs.succ (fun k=>by simp only [spec_l2Copy.l0];rfl) (Evs.ite_neg (by simp) (Evs.succ (fun k=>by simp only [spec_l2Copy.j1];rfl) (Evs.ite_neg (by simp) (Evs.some_ _)))))
  | d + 1,e,l,h,hd,he=>by
    obtain ⟨hl,hx⟩:=h
    refine Evs.succ (fun k=>by simp only [spec_l2Copy.f];rfl) ?_
    have key : ∀ (t pre : List S61),pre ++ t = l → Ev (fun k=>spec_l2Copy.l0 k l (e : Int) pre (pre.length : Int)) l:=by
      intro t
      induction t with
      | nil =>
        intro pre hp
        rw [List.append_nil] at hp
        subst hp
        exact Evs.succ (fun k=>by simp only [spec_l2Copy.l0];rfl) (Evs.ite_neg (by omega) (Evs.succ (fun k=>by simp only [spec_l2Copy.j1];rfl) (Evs.ite_neg (by simp) (Evs.some_ _))))
      | cons x t ih =>
        intro pre hp
        have hm : x ∈ l:=by rw [← hp];simp
        have hlen : l.length = pre.length + (t.length + 1):=by rw [← hp];simp
        have e1 : wrap64 ((e : Int) - 1) = ((e - 1 : Nat) : Int):=by rw [wrap_id (by omega) (by omega)];omega
        have k4:=l2copy_ev d (e - 1) x.f4 (hx x hm).1 (by omega) (by omega)
        have k5:=l2copy_ev d (e - 1) x.f5 (hx x hm).2 (by omega) (by omega)
        have er : rd_T61 l (pre.length : Int) = x:=by rw [← hp];exact rdT_mid pre x t
        refine Evs.succ (fun k=>by simp only [spec_l2Copy.l0];rfl) (Evs.ite_pos (by omega) ?_)
        refine Evs.succ (fun k=>by simp only [spec_l2Copy.j1];rfl) ?_
        refine Evs.ite_pos (decide_eq_true (by omega)) (Evs.ite_pos (by omega) (Evs.ite_pos (by omega) ?_))
        simp only [er,e1]
        refine Evs.bind k4 (Evs.bind k5 (Evs.ite_pos (by omega) ?_))
        have z:=ih (pre ++ [x]) (by rw [← hp];simp)
        have ex : (⟨x.f0,x.f1,x.f2,x.f3,x.f4,x.f5⟩ : S61) = x:=by cases x;rfl
        rw [wrap_succ (by omega),ex]
        have el : (pre ++ [x]).length = pre.length + 1:=by simp
        rw [el] at z
        exact z
    exact key l [] rfl
theorem eqI_self (l : List Int) (h : l.length ≤ 1048576) : Ev (fun k=>laws_eqIntS.f k l l) true:=by
  unfold laws_eqIntS.f
  refine Evs.ite_pos (by trivial) (all_true_loop (fun k i=>laws_eqIntS.l0 k l l i) l.length (fun i r hi hr=>?_) ?_)
  · refine Evs.succ (fun k=>by simp only [laws_eqIntS.l0];rfl) (Evs.ite_pos (by omega) (Evs.ite_pos (by omega) (Evs.ite_pos (by omega) (Evs.ite_pos (by trivial) ?_))))
    rw [wrap_succ (by omega)]
    exact hr
  · exact Evs.succ (fun k=>by simp only [laws_eqIntS.l0];rfl) (Evs.ite_neg (by omega) (Evs.some_ _))
theorem eqII_self (l : List (List Int)) (h : l.length ≤ 1048576) (hx : ∀ x ∈ l,x.length ≤ 1048576) : Ev (fun k=>laws_eqIntSS.f k l l) true:=by
  unfold laws_eqIntSS.f
  refine Evs.ite_pos (by trivial) (all_true_loop (fun k i=>laws_eqIntSS.l0 k l l i) l.length (fun i r hi hr=>?_) ?_)
  · have hm : rd_L3 l (i : Int) ∈ l:=by
      have : rd_L3 l (i : Int) = l[i]:=by simp [rd_L3,List.getD_eq_getElem?_getD,List.getElem?_eq_getElem hi]
      rw [this]
      exact List.getElem_mem hi
    refine Evs.succ (fun k=>by simp only [laws_eqIntSS.l0];rfl) (Evs.ite_pos (by omega) (Evs.ite_pos (by omega) (Evs.ite_pos (by omega) (Evs.bind (eqI_self _ (hx _ hm)) (Evs.ite_pos rfl ?_)))))
    rw [wrap_succ (by omega)]
    exact hr
  · exact Evs.succ (fun k=>by simp only [laws_eqIntSS.l0];rfl) (Evs.ite_neg (by omega) (Evs.some_ _))
theorem eqP_self (l : List S59) (h : l.length ≤ 1048576) (h0 : ∀ x ∈ l,x.f0.length ≤ 1048576) (h1 : ∀ x ∈ l,Ev (fun k=>laws_eqStmtS.f k x.f1 x.f1) true) : Ev (fun k=>laws_eqProcS.f k l l) true:=by
  unfold laws_eqProcS.f
  refine Evs.ite_pos (by trivial) (all_true_loop (fun k i=>laws_eqProcS.l0 k l l i) l.length (fun i r hi hr=>?_) ?_)
  · have hm : rd_T59 l (i : Int) ∈ l:=by
      have : rd_T59 l (i : Int) = l[i]:=by simp [rd_T59,List.getD_eq_getElem?_getD,List.getElem?_eq_getElem hi]
      rw [this]
      exact List.getElem_mem hi
    have hp : Ev (fun k=>laws_eqProc.f k (rd_T59 l i).f0 (rd_T59 l i).f1 (rd_T59 l i).f2 (rd_T59 l i).f3 (rd_T59 l i).f4 (rd_T59 l i).f0 (rd_T59 l i).f1 (rd_T59 l i).f2 (rd_T59 l i).f3 (rd_T59 l i).f4) true:=by
      unfold laws_eqProc.f
      exact Evs.bind (eqI_self _ (h0 _ hm)) (Evs.ite_pos rfl (Evs.bind (h1 _ hm) (Evs.ite_pos rfl (Evs.ite_pos (by trivial) (Evs.ite_pos (by trivial) (Evs.ite_pos (by trivial) (Evs.some_ _)))))))
    refine Evs.succ (fun k=>by simp only [laws_eqProcS.l0];rfl) (Evs.ite_pos (by omega) (Evs.ite_pos (by omega) (Evs.ite_pos (by omega) (Evs.bind hp (Evs.ite_pos rfl ?_)))))
    rw [wrap_succ (by omega)]
    exact hr
  · exact Evs.succ (fun k=>by simp only [laws_eqProcS.l0];rfl) (Evs.ite_neg (by omega) (Evs.some_ _))
theorem eqS_nil : Ev (fun k=>laws_eqSayS.f k [] []) true:=by
  unfold laws_eqSayS.f
  exact Evs.ite_pos (by trivial) (Evs.succ (fun k=>by simp only [laws_eqSayS.l0];rfl) (Evs.ite_neg (by simp) (Evs.some_ _)))
theorem eqW_self (x0 : List S59) (x1 x2 : List Int) (x3 : List (List Int)) (h : x0.length ≤ 1048576) (h0 : ∀ x ∈ x0,x.f0.length ≤ 1048576) (hs : ∀ x ∈ x0,Ev (fun k=>laws_eqStmtS.f k x.f1 x.f1) true) (h1 : x1.length ≤ 1048576) (h2 : x2.length ≤ 1048576) (h3 : x3.length ≤ 1048576) (h4 : ∀ x ∈ x3,x.length ≤ 1048576) : Ev (fun k=>laws_eqWorld.f k x0 x1 x2 x3 [] x0 x1 x2 x3 []) true:=by
  unfold laws_eqWorld.f
  exact Evs.bind (eqP_self x0 h h0 hs) (Evs.ite_pos rfl (Evs.bind (eqI_self x1 h1) (Evs.ite_pos rfl (Evs.bind (eqI_self x2 h2) (Evs.ite_pos rfl (Evs.bind (eqII_self x3 h3 h4) (Evs.ite_pos rfl (Evs.bind eqS_nil (Evs.ite_pos rfl (Evs.some_ _))))))))))
def NB (a : Int) : Prop:=0 ≤ a ∧ a ≤ 9000000000000000000
theorem mkI_val : ∀ (l : List Int) (a : Int),NB a → NB (a + l.length) → (mkI l a).2 = a + l.length
  | [],a,_,_=>by simp [mkI]
  | x :: t,a,h,hn=>by
    simp only [List.length_cons,Int.natCast_add,Int.natCast_one] at hn ⊢
    unfold NB at h hn
    have e : wrap64 (a + 1) = a + 1:=wrap_id (by omega) (by omega)
    show (mkI t (wrap64 (a + 1))).2 = _
    rw [e,mkI_val t (a + 1) ⟨by omega,by omega⟩ ⟨by omega,by omega⟩]
    omega
theorem heldI_ev (l : List Int) (a : Int) (h : NB a) (hn : NB (a + l.length)) : Ev (fun k=>laws_heldIntS.f k (mkI l a).1 a) (a + l.length):=by
  have key : ∀ (t pre : List Int) (b : Int),NB b → NB (b + t.length) → pre.length + t.length ≤ 9000000000000000000 → Ev (fun k=>laws_heldIntS.l0 k (pre ++ (mkI t b).1) b (pre.length : Int)) (b + t.length):=by
    intro t
    induction t with
    | nil =>
      intro pre b _ _ _
      simp only [mkI,List.append_nil,List.length_nil,Int.natCast_zero,Int.add_zero]
      exact Evs.succ (fun k=>by simp only [laws_heldIntS.l0];rfl) (Evs.ite_neg (by omega) (Evs.some_ _))
    | cons x t ih =>
      intro pre b hb hn hp
      simp only [List.length_cons,Int.natCast_add,Int.natCast_one] at hn ⊢
      unfold NB at hb hn
      have e : wrap64 (b + 1) = b + 1:=wrap_id (by omega) (by omega)
      show Ev (fun k=>laws_heldIntS.l0 k (pre ++ b :: (mkI t (wrap64 (b + 1))).1) b (pre.length : Int)) _
      rw [e]
      refine Evs.succ (fun k=>by simp only [laws_heldIntS.l0,rdI_mid];rfl) (Evs.ite_pos (by simp;omega) (Evs.ite_pos (by omega) (Evs.ite_pos (by trivial) ?_)))
      have z:=ih (pre ++ [b]) (b + 1) ⟨by omega,by omega⟩ ⟨by omega,by omega⟩ (by simp at hp ⊢;omega)
      rw [wrap_succ (by omega),e]
      have el : (pre ++ [b]).length = pre.length + 1:=by simp
      rw [el,List.append_assoc] at z
      rw [show b + ((t.length : Int) + 1) = b + 1 + t.length by omega]
      exact z
  exact key l [] a h hn (by unfold NB at h hn;simp;omega)
theorem cntL_cons (d : Nat) (x : S61) (t : List S61) : cntL (d + 1) (x :: t) = 1 + cntL d x.f4 + cntL d x.f5 + cntL (d + 1) t:=by simp [cntL]
def HX (d : Nat) (l : List S61) : Prop:=∀ a : Int,NB a → NB (a + 4 * (cntL d l : Int)) → (mkX d l a).2 = a + 4 * (cntL d l : Int) ∧ Ev (fun k=>laws_heldStmtS.f k (mkX d l a).1 a) (a + 4 * (cntL d l : Int))
theorem heldS_nil (a : Int) : Ev (fun k=>laws_heldStmtS.f k [] a) a :=
  Evs.succ (fun k=>by simp only [laws_heldStmtS.f];rfl) (Evs.succ (fun k=>by simp only [laws_heldStmtS.l0];rfl) (Evs.ite_neg (by simp) (Evs.some_ _)))
theorem heldX_ev : ∀ (d : Nat) (l : List S61),Fits d l → HX d l
  | 0,l,h=>by
    obtain rfl : l = []:=h
    intro a ha hn
    refine ⟨by simp [mkX,cntL],?_⟩
    have z:=heldS_nil a
    simpa [mkX,cntL] using z
  | d + 1,l,h=>by
    obtain ⟨hl,hx⟩:=h
    intro a ha hn
    have key : ∀ (t pre : List S61) (b : Int),(∀ x ∈ t,Fits d x.f4 ∧ Fits d x.f5) → NB b → NB (b + 4 * (cntL (d + 1) t : Int)) → pre.length + t.length ≤ 9000000000000000000 →
        (mkLX (mkX d) t b).2 = b + 4 * (cntL (d + 1) t : Int) ∧ Ev (fun k=>laws_heldStmtS.l0 k (pre ++ (mkLX (mkX d) t b).1) b (pre.length : Int)) (b + 4 * (cntL (d + 1) t : Int)):=by
      intro t
      induction t with
      | nil =>
        intro pre b _ _ _ _
        refine ⟨by simp [mkLX,cntL],?_⟩
        have z : Ev (fun k=>laws_heldStmtS.l0 k pre b (pre.length : Int)) b:=Evs.succ (fun k=>by simp only [laws_heldStmtS.l0];rfl) (Evs.ite_neg (by omega) (Evs.some_ _))
        simpa [mkLX,cntL] using z
      | cons x t ih =>
        intro pre b hf hb hn hp
        have c0:=cntL_cons d x t
        rw [c0] at hn ⊢
        unfold NB at hb hn
        have w1 : wrap64 (b + 1) = b + 1:=wrap_id (by omega) (by omega)
        have w2 : wrap64 (b + 1 + 1) = b + 2:=by rw [wrap_id (by omega) (by omega)];omega
        have w3 : wrap64 (b + 2 + 1) = b + 3:=by rw [wrap_id (by omega) (by omega)];omega
        have w4 : wrap64 (b + 3 + 1) = b + 4:=by rw [wrap_id (by omega) (by omega)];omega
        obtain ⟨v4,e4⟩:=heldX_ev d x.f4 (hf x (List.mem_cons_self ..)).1 (b + 4) ⟨by omega,by omega⟩ ⟨by omega,by omega⟩
        obtain ⟨v5,e5⟩:=heldX_ev d x.f5 (hf x (List.mem_cons_self ..)).2 (b + 4 + 4 * (cntL d x.f4 : Int)) ⟨by omega,by omega⟩ ⟨by omega,by omega⟩
        have hE : mkE (mkX d) x b = (⟨b,b + 1,b + 2,b + 3,(mkX d x.f4 (b + 4)).1,(mkX d x.f5 (b + 4 + 4 * (cntL d x.f4 : Int))).1⟩,b + 4 + 4 * (cntL d x.f4 : Int) + 4 * (cntL d x.f5 : Int)):=by
          unfold mkE
          simp only [w1,w2,w3,w4,v4,v5]
        obtain ⟨vt,et⟩:=ih (pre ++ [⟨b,b + 1,b + 2,b + 3,(mkX d x.f4 (b + 4)).1,(mkX d x.f5 (b + 4 + 4 * (cntL d x.f4 : Int))).1⟩]) (b + 4 + 4 * (cntL d x.f4 : Int) + 4 * (cntL d x.f5 : Int)) (fun y hy=>hf y (List.mem_cons_of_mem _ hy)) ⟨by omega,by omega⟩ ⟨by omega,by omega⟩ (by simp at hp ⊢;omega)
        have hC : mkLX (mkX d) (x :: t) b = ((mkE (mkX d) x b).1 :: (mkLX (mkX d) t (mkE (mkX d) x b).2).1,(mkLX (mkX d) t (mkE (mkX d) x b).2).2):=rfl
        rw [hC,hE]
        refine ⟨?_,?_⟩
        · show (mkLX (mkX d) t _).2 = _
          rw [vt]
          omega
        · simp only
          generalize hy : (⟨b,b + 1,b + 2,b + 3,(mkX d x.f4 (b + 4)).1,(mkX d x.f5 (b + 4 + 4 * (cntL d x.f4 : Int))).1⟩ : S61) = y at et ⊢
          generalize (mkLX (mkX d) t (b + 4 + 4 * (cntL d x.f4 : Int) + 4 * (cntL d x.f5 : Int))).1 = T at et ⊢
          have f0 : y.f0 = b:=by rw [← hy]
          have f1 : y.f1 = b + 1:=by rw [← hy]
          have f2 : y.f2 = b + 2:=by rw [← hy]
          have f3 : y.f3 = b + 3:=by rw [← hy]
          have f4 : y.f4 = (mkX d x.f4 (b + 4)).1:=by rw [← hy]
          have f5 : y.f5 = (mkX d x.f5 (b + 4 + 4 * (cntL d x.f4 : Int))).1:=by rw [← hy]
          have er:=rdT_mid pre y T
          refine Evs.succ (fun k=>by simp only [laws_heldStmtS.l0,er,f0,f1,f2,f3,w1,w2,w3,w4];rfl) ?_
          refine Evs.ite_pos (by simp;omega) (Evs.ite_pos (by omega) (Evs.ite_pos (by trivial) (Evs.ite_pos (by trivial) (Evs.ite_pos (by trivial) (Evs.ite_pos (by trivial) ?_)))))
          rw [f4,f5]
          refine Evs.bind e4 (Evs.ite_neg (by omega) (Evs.bind e5 (Evs.ite_neg (by omega) ?_)))
          rw [wrap_succ (by simp at hp;omega)]
          have el : (pre ++ [y]).length = pre.length + 1:=by simp
          rw [el,List.append_assoc] at et
          rw [show b + 4 * ((1 + cntL d x.f4 + cntL d x.f5 + cntL (d + 1) t : Nat) : Int) = b + 4 + 4 * (cntL d x.f4 : Int) + 4 * (cntL d x.f5 : Int) + 4 * (cntL (d + 1) t : Int) by omega]
          exact et
    obtain ⟨v,e⟩:=key l [] a hx ha hn (by simp;omega)
    exact ⟨v,Evs.succ (fun k=>by simp only [laws_heldStmtS.f];rfl) e⟩
def cntP (d : Nat) : List S59 → Nat
  | []=>0
  | x :: t=>x.f0.length + 4 * cntL d x.f1 + 3 + cntP d t
theorem heldP_ev (d : Nat) (l : List S59) (a : Int) (hf : ∀ x ∈ l,Fits d x.f1) (ha : NB a) (hn : NB (a + cntP d l)) (hl : l.length ≤ 9000000000000000000) : (mkPL d l a).2 = a + cntP d l ∧ Ev (fun k=>laws_heldProcS.f k (mkPL d l a).1 a) (a + cntP d l):=by
  have key : ∀ (t pre : List S59) (b : Int),(∀ x ∈ t,Fits d x.f1) → NB b → NB (b + cntP d t) → pre.length + t.length ≤ 9000000000000000000 →
      (mkPL d t b).2 = b + cntP d t ∧ Ev (fun k=>laws_heldProcS.l0 k (pre ++ (mkPL d t b).1) b (pre.length : Int)) (b + cntP d t):=by
    intro t
    induction t with
    | nil =>
      intro pre b _ _ _ _
      refine ⟨by simp [mkPL,cntP],?_⟩
      have z : Ev (fun k=>laws_heldProcS.l0 k pre b (pre.length : Int)) b:=Evs.succ (fun k=>by simp only [laws_heldProcS.l0];rfl) (Evs.ite_neg (by omega) (Evs.some_ _))
      simpa [mkPL,cntP] using z
    | cons x t ih =>
      intro pre b hf hb hn hp
      have c0 : cntP d (x :: t) = x.f0.length + 4 * cntL d x.f1 + 3 + cntP d t:=rfl
      rw [c0] at hn ⊢
      unfold NB at hb hn
      have v0:=mkI_val x.f0 b ⟨by omega,by omega⟩ ⟨by omega,by omega⟩
      have e0:=heldI_ev x.f0 b ⟨by omega,by omega⟩ ⟨by omega,by omega⟩
      obtain ⟨v1,e1⟩:=heldX_ev d x.f1 (hf x (List.mem_cons_self ..)) (b + x.f0.length) ⟨by omega,by omega⟩ ⟨by omega,by omega⟩
      obtain ⟨c,hc⟩ : ∃ c,c = b + x.f0.length + 4 * (cntL d x.f1 : Int):=⟨_,rfl⟩
      rw [← hc] at v1 e1
      have w1 : wrap64 (c + 1) = c + 1:=wrap_id (by omega) (by omega)
      have w2 : wrap64 (c + 1 + 1) = c + 2:=by rw [wrap_id (by omega) (by omega)];omega
      have w3 : wrap64 (c + 2 + 1) = c + 3:=by rw [wrap_id (by omega) (by omega)];omega
      have hE : mkPE d x b = (⟨(mkI x.f0 b).1,(mkX d x.f1 (b + x.f0.length)).1,c,c + 1,c + 2⟩,c + 3):=by
        unfold mkPE
        simp only [v0,v1,w1,w2,w3]
      obtain ⟨vt,et⟩:=ih (pre ++ [⟨(mkI x.f0 b).1,(mkX d x.f1 (b + x.f0.length)).1,c,c + 1,c + 2⟩]) (c + 3) (fun y hy=>hf y (List.mem_cons_of_mem _ hy)) ⟨by omega,by omega⟩ ⟨by omega,by omega⟩ (by simp at hp ⊢;omega)
      have hC : mkPL d (x :: t) b = ((mkPE d x b).1 :: (mkPL d t (mkPE d x b).2).1,(mkPL d t (mkPE d x b).2).2):=rfl
      rw [hC,hE]
      refine ⟨?_,?_⟩
      · show (mkPL d t _).2 = _
        rw [vt]
        omega
      · simp only
        generalize hy : (⟨(mkI x.f0 b).1,(mkX d x.f1 (b + x.f0.length)).1,c,c + 1,c + 2⟩ : S59) = y at et ⊢
        generalize (mkPL d t (c + 3)).1 = T at et ⊢
        have f0 : y.f0 = (mkI x.f0 b).1:=by rw [← hy]
        have f1 : y.f1 = (mkX d x.f1 (b + x.f0.length)).1:=by rw [← hy]
        have f2 : y.f2 = c:=by rw [← hy]
        have f3 : y.f3 = c + 1:=by rw [← hy]
        have f4 : y.f4 = c + 2:=by rw [← hy]
        have er:=rdP_mid pre y T
        refine Evs.succ (fun k=>by simp only [laws_heldProcS.l0,er];rfl) ?_
        refine Evs.ite_pos (by simp;omega) (Evs.ite_pos (by omega) ?_)
        rw [f0,f1,f2,f3,f4]
        refine Evs.bind e0 (Evs.ite_neg (by omega) (Evs.bind e1 (Evs.ite_neg (by omega) ?_)))
        simp only [w1,w2,w3]
        refine Evs.ite_pos (by trivial) (Evs.ite_pos (by trivial) (Evs.ite_pos (by trivial) ?_))
        rw [wrap_succ (by simp at hp;omega)]
        have el : (pre ++ [y]).length = pre.length + 1:=by simp
        rw [el,List.append_assoc] at et
        rw [show b + ((x.f0.length + 4 * cntL d x.f1 + 3 + cntP d t : Nat) : Int) = c + 3 + (cntP d t : Int) by omega]
        exact et
  exact key l [] a hf ha hn (by simp;omega)
theorem heldII_ev (l : List (List Int)) (a : Int) (h : ∀ x ∈ l,x = []) (ha : NB a) (hl : l.length ≤ 1000) : Ev (fun k=>laws_heldIntSS.f k l a) a:=by
  have key : ∀ n i : Nat,i + n = l.length → Ev (fun k=>laws_heldIntSS.l0 k l a (i : Int)) a:=by
    intro n
    induction n with
    | zero =>
      intro i hi
      exact Evs.succ (fun k=>by simp only [laws_heldIntSS.l0];rfl) (Evs.ite_neg (by omega) (Evs.some_ _))
    | succ n ih =>
      intro i hi
      have hlt : i < l.length:=by omega
      have er : rd_L3 l (i : Int) = []:=by
        have : rd_L3 l (i : Int) = l[i]:=by simp [rd_L3,List.getD_eq_getElem?_getD,List.getElem?_eq_getElem hlt]
        rw [this]
        exact h _ (List.getElem_mem hlt)
      have e0:=heldI_ev [] a ha (by simpa using ha)
      simp only [mkI,List.length_nil,Int.natCast_zero,Int.add_zero] at e0
      have hna : ¬ a < 0:=by have:=ha.1;omega
      refine Evs.succ (fun k=>by simp only [laws_heldIntSS.l0,er];rfl) (Evs.ite_pos (by omega) (Evs.ite_pos (by omega) (Evs.bind e0 (Evs.ite_neg hna ?_))))
      rw [wrap_succ (by omega)]
      exact ih (i + 1) (by omega)
  exact key l.length 0 (by omega)
theorem heldY_nil (a : Int) : Ev (fun k=>laws_heldSayS.f k [] a) a:=by
  unfold laws_heldSayS.f
  exact Evs.succ (fun k=>by simp only [laws_heldSayS.l0];rfl) (Evs.ite_neg (by simp) (Evs.some_ _))
theorem heldW_ev (d : Nat) (x0 : List S59) (x1 x2 : List Int) (x3 : List (List Int)) (hf : ∀ x ∈ x0,Fits d x.f1) (hz : ∀ x ∈ x3,x = []) (hl : x0.length ≤ 9000000000000000000) (h3 : x3.length ≤ 1000) (hn : NB (1 + cntP d x0 + x1.length + x2.length)) :
    Ev (fun k=>laws_heldWorld.f k (mkPL d x0 1).1 (mkI x1 (mkPL d x0 1).2).1 (mkI x2 (mkI x1 (mkPL d x0 1).2).2).1 x3 [] 1) (mkI x2 (mkI x1 (mkPL d x0 1).2).2).2 ∧ ¬ (mkI x2 (mkI x1 (mkPL d x0 1).2).2).2 < 0:=by
  unfold NB at hn
  obtain ⟨v0,e0⟩:=heldP_ev d x0 1 hf ⟨by omega,by omega⟩ ⟨by omega,by omega⟩ hl
  rw [v0]
  have v1:=mkI_val x1 (1 + cntP d x0) ⟨by omega,by omega⟩ ⟨by omega,by omega⟩
  have e1:=heldI_ev x1 (1 + cntP d x0) ⟨by omega,by omega⟩ ⟨by omega,by omega⟩
  rw [v1]
  have v2:=mkI_val x2 (1 + cntP d x0 + x1.length) ⟨by omega,by omega⟩ ⟨by omega,by omega⟩
  have e2:=heldI_ev x2 (1 + cntP d x0 + x1.length) ⟨by omega,by omega⟩ ⟨by omega,by omega⟩
  rw [v2]
  refine ⟨?_,by omega⟩
  unfold laws_heldWorld.f
  exact Evs.bind e0 (Evs.ite_neg (by omega) (Evs.bind e1 (Evs.ite_neg (by omega) (Evs.bind e2 (Evs.ite_neg (by omega) (Evs.bind (heldII_ev x3 (1 + cntP d x0 + x1.length + x2.length) hz ⟨by omega,by omega⟩ h3) (Evs.ite_neg (by omega) (Evs.bind (heldY_nil _) (Evs.ite_neg (by omega) (Evs.some_ _))))))))))
theorem sum_le {α : Type} (f : α → Nat) (M : Nat) : ∀ l : List α,(∀ x ∈ l,f x ≤ M) → (l.map f).sum ≤ l.length * M
  | [],_=>by simp
  | x :: t,h=>by
    have h1:=h x (List.mem_cons_self ..)
    have h2:=sum_le f M t fun y hy=>h y (List.mem_cons_of_mem _ hy)
    simp only [List.map_cons,List.sum_cons,List.length_cons,Nat.succ_mul]
    omega
theorem cnt_step (d B : Nat) (hB : ∀ l : List S61,SL d l → cntL d l ≤ B) (l : List S61) (h : SL (d + 1) l) : cntL (d + 1) l ≤ 1048576 * (1 + B + B):=by
  have h1 : cntL (d + 1) l ≤ l.length * (1 + B + B):=sum_le _ _ l fun x hx=>by
    have h4:=hB x.f4 (h.2 x hx).1
    have h5:=hB x.f5 (h.2 x hx).2
    omega
  exact Nat.le_trans h1 (Nat.mul_le_mul_right _ h.1)
theorem cnt3 (l : List S61) (h : SL 3 l) : cntL 3 l ≤ 4611688217451692032:=by
  have b0 : ∀ l : List S61,SL 0 l → cntL 0 l ≤ 0:=fun l _=>Nat.le_refl 0
  have b1:=cnt_step 0 0 b0
  have b2:=cnt_step 1 _ b1
  have b3:=cnt_step 2 _ b2
  exact Nat.le_trans (b3 l h) (by decide)
theorem ok_cnt {l : List S61} (s : SL 3 l) (h : okLst l = true) : cntL 3 l ≤ 14 ∧ Fits 3 l:=by
  unfold okLst at h
  rw [Bool.and_eq_true] at h
  refine ⟨?_,fits_of 3 l (dep3 h.1) s⟩
  have h2:=of_decide_eq_true h.2
  have h3:=cnt3 l s
  rw [wrap_id (by omega) (by omega)] at h2
  omega
theorem Evs.all_ {α β : Type} {f : Nat → α → Option β} {g : α → β} : ∀ (l : List α),(∀ x ∈ l,Ev (fun k=>f k x) (g x)) → ∃ K,∀ k,K ≤ k → ∀ x ∈ l,f k x = some (g x)
  | [],_=>⟨0,fun _ _ _ h=>by simp at h⟩
  | x :: t,h=>by
    obtain ⟨K1,h1⟩:=h x (List.mem_cons_self ..)
    obtain ⟨K2,h2⟩:=Evs.all_ t fun y hy=>h y (List.mem_cons_of_mem _ hy)
    refine ⟨max K1 K2,fun k hk y hy=>?_⟩
    rcases List.mem_cons.1 hy with rfl | hy
    · exact h1 k (by omega)
    · exact h2 k (by omega) y hy
theorem cntP_le : ∀ (l : List (List S61)),(∀ x ∈ l,cntL 3 x ≤ 14) → cntP 3 (l.map prO) ≤ 62 * l.length
  | [],_=>by simp [cntP]
  | x :: t,h=>by
    have h1:=h x (List.mem_cons_self ..)
    have h2:=cntP_le t fun y hy=>h y (List.mem_cons_of_mem _ hy)
    show (prO x).f0.length + 4 * cntL 3 (prO x).f1 + 3 + cntP 3 (t.map prO) ≤ 62 * (t.length + 1)
    have h3 : (prO x).f0.length = 3:=by simp [prO]
    have h4 : (prO x).f1 = x:=rfl
    rw [h3,h4]
    omega
theorem mlaw_all (l : List (List S56)) (hb : BdLL l) : ∃ k d,MLaw k d l:=by
  obtain ⟨t,ht,c⟩:=lawLL l hb 1048576 (by omega) (by omega)
  rcases c with c | ⟨c0,c1,ts,hc,hee,hmk⟩
  · obtain ⟨K,hK⟩:=ht
    exact ⟨K,0,t,hK K (Nat.le_refl _),.inl c⟩
  obtain ⟨q,hq,q0,_⟩:=hmk 1 (by omega) (by omega)
  obtain ⟨hto,htl,hsl,hes⟩:=hc
  have hsp:=specProg htl hsl
  have him:=implProg ts
  obtain ⟨r,hr⟩ : ∃ r,r = progB ts:=⟨_,rfl⟩
  rw [← hr] at hsp him
  have hok : r = true → (∀ x ∈ ts,cntL 3 x ≤ 14 ∧ Fits 3 x) ∧ 0 < ts.length ∧ ts.length ≤ 3:=fun e=>by
    rw [hr] at e
    unfold progB at e
    rw [Bool.and_eq_true,Bool.and_eq_true,List.all_eq_true] at e
    have h1:=of_decide_eq_true e.2.1
    have h2:=of_decide_eq_true e.2.2
    exact ⟨fun x hx=>ok_cnt (hsl x hx) (e.1 x hx),by omega,by omega⟩
  have hlen : ∀ x ∈ ts,x.length ≤ 1048576:=fun x hx=>(hsl x hx).1
  have hcp : ∃ K,∀ k,K ≤ k → r = true → ∀ x ∈ ts,spec_l2Copy.f k x 4 = some x:=by
    by_cases e : r = true
    · obtain ⟨K,hK⟩:=Evs.all_ (f:=fun k x=>spec_l2Copy.f k x 4) (g:=fun x=>x) ts fun x hx=>l2copy_ev 3 4 x ((hok e).1 x hx).2 (by omega) (by omega)
      exact ⟨K,fun k hk _=>hK k hk⟩
    · exact ⟨0,fun _ _ h=>absurd h e⟩
  have hw : Ev (fun k=>laws_eqWorld.f k (wo0 r ts) (wo1 r) (wo2 r) (wo3 r) [] (wo0 r ts) (wo1 r) (wo2 r) (wo3 r) []) true:=by
    have h4:=wo_len (r:=r) (l:=ts) fun _=>⟨fun x hx=>by have:=hlen x hx;omega,by omega⟩
    refine eqW_self _ _ _ _ ?_ ?_ ?_ ?_ ?_ ?_ ?_
    · cases r <;> simp [wo0];omega
    · cases r <;> simp [wo0,prO]
    · cases r with
      | false=>simp [wo0]
      | true =>
        intro x hx
        obtain ⟨y,hy,rfl⟩:=List.mem_map.1 (show x ∈ ts.map prO from hx)
        exact hee y hy
    · cases r <;> simp [wo1]
    · cases r <;> simp [wo2]
    · cases r <;> simp [wo3]
    · cases r <;> simp [wo3]
  have hh:=heldW_ev 3 (wo0 r ts) (wo1 r) (wo2 r) (wo3 r) (fun x hx=>by
    cases r with
    | false=>simp [wo0] at hx
    | true =>
      obtain ⟨y,hy,rfl⟩:=List.mem_map.1 (show x ∈ ts.map prO from hx)
      exact ((hok rfl).1 y hy).2) (fun x hx=>by
    cases r with
    | false=>simp [wo3] at hx
    | true=>exact (List.mem_replicate.1 (show x ∈ List.replicate 2 [] from hx)).2) (by cases r <;> simp [wo0];omega) (by cases r <;> simp [wo3]) (by
    cases r with
    | false=>simp [NB,wo0,wo1,wo2,cntP]
    | true =>
      have h1:=cntP_le ts fun x hx=>((hok rfl).1 x hx).1
      have h2:=(hok rfl).2.2
      simp [NB,wo0,wo1,wo2]
      omega)
  obtain ⟨hh,hm⟩:=hh
  obtain ⟨K0,k0⟩:=ht
  obtain ⟨K1,k1⟩:=hto
  obtain ⟨K2,k2⟩:=hsp
  obtain ⟨K3,k3⟩:=him
  obtain ⟨K4,k4⟩:=hcp
  obtain ⟨K5,k5⟩:=hw
  obtain ⟨K6,k6⟩:=hes
  obtain ⟨K7,k7⟩:=hq
  obtain ⟨K8,k8⟩:=hh
  obtain ⟨k,hk⟩ : ∃ k,K0 ≤ k ∧ K1 ≤ k ∧ K2 ≤ k ∧ K3 ≤ k ∧ K4 ≤ k ∧ K5 ≤ k ∧ K6 ≤ k ∧ K7 ≤ k ∧ K8 ≤ k:=⟨K0 + K1 + K2 + K3 + K4 + K5 + K6 + K7 + K8,by omega⟩
  refine ⟨k,3,t,k0 k hk.1,.inr ⟨by omega,ts,wo0 r ts,wo1 r,wo2 r,wo3 r,q,⟨k1 k (by omega),fun A c w h1 h2=>?_,fun A c w h1 h2=>?_,k5 k (by omega),k6 k (by omega),k7 k (by omega),by omega,k8 k (by omega),hm⟩⟩⟩
  · exact smean_says k A c ts r w h1 h2 (fun _=>⟨fun x hx=>by have:=hlen x hx;omega,by omega⟩) (fun e=>(hok e).2.1) (k2 k (by omega)) (fun e=>k4 k (by omega) e)
  · exact meanopen_says k 3 A c ts r w h1 h2 (fun e=>⟨fun x hx=>((hok e).1 x hx).2,by omega⟩) (k3 k (by omega))
end Go.Proofs.Ytdjkmnkgaacmfaa.P
