/- The compiler's emit, forward and its first closure by their contracts; no condition but that code is no giant. -/
import Derived.Test.YtoekjehgnakffaaZFnExactCodeOf5
import Derived.Deep.RegionHeld3
import Derived.Deep.DrawnRows
import Derived.Deep.AppendLies
import Derived.Deep.RegionLaw
namespace Go.Proofs.Ytoekjehgnakffaa.P
open Go.RowKit Go.Maps Go.Proofs.YtoekjehgnakffaaW.PrintWords Go.Proofs.YtoekjehgnakffaaW.PrintLast Go.Proofs.YtoekjehgnakffaaW.PrintMore
attribute [local go_sem] max2_int min2_int max_two min_two max_three min_three max_four min_four
attribute [local go_sem ↓] Go.wp_at_zero Go.wp_at_succ
set_option linter.unusedVariables false
set_option linter.unusedSimpArgs false
theorem infoFn : (Try.prog.info? 1).map (fun i => (i.zero, i.size, i.bytes)) = some (some .nilFunc, 1, 8) := by kernel_rfl
def lateE (p : Nat × Nat × Nat) : Value := .func (.func 45) #[] #[.pointer (some ⟨p.1, 0, none⟩), .pointer (some ⟨p.2.1, 0, none⟩), .pointer (some ⟨p.2.2, 0, none⟩)]
def lateK : Kd (Nat × Nat × Nat) := Kd.scalar lateE (fun _ => rfl)
structure LateAt (g : Nat) (W : World) (p : Nat × Nat × Nat) (q : Nat × Nat) : Prop where
  t : W.heap[p.1]? = some (.cells #[.int .i64 (q.2 : Int)] 3 (0, 0))
  c : W.heap[p.2.1]? = some (.cells #[.pointer (some ⟨g, 0, none⟩)] 50 (0, 0))
  a : W.heap[p.2.2]? = some (.cells #[.int .i64 (q.1 : Int)] 3 (0, 0))
def Kc (W W' : World) : Prop := ∀ (b : Nat) (cs : Array Value) (t : TypeId) (fr : Nat × Nat), t ≠ 39 → t ≠ 1 → t ≠ 53 → W.heap[b]? = some (.cells cs t fr) → W'.heap[b]? = some (.cells cs t fr)
theorem Kc.refl (W : World) : Kc W W := fun _ _ _ _ _ _ _ h => h
theorem Kc.trans {X Y Z : World} (h : Kc X Y) (k : Kc Y Z) : Kc X Z := fun b cs t fr h1 h2 h3 hc => k b cs t fr h1 h2 h3 (h b cs t fr h1 h2 h3 hc)
theorem Kc.alloc {X Y : World} (h : Kc X Y) (o : Obj) : Kc X (Y.alloc o) := fun b cs t fr h1 h2 h3 hc => blk_alloc (h b cs t fr h1 h2 h3 hc) o
theorem Kc.drew {X Y : World} (h : Kc X Y) : Kc X Y.drew := h
theorem Kc.drewN {X Y : World} (h : Kc X Y) (n : Nat) : Kc X (Y.drewN n) := h
theorem Kc.set {X Y : World} (h : Kc X Y) {g t : Nat} {cs : Array Value} (hg : Y.heap[g]? = some (.cells cs t (0, 0))) (ht : t = 39 ∨ t = 1 ∨ t = 53) (j : Nat) (u : Value) : Kc X (Y.setCell ⟨g, j, none⟩ u) :=
  fun b cs' t' fr h1 h2 h3 hc => by
    have hb := h b cs' t' fr h1 h2 h3 hc
    refine (Below.heap_setCell Y ⟨g, j, none⟩ u b ?_).trans hb
    rintro rfl
    rw [hg] at hb
    injection hb with hb
    injection hb with _ hb _
    subst hb
    rcases ht with ht | ht | ht
    · exact h1 ht
    · exact h2 ht
    · exact h3 ht
theorem Kc.grown {X Y Z : World} (h : Kc X Y) {v : Value} (hg : Y.grownBy Z v.ownBlock) {t : Nat} (hv : ∀ k, v.ownBlock = some k → ∃ cells, Y.heap[k]? = some (.cells cells t (0, 0))) (ht : t = 39 ∨ t = 1 ∨ t = 53) : Kc X Z :=
  fun b cs' t' fr h1 h2 h3 hc => by
    have hb := h b cs' t' fr h1 h2 h3 hc
    refine (hg.block b (blk_lt hb) ?_).trans hb
    intro e
    obtain ⟨cells, hk⟩ := hv b e.symm
    rw [hk] at hb
    injection hb with hb
    injection hb with _ hb _
    subst hb
    rcases ht with ht | ht | ht
    · exact h1 ht
    · exact h2 ht
    · exact h3 ht
theorem LateAt.keep {g : Nat} {W W' : World} {p : Nat × Nat × Nat} {q : Nat × Nat} (h : LateAt g W p q) (k : Kc W W') : LateAt g W' p q :=
  ⟨k _ _ _ _ (by decide) (by decide) (by decide) h.t, k _ _ _ _ (by decide) (by decide) (by decide) h.c, k _ _ _ _ (by decide) (by decide) (by decide) h.a⟩
structure CAt (w0 : World) (g : Nat) (vc vl : Value) (code : List S39) (ps : List (Nat × Nat × Nat)) (W : World) : Prop where
  blk : W.heap[g]? = some (.cells #[vc, vl] 53 (0, 0))
  code : Kd.R k39 39 W w0.heap.size (fun _ => True) vc code
  late : Kd.R lateK 1 W w0.heap.size (fun _ => True) vl ps
  ge : w0.heap.size ≤ g
  below : Below w0.heap.size w0 W
def LAll (g : Nat) (W : World) (ps : List (Nat × Nat × Nat)) (pts : List (Nat × Nat)) : Prop := ps.length = pts.length ∧ ∀ (j : Nat) (p : Nat × Nat × Nat) (q : Nat × Nat), ps[j]? = some p → pts[j]? = some q → LateAt g W p q
theorem LAll.keep {g : Nat} {W W' : World} {ps : List (Nat × Nat × Nat)} {pts : List (Nat × Nat)} (h : LAll g W ps pts) (k : Kc W W') : LAll g W' ps pts := ⟨h.1, fun j p q a b => (h.2 j p q a b).keep k⟩
theorem LAll.snoc {g : Nat} {W : World} {ps : List (Nat × Nat × Nat)} {pts : List (Nat × Nat)} (h : LAll g W ps pts) {p : Nat × Nat × Nat} {q : Nat × Nat} (hp : LateAt g W p q) : LAll g W (ps ++ [p]) (pts ++ [q]) := by
  refine ⟨by simp [h.1], fun j p' q' a b => ?_⟩
  rcases Nat.lt_or_ge j ps.length with hj | hj
  · rw [List.getElem?_append_left hj] at a
    rw [List.getElem?_append_left (by have := h.1; omega)] at b
    exact h.2 j p' q' a b
  · have e1 := (List.getElem?_eq_some_iff.1 a).1
    rw [List.length_append, List.length_singleton] at e1
    obtain rfl : j = ps.length := by omega
    rw [List.getElem?_append_right (Nat.le_refl _)] at a
    rw [List.getElem?_append_right (by have := h.1; omega), show ps.length - pts.length = 0 by have := h.1; omega] at b
    simp at a b
    subst a
    subst b
    exact hp
def CSt (w0 : World) (g : Nat) (code : List S39) (pts : List (Nat × Nat)) (W : World) : Prop := ∃ vc vl ps, CAt w0 g vc vl code ps W ∧ LAll g W ps pts
theorem CAt.cells {w0 W : World} {g : Nat} {vc vl : Value} {code : List S39} {ps : List (Nat × Nat × Nat)} (h : CAt w0 g vc vl code ps W) : W.cell? ⟨g, 0, none⟩ = some vc ∧ W.cell? ⟨g, 1, none⟩ = some vl ∧ W.frozen? ⟨g, 0, none⟩ = false ∧ W.frozen? ⟨g, 1, none⟩ = false :=
  ⟨cell_of h.blk 0 rfl, cell_of h.blk 1 rfl, by have := h.blk; simp [World.frozen?, this], by have := h.blk; simp [World.frozen?, this]⟩
theorem step_rapp {P : Program} {ops : Array Oper} {o : Oper} {a : Act} {K : Act → World → Prop} {Q : Exit → Act → World → Prop} {E : Prop} {α : Type} {w : World} (d : Kd α) (hgd : o.guard = none) (s x : Operand) (t : TypeId)
    (ho : o.op = .call { callee := .builtin .append, args := #[s, x], argTypes := #[t, t] }) (base e : Nat) (z : Value) (bytes : Nat) (ht : P.underlying t = some (.slice e))
    (hinfo : (P.info? e).map (fun i => (i.zero, i.size, i.bytes)) = some (some z, d.sz, bytes)) (hz : z.cells.size = d.sz) (hs0 : 0 < d.sz)
    (v : Value) (xs : List α) (p : α) (cs : List Value) (hs : a.eval s = v) (B : Nat) (hx : a.eval x = .slice (some ⟨B, 0, none⟩) 1 1) (hblk : w.heap[B]? = some (.cells cs.toArray e (0, 0)))
    (hp : d.M w base (fun _ => False) p cs) (HO : d.R e w base (fun _ => True) v xs) (hbase : base ≤ w.heap.size) (h63 : xs.length < 4000000000000000) (hl : (xs.length + 1) * bytes ≤ 140737488355328)
    (h : ∀ gg cap w1, d.R e w1 base (fun _ => True) (.slice (some ⟨gg, 0, none⟩) (xs.length + 1) cap) (xs ++ [p]) → w.grownBy w1 v.ownBlock → K (a.put o.dst (.slice (some ⟨gg, 0, none⟩) (xs.length + 1) cap)) w1) :
    if Region.wanted o (yielded ops a.tmps) = true then Oper.wp P o a w K Q else E := by
  obtain ⟨h0, inner, hown, hr⟩ := HO
  obtain ⟨i0, hi, hz0, hz1, hz2⟩ := info_parts hinfo
  refine step_append_lies w hgd s x t ho base e i0 z d.sz bytes ht hi hz0 hz1 hz2 hz hs0 v xs.length inner hs hown ⟨B, 0, none⟩ 1 1 cs hx (by rw [d.K_len (d.K_of_M hp)]; omega) (World.news_of_block (by simpa using hblk)) (d.K_one (d.K_of_M hp)) (by omega) (by unfold maxLen; omega) hl hbase w.heap.size rfl ?_
  intro g cap w1 hown1 hg1 hat hlt
  refine h g cap w1 (Kd.R_appended h0 hr hp (fun _ hk => hk.elim) (fun _ _ => trivial) hown1 hg1 ?_) hg1
  rcases hat with hat | hat
  · exact .inl hat.symm
  · exact .inr ⟨g, rfl, by omega⟩
theorem CAt.low {w0 W : World} {g : Nat} {vc vl : Value} {code : List S39} {ps : List (Nat × Nat × Nat)} (h : CAt w0 g vc vl code ps W) {W' : World} (hb : Below W.heap.size W W') : CAt w0 g vc vl code ps W' :=
  ⟨blk_below h.blk hb, Kd.R_below h.code hb, Kd.R_below h.late hb, h.ge, below_step h.below hb⟩
theorem kc_below {W W' : World} (hb : Below W.heap.size W W') : Kc W W' := fun b cs t fr _ _ _ hc => blk_below hc hb
theorem CAt.coded {w0 W w1 : World} {g : Nat} {vc vl v' : Value} {code code' : List S39} {ps : List (Nat × Nat × Nat)} (h : CAt w0 g vc vl code ps W)
    (hr : Kd.R k39 39 w1 w0.heap.size (fun _ => True) v' code') (hg : W.grownBy w1 vc.ownBlock) : CAt w0 g v' vl code' ps (w1.setCell ⟨g, 0, none⟩ v') ∧ Kc W (w1.setCell ⟨g, 0, none⟩ v') := by
  have hne := Kd.R_ne h.code h.blk (by decide)
  have hb1 := blk_grown h.blk hg hne
  have hty := Kd.R_typed h.code
  refine ⟨⟨blk_put hb1 0 v' rfl, Kd.R_set hr hb1 (by decide) 0 v', Kd.R_set (Kd.R_over' h.late hty (by decide) hg) hb1 (by decide) 0 v', h.ge, ?_⟩, (Kc.grown (Kc.refl W) hg hty (.inl rfl)).set hb1 (.inr (.inr rfl)) 0 v'⟩
  exact below_set (pw_below_grown h.below _ h.below.size hg (Kd.R_base h.code)) h.ge
theorem CAt.lated {w0 W w1 : World} {g : Nat} {vc vl v' : Value} {code : List S39} {ps ps' : List (Nat × Nat × Nat)} (h : CAt w0 g vc vl code ps W)
    (hr : Kd.R lateK 1 w1 w0.heap.size (fun _ => True) v' ps') (hg : W.grownBy w1 vl.ownBlock) : CAt w0 g vc v' code ps' (w1.setCell ⟨g, 1, none⟩ v') ∧ Kc W (w1.setCell ⟨g, 1, none⟩ v') := by
  have hne := Kd.R_ne h.late h.blk (by decide)
  have hb1 := blk_grown h.blk hg hne
  have hty := Kd.R_typed h.late
  refine ⟨⟨blk_put hb1 1 v' rfl, Kd.R_set (Kd.R_over' h.code hty (by decide) hg) hb1 (by decide) 1 v', Kd.R_set hr hb1 (by decide) 1 v', h.ge, ?_⟩, (Kc.grown (Kc.refl W) hg hty (.inr (.inl rfl))).set hb1 (.inr (.inr rfl)) 1 v'⟩
  exact below_set (pw_below_grown h.below _ h.below.size hg (Kd.R_base h.late)) h.ge
set_option maxHeartbeats 4000000 in
set_option maxRecDepth 100000 in
theorem emit_calls (w0 : World) (g : Nat) (code : List S39) (pts : List (Nat × Nat)) (W : World) (i0 i1 i2 i3 : Int) (h : CSt w0 g code pts W) (hl : code.length < 1000000000) :
    Calls Try.prog 27 #[.pointer (some ⟨g, 0, none⟩), .agg #[.int .i64 i0, .int .i64 i1, .int .i64 i2, .int .i64 i3]] W fun e W' => e = .returned (.int .i64 (code.length : Int)) ∧ CSt w0 g (code ++ [⟨i0, i1, i2, i3⟩]) pts W' ∧ Kc W W' := by
  obtain ⟨vc, vl, ps, hC, hL⟩ := h
  obtain ⟨A, c, rfl⟩ := Kd.R_slice hC.code
  obtain ⟨g0, g1, z0, z1⟩ := hC.cells
  have HC := Aside0.mk hC
  have HL := Aside0.mk hL
  have hu := Try.underlying39
  have lg := blk_lt hC.blk
  have lz : W.heap.size < W.heap.size + 1 := Nat.lt_succ_self _
  have HN1 := Aside0.mk (Kd.R_ne hC.code hC.blk (by decide))
  have HN2 : Aside0 (some W.heap.size ≠ (Value.slice A code.length c).ownBlock) := ⟨fun e => absurd (Kd.R_lt hC.code _ e.symm) (by omega)⟩
  have HSZ := Aside0.mk hC.below.size
  clear hC hL
  go_enter Try.func27, Try.ntmps27
  go_upto_region 2 with fail
  go_cut [] (fun wx => ∃ gg cap, Aside0 (CAt w0 g (.slice (some ⟨gg, 0, none⟩) (code.length + 1) cap) vl (code ++ [⟨i0, i1, i2, i3⟩]) ps wx) ∧ Aside0 (Kc W wx))
  case first =>
    go_wp2_with fail
    go_region_law
    ((refine step_rapp k39 (by rfl) _ _ _ (by rfl) w0.heap.size 39 _ _ Try.underlying24 info39 (by rfl) (by decide) _ code ⟨i0, i1, i2, i3⟩ [.int .i64 i0, .int .i64 i1, .int .i64 i2, .int .i64 i3] (by rfl) (W.heap.size + 1) (by rfl) (by rw [← size_alloc W (.cells #[.int .i64 i0, .int .i64 i1, .int .i64 i2, .int .i64 i3] 39)]; exact blk_new _ _) (k39_mkM _ _ _ _) (by repeat (first | exact HC.out.code | (with_reducible apply Kd.R_alloc) | (with_reducible apply Kd.R_drew) | (with_reducible apply Kd.R_drewN))) (by have q := HSZ.out; simp <;> omega) (by omega) (by omega) ?_; intro gg cap w1 HR1 HG1; have hb1 : w1.heap[g]? = some (.cells #[.slice A code.length c, vl] 53 (0, 0)) := (HG1.block g (by simp <;> omega) HN1.out).trans (blk_alloc (blk_alloc HC.out.blk _) _); have u0 := cell_of hb1 0 rfl; have u1 := blk_frozen hb1 0; replace hb1 := Aside0.mk hb1; replace HR1 := Aside0.mk HR1; replace HG1 := Aside0.mk HG1))
    all_goals (have HX := CAt.coded (HC.out.low (below_drew1 (below_alloc (below_alloc (Below.refl _ W) _) _))) HR1.out HG1.out; go_wp2_with fail; go_meet; exact ⟨gg, cap, ⟨HX.1⟩, ⟨(kc_below (below_drew1 (below_alloc (below_alloc (Below.refl _ W) _) _))).trans HX.2⟩⟩)
  case rest =>
  obtain ⟨gg, cap, HC2, HK⟩ := hcut
  clear g0 g1 z0 z1
  obtain ⟨g0, g1, z0, z1⟩ := HC2.out.cells
  have HL2 := Aside0.mk (HL.out.keep HK.out)
  go_wp2
  go_ret
  refine ⟨?_, ⟨_, _, _, HC2.out, HL2.out⟩, HK.out⟩
  first | rfl | (simp; done) | (congr 2; omega) | go_num
theorem CSt.low {w0 W W' : World} {g : Nat} {code : List S39} {pts : List (Nat × Nat)} (h : CSt w0 g code pts W) (hb : Below W.heap.size W W') : CSt w0 g code pts W' := by
  obtain ⟨vc, vl, ps, hC, hL⟩ := h
  exact ⟨vc, vl, ps, hC.low hb, hL.keep (kc_below hb)⟩
theorem CSt.lt {w0 W : World} {g : Nat} {code : List S39} {pts : List (Nat × Nat)} (h : CSt w0 g code pts W) : g < W.heap.size ∧ w0.heap.size ≤ g := by
  obtain ⟨vc, vl, ps, hC, hL⟩ := h
  exact ⟨blk_lt hC.blk, hC.ge⟩
set_option maxHeartbeats 4000000 in
set_option maxRecDepth 100000 in
theorem forward_calls (w0 : World) (g : Nat) (code : List S39) (pts : List (Nat × Nat)) (W : World) (i0 i1 i2 i3 : Int) (h : CSt w0 g code pts W) (hl : code.length < 1000000000) :
    Calls Try.prog 40 #[.pointer (some ⟨g, 0, none⟩), .agg #[.int .i64 i0, .int .i64 i1, .int .i64 i2, .int .i64 i3]] W fun e W' => ∃ bc ba, e = .returned (.func (.func 44) #[] #[.pointer (some ⟨bc, 0, none⟩), .pointer (some ⟨ba, 0, none⟩)]) ∧ CSt w0 g (code ++ [⟨i0, i1, i2, i3⟩]) pts W' ∧
      W'.heap[bc]? = some (.cells #[.pointer (some ⟨g, 0, none⟩)] 50 (0, 0)) ∧ W'.heap[ba]? = some (.cells #[.int .i64 (code.length : Int)] 3 (0, 0)) ∧ Kc W W' := by
  have hmf : ∀ (fn : Fn) (first cap : Array Value) (w : World), (Instr.makeFunc fn first cap).run Try.prog w = .ok (.func fn first cap) w := by
    intros
    rfl
  have hu := Try.underlying39
  have HS := Aside0.mk h
  have HE := Aside0.mk (fun W' (q : CSt w0 g code pts W') => emit_calls w0 g code pts W' i0 i1 i2 i3 q hl)
  clear h
  go_enter Try.func40, Try.ntmps40
  go_wp2_with (go_at_call 27; refine (HE.out _ (HS.out.low (below_alloc (below_alloc (Below.refl _ W) _) _))).mono ?_; rintro e w1 ⟨rfl, hs1, hk1⟩)
  go_ret
  have hbx : Below W.heap.size W ((W.alloc (.cells #[.pointer (some ⟨g, 0, none⟩)] 50)).alloc (.cells #[.int .i64 i0, .int .i64 i1, .int .i64 i2, .int .i64 i3] 39)) := below_alloc (below_alloc (Below.refl _ W) _) _
  refine ⟨_, _, rfl, hs1.low (below_alloc (Below.refl _ w1) _), blk_alloc (hk1 _ _ _ _ (by decide) (by decide) (by decide) (blk_alloc (blk_new W _) _)) _, blk_new w1 _, ((kc_below hbx).trans hk1).alloc _⟩
set_option maxHeartbeats 4000000 in
set_option maxRecDepth 100000 in
theorem fixed_calls (w0 : World) (g : Nat) (code : List S39) (pts : List (Nat × Nat)) (W : World) (bc ba a : Nat) (h : CSt w0 g code pts W) (hl : pts.length < 1000000000)
    (hc : W.heap[bc]? = some (.cells #[.pointer (some ⟨g, 0, none⟩)] 50 (0, 0))) (ha : W.heap[ba]? = some (.cells #[.int .i64 (a : Int)] 3 (0, 0))) :
    Calls Try.prog 44 #[.pointer (some ⟨bc, 0, none⟩), .pointer (some ⟨ba, 0, none⟩)] W fun e W' => e = .returned (.tuple #[]) ∧ CSt w0 g code (pts ++ [(a, code.length)]) W' ∧ Kc W W' := by
  have hmf : ∀ (fn : Fn) (first cap : Array Value) (w : World), (Instr.makeFunc fn first cap).run Try.prog w = .ok (.func fn first cap) w := by
    intros
    rfl
  obtain ⟨vc, vl, ps, hC, hL⟩ := h
  obtain ⟨A, c, rfl⟩ := Kd.R_slice hC.code
  obtain ⟨L, d, rfl⟩ := Kd.R_slice hC.late
  obtain ⟨g0, g1, z0, z1⟩ := hC.cells
  have hlp : ps.length < 1000000000 := by rw [hL.1]; exact hl
  have c0 := cell_of hc 0 rfl
  have lg := blk_lt hC.blk
  have lc := blk_lt hc
  have la := blk_lt ha
  have HC := Aside0.mk hC
  have HL := Aside0.mk hL
  have HX := Aside0.mk (And.intro hc ha)
  have HN1 := Aside0.mk (Kd.R_ne hC.late hC.blk (by decide))
  have HN2 := Aside0.mk (Kd.R_ne hC.late hc (by decide))
  have HSZ := Aside0.mk hC.below.size
  have HBT := Aside0.mk (blk_new W (.cells #[.int .i64 (code.length : Int)] 3))
  have HLW := Aside0.mk (hC.low (below_alloc (Below.refl _ W) (.cells #[.int .i64 (code.length : Int)] 3)))
  have HLK := Aside0.mk (hL.keep (kc_below (below_alloc (Below.refl _ W) (.cells #[.int .i64 (code.length : Int)] 3))))
  clear hC hL hc ha
  go_enter Try.func44, Try.ntmps44
  go_upto_region 1 with fail
  go_wp2_with fail
  go_region_law
    ((refine step_rapp lateK (by rfl) _ _ _ (by rfl) w0.heap.size 1 _ _ Try.underlying51 infoFn (by rfl) (by decide) (.slice L ps.length d) ps (W.heap.size, bc, ba) [lateE (W.heap.size, bc, ba)] (by rfl) (W.heap.size + 1) (by rfl) (by rw [← size_alloc W (.cells #[.int .i64 (code.length : Int)] 3)]; exact blk_new _ _) rfl (by repeat (first | exact HLW.out.late | (with_reducible apply Kd.R_alloc) | (with_reducible apply Kd.R_drew) | (with_reducible apply Kd.R_drewN))) (by have q := HSZ.out; simp <;> omega) (by omega) (by omega) ?_; intro gg cap w1 HR1 HG1; have hb1 : w1.heap[g]? = some (.cells #[.slice A code.length c, .slice L ps.length d] 53 (0, 0)) := (HG1.block g (by simp <;> omega) HN1.out).trans (blk_alloc (blk_alloc HC.out.blk _) _); have u0 := cell_of hb1 1 rfl; have u1 := blk_frozen hb1 1; have u2 := cell_of ((HG1.block bc (by simp <;> omega) HN2.out).trans (blk_alloc (blk_alloc HX.out.1 _) _)) 0 rfl; replace hb1 := Aside0.mk hb1; replace HR1 := Aside0.mk HR1; replace HG1 := Aside0.mk HG1))
  all_goals (
    have HY := CAt.lated (HLW.out.low (below_drew1 (below_alloc (Below.refl _ _) _))) HR1.out HG1.out
    go_wp2
    go_end0
    have hk := (kc_below (below_alloc (Below.refl _ W) (.cells #[.int .i64 (code.length : Int)] 3))).trans ((kc_below (below_drew1 (below_alloc (Below.refl _ _) _))).trans HY.2)
    have hla := LAll.keep HL.out hk
    refine ⟨rfl, ⟨_, _, _, HY.1, ?_⟩, hk⟩
    have hk2 := (kc_below (below_drew1 (below_alloc (Below.refl _ (W.alloc (.cells #[.int .i64 (code.length : Int)] 3))) _))).trans HY.2
    exact hla.snoc (p := (W.heap.size, bc, ba)) (q := (a, code.length)) ⟨hk2 _ _ _ _ (by decide) (by decide) (by decide) HBT.out, hk _ _ _ _ (by decide) (by decide) (by decide) HX.out.1, hk _ _ _ _ (by decide) (by decide) (by decide) HX.out.2⟩)
end Go.Proofs.Ytoekjehgnakffaa.P
