/- Parts of the proof of FnProgFirst: plain Lean functions of Go functions, and that the calls come to what they say; no condition beyond those that each theorem names. -/
import Derived.Test.YtjplhicpfeplgaaZFnProgFirst8
import Derived.Test.YtjplhicpfeplgaaZFnProgFirst9
import Derived.Maps.AppendAt
import Derived.ArgAppend
import Derived.Test.YtjplhicpfeplgaaZFnProgFirst4
namespace Go.Proofs.Ytjplhicpfeplgaa.P
open Go.RowKit Go.Proofs.YtjplhicpfeplgaaW.PrintWords Go.Proofs.YtjplhicpfeplgaaW.PrintLast Go.Proofs.YtjplhicpfeplgaaW.PrintMore
attribute [local go_sem] max2_int min2_int max_two min_two max_three min_three max_four min_four
set_option linter.unusedVariables false
set_option linter.unusedSimpArgs false
theorem run_self {P : Program} (w : World) (base : Nat) (t ty e : TypeId) (i : TypeInfo) (z : Value) (size bytes : Nat) (ht : P.underlying t = some (.slice e)) (hi : P.info? e = some i) (hz : i.zero = some z)
    (hsize : i.size = size) (hby : i.bytes = bytes) (hzs : z.cells.size = size) (hsz : 0 < size) (g n cap : Nat) (xs : List Value) (hown : w.ownsRow base e size (.slice (some ⟨g, 0, none⟩) n cap) n xs) (h1 : ∀ u ∈ xs, u.oneCell' = true)
    (h63 : n + n ≤ maxLen) (hbytes : (n + n) * bytes ≤ 140737488355328) (hbase : base ≤ w.heap.size) :
    ∃ v1 w1, (Builtin.append_ #[t, t] ty #[.slice (some ⟨g, 0, none⟩) n cap, .slice (some ⟨g, 0, none⟩) n cap]).run P w = .ok v1 w1 ∧ w1.ownsRow base e size v1 (n + n) (xs ++ xs) ∧ w.grownBy w1 (some g) ∧
      (v1.ownBlock = some g ∨ v1.ownBlock = some w.heap.size) ∧ ∀ j u, xs[j]? = some u → w1.cell? ((⟨g, 0, none⟩ : Addr).add j) = some u := by
  have hc : ∀ j u, xs[j]? = some u → w.cell? ((⟨g, 0, none⟩ : Addr).add j) = some u := hown.cells (g := g) rfl
  obtain ⟨v1, w1, hr, h2, hg, _, hat⟩ := run_append_own_at (P := P) w base t ty e i z size bytes ht hi hz hsize hby hzs hsz _ n xs hown ⟨g, 0, none⟩ n cap xs hown.1 hc h1 h63 hbytes hbase
  refine ⟨v1, w1, hr, h2, hg, hat, fun j u hu => ?_⟩
  have hlt : g < w.heap.size := own_lt hown g (by simp [Value.ownBlock])
  by_cases hroom : n + n ≤ cap
  · have hb : v1.ownBlock = some g := by
      rcases hown.2 with ⟨hv, _⟩ | ⟨g', cap', cur, hv, _, hh, _, _, hcs, _⟩
      · cases hv
      · injection hv with ha _ hcap
        injection ha with ha
        injection ha with ha
        subst ha hcap hsize
        have hrr := run_append_room (P := P) w t ty e i ht hi g n cap cur hh ⟨g, 0, none⟩ n cap xs hown.1 hc h1 hroom (by rw [hown.1, hcs, ← Nat.add_mul]; exact Nat.mul_le_mul_right _ hroom)
        rw [hr] at hrr
        injection hrr with hrr _
        rw [hrr]
        rfl
    rcases h2.2 with ⟨rfl, _⟩ | ⟨g', cap', cur, rfl, _, _⟩
    · simp [Value.ownBlock] at hb
    · have hgg : g' = g := by simpa [Value.ownBlock] using hb
      subst hgg
      refine h2.cells (g := g') rfl j u ?_
      rw [List.getElem?_append_left (List.getElem?_eq_some_iff.1 hu).1]
      exact hu
  · obtain ⟨v2, w2, hr2, _, hg2⟩ := run_append_arg_grows (P := P) w t ty e i z size bytes ht hi hz hsize hby hzs hsz ⟨g, 0, none⟩ n cap xs hown.1 hc ⟨g, 0, none⟩ n cap xs hown.1 hc (by omega) h63 hbytes
    rw [hr] at hr2
    injection hr2 with hv hw
    subst hv hw
    have e : w1.heap[(Addr.add ⟨g, 0, none⟩ j).block]? = w.heap[(Addr.add ⟨g, 0, none⟩ j).block]? := by
      rw [add_block]
      exact hg2.block g hlt (by simp)
    have h := hc j u hu
    simp only [World.cell?] at h ⊢
    rw [e]
    exact h
def Again {α : Type} (d : Kd α) (w : World) (ok : Nat → Prop) (v1 : Value) (A : Option Addr) (m : Nat) (ys : List α) : Prop :=
  ∃ news : List (List Value), news.length = ys.length ∧ (Kd.raw d.sz).C w A m news ∧ ∀ (j : Nat) (x : α) (c : List Value), ys[j]? = some x → news[j]? = some c → Kd.FK d w (fun k => ok k ∧ some k ≠ v1.ownBlock) x c
section
variable {P : Program} {ops : Array Oper} {rest : List Oper} {o : Oper} {a : Act} {Q : Exit → Act → World → Prop} {α : Type}
theorem N_again (d : Kd α) {w0 W : World} (base : Nat) (hgd : o.guard = none) (s x : Operand) (t e : TypeId) (z : Value) (bytes : Nat)
    (ho : o.op = .call { callee := .builtin .append, args := #[s, x], argTypes := #[t, t] })
    (ht : P.underlying t = some (.slice e)) (hinfo : (P.info? e).map (fun i => (i.zero, i.size, i.bytes)) = some (some z, d.sz, bytes)) (hz : z.cells.size = d.sz) (hs0 : 0 < d.sz) (hb0 : 0 < bytes)
    (v : Value) (xs ys : List α) (A : Option Addr) (m c : Nat) (ok : Nat → Prop) (hs : a.eval s = v) (hx : a.eval x = .slice A m c)
    (HO : Kd.N d e W base ok v xs) (HR : Again d W ok v A m ys) (hfresh : ∀ k, W.heap.size ≤ k → ok k)
    (HB : Below base w0 W) (hbase : base ≤ W.heap.size) (hl : (xs.length + m) * bytes ≤ 140737488355328)
    (h : ∀ v1 w1, Kd.N d e w1 base ok v1 (xs ++ ys) → Below base w0 w1 → W.grownBy w1 v.ownBlock → wpList P ops Q rest (a.put o.dst v1) w1) :
    wpList P ops Q (o :: rest) a W := by
  obtain ⟨h0, rows, hlr, hR, hf⟩ := HO
  obtain ⟨news, hnl, hnr, hnf⟩ := HR
  refine Kd.R_append_rows (Kd.raw d.sz) base hgd s x t e z bytes ho ht hinfo hz hs0 hb0 v rows news A m c (fun _ => True) (fun _ => False) hs hx (Kd.raw_any hR) hnr (fun _ _ hk => hk) (fun _ hk => hk.elim) (fun _ _ => trivial) HB hbase (by rw [hlr]; exact hl) ?_
  intro v1 w1 hr hb hg hat
  exact h v1 w1 (Kd.N_appended h0 hlr hf hnl hnf (fun _ hk => hk) hfresh hr hg hat) hb hg
theorem N_self (d : Kd α) {w0 W : World} (base : Nat) (hgd : o.guard = none) (s x : Operand) (t e : TypeId) (z : Value) (bytes : Nat)
    (ho : o.op = .call { callee := .builtin .append, args := #[s, x], argTypes := #[t, t] })
    (ht : P.underlying t = some (.slice e)) (hinfo : (P.info? e).map (fun i => (i.zero, i.size, i.bytes)) = some (some z, d.sz, bytes)) (hz : z.cells.size = d.sz) (hs0 : 0 < d.sz) (hb0 : 0 < bytes)
    (xs : List α) (A : Option Addr) (c : Nat) (ok : Nat → Prop) (hs : a.eval s = .slice A xs.length c) (hx : a.eval x = .slice A xs.length c)
    (HO : Kd.N d e W base ok (.slice A xs.length c) xs) (hfresh : ∀ k, W.heap.size ≤ k → ok k)
    (HB : Below base w0 W) (hbase : base ≤ W.heap.size) (hl : (xs.length + xs.length) * bytes ≤ 140737488355328)
    (h : ∀ v1 w1, Kd.N d e w1 base ok v1 (xs ++ xs) → Again d w1 ok v1 A xs.length xs → Below base w0 w1 → W.grownBy w1 (Value.slice A xs.length c).ownBlock → wpList P ops Q rest (a.put o.dst v1) w1) :
    wpList P ops Q (o :: rest) a W := by
  obtain ⟨h0, rows, hlr, hR, hf⟩ := HO
  obtain ⟨hok, inner, hown, hr⟩ := hR
  rw [hlr] at hown
  obtain ⟨i0, hi, hzz⟩ := Option.map_eq_some_iff.1 hinfo
  simp only [Prod.mk.injEq] at hzz
  obtain ⟨hz0, hz1, hz2⟩ := hzz
  have hlen : xs.length + xs.length ≤ 140737488355328 := Nat.le_trans (Nat.le_mul_of_pos_right _ hb0) hl
  have hone : ∀ u ∈ inner, u.oneCell' = true := by
    intro u hu
    obtain ⟨q, hq, rfl⟩ := List.mem_iff_getElem.1 hu
    have hql : q / d.sz < rows.length := by
      rw [Nat.div_lt_iff_lt_mul hs0]
      have := hr.1
      change inner.length = rows.length * d.sz at this
      rw [← this]
      exact hq
    have hc := hr.2 (q / d.sz) _ (List.getElem?_eq_getElem hql)
    refine hc.2.2 _ ?_
    obtain ⟨hc1, _, _⟩ := hc
    rw [List.mem_iff_getElem?]
    refine ⟨q % d.sz, ?_⟩
    change ((inner.drop (q / d.sz * d.sz)).take d.sz)[q % d.sz]? = _
    rw [List.getElem?_take, if_pos (Nat.mod_lt _ hs0), List.getElem?_drop, Nat.mul_comm, Nat.div_add_mod, List.getElem?_eq_getElem hq]
  have build : ∀ v1 w1, w1.ownsRow base e d.sz v1 (xs.length + xs.length) (inner ++ inner) → W.grownBy w1 (Value.slice A xs.length c).ownBlock → (v1.ownBlock = (Value.slice A xs.length c).ownBlock ∨ ∃ b, v1.ownBlock = some b ∧ W.heap.size ≤ b) →
      ((Kd.raw d.sz).C w1 A xs.length rows) → Kd.N d e w1 base ok v1 (xs ++ xs) ∧ Again d w1 ok v1 A xs.length xs := by
    intro v1 w1 h2 hg hat hC
    have hne : ∀ k, some k ≠ (Value.slice A xs.length c).ownBlock → k < W.heap.size → some k ≠ v1.ownBlock := by
      intro k hk hlt
      rcases hat with hat | ⟨b, hb, hle⟩
      · rw [hat]; exact hk
      · rw [hb]
        intro he
        injection he with he
        omega
    refine ⟨Kd.N_appended h0 hlr hf hlr hf (fun _ hk => hk) hfresh ⟨fun _ _ => trivial, inner ++ inner, ?_, Kd.reps_append (hr.imp_ fun _ _ hq => hq) (hr.imp_ fun _ _ hq => hq)⟩ hg hat, rows, hlr, hC, fun j x cc hx hc => ?_⟩
    · rw [List.length_append, hlr]
      exact h2
    · exact Kd.FK_mono (Kd.FK_grown (Kd.FK_bound (hf j x cc hx hc)) hg (fun k hk => hk.1.2)) (fun k hk => ⟨hk.1.1, hne k hk.1.2 hk.2⟩)
  have hrun : ∃ v1 w1, (Builtin.append_ #[t, t] o.type #[.slice A xs.length c, .slice A xs.length c]).run P W = .ok v1 w1 ∧ Kd.N d e w1 base ok v1 (xs ++ xs) ∧ Again d w1 ok v1 A xs.length xs ∧ W.grownBy w1 (Value.slice A xs.length c).ownBlock := by
    rcases hown.2 with ⟨hv, hn⟩ | ⟨g, cap, cur, hv, _, hh, _⟩
    · injection hv with hA _ hc
      subst hA hc
      have hx0 : xs = [] := List.eq_nil_of_length_eq_zero hn
      subst hx0
      have hr0 : rows = [] := List.eq_nil_of_length_eq_zero hlr
      subst hr0
      refine ⟨.slice none 0 0, W, ?_, Kd.N_nil _ _ _ _ _, ⟨[], rfl, ⟨rfl, by simp, fun hp => absurd hp (by simp)⟩, fun j x cc hx => by simp at hx⟩, World.grownBy.refl W _⟩
      simp [Builtin.append_, run_underlying ht, sizeOf, typeInfo, hi, Builtin.lenOf, Builtin.firstCells]
    · injection hv with hA _ hc
      subst hA hc
      obtain ⟨v1, w1, hr1, h2, hg, hat, hcell⟩ := run_self (P := P) W base t o.type e i0 z d.sz bytes ht hi hz0 hz1 hz2 hz hs0 g xs.length c inner hown hone (by simp only [maxLen]; omega) hl hbase
      have hat' : v1.ownBlock = (Value.slice (some ⟨g, 0, none⟩) xs.length c).ownBlock ∨ ∃ b, v1.ownBlock = some b ∧ W.heap.size ≤ b := by
        rcases hat with hat | hat
        · exact .inl hat
        · exact .inr ⟨_, hat, Nat.le_refl _⟩
      have hC : (Kd.raw d.sz).C w1 (some ⟨g, 0, none⟩) xs.length rows := by
        refine ⟨hlr, by omega, fun _ => ⟨⟨g, 0, none⟩, rfl, fun j p hj => ⟨p, (hr.2 j p hj).2.1 ▸ ?_, ?_, fun q u hu => ?_⟩⟩⟩
        · exact congrArg List.length (hr.2 j p hj).1 ▸ rfl
        · have := hr.2 j p hj
          exact ⟨rfl, this.1 ▸ this.2⟩
        · have hp := (hr.2 j p hj).1
          rw [← hp] at hu
          change ((inner.drop (j * d.sz)).take d.sz)[q]? = some u at hu
          rw [List.getElem?_take] at hu
          split at hu
          · rw [List.getElem?_drop] at hu
            exact hcell _ u hu
          · cases hu
      obtain ⟨b1, b2⟩ := build v1 w1 h2 hg hat' hC
      exact ⟨v1, w1, hr1, b1, b2, hg⟩
  obtain ⟨v1, w1, hr1, b1, b2, hg⟩ := hrun
  refine wpList_plain hgd fun K hK => ?_
  unfold Oper.wp execOp
  simp only [ho, resolve, invoke, builtin, Sem.run_bind, Sem.run_pure, Result.andThen_ok, List.map_toArray, List.map_cons, List.map_nil, hs, hx, hr1]
  exact hK _ _ (h v1 w1 b1 b2 (HB.grown hg hbase (fun k hk => Kd.N_base (Kd.R_N (d := Kd.raw d.sz) (ok := fun _ => True) ⟨fun _ _ => trivial, inner, by rw [hlr]; exact hown, hr.imp_ fun _ _ hq => hq⟩) k hk)) hg)
end
theorem progs_step {w0 w W w1 : World} {g : Nat} {s : List Int} {q : Int} {row : Option Nat} (hI : IsS44 w0 W g s q) (hB : Below w0.heap.size w0 W) (hK : KeepBut w W g none) (hg : g < w.heap.size) (hr : ∀ k, row = some k → w.heap.size ≤ k)
    (hb : Below w.heap.size W w1) (hw : W.grownBy w1 row) : IsS44 w0 w1 g s q ∧ Below w0.heap.size w0 w1 ∧ KeepBut w w1 g none := by
  have h0 : w0.heap.size ≤ w.heap.size := by
    obtain ⟨_, _, _, h, _⟩ := hI
    omega
  refine ⟨IsS44.grown hI hw (fun e => by have := hr g e.symm; omega), below_weaken hB h0 hb, hK.trans (KeepBut.of_grown hw g) ?_⟩
  cases row with
  | none => exact .inl rfl
  | some b => exact .inr ⟨b, rfl, hr b rfl⟩
def spec_l2Progs.f (k : Nat) (s0_0 : List Int) (s0_1 : Int) : Option (List (List S48) × Int) :=
  (spec_l2Prog.f k s0_0 s0_1).bind fun a => (spec_l11Rd_pick.f k s0_0 a.2 30).bind fun b =>
    if b.1 = 0 then (if a.1.length ≤ 1000 then some (a.1 ++ a.1 ++ a.1, b.2) else none)
    else if b.1 = 1 then some ([], b.2)
    else if b.1 = 2 then (if 0 < a.1.length then (spec_l2Bent.f k s0_0 b.2 (a.1.getD 0 [])).bind fun c => (spec_l2Bent.f k s0_0 c.2 c.1).bind fun d => (spec_l2Bent.f k s0_0 d.2 d.1).bind fun e => (spec_l2Bent.f k s0_0 e.2 e.1).bind fun f => some (a.1.set 0 f.1, f.2) else none)
    else some (a.1, b.2)
theorem V_of_FK {α : Type} {d : Kd α} {e : Nat} {W : World} {base : Nat} {ok : Nat → Prop} {x : List α} {c : List Value} (h : Kd.FK (Kd.slice e d) W ok x c) : ∃ A cc, c = [.slice A x.length cc] ∧ Kd.V d e W base ok (.slice A x.length cc) x := by
  obtain ⟨A, cc, hc, hl, _⟩ := Kd.FK_now h
  refine ⟨A, cc, hc, A, cc, rfl, hl, fun W' hW => ?_⟩
  obtain ⟨A', c', hc', _, hC⟩ := h W' hW
  rw [hc] at hc'
  injection hc' with hc' _
  injection hc' with hA _ _
  rw [hA]
  exact hC
theorem FK_of_V {α : Type} {d : Kd α} {e : Nat} {W : World} {base : Nat} {ok : Nat → Prop} {x : List α} {v : Value} (h : Kd.V d e W base ok v x) : Kd.FK (Kd.slice e d) W ok x [v] := by
  obtain ⟨A, cc, rfl, hl, hF⟩ := h
  exact fun W' hW => ⟨A, cc, rfl, hl, hF W' hW⟩
theorem bent_step {w W W1 : World} {g gp : Nat} {v : Value} {x : List S48} (hK : KeepBut w W g none) (hp : w.heap.size ≤ gp ∧ gp < W.heap.size) (hg : g < w.heap.size) (h : Kd.N k48 48 W1 W.heap.size (fun k_ => (w.heap.size ≤ k_ ∧ k_ ≠ gp) ∨ W.heap.size ≤ k_) v x) :
    Kd.V k48 48 W1 W1.heap.size (fun k_ => (w.heap.size ≤ k_ ∧ k_ ≠ gp) ∧ k_ ≠ g) v x :=
  Kd.V_mono (Kd.N_V h) (fun k hk => by
    have := hK.1
    rcases hk with hk | hk
    · exact ⟨hk, by omega⟩
    · exact ⟨⟨by omega, by omega⟩, by omega⟩)
set_option maxHeartbeats 4000000 in
set_option maxRecDepth 100000 in
theorem spec_l2Progs.calls (k : Nat) (g : Nat) (s0_0 : List Int) (s0_1 : Int) (r1 : List (List S48)) (r2 : Int) (w0 w : World) (hI : IsS44 w0 w g s0_0 s0_1) (hB : Below w0.heap.size w0 w) (h : spec_l2Progs.f k s0_0 s0_1 = some (r1, r2)) :
    Calls Try.prog 13 #[.pointer (some ⟨g, 0, none⟩)] w fun e w' => ∃ v0_ : Value, e = .returned v0_ ∧ Kd.N (Kd.slice 48 k48) 23 w' w.heap.size (fun k_ => w.heap.size ≤ k_) v0_ r1 ∧ IsS44 w0 w' g s0_0 r2 ∧ Below w0.heap.size w0 w' ∧ KeepBut w w' g none := by
  unfold spec_l2Progs.f at h
  have hg : g < w.heap.size := IsS44.lt hI
  obtain ⟨⟨p, s1⟩, hp, h0_⟩ := Option.bind_eq_some_iff.1 h
  clear h
  obtain ⟨⟨n, s2⟩, hn, h⟩ := Option.bind_eq_some_iff.1 h0_
  clear h0_
  have HI := Aside0.mk hI
  have HB := Aside0.mk hB
  have HK := Aside0.mk (KeepBut.refl w g none)
  have HG := Aside0.mk hg
  have HC1 := Aside0.mk (spec_l2Prog.calls k g s0_0 s0_1 p s1 w0 w hI hB hp)
  have HC2 := Aside0.mk (fun W hI hB => spec_l11Rd_pick.calls k g s0_0 s1 30 n s2 w0 W hI hB hn)
  clear hI hB hp hn hg
  by_cases n0 : n = 0
  · rw [if_pos n0] at h
    have c0 : (n == 0) = true := beq_iff_eq.mpr n0
    clear n0
    by_cases hl : p.length ≤ 1000
    · rw [if_pos hl] at h
      obtain ⟨rfl, rfl⟩ := Prod.mk.inj (Option.some.inj h)
      have HL := Aside0.mk hl
      clear h hl
      go_enter Try.func13, Try.ntmps13
      go_wp2_with (first
        | (go_at_call 23; refine HC1.out.mono ?_; rintro e w4 ⟨v, rfl, ho, hi, hb, hk⟩; obtain ⟨A, c, rfl⟩ := Kd.N_slice ho; have HO := Aside0.mk ho; clear HI HB HK HC1; have HI := Aside0.mk hi; have HB := Aside0.mk hb; have HK := Aside0.mk hk; clear ho hi hb hk)
        | (go_at_call 24; refine (HC2.out _ HI.out HB.out).mono ?_; rintro e w5 ⟨rfl, hi, hb, hk⟩; have n1 := Aside0.mk (Kd.N_keep HO.out hk (fun q hq => by have := HG.out; omega)); have n2 := Aside0.mk (KeepBut.trans HK.out hk (.inl rfl)); clear HI HB HK HO HC2; have HI := Aside0.mk hi; have HB := Aside0.mk hb; have HO := n1; have HK := n2; clear hi hb hk n1 n2)
        | ((with_reducible refine gate_builtin (b := .append) (xs := #[.tmp 10, .tmp 11]) rfl ?_); at_builtin; refine N_self (Kd.slice 48 k48) w.heap.size rfl (.tmp 10) (.tmp 11) 25 23 (.slice none 0 0) 24 rfl Try.underlying25 info23 rfl (by decide) (by omega) p A c (fun k_ => w.heap.size ≤ k_) rfl rfl HO.out (fun k_ hk_ => Nat.le_trans HK.out.1 hk_) (Below.refl _ _) HK.out.1 (by have := HL.out; omega) ?_; intro v1 w6 h1 h2 h3 h4; have n1 := Aside0.mk h1; have n2 := Aside0.mk h2; obtain ⟨m1, m2, m3⟩ := progs_step HI.out HB.out HK.out HG.out (Kd.N_base HO.out) h3 h4; clear HI HB HK HO h1 h2 h3 h4; have HO := n1; have HA := n2; have HI := Aside0.mk m1; have HB := Aside0.mk m2; have HK := Aside0.mk m3; clear n1 n2 m1 m2 m3)
        | ((with_reducible refine gate_builtin (b := .append) (xs := #[.tmp 12, .tmp 13]) rfl ?_); at_builtin; refine N_again (Kd.slice 48 k48) w.heap.size rfl (.tmp 12) (.tmp 13) 25 23 (.slice none 0 0) 24 rfl Try.underlying25 info23 rfl (by decide) (by omega) v1 (p ++ p) p A p.length c (fun k_ => w.heap.size ≤ k_) rfl rfl HO.out HA.out (fun k_ hk_ => Nat.le_trans HK.out.1 hk_) (Below.refl _ _) HK.out.1 (by have := HL.out; rw [List.length_append]; omega) ?_; intro v2 w7 h1 h3 h4; have n1 := Aside0.mk h1; obtain ⟨m1, m2, m3⟩ := progs_step HI.out HB.out HK.out HG.out (Kd.N_base HO.out) h3 h4; clear HI HB HK HO HA h1 h3 h4; have HO := n1; have HI := Aside0.mk m1; have HB := Aside0.mk m2; have HK := Aside0.mk m3; clear n1 m1 m2 m3))
      go_ret
      exact ⟨_, rfl, HO.out, HI.out, HB.out, HK.out⟩
    · rw [if_neg hl] at h
      cases h
  · rw [if_neg n0] at h
    have c0 : (n == 0) = false := beq_eq_false_iff_ne.mpr n0
    clear n0
    by_cases n1 : n = 1
    · rw [if_pos n1] at h
      have c1 : (n == 1) = true := beq_iff_eq.mpr n1
      clear n1
      obtain ⟨rfl, rfl⟩ := Prod.mk.inj (Option.some.inj h)
      clear h
      go_enter Try.func13, Try.ntmps13
      go_wp2_with (first
        | (go_at_call 23; refine HC1.out.mono ?_; rintro e w4 ⟨v, rfl, ho, hi, hb, hk⟩; obtain ⟨A, c, rfl⟩ := Kd.N_slice ho; have HO := Aside0.mk ho; clear HI HB HK HC1; have HI := Aside0.mk hi; have HB := Aside0.mk hb; have HK := Aside0.mk hk; clear ho hi hb hk)
        | (go_at_call 24; refine (HC2.out _ HI.out HB.out).mono ?_; rintro e w5 ⟨rfl, hi, hb, hk⟩; have n1 := Aside0.mk (Kd.N_keep HO.out hk (fun q hq => by have := HG.out; omega)); have n2 := Aside0.mk (KeepBut.trans HK.out hk (.inl rfl)); clear HI HB HK HO HC2; have HI := Aside0.mk hi; have HB := Aside0.mk hb; have HO := n1; have HK := n2; clear hi hb hk n1 n2)
        | ((with_reducible refine gate_dst (N := 17) rfl ?_); refine Kd.N_lit (Kd.slice 48 k48) w.heap.size 23 ?hg (N' := 17) ?hd (xs := ([] : List (List S48))) (inner := []) (ok := fun k_ => w.heap.size ≤ k_) (okp := fun k_ => w.heap.size ≤ k_) ?hr ?hp (fun _ hk => hk) HK.out.1 (Below.refl _ _) HK.out.1 (by simp) ?_; (case hd => rfl); (case hg => rfl); (case hr => first | (go_simp; done) | (go_simp; rfl)); (case hp => exact (Reps.none _ _)); intro v1 w6 h1 h3 h4 _; have n1 := Aside0.mk h1; obtain ⟨m1, m2, m3⟩ := progs_step HI.out HB.out HK.out HG.out (row := none) (fun k hk => by cases hk) h3 h4; clear HI HB HK HO h1 h3 h4; have HO := n1; have HI := Aside0.mk m1; have HB := Aside0.mk m2; have HK := Aside0.mk m3; clear n1 m1 m2 m3))
      go_ret
      exact ⟨_, rfl, HO.out, HI.out, HB.out, HK.out⟩
    · rw [if_neg n1] at h
      have c1 : (n == 1) = false := beq_eq_false_iff_ne.mpr n1
      clear n1
      by_cases n2 : n = 2
      · rw [if_pos n2] at h
        have c2 : (n == 2) = true := beq_iff_eq.mpr n2
        clear n2
        by_cases hl : 0 < p.length
        · rw [if_pos hl] at h
          have hz1 : decide ((0 : Int) < (p.length : Int)) = true := decide_eq_true (by omega)
          have HL := Aside0.mk hl
          obtain ⟨⟨b1, t1⟩, e1, h0_⟩ := Option.bind_eq_some_iff.1 h
          clear h
          obtain ⟨⟨b2, t2⟩, e2, h⟩ := Option.bind_eq_some_iff.1 h0_
          clear h0_
          obtain ⟨⟨b3, t3⟩, e3, h0_⟩ := Option.bind_eq_some_iff.1 h
          clear h
          obtain ⟨⟨b4, t4⟩, e4, h⟩ := Option.bind_eq_some_iff.1 h0_
          clear h0_
          obtain ⟨rfl, rfl⟩ := Prod.mk.inj (Option.some.inj h)
          clear h
          obtain ⟨q0, hq0⟩ : ∃ q, q = p.getD 0 [] := ⟨_, rfl⟩
          rw [← hq0] at e1
          have HQ := Aside0.mk hq0
          clear hq0
          have D1 := Aside0.mk (fun P A c W hI hB hV => spec_l2Bent.calls k g s0_0 s2 P A c q0 b1 t1 w0 W hI hB hV e1)
          have D2 := Aside0.mk (fun P A c W hI hB hV => spec_l2Bent.calls k g s0_0 t1 P A c b1 b2 t2 w0 W hI hB hV e2)
          have D3 := Aside0.mk (fun P A c W hI hB hV => spec_l2Bent.calls k g s0_0 t2 P A c b2 b3 t3 w0 W hI hB hV e3)
          have D4 := Aside0.mk (fun P A c W hI hB hV => spec_l2Bent.calls k g s0_0 t3 P A c b3 b4 t4 w0 W hI hB hV e4)
          clear e1 e2 e3 e4
          go_enter Try.func13, Try.ntmps13
          go_wp2_with (first
          | (go_at_call 23; refine HC1.out.mono ?_; rintro e w4 ⟨v, rfl, ho, hi, hb, hk⟩; obtain ⟨A, c, rfl⟩ := Kd.N_slice ho; have HO := Aside0.mk ho; clear HI HB HK HC1; have HI := Aside0.mk hi; have HB := Aside0.mk hb; have HK := Aside0.mk hk; clear ho hi hb hk)
          | (go_at_call 24; refine (HC2.out _ HI.out HB.out).mono ?_; rintro e w5 ⟨rfl, hi, hb, hk⟩; have n1 := Aside0.mk (Kd.N_keep HO.out hk (fun q hq => by have := HG.out; omega)); have n2 := Aside0.mk (KeepBut.trans HK.out hk (.inl rfl)); clear HI HB HK HO HC2; have HI := Aside0.mk hi; have HB := Aside0.mk hb; have HO := n1; have HK := n2; clear hi hb hk n1 n2; obtain ⟨gp, cap, hv, b0, b1, _⟩ := Kd.N_form HO.out HL.out; cases hv; obtain ⟨cc, l0, l1, l2, l3⟩ := Kd.N_elem HO.out [] 0 (by omega) (by have := HL.out; omega); have HP := Aside0.mk (And.intro b0 b1); clear b0 b1; obtain ⟨A0, c0_, rfl, hV⟩ := V_of_FK (e := 48) (base := w5.heap.size) l1; have HV := Aside0.mk (Eq.mpr (congrArg (fun q => Kd.V k48 48 w5 w5.heap.size (fun k_ => (w.heap.size ≤ k_ ∧ k_ ≠ gp) ∧ k_ ≠ g) (.slice A0 q.length c0_) q) HQ.out) (Kd.V_mono hV (fun q hq => ⟨hq, by have := HG.out; have := hq.1; omega⟩))); have l5 : w5.cell? ⟨gp, 0, none⟩ = some (.slice A0 q0.length c0_) := Eq.mpr (congrArg (fun q => w5.cell? ⟨gp, 0, none⟩ = some (.slice A0 (q : List S48).length c0_)) HQ.out) (l2 0 _ rfl); clear l0 l1 l2 l3 hV)
          | (go_at_call 21; (with_reducible refine (D1.out (fun k_ => w.heap.size ≤ k_ ∧ k_ ≠ gp) _ _ _ HI.out HB.out HV.out).mono ?_); rintro e x1 ⟨v1, rfl, ho, hi, hb, hk⟩; obtain ⟨A1, cb1, rfl⟩ := Kd.N_slice ho; have n1 := Aside0.mk (Kd.N_keep HO.out hk (fun q hq => by have := HG.out; omega)); have n2 := Aside0.mk (KeepBut.trans HK.out hk (.inl rfl)); have n3 := Aside0.mk (bent_step HK.out HP.out HG.out ho); have n4 := Aside0.mk (And.intro HP.out.1 (Nat.lt_of_lt_of_le HP.out.2 hk.1)); clear HI HB HK HO HV HP D1; have HI := Aside0.mk hi; have HB := Aside0.mk hb; have HO := n1; have HK := n2; have HV := n3; have HP := n4; clear hi hb hk ho n1 n2 n3 n4; clear l5)
          | (go_at_call 21; (with_reducible refine (D2.out (fun k_ => w.heap.size ≤ k_ ∧ k_ ≠ gp) _ _ _ HI.out HB.out HV.out).mono ?_); rintro e x2 ⟨v2, rfl, ho, hi, hb, hk⟩; obtain ⟨A2, cb2, rfl⟩ := Kd.N_slice ho; have n1 := Aside0.mk (Kd.N_keep HO.out hk (fun q hq => by have := HG.out; omega)); have n2 := Aside0.mk (KeepBut.trans HK.out hk (.inl rfl)); have n3 := Aside0.mk (bent_step HK.out HP.out HG.out ho); have n4 := Aside0.mk (And.intro HP.out.1 (Nat.lt_of_lt_of_le HP.out.2 hk.1)); clear HI HB HK HO HV HP D2; have HI := Aside0.mk hi; have HB := Aside0.mk hb; have HO := n1; have HK := n2; have HV := n3; have HP := n4; clear hi hb hk ho n1 n2 n3 n4)
          | (go_at_call 21; (with_reducible refine (D3.out (fun k_ => w.heap.size ≤ k_ ∧ k_ ≠ gp) _ _ _ HI.out HB.out HV.out).mono ?_); rintro e x3 ⟨v3, rfl, ho, hi, hb, hk⟩; obtain ⟨A3, cb3, rfl⟩ := Kd.N_slice ho; have n1 := Aside0.mk (Kd.N_keep HO.out hk (fun q hq => by have := HG.out; omega)); have n2 := Aside0.mk (KeepBut.trans HK.out hk (.inl rfl)); have n3 := Aside0.mk (bent_step HK.out HP.out HG.out ho); have n4 := Aside0.mk (And.intro HP.out.1 (Nat.lt_of_lt_of_le HP.out.2 hk.1)); clear HI HB HK HO HV HP D3; have HI := Aside0.mk hi; have HB := Aside0.mk hb; have HO := n1; have HK := n2; have HV := n3; have HP := n4; clear hi hb hk ho n1 n2 n3 n4)
          | (go_at_call 21; (with_reducible refine (D4.out (fun k_ => w.heap.size ≤ k_ ∧ k_ ≠ gp) _ _ _ HI.out HB.out HV.out).mono ?_); rintro e x4 ⟨v4, rfl, ho, hi, hb, hk⟩; obtain ⟨A4, cb4, rfl⟩ := Kd.N_slice ho; have n1 := Aside0.mk (Kd.N_keep HO.out hk (fun q hq => by have := HG.out; omega)); have n2 := Aside0.mk (KeepBut.trans HK.out hk (.inl rfl)); have n3 := Aside0.mk (bent_step HK.out HP.out HG.out ho); have n4 := Aside0.mk (And.intro HP.out.1 (Nat.lt_of_lt_of_le HP.out.2 hk.1)); clear HI HB HK HO HV HP D4; have HI := Aside0.mk hi; have HB := Aside0.mk hb; have HO := n1; have HK := n2; have HV := n3; have HP := n4; clear hi hb hk ho n1 n2 n3 n4)
          | ((with_reducible refine gate_ (.store 23 (.tmp 32) (.tmp 31)) rfl ?_); obtain ⟨cc, l0, l1, l2, l3⟩ := Kd.N_elem HO.out [] 0 (by omega) (by have := HL.out; omega); refine Kd.N_store (Kd.slice 48 k48) w.heap.size rfl rfl 23 (.tmp 32) (.tmp 31) rfl 23 0 0 p b4 (.slice A4 b4.length cb4) [.slice A4 b4.length cb4] cc (fun k_ => w.heap.size ≤ k_) (fun k_ => (w.heap.size ≤ k_ ∧ k_ ≠ gp) ∧ k_ ≠ g) rfl rfl rfl rfl (by kernel_rfl) (by intro u hu; rw [List.mem_singleton.1 hu]; rfl) HO.out (by omega) (by have := HL.out; omega) l0 l2 (by simp [l0]; exact Nat.le_refl _) ?hM (fun k_ hk_ => hk_.1) (Below.refl _ _) ?_; (case hM => have l6 : cc.drop 1 = [] := List.drop_of_length_le (by rw [l0]; exact Nat.le_refl _); show Kd.FK _ _ _ _ (([] : List Value) ++ [_] ++ cc.drop 1); rw [l6]; exact FK_of_V HV.out); intro w8 h1 h3 h4; have n1 := Aside0.mk h1; obtain ⟨m1, m2, m3⟩ := progs_step HI.out HB.out HK.out HG.out (row := some gp) (fun k hk => by injection hk with hk; have := HP.out.1; omega) h3 h4; clear HI HB HK HO HV HP l0 l1 l2 l3 h1 h3 h4; have HO := n1; have HI := Aside0.mk m1; have HB := Aside0.mk m2; have HK := Aside0.mk m3; clear n1 m1 m2 m3))
          go_ret
          exact ⟨_, rfl, HO.out, HI.out, HB.out, HK.out⟩
        · rw [if_neg hl] at h
          cases h
      · rw [if_neg n2] at h
        have c2 : (n == 2) = false := beq_eq_false_iff_ne.mpr n2
        clear n2
        obtain ⟨rfl, rfl⟩ := Prod.mk.inj (Option.some.inj h)
        clear h
        go_enter Try.func13, Try.ntmps13
        go_wp2_with (first
        | (go_at_call 23; refine HC1.out.mono ?_; rintro e w4 ⟨v, rfl, ho, hi, hb, hk⟩; obtain ⟨A, c, rfl⟩ := Kd.N_slice ho; have HO := Aside0.mk ho; clear HI HB HK HC1; have HI := Aside0.mk hi; have HB := Aside0.mk hb; have HK := Aside0.mk hk; clear ho hi hb hk)
        | (go_at_call 24; refine (HC2.out _ HI.out HB.out).mono ?_; rintro e w5 ⟨rfl, hi, hb, hk⟩; have n1 := Aside0.mk (Kd.N_keep HO.out hk (fun q hq => by have := HG.out; omega)); have n2 := Aside0.mk (KeepBut.trans HK.out hk (.inl rfl)); clear HI HB HK HO HC2; have HI := Aside0.mk hi; have HB := Aside0.mk hb; have HO := n1; have HK := n2; clear hi hb hk n1 n2))
        go_ret
        exact ⟨_, rfl, HO.out, HI.out, HB.out, HK.out⟩
end Go.Proofs.Ytjplhicpfeplgaa.P

namespace Go.Proofs.Ytjplhicpfeplgaa.P
open Go.RowKit Go.Proofs.YtjplhicpfeplgaaW.PrintWords Go.Proofs.YtjplhicpfeplgaaW.PrintLast Go.Proofs.YtjplhicpfeplgaaW.PrintMore
attribute [local go_sem] max2_int min2_int max_two min_two max_three min_three max_four min_four
set_option linter.unusedVariables false
set_option linter.unusedSimpArgs false
def spec_DrawProgOk.f (k : Nat) (l0 : List Int) : Option ((List (List (S48)))) := (spec_l11Open.f l0).bind fun bt289 => ((spec_l2Progs.f k bt289.1 bt289.2).bind fun bt292 => (some bt292.1))
set_option maxHeartbeats 8000000 in
set_option maxRecDepth 100000 in
theorem spec_DrawProgOk.calls (k : Nat) (A0 : Option Addr) (c0 : Nat) (l0 : List Int) (r : List (List (S48))) (w : World) (hr0 : Kd.C (Kd.int .u8) w A0 l0.length l0) (hc0 : l0.length ≤ c0) (h : spec_DrawProgOk.f k l0 = some r) :
    Calls Try.prog 5 #[.slice A0 l0.length c0] w fun e w' => ∃ v0_ : Value, e = .returned (v0_) ∧ Kd.N (Kd.slice 48 k48) 23 w' w.heap.size (fun k_ => (w.heap.size ≤ k_)) v0_ r ∧ Below w.heap.size w w' := by
  have HR0 := Aside0.mk hr0; have HC0 := Aside0.mk hc0; clear hr0 hc0; have HB := Aside0.mk (Below.refl w.heap.size w); have H : ((spec_l11Open.f l0).bind fun bt289 => ((spec_l2Progs.f k bt289.1 bt289.2).bind fun bt292 => (some bt292.1))) = some r := h; clear h; replace H := Option.bind_eq_some_iff.mp H; obtain ⟨⟨t289, t290⟩, A20, H⟩ := H; replace H : ((spec_l2Progs.f k t289 t290).bind fun bt292 => (some bt292.1)) = some r := H; have A2 := Aside0.mk A20; clear A20; replace H := Option.bind_eq_some_iff.mp H; obtain ⟨⟨t292, t295⟩, A30, H⟩ := H; replace H : (some t292) = some r := H; have A3 := Aside0.mk A30; clear A30; obtain rfl := Option.some.inj H; go_enter Try.func5, Try.ntmps5
  go_wp2_with (first | ((with_reducible refine gate_callee (f := 14) rfl ?_); refine goesM_ (some 4) Try.func14 #[.slice A0 l0.length c0] ?_; (with_reducible refine (spec_l11Open.calls _ _ l0 t289 t290 w _ ?side1 ?side2 ?side3 A2.out).mono ?_); (case side1 => exact q0_ HB); (case side2 => exact HR0.out); (case side3 => exact HC0.out); rintro e w4 ⟨g291, rfl, hi, hb, hb2⟩; refine ⟨_, rfl, ?_⟩; have n0_ := Aside0.mk (hb); have n1_ := Aside0.mk (hi); clear HB; have HB := n0_; have HI291 := n1_; clear n0_ n1_; (try clear hb); (try clear hb2); (try clear hk); (try clear hi)) | ((with_reducible refine gate_callee (f := 13) rfl ?_); refine goesM_ (some 5) Try.func13 #[.pointer (some ⟨g291, 0, none⟩)] ?_; (with_reducible refine (spec_l2Progs.calls k g291 t289 t290 t292 t295 w _ ?side1 ?side2 A3.out).mono ?_); (case side1 => exact q1_ HI291); (case side2 => exact q2_ HB HI291); rintro e w5 ⟨v293, rfl, ho0, hi, hb, hk⟩; refine ⟨_, rfl, ?_⟩; have n0_ := Aside0.mk (Kd.N_lower (Kd.N_mono (ok' := fun k_ => (w.heap.size ≤ k_) ∧ k_ ≠ g291) ho0 (fun k_ hk_ => ⟨(Nat.le_trans (below_size (q2_ HB HI291)) hk_), (IsS44.fresh (q1_ HI291) k_ hk_)⟩)) (below_size (q2_ HB HI291))); have n1_ := Aside0.mk (hb); have n2_ := Aside0.mk (hi); clear HB; clear HI291; have HO294 := n0_; have HB := n1_; have HI291 := n2_; clear n0_ n1_ n2_; (try clear hb); (try clear hb2); (try clear hk); (try clear hi); (try clear ho0)))
  go_ret
  exact ⟨_, by first | rfl | (simp [errW_none, errW_some] <;> rfl) | (simp [*, errW_none, errW_some] <;> rfl), by (with_reducible repeat (first | apply Kd.N_alloc | apply Kd.N_drewN | apply Kd.N_drew)); exact Kd.N_mono HO294.out (fun _ hk => hk.1), by repeat (first | (with_reducible first | exact HB.out | apply below_alloc | apply pw_below_drewN | apply below_drew1 | refine below_set ?_ (IsS44.ge HI291.out)) | exact HB.out)⟩
def spec_DrawStmtsOk.f (k : Nat) (l0 : List Int) : Option ((List (S48))) := (spec_l11Open.f l0).bind fun bt271 => ((spec_l2Some.f k bt271.1 bt271.2).bind fun bt274 => ((spec_l2Bent.f k bt271.1 bt274.2 bt274.1).bind fun bt278 => ((spec_l2Bent.f k bt271.1 bt278.2 bt278.1).bind fun bt282 => (some bt282.1))))
set_option maxHeartbeats 8000000 in
set_option maxRecDepth 100000 in
theorem spec_DrawStmtsOk.calls (k : Nat) (A0 : Option Addr) (c0 : Nat) (l0 : List Int) (r : List (S48)) (w : World) (hr0 : Kd.C (Kd.int .u8) w A0 l0.length l0) (hc0 : l0.length ≤ c0) (h : spec_DrawStmtsOk.f k l0 = some r) :
    Calls Try.prog 12 #[.slice A0 l0.length c0] w fun e w' => ∃ v0_ : Value, e = .returned (v0_) ∧ Kd.N k48 48 w' w.heap.size (fun k_ => (w.heap.size ≤ k_)) v0_ r ∧ Below w.heap.size w w' := by
  have HR0 := Aside0.mk hr0; have HC0 := Aside0.mk hc0; clear hr0 hc0; have HB := Aside0.mk (Below.refl w.heap.size w); have H : ((spec_l11Open.f l0).bind fun bt271 => ((spec_l2Some.f k bt271.1 bt271.2).bind fun bt274 => ((spec_l2Bent.f k bt271.1 bt274.2 bt274.1).bind fun bt278 => ((spec_l2Bent.f k bt271.1 bt278.2 bt278.1).bind fun bt282 => (some bt282.1))))) = some r := h; clear h; replace H := Option.bind_eq_some_iff.mp H; obtain ⟨⟨t271, t272⟩, A20, H⟩ := H; replace H : ((spec_l2Some.f k t271 t272).bind fun bt274 => ((spec_l2Bent.f k t271 bt274.2 bt274.1).bind fun bt278 => ((spec_l2Bent.f k t271 bt278.2 bt278.1).bind fun bt282 => (some bt282.1)))) = some r := H; have A2 := Aside0.mk A20; clear A20; replace H := Option.bind_eq_some_iff.mp H; obtain ⟨⟨t274, t277⟩, A30, H⟩ := H; replace H : ((spec_l2Bent.f k t271 t277 t274).bind fun bt278 => ((spec_l2Bent.f k t271 bt278.2 bt278.1).bind fun bt282 => (some bt282.1))) = some r := H; have A3 := Aside0.mk A30; clear A30; replace H := Option.bind_eq_some_iff.mp H; obtain ⟨⟨t278, t281⟩, A40, H⟩ := H; replace H : ((spec_l2Bent.f k t271 t281 t278).bind fun bt282 => (some bt282.1)) = some r := H; have A4 := Aside0.mk A40; clear A40; replace H := Option.bind_eq_some_iff.mp H; obtain ⟨⟨t282, t285⟩, A50, H⟩ := H; replace H : (some t282) = some r := H; have A5 := Aside0.mk A50; clear A50; obtain rfl := Option.some.inj H; go_enter Try.func12, Try.ntmps12
  go_wp2_with (first | ((with_reducible refine gate_callee (f := 14) rfl ?_); refine goesM_ (some 5) Try.func14 #[.slice A0 l0.length c0] ?_; (with_reducible refine (spec_l11Open.calls _ _ l0 t271 t272 w _ ?side1 ?side2 ?side3 A2.out).mono ?_); (case side1 => exact q0_ HB); (case side2 => exact HR0.out); (case side3 => exact HC0.out); rintro e w6 ⟨g273, rfl, hi, hb, hb2⟩; refine ⟨_, rfl, ?_⟩; have n0_ := Aside0.mk (hb); have n1_ := Aside0.mk (hi); clear HB; have HB := n0_; have HI273 := n1_; clear n0_ n1_; (try clear hb); (try clear hb2); (try clear hk); (try clear hi)) | ((with_reducible refine gate_callee (f := 22) rfl ?_); refine goesM_ (some 9) Try.func22 #[.pointer (some ⟨g273, 0, none⟩)] ?_; (with_reducible refine (spec_l2Some.calls k g273 t271 t272 t274 t277 w _ ?side1 ?side2 A3.out).mono ?_); (case side1 => exact q1_ HI273); (case side2 => exact q2_ HB HI273); rintro e w7 ⟨v275, rfl, ho0, hi, hb, hk⟩; refine ⟨_, rfl, ?_⟩; have n0_ := Aside0.mk (Kd.N_lower (Kd.N_mono (ok' := fun k_ => (w.heap.size ≤ k_) ∧ k_ ≠ g273) ho0 (fun k_ hk_ => ⟨(Nat.le_trans (below_size (q2_ HB HI273)) hk_), (IsS44.fresh (q1_ HI273) k_ hk_)⟩)) (below_size (q2_ HB HI273))); have n1_ := Aside0.mk (hb); have n2_ := Aside0.mk (hi); clear HB; clear HI273; have HO276 := n0_; have HB := n1_; have HI273 := n2_; clear n0_ n1_ n2_; (try clear hb); (try clear hb2); (try clear hk); (try clear hi); (try clear ho0); obtain ⟨Ao8, co8, eo8⟩ := Kd.N_slice HO276.out; subst eo8) | ((with_reducible refine gate_callee (f := 21) rfl ?_); refine goesM_ (some 10) Try.func21 #[.pointer (some ⟨g273, 0, none⟩), .slice Ao8 t274.length co8] ?_; (with_reducible refine (spec_l2Bent.calls k g273 t271 t277 (fun k_ => ((w.heap.size ≤ k_) ∧ k_ ≠ g273)) _ _ t274 t278 t281 w _ ?side1 ?side2 ?side3 A4.out).mono ?_); (case side1 => exact q1_ HI273); (case side2 => exact q2_ HB HI273); (case side3 => exact Kd.V_mono (Kd.N_V (HO276.out)) (fun k_ hk_ => ⟨hk_, hk_.2⟩)); rintro e w9 ⟨v279, rfl, ho0, hi, hb, hk⟩; refine ⟨_, rfl, ?_⟩; have n0_ := Aside0.mk (Kd.N_mono (Kd.N_told (Kd.N_oldK (Kd.N_mono (ok := fun k_ => (((w.heap.size ≤ k_)) ∧ k_ ≠ g273)) (q5_ HO276) (fun k_ hk_ => (⟨hk_, hk_.2⟩ : _ ∧ k_ ≠ g273))) hk) (Kd.N_base ho0)) (fun _ h_ => h_.1)); have n1_ := Aside0.mk (Kd.N_lower (Kd.N_mono (ok' := fun k_ => (w.heap.size ≤ k_) ∧ k_ ≠ g273) ho0 (fun k_ hk_ => ⟨Or.elim hk_ (fun hs_ => hs_.1) (fun hn_ => (Nat.le_trans (below_size (q2_ HB HI273)) hn_)), Or.elim hk_ (fun hs_ => hs_.2) (fun hn_ => (IsS44.fresh (q1_ HI273) k_ hn_))⟩)) (below_size (q2_ HB HI273))); have n2_ := Aside0.mk (hb); have n3_ := Aside0.mk (hi); clear HO276; clear HB; clear HI273; have HO276 := n0_; have HO280 := n1_; have HB := n2_; have HI273 := n3_; clear n0_ n1_ n2_ n3_; (try clear hb); (try clear hb2); (try clear hk); (try clear hi); (try clear ho0); obtain ⟨Ao10, co10, eo10⟩ := Kd.N_slice HO280.out; subst eo10) | ((with_reducible refine gate_callee (f := 21) rfl ?_); refine goesM_ (some 11) Try.func21 #[.pointer (some ⟨g273, 0, none⟩), .slice Ao10 t278.length co10] ?_; (with_reducible refine (spec_l2Bent.calls k g273 t271 t281 (fun k_ => ((w.heap.size ≤ k_) ∧ k_ ≠ g273)) _ _ t278 t282 t285 w _ ?side1 ?side2 ?side3 A5.out).mono ?_); (case side1 => exact q1_ HI273); (case side2 => exact q2_ HB HI273); (case side3 => exact Kd.V_mono (Kd.N_V (HO280.out)) (fun k_ hk_ => ⟨hk_, hk_.2⟩)); rintro e w11 ⟨v283, rfl, ho0, hi, hb, hk⟩; refine ⟨_, rfl, ?_⟩; have n0_ := Aside0.mk (Kd.N_mono (Kd.N_told (Kd.N_oldK (Kd.N_mono (ok := fun k_ => ((((w.heap.size ≤ k_)) ∧ k_ ≠ g273) ∧ some k_ ≠ (.slice Ao10 t278.length co10 : Value).ownBlock)) (q5_ HO276) (fun k_ hk_ => (⟨hk_, hk_.1.2⟩ : _ ∧ k_ ≠ g273))) hk) (Kd.N_base ho0)) (fun _ h_ => h_.1)); have n1_ := Aside0.mk (Kd.N_mono (Kd.N_told (Kd.N_oldK (Kd.N_mono (ok := fun k_ => (((w.heap.size ≤ k_)) ∧ k_ ≠ g273)) (q5_ HO280) (fun k_ hk_ => (⟨hk_, hk_.2⟩ : _ ∧ k_ ≠ g273))) hk) (Kd.N_base ho0)) (fun _ h_ => h_.1)); have n2_ := Aside0.mk (Kd.N_lower (Kd.N_mono (ok' := fun k_ => (w.heap.size ≤ k_) ∧ k_ ≠ g273) ho0 (fun k_ hk_ => ⟨Or.elim hk_ (fun hs_ => hs_.1) (fun hn_ => (Nat.le_trans (below_size (q2_ HB HI273)) hn_)), Or.elim hk_ (fun hs_ => hs_.2) (fun hn_ => (IsS44.fresh (q1_ HI273) k_ hn_))⟩)) (below_size (q2_ HB HI273))); have n3_ := Aside0.mk (hb); have n4_ := Aside0.mk (hi); clear HO276; clear HO280; clear HB; clear HI273; have HO276 := n0_; have HO280 := n1_; have HO284 := n2_; have HB := n3_; have HI273 := n4_; clear n0_ n1_ n2_ n3_ n4_; (try clear hb); (try clear hb2); (try clear hk); (try clear hi); (try clear ho0)))
  go_ret
  exact ⟨_, by first | rfl | (simp [errW_none, errW_some] <;> rfl) | (simp [*, errW_none, errW_some] <;> rfl), by (with_reducible repeat (first | apply Kd.N_alloc | apply Kd.N_drewN | apply Kd.N_drew)); exact Kd.N_mono HO284.out (fun _ hk => hk.1), by repeat (first | (with_reducible first | exact HB.out | apply below_alloc | apply pw_below_drewN | apply below_drew1 | refine below_set ?_ (IsS44.ge HI273.out)) | exact HB.out)⟩
def spec_DrawStmtsMany.f (k : Nat) (l0 : List Int) : Option ((List (S48))) := (spec_DrawStmtsOk.f k l0).bind fun t286 => (some t286)
set_option maxHeartbeats 8000000 in
set_option maxRecDepth 100000 in
theorem spec_DrawStmtsMany.calls (k : Nat) (A0 : Option Addr) (c0 : Nat) (l0 : List Int) (r : List (S48)) (w : World) (hr0 : Kd.C (Kd.int .u8) w A0 l0.length l0) (hc0 : l0.length ≤ c0) (h : spec_DrawStmtsMany.f k l0 = some r) :
    Calls Try.prog 4 #[.slice A0 l0.length c0] w fun e w' => ∃ v0_ : Value, e = .returned (v0_) ∧ Kd.N k48 48 w' w.heap.size (fun k_ => (w.heap.size ≤ k_)) v0_ r ∧ Below w.heap.size w w' := by
  have HR0 := Aside0.mk hr0; have HC0 := Aside0.mk hc0; clear hr0 hc0; have HB := Aside0.mk (Below.refl w.heap.size w); have H : ((spec_DrawStmtsOk.f k l0).bind fun t286 => (some t286)) = some r := h; clear h; replace H := Option.bind_eq_some_iff.mp H; obtain ⟨t286, A20, H⟩ := H; replace H : (some t286) = some r := H; have A2 := Aside0.mk A20; clear A20; obtain rfl := Option.some.inj H; go_enter Try.func4, Try.ntmps4
  go_wp2_with (first | ((with_reducible refine gate_callee (f := 12) rfl ?_); refine goesM_ (some 4) Try.func12 #[.slice A0 l0.length c0] ?_; (with_reducible refine (spec_DrawStmtsOk.calls k _ _ l0 t286 _ ?side1 ?side2 A2.out).mono ?_); (case side1 => repeat (first | exact HR0.out | (with_reducible refine Kd.C_alloc ?_ _) | (with_reducible refine Kd.C_drewN ?_ _) | (with_reducible refine Kd.C_drew ?_))); (case side2 => exact HC0.out); rintro e w3 ⟨v287, rfl, ho0, hb⟩; refine ⟨_, rfl, ?_⟩; have n0_ := Aside0.mk (Kd.N_lower (Kd.N_mono (ok' := fun k_ => (w.heap.size ≤ k_)) ho0 (fun k_ hk_ => (Nat.le_trans (below_size (q0_ HB)) hk_))) (below_size (q0_ HB))); have n1_ := Aside0.mk (below_step (q0_ HB) hb); clear HB; have HO288 := n0_; have HB := n1_; clear n0_ n1_; (try clear hb); (try clear hb2); (try clear hk); (try clear hi); (try clear ho0)))
  go_ret
  exact ⟨_, by first | rfl | (simp [errW_none, errW_some] <;> rfl) | (simp [*, errW_none, errW_some] <;> rfl), by (with_reducible repeat (first | apply Kd.N_alloc | apply Kd.N_drewN | apply Kd.N_drew)); exact HO288.out, by repeat (first | (with_reducible first | exact HB.out | apply below_alloc | apply pw_below_drewN | apply below_drew1) | exact HB.out)⟩
end Go.Proofs.Ytjplhicpfeplgaa.P

namespace Go.Proofs.Ytjplhicpfeplgaa.P
open Go.RowKit
theorem drop_rd (l : List S48) {i : Nat} (h : i < l.length) : l.drop i = rd_T48 l (i : Int) :: l.drop (i + 1) := by
  rw [List.drop_eq_getElem_cons h]
  unfold rd_T48
  rw [Int.toNat_natCast, List.getD_eq_getElem?_getD, List.getElem?_eq_getElem h]
  rfl
end Go.Proofs.Ytjplhicpfeplgaa.P
