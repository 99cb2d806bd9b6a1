/- laws.markStmtS by its contract: it writes whole numbers into the tree's own blocks, and answers by the tree's shape alone; rows of the tree may share memory; no condition. -/
import Derived.Test.YtoekjehgnakffaaZFnExactCodeOf4
import Derived.Test.YtoekjehgnakffaaZFnExactCodeOf14
namespace Go.Proofs.Ytoekjehgnakffaa.P
open Go.RowKit Go.Proofs.YtoekjehgnakffaaW.PrintWords Go.Proofs.YtoekjehgnakffaaW.PrintLast Go.Proofs.YtoekjehgnakffaaW.PrintMore
attribute [local go_sem] max2_int min2_int max_two min_two max_three min_three max_four min_four
set_option linter.unusedVariables false
set_option linter.unusedSimpArgs false
def IntsC (c c' : Array Value) : Prop := (∀ q, q % 6 < 4 → (∃ n, c[q]? = some (.int .i64 n)) → ∃ n, c'[q]? = some (.int .i64 n)) ∧ (∀ q, 4 ≤ q % 6 → c'[q]? = c[q]?)
def Ints (P : Nat → Prop) (W W' : World) : Prop := Below 0 W W' ∧ (∀ b : Nat, b < W.heap.size → ¬ P b → W'.heap[b]? = W.heap[b]?) ∧
  ∀ (b : Nat) (c : Array Value), W.heap[b]? = some (Obj.cells c 41 (0, 0)) → ∃ c', W'.heap[b]? = some (Obj.cells c' 41 (0, 0)) ∧ IntsC c c'
theorem Ints.refl (P : Nat → Prop) (W : World) : Ints P W W := ⟨Below.refl _ _, fun _ _ _ => rfl, fun b c h => ⟨c, h, fun _ _ h => h, fun _ _ => rfl⟩⟩
theorem Ints.trans {P : Nat → Prop} {W W1 W2 : World} (h : Ints P W W1) (k : Ints P W1 W2) : Ints P W W2 :=
  ⟨h.1.trans k.1, fun b hb hp => (k.2.1 b (Nat.lt_of_lt_of_le hb h.1.size) hp).trans (h.2.1 b hb hp), fun b c hc => by
    obtain ⟨c1, h1, a1, b1⟩ := h.2.2 b c hc
    obtain ⟨c2, h2, a2, b2⟩ := k.2.2 b c1 h1
    exact ⟨c2, h2, fun q hq hn => a2 q hq (a1 q hq hn), fun q hq => (b2 q hq).trans (b1 q hq)⟩⟩
theorem Ints.mono {P P' : Nat → Prop} {W W1 : World} (h : Ints P W W1) (hp : ∀ k, P k → P' k) : Ints P' W W1 := ⟨h.1, fun b hb hn => h.2.1 b hb fun k => hn (hp b k), h.2.2⟩
def El (W : World) (g i : Nat) (v4 v5 : Value) : Prop := ∃ cells, W.heap[g]? = some (.cells cells 41 (0, 0)) ∧ (∀ j, j < 4 → ∃ n, cells[i * 6 + j]? = some (.int .i64 n)) ∧ cells[i * 6 + 4]? = some v4 ∧ cells[i * 6 + 5]? = some v5
theorem El.ints {P : Nat → Prop} {W W' : World} {g i : Nat} {v4 v5 : Value} (h : El W g i v4 v5) (k : Ints P W W') : El W' g i v4 v5 := by
  obtain ⟨c, hb, h0, h4, h5⟩ := h
  obtain ⟨c', hb', a, b⟩ := k.2.2 g c hb
  exact ⟨c', hb', fun j hj => a _ (by omega) (h0 j hj), (b _ (by omega)).trans h4, (b _ (by omega)).trans h5⟩
theorem El.set {P : Nat → Prop} {W : World} {g i : Nat} {v4 v5 : Value} (h : El W g i v4 v5) (hP : P g) {j : Nat} (hj : j < 4) (m : Int) : Ints P W (W.setCell ⟨g, i * 6 + j, none⟩ (.int .i64 m)) := by
  obtain ⟨c, hb, h0, _, _⟩ := h
  obtain ⟨n, hn⟩ := h0 j hj
  have hs : (W.setCell ⟨g, i * 6 + j, none⟩ (.int .i64 m)).heap[g]? = some (.cells (c.setIfInBounds (i * 6 + j) (.int .i64 m)) 41 (0, 0)) := blk_set hb _ _
  refine ⟨(Below.refl 0 W).setCell (p := ⟨g, i * 6 + j, none⟩) (Nat.zero_le _) _, fun b _ hp => Below.heap_setCell W ⟨g, i * 6 + j, none⟩ _ b (fun e => hp (by rw [e]; exact hP)), fun b c1 h1 => ?_⟩
  by_cases e : b = g
  · subst e
    rw [hb] at h1
    cases h1
    refine ⟨_, hs, fun q hq hx => ?_, fun q hq => ?_⟩
    · by_cases e : i * 6 + j = q
      · subst e
        exact ⟨m, by rw [Array.getElem?_setIfInBounds]; simp [(Array.getElem?_eq_some_iff.1 hn).1]⟩
      · rw [Array.getElem?_setIfInBounds_ne e]
        exact hx
    · rw [Array.getElem?_setIfInBounds_ne (by omega)]
  · exact ⟨c1, (Below.heap_setCell W ⟨g, i * 6 + j, none⟩ _ b e).trans h1, fun _ _ h => h, fun _ _ => rfl⟩
theorem cell_mk {W : World} {b q : Nat} {cs : Array Value} {t : TypeId} {v : Value} (h : W.heap[b]? = some (.cells cs t (0, 0))) (hv : cs[q]? = some v) : W.cell? ⟨b, q, none⟩ = some v ∧ W.frozen? ⟨b, q, none⟩ = false := by
  constructor
  · exact (blk_cell h q).trans hv
  · exact blk_frozen h q
theorem El.cell {W : World} {g i : Nat} {v4 v5 : Value} (h : El W g i v4 v5) {j : Nat} (hj : j < 4) : ∃ n, W.cell? ⟨g, i * 6 + j, none⟩ = some (.int .i64 n) ∧ W.frozen? ⟨g, i * 6 + j, none⟩ = false := by
  obtain ⟨c, hb, h0, _, _⟩ := h
  obtain ⟨n, hn⟩ := h0 j hj
  exact ⟨n, cell_mk hb hn⟩
theorem El.c4 {W : World} {g i : Nat} {v4 v5 : Value} (h : El W g i v4 v5) : W.cell? ⟨g, i * 6 + 4, none⟩ = some v4 := by
  obtain ⟨c, hb, _, h4, _⟩ := h
  exact (cell_mk hb h4).1
theorem El.c5 {W : World} {g i : Nat} {v4 v5 : Value} (h : El W g i v4 v5) : W.cell? ⟨g, i * 6 + 5, none⟩ = some v5 := by
  obtain ⟨c, hb, _, _, h5⟩ := h
  exact (cell_mk hb h5).1
def MkR : Nat → World → (Nat → Prop) → Value → List S41 → Prop
  | 0, _, _, _, _ => False
  | d + 1, W, P, v, xs => ∃ A cap, v = .slice A xs.length cap ∧ xs.length ≤ 9223372036854775807 ∧ ∀ i x, xs[i]? = some x → ∃ g v4 v5, A = some ⟨g, 0, none⟩ ∧ P g ∧ El W g i v4 v5 ∧ MkR d W P v4 x.f4 ∧ MkR d W P v5 x.f5
theorem MkR.ints {P Q : Nat → Prop} {W W' : World} (k : Ints Q W W') : ∀ (d : Nat) (v : Value) (xs : List S41), MkR d W P v xs → MkR d W' P v xs
  | 0, _, _, h => h.elim
  | d + 1, v, xs, h => by
    obtain ⟨A, cap, e, hl, h⟩ := h
    refine ⟨A, cap, e, hl, fun i x hx => ?_⟩
    obtain ⟨g, v4, v5, a, b, c, d4, d5⟩ := h i x hx
    exact ⟨g, v4, v5, a, b, c.ints k, MkR.ints k d _ _ d4, MkR.ints k d _ _ d5⟩
theorem MkR.mono {P P' : Nat → Prop} {W : World} (hp : ∀ k, P k → P' k) : ∀ (d : Nat) (v : Value) (xs : List S41), MkR d W P v xs → MkR d W P' v xs
  | 0, _, _, h => h.elim
  | d + 1, v, xs, h => by
    obtain ⟨A, cap, e, hl, h⟩ := h
    refine ⟨A, cap, e, hl, fun i x hx => ?_⟩
    obtain ⟨g, v4, v5, a, b, c, d4, d5⟩ := h i x hx
    exact ⟨g, v4, v5, a, hp g b, c, MkR.mono hp d _ _ d4, MkR.mono hp d _ _ d5⟩
theorem MkR.up {P : Nat → Prop} {W : World} : ∀ (d : Nat) (v : Value) (xs : List S41), MkR d W P v xs → MkR (d + 1) W P v xs
  | 0, _, _, h => h.elim
  | d + 1, v, xs, h => by
    obtain ⟨A, cap, e, hl, h⟩ := h
    refine ⟨A, cap, e, hl, fun i x hx => ?_⟩
    obtain ⟨g, v4, v5, a, b, c, d4, d5⟩ := h i x hx
    exact ⟨g, v4, v5, a, b, c, MkR.up d _ _ d4, MkR.up d _ _ d5⟩
theorem MkR.le {P : Nat → Prop} {W : World} {v : Value} {xs : List S41} {d d' : Nat} (h : MkR d W P v xs) (hd : d ≤ d') : MkR d' W P v xs := by
  induction hd with
  | refl => exact h
  | step _ ih => exact MkR.up _ _ _ ih
theorem MkR.slice {P : Nat → Prop} {W : World} {v : Value} {xs : List S41} : ∀ {d : Nat}, MkR d W P v xs → ∃ A cap, v = .slice A xs.length cap
  | 0, h => h.elim
  | d + 1, h => by
    obtain ⟨A, cap, e, _⟩ := h
    exact ⟨A, cap, e⟩
def mkL (F : List S41 → Int → Option Int) : List S41 → Int → Option Int
  | [], a => some a
  | x :: t, a => (F x.f4 (wrap64 (wrap64 (wrap64 (wrap64 (a + 1) + 1) + 1) + 1))).bind fun b => (F x.f5 b).bind fun c => mkL F t c
def mkF : Nat → List S41 → Int → Option Int
  | 0, _, _ => none
  | k + 1, xs, a => mkL (mkF k) xs a
def MSays (F : List S41 → Int → Option Int) : Prop := ∀ (d : Nat) (v : Value) (xs : List S41) (a r : Int) (P : Nat → Prop) (w : World), MkR d w P v xs → F xs a = some r →
  Calls Try.prog 10 #[v, .int .i64 a] w fun e w' => e = .returned (.int .i64 r) ∧ Ints P w w'
set_option maxHeartbeats 1000000 in
set_option maxRecDepth 100000 in
theorem mark_of (F : List S41 → Int → Option Int) (hF : MSays F) : MSays (mkL F) := by
  intro d v xs a r P w hR h
  cases d with
  | zero => exact hR.elim
  | succ d =>
  have hR' := hR
  obtain ⟨A, cap, rfl, hl, _⟩ := hR'
  have HF := Aside0.mk hF
  have HR := Aside0.mk hR
  have H := Aside0.mk h
  clear hF hR h
  go_enter Try.func10, Try.ntmps10
  go_wp2
  go_loopg [1, 5] xs.length (fun gg p1 p5 wr => ∃ (kk : Nat) (a1 : Int), kk ≤ xs.length ∧ xs.length - kk ≤ gg ∧ p1 = .int .i64 a1 ∧ p5 = .int .i64 kk ∧ Aside0 (mkL F (xs.drop kk) a1 = some r) ∧ Aside0 (Ints P w wr))
  case atStart => exact ⟨0, a, Nat.zero_le _, by omega, rfl, rfl, H, ⟨Ints.refl P w⟩⟩
  case round =>
    obtain ⟨kk, a1, hkk, hgk, rfl, rfl, HE, HI⟩ := hrel
    clear H
    by_cases hlt : kk < xs.length
    · have hltz : decide ((kk : Int) < (xs.length : Int)) = true := decide_eq_true (by omega)
      have p1 : 0 ≤ (kk : Int) := by omega
      have q1 : (kk : Int) < (xs.length : Int) := by omega
      obtain ⟨A_, cap_, e_, _, hel⟩ := MkR.ints HI.out (d + 1) _ _ HR.out
      injection e_ with eA _ eC
      subst eA
      subst eC
      obtain ⟨g, v4, v5, rfl, hP, hE, h4, h5⟩ := hel kk _ (List.getElem?_eq_getElem hlt)
      have ha := HE.out
      rw [List.drop_eq_getElem_cons hlt] at ha
      clear hel HE
      generalize xs[kk] = x at *
      obtain ⟨b, hb1, ha⟩ := Option.bind_eq_some_iff.1 ha
      obtain ⟨c, hb2, ha⟩ := Option.bind_eq_some_iff.1 ha
      obtain ⟨A4, c4, rfl⟩ := h4.slice
      obtain ⟨A5, c5, rfl⟩ := h5.slice
      have HN := Aside0.mk ha
      have HX4 := Aside0.mk (fun W' (q : Ints P wr W') => HF.out d _ _ _ _ P W' (MkR.ints q d _ _ h4) hb1)
      have HX5 := Aside0.mk (fun W' (q : Ints P wr W') => HF.out d _ _ _ _ P W' (MkR.ints q d _ _ h5) hb2)
      have HP := Aside0.mk hP
      have HL := Aside0.mk (show El wr g kk (.slice A4 x.f4.length c4) (.slice A5 x.f5.length c5) from hE)
      have HQ := Aside0.mk (Ints.refl P wr)
      clear ha hb1 hb2 h4 h5 hP hE
      obtain ⟨n0, x0, f0⟩ := HL.out.cell (j := 0) (by omega)
      rw [Nat.add_zero] at x0 f0
      replace p1 := eq_true p1
      replace q1 := eq_true q1
      go_wp2_with (first | ((with_reducible refine gate_store (t := 3) (p := 16) rfl ?_); refine store_event (t := 3) (p := 16) (v := ?vo0_) (w1 := (wr.setCell ⟨g, kk * 6, none⟩ (.int .i64 a1))) ?hg ?ho ?hn ?hr ?_; (case ho => rfl); (case hg => rfl); (case hn => rfl); (case hr => first | (go_simp; done) | (go_simp; rfl)); intro w1 hw; have hs : Ints P wr w1 := (by rw [hw]; exact HL.out.set HP.out (j := 0) (by omega) _); have n0_ := Aside0.mk (HQ.out.trans hs); have n1_ := Aside0.mk (HL.out.ints hs); clear HQ HL hs hw; have HQ := n0_; have HL := n1_; clear n0_ n1_; obtain ⟨n1, x1, f1⟩ := HL.out.cell (j := 1) (by omega)) | ((with_reducible refine gate_store (t := 3) (p := 23) rfl ?_); refine store_event (t := 3) (p := 23) (v := ?vo1_) (w1 := (w1.setCell ⟨g, kk * 6 + 1, none⟩ (.int .i64 (wrap64 (a1 + 1))))) ?hg ?ho ?hn ?hr ?_; (case ho => rfl); (case hg => rfl); (case hn => rfl); (case hr => first | (go_simp; done) | (go_simp; rfl)); intro w2 hw; have hs : Ints P w1 w2 := (by rw [hw]; exact HL.out.set HP.out (j := 1) (by omega) _); have n0_ := Aside0.mk (HQ.out.trans hs); have n1_ := Aside0.mk (HL.out.ints hs); clear HQ HL hs hw; have HQ := n0_; have HL := n1_; clear n0_ n1_; obtain ⟨n2, x2, f2⟩ := HL.out.cell (j := 2) (by omega)) | ((with_reducible refine gate_store (t := 3) (p := 30) rfl ?_); refine store_event (t := 3) (p := 30) (v := ?vo2_) (w1 := (w2.setCell ⟨g, kk * 6 + 2, none⟩ (.int .i64 (wrap64 (wrap64 (a1 + 1) + 1))))) ?hg ?ho ?hn ?hr ?_; (case ho => rfl); (case hg => rfl); (case hn => rfl); (case hr => first | (go_simp; done) | (go_simp; rfl)); intro w3 hw; have hs : Ints P w2 w3 := (by rw [hw]; exact HL.out.set HP.out (j := 2) (by omega) _); have n0_ := Aside0.mk (HQ.out.trans hs); have n1_ := Aside0.mk (HL.out.ints hs); clear HQ HL hs hw; have HQ := n0_; have HL := n1_; clear n0_ n1_; obtain ⟨n3, x3, f3⟩ := HL.out.cell (j := 3) (by omega)) | ((with_reducible refine gate_store (t := 3) (p := 37) rfl ?_); refine store_event (t := 3) (p := 37) (v := ?vo3_) (w1 := (w3.setCell ⟨g, kk * 6 + 3, none⟩ (.int .i64 (wrap64 (wrap64 (wrap64 (a1 + 1) + 1) + 1))))) ?hg ?ho ?hn ?hr ?_; (case ho => rfl); (case hg => rfl); (case hn => rfl); (case hr => first | (go_simp; done) | (go_simp; rfl)); intro w4 hw; have hs : Ints P w3 w4 := (by rw [hw]; exact HL.out.set HP.out (j := 3) (by omega) _); have n0_ := Aside0.mk (HQ.out.trans hs); have n1_ := Aside0.mk (HL.out.ints hs); clear HQ HL hs hw; have HQ := n0_; have HL := n1_; clear n0_ n1_; have x4 := HL.out.c4) | (go_at_call 10; (with_reducible refine (HX4.out _ HQ.out).mono ?_); rintro e w5 ⟨rfl, hi⟩; have n0_ := Aside0.mk (HQ.out.trans hi); have n1_ := Aside0.mk (HL.out.ints hi); clear HQ HL hi; have HQ := n0_; have HL := n1_; clear n0_ n1_; have x5 := HL.out.c5) | (go_at_call 10; (with_reducible refine (HX5.out _ HQ.out).mono ?_); rintro e w6 ⟨rfl, hi⟩; have n0_ := Aside0.mk (HQ.out.trans hi); have n1_ := Aside0.mk (HL.out.ints hi); clear HQ HL hi; have HQ := n0_; have HL := n1_; clear n0_ n1_))
      go_roundg (xs.length - (kk + 1))
      case measure => omega
      case rel => exact ⟨kk + 1, _, by omega, by omega, rfl, by go_num, HN, ⟨HI.out.trans HQ.out⟩⟩
    · have hltz : decide ((kk : Int) < (xs.length : Int)) = false := decide_eq_false (by omega)
      have he := HE.out
      rw [List.drop_of_length_le (by omega)] at he
      obtain rfl := Option.some.inj (show some a1 = some r from he)
      clear he HE
      go_wp2
      go_ret
      exact ⟨rfl, HI.out⟩
theorem mark_says : ∀ k, MSays (mkF k)
  | 0 => fun _ _ _ _ _ _ _ _ h => by cases h
  | k + 1 => mark_of (mkF k) (mark_says k)
theorem mkR_of : ∀ (n : Nat) (xs : List S41), SizeOf.sizeOf xs ≤ n → ∀ (w : World) (base : Nat) (ok : Nat → Prop) (v : Value), Kd.R k41 41 w base ok v xs → MkR n w ok v xs
  | 0, xs, hn, w, base, ok, v, h => by
    cases xs <;> simp at hn
  | n + 1, xs, hn, w, base, ok, v, h => by
    obtain ⟨A, cap, e⟩ := Kd.R_slice h
    subst e
    refine ⟨A, cap, rfl, (Kd.R_reads' h).2.2.2.1, fun i x hx => ?_⟩
    obtain ⟨hi, ex⟩ := List.getElem?_eq_some_iff.1 hx
    obtain ⟨g, co, e, hb, hl, cl, HG⟩ := Kd.R_form h (by omega)
    injection e with eA _ _
    subst eA
    obtain ⟨c, hcl, hM, hcc, hfr⟩ := Kd.R_elem h z41 (i : Int) (by omega) (by omega)
    have hd : xs.getD (i : Int).toNat z41 = x := by
      rw [Int.toNat_natCast, List.getD_eq_getElem?_getD, hx]
      rfl
    rw [hd] at hM
    obtain ⟨v4, v5, rfl, r4, r5⟩ := k41_openM hM
    have cell : ∀ (j : Nat) (u : Value), [Value.int .i64 x.f0, .int .i64 x.f1, .int .i64 x.f2, .int .i64 x.f3, v4, v5][j]? = some u → cl[i * 6 + j]? = some u := fun j u hu => by
      have h1 := hcc j u hu
      rw [Int.toNat_natCast] at h1
      exact (blk_cell HG (i * 6 + j)).symm.trans h1
    have hx1 : SizeOf.sizeOf x < SizeOf.sizeOf xs := by rw [← ex]; exact List.sizeOf_lt_of_mem (List.getElem_mem hi)
    have hs : SizeOf.sizeOf x.f4 < SizeOf.sizeOf x ∧ SizeOf.sizeOf x.f5 < SizeOf.sizeOf x := by
      cases x
      simp
      omega
    refine ⟨g, v4, v5, rfl, h.1 g rfl, ⟨cl, HG, fun j hj => ?_, cell 4 _ rfl, cell 5 _ rfl⟩, ?_, ?_⟩
    · rcases (by omega : j = 0 ∨ j = 1 ∨ j = 2 ∨ j = 3) with rfl | rfl | rfl | rfl
      · exact ⟨_, cell 0 _ rfl⟩
      · exact ⟨_, cell 1 _ rfl⟩
      · exact ⟨_, cell 2 _ rfl⟩
      · exact ⟨_, cell 3 _ rfl⟩
    · exact MkR.mono (fun _ hk => hk.1) _ _ _ (mkR_of n x.f4 (by omega) w base _ v4 r4)
    · exact MkR.mono (fun _ hk => hk.1) _ _ _ (mkR_of n x.f5 (by omega) w base _ v5 r5)
theorem Ints.kept {P : Nat → Prop} {W W' : World} (h : Ints P W W') : Kept W W' P := ⟨h.1.size, fun i hi hn => h.2.1 i hi hn⟩
theorem ty_ne {A B : List Nat} {H : Option Obj} (h : ∀ q, q ∈ A → q ∉ B) (x : ∃ q, q ∈ A ∧ ∃ cells, H = some (.cells cells q (0, 0))) (y : ∃ q, q ∈ B ∧ ∃ cells, H = some (.cells cells q (0, 0))) : False := by
  obtain ⟨q, hq, c, e⟩ := x
  obtain ⟨q', hq', c', e'⟩ := y
  rw [e] at e'
  injection e' with e'
  injection e' with _ e'
  exact h q hq (e' ▸ hq')
def laws_markStmtS.f (k : Nat) (l0 : List S41) (a1 : Int) : Option Int := mkF k l0 a1
theorem laws_markStmtS.calls (k : Nat) (P0_ : Nat → Prop) (u9000_ : Value) (l0 : List S41) (a1 : Int) (r1 : Int) (w0 w : World) (hB : Below w0.heap.size w0 w) (ho0 : Kd.R k41 41 w w0.heap.size P0_ u9000_ l0) (h : laws_markStmtS.f k l0 a1 = some r1) :
    Calls Try.prog 10 #[u9000_, .int .i64 a1] w fun e w' => e = .returned (.int .i64 r1) ∧ Below w0.heap.size w0 w' ∧ Kept w w' (fun k_ => P0_ k_) := by
  refine (mark_says k _ u9000_ l0 a1 r1 _ w (mkR_of _ l0 (Nat.le_refl _) w w0.heap.size _ u9000_ (Kd.R_bound ho0)) h).mono ?_
  rintro e w' ⟨he, hi⟩
  refine ⟨he, ⟨hi.1.os.trans hB.os, hi.1.tape.trans hB.tape, hi.1.output.trans hB.output, Nat.le_trans hB.size hi.1.size, fun b hb => (hi.2.1 b (Nat.lt_of_lt_of_le hb hB.size) (fun hp => by have := hp.2.1; omega)).trans (hB.block b hb)⟩, hi.kept.mono (fun _ hk => hk.1)⟩
def TyP (W : World) (k : Nat) : Prop := ∃ q, q ∈ 41 :: k41.E ∧ ∃ cells, W.heap[k]? = some (.cells cells q (0, 0))
theorem laws_markStmtS.callsT (k : Nat) (u9000_ : Value) (l0 : List S41) (a1 : Int) (r1 : Int) (w0 w : World) (hB : Below w0.heap.size w0 w) (ho0 : Kd.R k41 41 w w0.heap.size (fun _ => True) u9000_ l0) (h : laws_markStmtS.f k l0 a1 = some r1) :
    Calls Try.prog 10 #[u9000_, .int .i64 a1] w fun e w' => e = .returned (.int .i64 r1) ∧ Below w0.heap.size w0 w' ∧ Kept w w' (TyP w) :=
  laws_markStmtS.calls k (TyP w) u9000_ l0 a1 r1 w0 w hB (Kd.R_mono (Kd.R_bound ho0) fun _ hk => hk.2.2.2) h
end Go.Proofs.Ytoekjehgnakffaa.P
