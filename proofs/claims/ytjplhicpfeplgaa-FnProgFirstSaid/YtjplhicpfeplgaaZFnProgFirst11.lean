/- Parts of the proof of FnProgFirst: plain Lean functions of Go functions, and that the calls come to what they say; no condition beyond those that each theorem names. -/
import Derived.Test.YtjplhicpfeplgaaZFnProgFirst5
import Derived.RangeFuncNested
import Derived.RangeFuncBound
import Derived.RangeFuncCalls
import Derived.RangeFuncLeaves
import Derived.WalkKit
import Derived.OwnWalkIn
import Derived.TacticsInMore
import Derived.LoopNIn
import Derived.LoopIn
import Derived.RangeFuncBox
import Derived.Shelf.Abstract
import Derived.Test.YtjplhicpfeplgaaZFnProgFirst4
import Derived.Test.YtjplhicpfeplgaaZFnProgFirst10
import Derived.Test.YtjplhicpfeplgaaZFnProgFirst8
namespace Go.Proofs.Ytjplhicpfeplgaa.P
open Go.RowKit Go.Proofs.YtjplhicpfeplgaaW.PrintWords Go.Proofs.YtjplhicpfeplgaaW.PrintLast Go.Proofs.YtjplhicpfeplgaaW.PrintMore
attribute [local go_sem] Oper.semAt_some
set_option linter.unusedVariables false
set_option linter.unusedSimpArgs false
structure Pl where
  k : Int
  a : Int
  b : Int
  n : Int
  v4 : Value
  v5 : Value
  rm : Int
def Pl.enc (x : Pl) : Array Value := #[.agg #[.int .i64 x.k, .int .i64 x.a, .int .i64 x.b, .int .i64 x.n, x.v4, x.v5, .int .i64 x.rm]]
abbrev I5 := Int × Int × Int × Int × Int
def Pl.ints (x : Pl) : I5 := (x.k, x.a, x.b, x.n, x.rm)
def allL (T : S48 → Int → Option (List I5)) (rm : Int) : List S48 → Option (List I5)
  | [] => some []
  | x :: t => (T x rm).bind fun a => (allL T rm t).bind fun b => some (a ++ b)
def innR (s : S48) (rm : Int) : Int := if s.f0 = 8 then s.f1 else rm
def allT (L : List S48 → Int → Option (List I5)) (s : S48) (rm : Int) : Option (List I5) :=
  (L s.f4 (innR s rm)).bind fun a => (L s.f5 (innR s rm)).bind fun b => some ((s.f0, s.f1, s.f2, s.f3, rm) :: (a ++ b))
def allK : Nat → List S48 → Int → Option (List I5)
  | 0 => fun _ _ => none
  | k + 1 => fun l rm => allL (allT (allK k)) rm l
structure Kq (n₀ B : Nat) (W W' : World) : Prop where
  below : Below n₀ W W'
  cells : ∀ (k : Nat) (cs : Array Value) (t : TypeId) (fr : Nat × Nat), B ≤ k → W.heap[k]? = some (.cells cs t fr) → W'.heap[k]? = some (.cells cs t fr)
theorem Kq.refl (n₀ B : Nat) (W : World) : Kq n₀ B W W := ⟨Below.refl _ _, fun _ _ _ _ _ h => h⟩
theorem Kq.trans {n₀ B : Nat} {X Y Z : World} (h : Kq n₀ B X Y) (k : Kq n₀ B Y Z) : Kq n₀ B X Z := ⟨h.below.trans k.below, fun i cs t fr hi hc => k.cells i cs t fr hi (h.cells i cs t fr hi hc)⟩
theorem Kq.alloc {n₀ B : Nat} {X Y : World} (h : Kq n₀ B X Y) (hn : n₀ ≤ Y.heap.size) (o : Obj) : Kq n₀ B X (Y.alloc o) :=
  ⟨h.below.alloc hn o, fun i cs t fr hi hc => (Below.heap_alloc Y o i (Array.getElem?_eq_some_iff.1 (h.cells i cs t fr hi hc)).1).trans (h.cells i cs t fr hi hc)⟩
theorem Kq.drewN {n₀ B : Nat} {X Y : World} (h : Kq n₀ B X Y) (n : Nat) : Kq n₀ B X (Y.drewN n) := ⟨pw_below_drewN h.below n, fun i cs t fr hi hc => h.cells i cs t fr hi hc⟩
theorem Kq.drew {n₀ B : Nat} {X Y : World} (h : Kq n₀ B X Y) : Kq n₀ B X Y.drew := ⟨h.below.drew, fun i cs t fr hi hc => h.cells i cs t fr hi hc⟩
theorem Kq.t {n₀ B : Nat} {X Y Z : World} (h : Kq n₀ B X Y) (k : Kq n₀ B Y Z) : Kq n₀ B X Z := h.trans k
theorem Kq.b {n₀ B : Nat} {w : World} (hn : n₀ ≤ w.heap.size) (W : World) (l : Nat) (o o' : Obj) (hl : w.heap.size ≤ l) (h : W.heap[l]? = some o) (hc : o.isCells = false) (hw : o.isWalk = false) : Kq n₀ B W (W.putObj l o') :=
  ⟨belowK_b hn W l o o' hl h hc hw, fun k cs t fr _ hk => by
    by_cases e : k = l
    · subst e
      rw [h] at hk
      cases hk
      cases hc
    · exact (World.putObj_heap_other e).trans hk⟩
theorem Kq.box {n₀ B : Nat} {W W' : World} (h : Kq n₀ B W W') {b : Nat} (hb : B ≤ b) {v : Value} {t : TypeId} (hv : W.heap[b]? = some (.cells #[v] t (0, 0))) : W'.heap[b]? = some (.cells #[v] t (0, 0)) := h.cells _ _ _ _ hb hv
structure WAt (w0 : World) (l By Bw : Nat) (W : World) : Prop where
  b : Below w0.heap.size w0 W
  y : W.heap[By]? = some (.cells #[.func (.yield l) #[] #[]] 45 (0, 0))
  k : W.heap[Bw]? = some (.cells #[.func (.func 26) #[] #[.pointer (some ⟨By, 0, none⟩), .pointer (some ⟨Bw, 0, none⟩)]] 46 (0, 0))
theorem WAt.step {w0 : World} {l By Bw B : Nat} {W W' : World} (h : WAt w0 l By Bw W) (hy : B ≤ By) (hk : B ≤ Bw) (q : Kq w0.heap.size B W W') : WAt w0 l By Bw W' := ⟨h.b.trans q.below, q.box hy h.y, q.box hk h.k⟩
theorem WAt.cells {w0 : World} {l By Bw : Nat} {W : World} (h : WAt w0 l By Bw W) : W.cell? ⟨By, 0, none⟩ = some (.func (.yield l) #[] #[]) ∧ W.cell? ⟨Bw, 0, none⟩ = some (.func (.func 26) #[] #[.pointer (some ⟨By, 0, none⟩), .pointer (some ⟨Bw, 0, none⟩)]) := ⟨cell_of h.y 0 rfl, cell_of h.k 0 rfl⟩
def WPost (xs : List I5) (n₀ B : Nat) (J Jx : List Pl → World → Prop) (pre : List Pl) (W : World) (e : Ending) (W' : World) : Prop :=
  (e = .returned (.bool true) ∧ ∃ ys : List Pl, ys.map Pl.ints = xs ∧ J (pre ++ ys) W' ∧ Kq n₀ B W W') ∨ (e = .returned (.bool false) ∧ ∃ ys : List Pl, ys.map Pl.ints <+: xs ∧ Jx (pre ++ ys) W')
def Rounds (l N n₀ B : Nat) (J Jx : List Pl → World → Prop) : Prop :=
  ∀ (m : Nat) (pre : List Pl) (x : Pl) (W : World), J pre W → pre.length < N → YieldAt Fence.wide m Try.prog l x.enc W fun e W' => (e = .returned (.bool true) ∧ J (pre ++ [x]) W' ∧ Kq n₀ B W W') ∨ (e = .returned (.bool false) ∧ Jx (pre ++ [x]) W')
def Grows (J : List Pl → World → Prop) : Prop := ∀ s W W', J s W → W.grownBy W' none → J s W'
def WSays (w0 : World) (l By Bw B N : Nat) (J Jx : List Pl → World → Prop) (L : List S48 → Int → Option (List I5)) : Prop :=
  ∀ (n : Nat) (A : Option Addr) (c : Nat) (ls : List S48) (rm : Int) (pre : List Pl) (W : World) (xs : List I5), Kd.C k48 w0 A ls.length ls → WAt w0 l By Bw W → J pre W → L ls rm = some xs → pre.length + xs.length ≤ N →
    CallsIn Fence.wide n Try.prog 26 #[.slice A ls.length c, .int .i64 rm, .pointer (some ⟨By, 0, none⟩), .pointer (some ⟨Bw, 0, none⟩)] W (WPost xs w0.heap.size B J Jx pre W)
set_option maxRecDepth 100000 in
set_option maxHeartbeats 4000000 in
theorem walk_of (w0 : World) (l By Bw B N : Nat) (J Jx : List Pl → World → Prop) (hB : w0.heap.size ≤ B) (hy : B ≤ By) (hw : B ≤ Bw) (hR : Rounds l N w0.heap.size B J Jx) (hJ : Grows J)
    (L : List S48 → Int → Option (List I5)) (hL : WSays w0 l By Bw B N J Jx L) : WSays w0 l By Bw B N J Jx (fun ls rm => allL (allT L) rm ls) := by
  intro n A c ls rm pre W xs hC hW h0 h hN
  have HL := Aside0.mk hL
  have HR := Aside0.mk hR
  have HC := Aside0.mk hC
  have HW := Aside0.mk hW
  have HJ := Aside0.mk hJ
  have H := Aside0.mk h
  have H0 := Aside0.mk h0
  have hl : ls.length ≤ 9223372036854775807 := hC.2.1
  have hdd : ∀ k : Nat, (Fence.wide.depth.isSome = true → 1 ≤ k) := fun k h => by cases h
  clear hL hR hC hW hJ h h0
  refine callsIn_of_wp Try.func26 rfl trivial ?_ rfl
  simp only [Try.ntmps26, List.size_toArray, List.length_cons, List.length_nil, Nat.reduceAdd, Nat.reduceSub, Array.replicate_succ, Array.replicate_zero, List.push_toArray, List.append_toArray, List.nil_append, List.cons_append]
  gi_wp2
  gi_loopw [12] (fun p wr => ∃ (i : Nat) (ys : List Pl) (rest : List I5), p = .int .i64 i ∧ i ≤ ls.length ∧ Aside0 (xs = ys.map Pl.ints ++ rest) ∧ Aside0 (allL (allT L) rm (ls.drop i) = some rest) ∧ Aside0 (J (pre ++ ys) wr) ∧ Aside0 (Kq w0.heap.size B W wr)) (fun p _ => ls.length - (intOf p).toNat)
  case atStart => exact ⟨0, [], xs, rfl, Nat.zero_le _, ⟨rfl⟩, H, ⟨by simpa using H0.out⟩, ⟨Kq.refl _ _ _⟩⟩
  case round =>
    obtain ⟨i, ys, rest, rfl, hi, HX, HA, HJS, HK⟩ := hrel
    clear H H0
    by_cases hlt : i < ls.length
    · have hltz : decide ((i : Int) < (ls.length : Int)) = true := decide_eq_true (by omega)
      have p1 : 0 ≤ (i : Int) := by omega
      have q1 : (i : Int) < (ls.length : Int) := by omega
      have HW2 := Aside0.mk (HW.out.step hy hw HK.out)
      obtain ⟨ad, A4, c4, A5, c5, e1, f0, f1, f2, f3, f4, f5, hc4, H4, hc5, H5⟩ := at_T48 HC.out (i : Int) p1 q1
      cases e1
      rw [Int.toNat_natCast] at f0 f1 f2 f3 f4 f5
      have tr : ∀ {p : Addr} {v : Value}, w0.cell? p = some v → wr.cell? p = some v := fun h => (HW2.out.b.cell (World.block_lt_of_cell? w0 _ h)).trans h
      have g0 := tr f0
      have g1 := tr f1
      have g2 := tr f2
      have g3 := tr f3
      have g4 := tr f4
      have g5 := tr f5
      clear f0 f1 f2 f3 f4 f5 tr
      have ex : ls.drop i = rd_T48 ls (i : Int) :: ls.drop (i + 1) := by
        rw [List.drop_eq_getElem_cons hlt]
        unfold rd_T48
        rw [Int.toNat_natCast, List.getD_eq_getElem?_getD, List.getElem?_eq_getElem hlt]
        rfl
      have ha := HA.out
      rw [ex] at ha
      clear HA ex
      generalize rd_T48 ls (i : Int) = x at *
      obtain ⟨a, ha1, ha⟩ := Option.bind_eq_some_iff.1 ha
      obtain ⟨b, hb1, hb2⟩ := Option.bind_eq_some_iff.1 ha
      obtain rfl : a ++ b = rest := Option.some.inj hb2
      obtain ⟨a4, h4, ha1⟩ := Option.bind_eq_some_iff.1 ha1
      obtain ⟨a5, h5, ha1⟩ := Option.bind_eq_some_iff.1 ha1
      obtain rfl := Option.some.inj ha1
      clear ha hb2 ha1
      have hxl : xs.length = ys.length + (1 + a4.length + a5.length + b.length) := by rw [HX.out]; simp; omega
      obtain ⟨cy, ck⟩ := HW2.out.cells
      have ly := World.block_lt_of_cell? wr _ cy
      have lk := World.block_lt_of_cell? wr _ ck
      have my : ∀ o, (wr.alloc o).cell? ⟨By, 0, none⟩ = some (.func (.yield l) #[] #[]) := fun o => ((below_alloc (Below.refl _ wr) o).cell ly).trans cy
      clear cy ck
      obtain ⟨pl, hpl⟩ : ∃ pl : Pl, pl = ⟨x.f0, x.f1, x.f2, x.f3, .slice A4 x.f4.length c4, .slice A5 x.f5.length c5, rm⟩ := ⟨_, rfl⟩
      have hint : pl.ints = (x.f0, x.f1, x.f2, x.f3, rm) := by rw [hpl]; rfl
      obtain ⟨fn, tmps, assign, body, hyy, hRd⟩ := HR.out (n - 1) (pre ++ ys) pl (wr.alloc (.cells #[.int .i64 x.f0, .int .i64 x.f1, .int .i64 x.f2, .int .i64 x.f3, .slice A4 x.f4.length c4, .slice A5 x.f5.length c5] 48)) (HJ.out _ _ _ HJS.out (World.grownBy_alloc wr _ none)) (by simp; omega)
      rw [hpl] at hyy
      dsimp only [Pl.enc] at hyy
      have HH := Aside0.mk (And.intro (And.intro h4 h5) hb1)
      have HRd := Aside0.mk hRd
      have HI := Aside0.mk hint
      clear hRd h4 h5 hb1 hint hpl
      gi_wp2
      (try refine ⟨hdd _, ?_⟩)
      refine HRd.out.mono ?_
      clear HRd hyy my g0 g1 g2 g3 g4 g5
      rintro e W3 (⟨rfl, hJ3, hk3⟩ | ⟨rfl, hJx3⟩)
      · have hBw : B ≤ wr.heap.size := Nat.le_of_lt (Nat.lt_of_le_of_lt hy ly)
        have hs3 := hk3.cells _ _ _ _ hBw (World.alloc_heap_new wr (.cells #[.int .i64 x.f0, .int .i64 x.f1, .int .i64 x.f2, .int .i64 x.f3, .slice A4 x.f4.length c4, .slice A5 x.f5.length c5] 48))
        have hk3' : Kq w0.heap.size B W W3 := (HK.out.alloc (by omega) _).trans hk3
        have HW3 := Aside0.mk (HW.out.step hy hw hk3')
        have HK3 := Aside0.mk hk3'
        have HJ3 := Aside0.mk hJ3
        obtain ⟨cy, ck⟩ := HW3.out.cells
        have e0 := cell_of hs3 0 rfl
        have e1 := cell_of hs3 1 rfl
        have e4 := cell_of hs3 4 rfl
        have e5 := cell_of hs3 5 rfl
        have HS3 := Aside0.mk hs3
        clear hs3 hk3 hk3' hJ3 HJS HK HW2
        obtain ⟨⟨h4, h5⟩, hb1⟩ := HH.out
        clear HH
        have HB1 := Aside0.mk hb1
        clear hb1
        have h8 : ((x.f0 == 8) = true ∧ innR x rm = x.f1) ∨ ((x.f0 == 8) = false ∧ innR x rm = rm) := by
          by_cases q : x.f0 = 8
          · exact .inl ⟨by simpa using q, if_pos q⟩
          · exact .inr ⟨by simpa using q, if_neg q⟩
        rcases h8 with ⟨h8, hin⟩ | ⟨h8, hin⟩
        all_goals (
          rw [hin] at h4 h5
          clear hin
          have ih1 := (HL.out (n - 1) A4 c4 x.f4 _ (pre ++ ys ++ [pl]) W3 a4 H4 HW3.out HJ3.out h4 (by simp; omega)).mono (R' := fun e W1 =>
            (e = .returned (.bool true) ∧ W1.cell? ⟨wr.heap.size, 5, none⟩ = some (.slice A5 x.f5.length c5) ∧ W1.cell? ⟨Bw, 0, none⟩ = some (.func (.func 26) #[] #[.pointer (some ⟨By, 0, none⟩), .pointer (some ⟨Bw, 0, none⟩)]) ∧ ∃ zs : List Pl, Aside0 (zs.map Pl.ints = a4 ∧ J (pre ++ ys ++ [pl] ++ zs) W1 ∧ Kq w0.heap.size B W W1)) ∨
            (e = .returned (.bool false) ∧ ∃ zs : List Pl, zs.map Pl.ints <+: a4 ∧ Jx (pre ++ ys ++ [pl] ++ zs) W1))
            (fun e W1 h => h.elim (fun ⟨he, zs, hz, hj, hk⟩ => .inl ⟨he, cell_of (hk.cells _ _ _ _ hBw HS3.out) 5 rfl, (HW3.out.step hy hw hk).cells.2, zs, ⟨hz, hj, HK3.out.trans hk⟩⟩) .inr)
          have ih2 := fun W1 zs (hj : J (pre ++ ys ++ [pl] ++ zs) W1) (hz : zs.map Pl.ints = a4) (hk : Kq w0.heap.size B W W1) => HL.out (n - 1) A5 c5 x.f5 _ (pre ++ ys ++ [pl] ++ zs) W1 a5 H5 (HW.out.step hy hw hk) hj h5 (by have := congrArg List.length hz; simp at this; simp; omega)
          clear h4 h5
          gi_wp2
          refine ⟨trivial, hdd _, ?_⟩
          refine ih1.mono ?_
          clear ih1
          rintro e W1 (⟨rfl, c5', ck', zs, HZ⟩ | ⟨rfl, zs, hzs, hx4⟩)
          · gi_wp2
            refine ⟨trivial, hdd _, ?_⟩
            refine (ih2 _ zs HZ.out.2.1 HZ.out.1 HZ.out.2.2).mono ?_
            clear ih2
            rintro e W2 (⟨rfl, us, hus, hJ5, hk5⟩ | ⟨rfl, us, hus, hx5⟩)
            · gi_wp2
              go_roundw
              case rel => exact ⟨i + 1, ys ++ [pl] ++ zs ++ us, b, by go_num, by omega, ⟨by rw [HX.out]; simp [HI.out, HZ.out.1, hus]⟩, HB1, ⟨by simpa [List.append_assoc] using hJ5⟩, ⟨HZ.out.2.2.trans hk5⟩⟩
              case measure => simp [intOf]; omega
            · gi_wp2
              go_ret
              refine .inr ⟨rfl, ys ++ [pl] ++ zs ++ us, ?_, by simpa [List.append_assoc] using hx5⟩
              rw [HX.out]
              obtain ⟨q, hq⟩ := hus
              exact ⟨q ++ b, by simp [HI.out, HZ.out.1, ← hq]⟩
          · gi_wp2
            refine ⟨fun _ h => (by cases h), ?_⟩
            gi_wp2
            go_ret
            refine .inr ⟨rfl, ys ++ [pl] ++ zs, ?_, by simpa [List.append_assoc] using hx4⟩
            rw [HX.out]
            obtain ⟨q, hq⟩ := hzs
            exact ⟨q ++ a5 ++ b, by simp [HI.out, ← hq]⟩)
      · gi_wp2
        go_ret
        refine .inr ⟨rfl, ys ++ [pl], ?_, by simpa [List.append_assoc] using hJx3⟩
        rw [HX.out]
        exact ⟨a4 ++ a5 ++ b, by simp [HI.out]⟩
    · have hltz : decide ((i : Int) < (ls.length : Int)) = false := decide_eq_false (by omega)
      have ha := HA.out
      rw [List.drop_of_length_le (by omega)] at ha
      obtain rfl := Option.some.inj (show some [] = some rest from ha)
      clear ha HA
      gi_wp2
      go_ret
      exact .inl ⟨rfl, ys, by rw [HX.out, List.append_nil], HJS.out, HK.out⟩
end Go.Proofs.Ytjplhicpfeplgaa.P
namespace Go.Proofs.Ytjplhicpfeplgaa.P
open Go.RowKit Go.Proofs.YtjplhicpfeplgaaW.PrintWords Go.Proofs.YtjplhicpfeplgaaW.PrintLast Go.Proofs.YtjplhicpfeplgaaW.PrintMore
attribute [local go_sem] Oper.semAt_some
set_option linter.unusedVariables false
set_option linter.unusedSimpArgs false
theorem run_store_fn (P : Program) (w : World) (a : Addr) (m : Mode) (fn : Fn) (first cap : Array Value) : (store a (.func fn first cap) m).run P w = stored P w a (.func fn first cap) m := run_store P w a _ m rfl
attribute [local go_sem] run_store_fn
theorem walk_says (w0 : World) (l By Bw B N : Nat) (J Jx : List Pl → World → Prop) (hB : w0.heap.size ≤ B) (hy : B ≤ By) (hw : B ≤ Bw) (hR : Rounds l N w0.heap.size B J Jx) (hJ : Grows J) : ∀ k, WSays w0 l By Bw B N J Jx (allK k)
  | 0 => fun _ _ _ _ _ _ _ _ _ _ _ h _ => by cases h
  | k + 1 => walk_of w0 l By Bw B N J Jx hB hy hw hR hJ (allK k) (walk_says w0 l By Bw B N J Jx hB hy hw hR hJ k)
theorem yield_any {m m' : Nat} {P : Program} {l : Nat} {args : Array Value} {W : World} {R : Ending → World → Prop} (h : YieldAt Fence.wide m P l args W R) : YieldAt Fence.wide m' P l args W R := by
  obtain ⟨fn, tmps, assign, body, hy, hR⟩ := h
  exact ⟨fn, tmps, assign, body, hy, hR.1, fun c cs _ => hR.2 c cs (fun d h => by cases h)⟩
set_option maxHeartbeats 2000000 in
theorem all1_in (w0 : World) (n l Bl Br N B : Nat) (J Jx : List Pl → World → Prop) (hB : w0.heap.size ≤ B) (hR : Rounds l N w0.heap.size B J Jx) (hJ : Grows J) (A : Option Addr) (c : Nat) (ls : List S48) (rm : Int) (xs : List I5) (k : Nat)
    (hC : Kd.C k48 w0 A ls.length ls) (W : World) (hW : Below w0.heap.size w0 W) (hBW : B ≤ W.heap.size) (hl : W.cell? ⟨Bl, 0, none⟩ = some (.slice A ls.length c)) (hr : W.cell? ⟨Br, 0, none⟩ = some (.int .i64 rm)) (h0 : J [] W) (h : allK k ls rm = some xs) (hN : xs.length ≤ N) :
    CallsIn Fence.wide n Try.prog 25 #[.func (.yield l) #[] #[], .pointer (some ⟨Bl, 0, none⟩), .pointer (some ⟨Br, 0, none⟩)] W fun e W' => (∃ v, e = .returned v) ∧ ((∃ ys : List Pl, ys.map Pl.ints = xs ∧ J ys W') ∨ (∃ pre : List Pl, pre.map Pl.ints <+: xs ∧ Jx pre W')) := by
  have hdd : ∀ k : Nat, (Fence.wide.depth.isSome = true → 1 ≤ k) := fun k h => by cases h
  have l1 := World.block_lt_of_cell? W _ hl
  have l2 := World.block_lt_of_cell? W _ hr
  obtain ⟨W2, hW2⟩ : ∃ W2, W2 = (W.alloc (.cells #[.func (.yield l) #[] #[]] 45)).alloc (.cells #[.func (.func 26) #[] #[.pointer (some ⟨W.heap.size, 0, none⟩), .pointer (some ⟨W.heap.size + 1, 0, none⟩)]] 46) := ⟨_, rfl⟩
  have hq : Kq w0.heap.size B W W2 := by rw [hW2]; exact ((Kq.refl _ _ W).alloc (Nat.le_trans hB hBW) _).alloc (by rw [size_alloc]; omega) _
  have hy2 : W2.heap[W.heap.size]? = some (.cells #[.func (.yield l) #[] #[]] 45 (0, 0)) := by rw [hW2]; exact blk_alloc (blk_new W _) _
  have hw2 : W2.heap[W.heap.size + 1]? = some (.cells #[.func (.func 26) #[] #[.pointer (some ⟨W.heap.size, 0, none⟩), .pointer (some ⟨W.heap.size + 1, 0, none⟩)]] 46 (0, 0)) := by
    rw [hW2, ← size_alloc W (.cells #[.func (.yield l) #[] #[]] 45)]
    exact blk_new _ _
  have hj2 : J [] W2 := by rw [hW2]; exact hJ _ _ _ (hJ _ _ _ h0 (World.grownBy_alloc _ _ none)) (World.grownBy_alloc _ _ none)
  have hp := walk_says w0 l W.heap.size (W.heap.size + 1) B N J Jx hB hBW (by omega) hR hJ k (n - 1) A c ls rm [] W2 xs hC ⟨hW.trans hq.below, hy2, hw2⟩ hj2 h (by simpa using hN)
  have m1 : ∀ v t v' t', ((W.alloc (.cells v t)).alloc (.cells v' t')).cell? ⟨Bl, 0, none⟩ = some (.slice A ls.length c) := fun v t v' t' => ((below_alloc (below_alloc (Below.refl _ W) _) _).cell l1).trans hl
  have m2 : ∀ v t v' t', ((W.alloc (.cells v t)).alloc (.cells v' t')).cell? ⟨Br, 0, none⟩ = some (.int .i64 rm) := fun v t v' t' => ((below_alloc (below_alloc (Below.refl _ W) _) _).cell l2).trans hr
  have hmf : ∀ (fn : Fn) (first cap : Array Value) (w : World), (Instr.makeFunc fn first cap).run Try.prog w = .ok (.func fn first cap) w := by
    intros
    rfl
  rw [hW2] at hp
  have HP := Aside0.mk hp
  clear hp hj2 hw2 hy2 hq hW2 hR hJ hC h0 h hl hr
  refine callsIn_of_wp Try.func25 rfl trivial ?_ rfl
  simp only [Try.ntmps25, List.size_toArray, List.length_cons, List.length_nil, Nat.reduceAdd, Nat.reduceSub, Array.replicate_succ, Array.replicate_zero, List.push_toArray, List.append_toArray, List.nil_append, List.cons_append]
  gi_wp2
  refine ⟨trivial, hdd _, ?_⟩
  refine HP.out.mono ?_
  rintro e W3 (⟨rfl, ys, hys, hj, _⟩ | ⟨rfl, ys, hys, hx⟩)
  · gi_wp2
    go_end0
    exact ⟨⟨_, rfl⟩, .inl ⟨ys, hys, by simpa using hj⟩⟩
  · gi_wp2
    go_end0
    exact ⟨⟨_, rfl⟩, .inr ⟨ys, hys, by simpa using hx⟩⟩
theorem all_stops (w0 : World) (n Bl Br : Nat) (A : Option Addr) (c : Nat) (ls : List S48) (rm : Int) (xs : List I5) (k : Nat) (hC : Kd.C k48 w0 A ls.length ls) (w : World) (hw : Below w0.heap.size w0 w)
    (hl : w.cell? ⟨Bl, 0, none⟩ = some (.slice A ls.length c)) (hr : w.cell? ⟨Br, 0, none⟩ = some (.int .i64 rm)) (h : allK k ls rm = some xs) :
    SeqStopsK Fence.wide n Try.prog 25 #[.pointer (some ⟨Bl, 0, none⟩), .pointer (some ⟨Br, 0, none⟩)] Pl.enc (Kq w0.heap.size w.heap.size) (fun ys => ys.map Pl.ints = xs) (fun pre => pre.map Pl.ints <+: xs) xs.length w := fun l J Jx W hW hJ _ hY h0 =>
  all1_in w0 n l Bl Br xs.length w.heap.size J Jx hw.size (fun m pre x W1 hj hlen => yield_any (hY pre x W1 hj hlen)) (fun s X Y hs hg => hJ s X Y none hs hg (fun r e => by cases e)) A c ls rm xs k hC W (hw.trans (hW.mono hw.size)) hW.size
    ((hW.cell (World.block_lt_of_cell? w _ hl)).trans hl) ((hW.cell (World.block_lt_of_cell? w _ hr)).trans hr) h0 h (Nat.le_refl _)
theorem Kq.setCell {n₀ B : Nat} (W : World) {b : Nat} (v : Value) (h1 : n₀ ≤ b) (h2 : b < B) : Kq n₀ B W (W.setCell ⟨b, 0, none⟩ v) :=
  ⟨(Below.refl n₀ W).setCell (p := ⟨b, 0, none⟩) h1 v, fun k cs t fr hk h => (Below.heap_setCell W ⟨b, 0, none⟩ v k (by show k ≠ b; omega)).trans h⟩
theorem boxed_own (B : Nat) (t : TypeId) (f : List Pl → Value) : Own (fun s W => Boxed W B t (f s)) := by
  intro s X Y row hs hg hr
  refine hs.kept hg fun e => ?_
  obtain ⟨o, ho, hc⟩ := hr B e.symm
  rw [show X.heap[B]? = _ from hs] at ho
  cases ho
  cases hc
theorem wrap_len (pre : List Pl) (x : Pl) : wrap64 (wrap64 (pre.length : Int) + 1) = wrap64 (((pre ++ [x]).length : Nat) : Int) := by
  rw [List.length_append, List.length_singleton]
  unfold wrap64
  push_cast
  omega
theorem all_calls (A : Option Addr) (n c : Nat) (rm : Int) (w : World) : Calls Try.prog 15 #[.slice A n c, .int .i64 rm] w fun e w' => e = .returned (.func (.func 25) #[] #[.pointer (some ⟨w.heap.size, 0, none⟩), .pointer (some ⟨w.heap.size + 1, 0, none⟩)]) ∧ w' = (w.alloc (.cells #[.slice A n c] 23)).alloc (.cells #[.int .i64 rm] 3) := by
  have hmf : ∀ (fn : Fn) (first cap : Array Value) (w : World), (Instr.makeFunc fn first cap).run Try.prog w = .ok (.func fn first cap) w := by
    intros
    rfl
  go_enter Try.func15, Try.ntmps15
  go_wp2
  go_ret
  exact ⟨by first | rfl | simp, by first | rfl | simp⟩
set_option maxRecDepth 100000 in
set_option maxHeartbeats 2000000 in
theorem stmtsOk_walk (A : Option Addr) (c : Nat) (ls : List S48) (b : Bool) (xs : List I5) (k : Nat) (w : World) (hC : Kd.C k48 w A ls.length ls) (hc : ls.length ≤ c) (hb : impl_listOk.f k ls 3 (-1) = some b) (hx : b = true → allK k ls (-1) = some xs) :
    Calls Try.prog 11 #[.slice A ls.length c] w fun e w' => e = .returned (.bool (b && decide (wrap64 (xs.length : Int) ≤ 14))) ∧ Below w.heap.size w w' := by
  have hdd : ∀ k : Nat, (Fence.wide.depth.isSome = true → 1 ≤ k) := fun k h => by cases h
  have HC := Aside0.mk hC
  have HB := Aside0.mk hb
  have HX := Aside0.mk hx
  clear hC hb hx
  refine (callsIn_wide (n := 9)).1 ?_
  refine callsIn_of_wp_marks Try.func11 rfl trivial ?_ rfl
  simp only [Try.ntmps11, List.size_toArray, List.length_cons, List.length_nil, Nat.reduceAdd, Nat.reduceSub, Array.replicate_succ, Array.replicate_zero, List.push_toArray, List.append_toArray, List.nil_append, List.cons_append]
  gi_wp2
  refine ⟨trivial, ?_⟩
  refine (callsIn_wide.2 (impl_listOk.calls k A c ls 3 (-1) b w HC.out hc HB.out)).mono ?_
  rintro e W1 ⟨rfl, hb1⟩
  cases b with
  | false =>
    gi_wp2
    exact ⟨_, results_tmp rfl _ _ _, rfl, hb1⟩
  | true =>
    have HB1 := Aside0.mk hb1
    clear hb1
    gi_wp2
    refine ⟨trivial, ?_⟩
    refine (callsIn_wide.2 (all_calls A ls.length c (-1) _)).mono ?_
    rintro e W3 ⟨rfl, rfl⟩
    obtain ⟨W2, hW2⟩ : ∃ W2, W1.alloc (.cells #[.int .i64 0] 3) = W2 := ⟨_, rfl⟩
    rw [hW2]
    have hx := HX.out trivial
    clear HX
    have z1 : W2.heap.size = W1.heap.size + 1 := by rw [← hW2, size_alloc]
    have hm0 : W2.heap[W1.heap.size]? = some (.cells #[.int .i64 0] 3 (0, 0)) := by rw [← hW2]; exact blk_new W1 _
    have hB2 : Below w.heap.size w W2 := by rw [← hW2]; exact below_alloc HB1.out _
    obtain ⟨W3, hW3⟩ : ∃ W3, (W2.alloc (.cells #[.slice A ls.length c] 23)).alloc (.cells #[.int .i64 (-1)] 3) = W3 := ⟨_, rfl⟩
    have hB3 : Below w.heap.size w W3 := by rw [← hW3]; exact below_alloc (below_alloc hB2 _) _
    have z3 : W3.heap.size = W1.heap.size + 3 := by rw [← hW3, size_alloc, size_alloc, z1]
    have c1 : W3.cell? ⟨W2.heap.size, 0, none⟩ = some (.slice A ls.length c) := cell_of (by rw [← hW3]; exact blk_alloc (blk_new W2 _) _) 0 rfl
    have c2 : W3.cell? ⟨W2.heap.size + 1, 0, none⟩ = some (.int .i64 (-1)) := cell_of (by rw [← hW3, ← size_alloc W2 (.cells #[.slice A ls.length c] 23)]; exact blk_new _ _) 0 rfl
    have hm3 : W3.heap[W1.heap.size]? = some (.cells #[.int .i64 0] 3 (0, 0)) := by rw [← hW3]; exact blk_alloc (blk_alloc hm0 _) _
    rw [z1] at c1 c2
    have hs := all_stops w 8 (W1.heap.size + 1) (W1.heap.size + 1 + 1) A c ls (-1) xs k HC.out W3 hB3 c1 c2 hx
    have hle := HB1.out.size
    rw [hW3]
    have HS := Aside0.mk (And.intro hs (And.intro hx (And.intro hW2 hW3)))
    clear hs hx hW2 hW3
    gi_wp2
    refine wpIn_rangeFunc_ownF rfl (by omega) (gf := 25) (lb := #[.pointer (some ⟨W1.heap.size + 1, 0, none⟩), .pointer (some ⟨W1.heap.size + 1 + 1, 0, none⟩)]) rfl trivial (Go.Proofs.enters_of Try.func25 (by kernel_rfl) rfl)
      HS.out.1 (fun h k => Kq.t h k) (Kq.b (by omega)) (Below.refl _ _) (fun _ => rfl)
      (fun pre W => Boxed W W1.heap.size 3 (.int .i64 (wrap64 (pre.length : Int))) ∧ Below w.heap.size w W)
      (fun _ _ _ => False)
      (OwnFrom.and (Own.from (boxed_own W1.heap.size 3 (fun pre => .int .i64 (wrap64 (pre.length : Int)))) _) (ownFrom_below (Nat.le_refl _) (by omega)))
      (fun _ _ _ _ _ hs _ _ => hs)
      ⟨by rw [show wrap64 (([] : List Pl).length : Int) = 0 from by simp [wrap64]]; exact hm3, hB3⟩
      (fun x => { tmps := #[.slice A ls.length c, undef, .bool false, .pointer (some ⟨W1.heap.size, 0, none⟩), .slice A ls.length c, .bool true, .bool false, .slice A ls.length c, .func (.func 25) #[] #[.pointer (some ⟨W1.heap.size + 1, 0, none⟩), .pointer (some ⟨W1.heap.size + 1 + 1, 0, none⟩)], (.agg #[.int .i64 x.k, .int .i64 x.a, .int .i64 x.b, .int .i64 x.n, x.v4, x.v5, .int .i64 x.rm]), undef, undef, undef, undef], defers := [] }) ?assign ?body ?done ?stop
    case assign =>
      intro l x W K hK
      gi_wp2
      unfold Pl.enc
      simpa using hK
    case body =>
      rintro l pre x W ⟨hc, hb⟩ _
      have hcc := hc.cell
      have hff := hc.frozen
      gi_wp2
      refine ⟨KeepsOthers.setCell _ _ _, Kq.setCell _ _ (by omega) (by omega), ?_, hb.setCell (p := ⟨W1.heap.size, 0, none⟩) (by show w.heap.size ≤ W1.heap.size; omega) _⟩
      rw [← wrap_len]
      exact hc.set _
    case done =>
      rintro D ys W hD hS ⟨hc, hb⟩ hK
      have hcc := hc.cell
      gi_wp2
      refine ⟨by simp, .inl ⟨_, _, rfl, run_takeDeferred hK, ?_⟩⟩
      refine ⟨_, results_tmp rfl _ _ _, ?_, hb.trans (belowK_b (w := w) (Nat.le_refl _) W D _ _ (by omega) hK rfl rfl)⟩
      rw [show xs.length = ys.length by rw [← hS, List.length_map]]
      simp
    case stop =>
      rintro D c pre W _ _ h _
      exact h.elim
def impl_StmtsOk.f (k : Nat) (l0 : List S48) : Option Bool := (impl_listOk.f k l0 3 (-1)).bind fun b => if b = true then (allK k l0 (-1)).bind fun xs => some (decide (wrap64 (xs.length : Int) ≤ 14)) else some false
theorem impl_StmtsOk.calls (k : Nat) (A0 : Option Addr) (c0 : Nat) (l0 : List S48) (r : Bool) (w : World) (hr0 : Kd.C k48 w A0 l0.length l0) (hc0 : l0.length ≤ c0) (h : impl_StmtsOk.f k l0 = some r) :
    Calls Try.prog 11 #[.slice A0 l0.length c0] w fun e w' => e = .returned (.bool r) ∧ Below w.heap.size w w' := by
  obtain ⟨b, hb, h⟩ := Option.bind_eq_some_iff.1 h
  cases b with
  | false =>
    obtain rfl := Option.some.inj (show some false = some r by simpa using h)
    have q := stmtsOk_walk A0 c0 l0 false [] k w hr0 hc0 hb (fun h => by cases h)
    rw [Bool.false_and] at q
    exact q
  | true =>
    obtain ⟨xs, hx, h⟩ := Option.bind_eq_some_iff.1 (show ((allK k l0 (-1)).bind fun xs => some (decide (wrap64 (xs.length : Int) ≤ 14))) = some r by simpa using h)
    have q := stmtsOk_walk A0 c0 l0 true xs k w hr0 hc0 hb (fun _ => hx)
    rw [Bool.true_and, Option.some.inj h] at q
    exact q
set_option maxRecDepth 100000 in
set_option maxHeartbeats 2000000 in
theorem stmtsMany_walk (A : Option Addr) (c : Nat) (ls : List S48) (b : Bool) (xs : List I5) (k : Nat) (w : World) (hC : Kd.C k48 w A ls.length ls) (hc : ls.length ≤ c) (hb : impl_StmtsOk.f k ls = some b) (hx : b = true → allK k ls (-1) = some xs) :
    Calls Try.prog 6 #[.slice A ls.length c] w fun e w' => e = .returned (.int .i64 (if b = true then wrap64 (xs.length : Int) else 0)) ∧ Below w.heap.size w w' := by
  have hdd : ∀ k : Nat, (Fence.wide.depth.isSome = true → 1 ≤ k) := fun k h => by cases h
  have HC := Aside0.mk hC
  have HB := Aside0.mk hb
  have HX := Aside0.mk hx
  clear hC hb hx
  refine (callsIn_wide (n := 9)).1 ?_
  refine callsIn_of_wp_marks Try.func6 rfl trivial ?_ rfl
  simp only [Try.ntmps6, List.size_toArray, List.length_cons, List.length_nil, Nat.reduceAdd, Nat.reduceSub, Array.replicate_succ, Array.replicate_zero, List.push_toArray, List.append_toArray, List.nil_append, List.cons_append]
  gi_wp2
  refine ⟨trivial, ?_⟩
  refine (callsIn_wide.2 (impl_StmtsOk.calls k A c ls b w HC.out hc HB.out)).mono ?_
  rintro e W1 ⟨rfl, hb1⟩
  cases b with
  | false =>
    gi_wp2
    exact ⟨_, results_tmp rfl _ _ _, rfl, hb1⟩
  | true =>
    have HB1 := Aside0.mk hb1
    clear hb1
    gi_wp2
    refine ⟨trivial, ?_⟩
    refine (callsIn_wide.2 (all_calls A ls.length c (-1) _)).mono ?_
    rintro e W3 ⟨rfl, rfl⟩
    obtain ⟨W2, hW2⟩ : ∃ W2, W1.alloc (.cells #[.int .i64 0] 3) = W2 := ⟨_, rfl⟩
    rw [hW2]
    have hx := HX.out trivial
    clear HX
    have z1 : W2.heap.size = W1.heap.size + 1 := by rw [← hW2, size_alloc]
    have hm0 : W2.heap[W1.heap.size]? = some (.cells #[.int .i64 0] 3 (0, 0)) := by rw [← hW2]; exact blk_new W1 _
    have hB2 : Below w.heap.size w W2 := by rw [← hW2]; exact below_alloc HB1.out _
    obtain ⟨W3, hW3⟩ : ∃ W3, (W2.alloc (.cells #[.slice A ls.length c] 23)).alloc (.cells #[.int .i64 (-1)] 3) = W3 := ⟨_, rfl⟩
    have hB3 : Below w.heap.size w W3 := by rw [← hW3]; exact below_alloc (below_alloc hB2 _) _
    have z3 : W3.heap.size = W1.heap.size + 3 := by rw [← hW3, size_alloc, size_alloc, z1]
    have c1 : W3.cell? ⟨W2.heap.size, 0, none⟩ = some (.slice A ls.length c) := cell_of (by rw [← hW3]; exact blk_alloc (blk_new W2 _) _) 0 rfl
    have c2 : W3.cell? ⟨W2.heap.size + 1, 0, none⟩ = some (.int .i64 (-1)) := cell_of (by rw [← hW3, ← size_alloc W2 (.cells #[.slice A ls.length c] 23)]; exact blk_new _ _) 0 rfl
    have hm3 : W3.heap[W1.heap.size]? = some (.cells #[.int .i64 0] 3 (0, 0)) := by rw [← hW3]; exact blk_alloc (blk_alloc hm0 _) _
    rw [z1] at c1 c2
    have hs := all_stops w 8 (W1.heap.size + 1) (W1.heap.size + 1 + 1) A c ls (-1) xs k HC.out W3 hB3 c1 c2 hx
    have hle := HB1.out.size
    rw [hW3]
    have HS := Aside0.mk (And.intro hs (And.intro hx (And.intro hW2 hW3)))
    clear hs hx hW2 hW3
    gi_wp2
    refine wpIn_rangeFunc_ownF rfl (by omega) (gf := 25) (lb := #[.pointer (some ⟨W1.heap.size + 1, 0, none⟩), .pointer (some ⟨W1.heap.size + 1 + 1, 0, none⟩)]) rfl trivial (Go.Proofs.enters_of Try.func25 (by kernel_rfl) rfl)
      HS.out.1 (fun h k => Kq.t h k) (Kq.b (by omega)) (Below.refl _ _) (fun _ => rfl)
      (fun pre W => Boxed W W1.heap.size 3 (.int .i64 (wrap64 (pre.length : Int))) ∧ Below w.heap.size w W)
      (fun _ _ _ => False)
      (OwnFrom.and (Own.from (boxed_own W1.heap.size 3 (fun pre => .int .i64 (wrap64 (pre.length : Int)))) _) (ownFrom_below (Nat.le_refl _) (by omega)))
      (fun _ _ _ _ _ hs _ _ => hs)
      ⟨by rw [show wrap64 (([] : List Pl).length : Int) = 0 from by simp [wrap64]]; exact hm3, hB3⟩
      (fun x => { tmps := #[.slice A ls.length c, undef, .int .i64 0, .pointer (some ⟨W1.heap.size, 0, none⟩), .slice A ls.length c, .bool true, .bool false, .slice A ls.length c, .func (.func 25) #[] #[.pointer (some ⟨W1.heap.size + 1, 0, none⟩), .pointer (some ⟨W1.heap.size + 1 + 1, 0, none⟩)], (.agg #[.int .i64 x.k, .int .i64 x.a, .int .i64 x.b, .int .i64 x.n, x.v4, x.v5, .int .i64 x.rm]), undef, undef, undef], defers := [] }) ?assign ?body ?done ?stop
    case assign =>
      intro l x W K hK
      gi_wp2
      unfold Pl.enc
      simpa using hK
    case body =>
      rintro l pre x W ⟨hc, hb⟩ _
      have hcc := hc.cell
      have hff := hc.frozen
      gi_wp2
      refine ⟨KeepsOthers.setCell _ _ _, Kq.setCell _ _ (by omega) (by omega), ?_, hb.setCell (p := ⟨W1.heap.size, 0, none⟩) (by show w.heap.size ≤ W1.heap.size; omega) _⟩
      rw [← wrap_len]
      exact hc.set _
    case done =>
      rintro D ys W hD hS ⟨hc, hb⟩ hK
      have hcc := hc.cell
      gi_wp2
      refine ⟨by simp, .inl ⟨_, _, rfl, run_takeDeferred hK, ?_⟩⟩
      refine ⟨_, results_tmp rfl _ _ _, ?_, hb.trans (belowK_b (w := w) (Nat.le_refl _) W D _ _ (by omega) hK rfl rfl)⟩
      rw [show xs.length = ys.length by rw [← hS, List.length_map]]
      simp
    case stop =>
      rintro D c pre W _ _ h _
      exact h.elim
def impl_StmtsMany.f (k : Nat) (l0 : List S48) : Option Int := (impl_StmtsOk.f k l0).bind fun b => if b = true then (allK k l0 (-1)).bind fun xs => some (wrap64 (xs.length : Int)) else some 0
theorem impl_StmtsMany.calls (k : Nat) (A0 : Option Addr) (c0 : Nat) (l0 : List S48) (r : Int) (w : World) (hr0 : Kd.C k48 w A0 l0.length l0) (hc0 : l0.length ≤ c0) (h : impl_StmtsMany.f k l0 = some r) :
    Calls Try.prog 6 #[.slice A0 l0.length c0] w fun e w' => e = .returned (.int .i64 r) ∧ Below w.heap.size w w' := by
  obtain ⟨b, hb, h⟩ := Option.bind_eq_some_iff.1 h
  cases b with
  | false =>
    obtain rfl := Option.some.inj (show some 0 = some r by simpa using h)
    have q := stmtsMany_walk A0 c0 l0 false [] k w hr0 hc0 hb (fun h => by cases h)
    rw [if_neg (by simp)] at q
    exact q
  | true =>
    obtain ⟨xs, hx, h⟩ := Option.bind_eq_some_iff.1 (show ((allK k l0 (-1)).bind fun xs => some (wrap64 (xs.length : Int))) = some r by simpa using h)
    have q := stmtsMany_walk A0 c0 l0 true xs k w hr0 hc0 hb (fun _ => hx)
    rw [if_pos rfl, Option.some.inj h] at q
    exact q
end Go.Proofs.Ytjplhicpfeplgaa.P

namespace Go.Proofs.Ytjplhicpfeplgaa.P
open Go.RowKit Go.Maps Go.Proofs.YtjplhicpfeplgaaW.PrintWords Go.Proofs.YtjplhicpfeplgaaW.PrintLast Go.Proofs.YtjplhicpfeplgaaW.PrintMore
attribute [local go_sem] max2_int min2_int max_two min_two max_three min_three max_four min_four
set_option linter.unusedVariables false
set_option linter.unusedSimpArgs false
def listG {α : Type} (T : α → Option Bool) : List α → Option Bool
  | [] => some true
  | x :: t => (T x).bind fun b => if b = true then listG T t else some false
theorem progOk1_calls (k : Nat) (A : Option Addr) (c : Nat) (l : List S48) (r : Bool) (w : World) (hr : Kd.C k48 w A l.length l) (hc : l.length ≤ c) (h : impl_StmtsOk.f k l = some r) :
    Calls Try.prog 18 #[.slice A l.length c] w fun e w' => e = .returned (.bool (!r)) ∧ Below w.heap.size w w' := by
  have HI := Aside0.mk (impl_StmtsOk.calls k A c l r w hr hc h)
  clear hr h
  go_enter Try.func18, Try.ntmps18
  go_wp2_with (go_at_call 11; refine HI.out.mono ?_; rintro e w' ⟨rfl, hb⟩; have HB := Aside0.mk hb; clear hb)
  go_ret
  exact ⟨by first | rfl | (simp; done), (by repeat (first | exact HB.out | (with_reducible apply pw_below_drewN) | (with_reducible apply below_drew1) | (with_reducible apply below_alloc) | exact Below.refl _ _))⟩
set_option maxHeartbeats 4000000 in
theorem pgIdx_calls (k : Nat) (A : Option Addr) (c : Nat) (l : List (List S48)) (r : Bool) (w : World) (hr : Kd.C (Kd.slice 48 k48) w A l.length l) (h : listG (impl_StmtsOk.f k) l = some r) :
    Calls Try.prog 27 #[.slice A l.length c, .func (.func 18) #[] #[]] w fun e w' => (∃ i : Int, e = .returned (.int .i64 i) ∧ decide (0 ≤ i) = !r) ∧ Below w.heap.size w w' := by
  have HR := Aside0.mk hr
  have H := Aside0.mk h
  have hl : l.length ≤ 9223372036854775807 := hr.2.1
  clear hr h
  go_enter Try.func27, Try.ntmps27
  go_wp2
  go_loopg [5, 8] l.length (fun gg _ s8 wr => ∃ kk : Nat, kk ≤ l.length ∧ l.length - kk ≤ gg ∧ s8 = .int .i64 kk ∧ Aside0 (listG (impl_StmtsOk.f k) (l.drop kk) = some r) ∧ Aside0 (Below w.heap.size w wr))
  case atStart => exact ⟨0, Nat.zero_le _, by omega, rfl, H, ⟨Below.refl _ w⟩⟩
  case round =>
    obtain ⟨kk, hkk, hg, rfl, HA, HB⟩ := hrel
    clear H
    by_cases hlt : kk < l.length
    · have hltz : decide ((kk : Int) < (l.length : Int)) = true := decide_eq_true (by omega)
      have p1 : 0 ≤ (kk : Int) := by omega
      have q1 : (kk : Int) < (l.length : Int) := by omega
      obtain ⟨ad, cs, e1, _, hK, hc0⟩ := Kd.C_get (Kd.C_below HR.out HB.out) ([] : List S48) (kk : Int) p1 q1
      obtain ⟨A0, c0, rfl, hc0', H0⟩ := hK
      have hq : wr.cell? (ad.add ((kk : Int).toNat * 1 + 0)) = some (.slice A0 (l.getD (kk : Int).toNat []).length c0) := hc0 0 _ rfl
      rw [Nat.mul_one, Nat.add_zero, Int.toNat_natCast] at hq
      rw [Int.toNat_natCast] at hc0' H0
      clear hc0
      cases e1
      have ex : l.drop kk = l.getD kk [] :: l.drop (kk + 1) := by
        rw [List.drop_eq_getElem_cons hlt, List.getD_eq_getElem?_getD, List.getElem?_eq_getElem hlt]
        rfl
      have ha := HA.out
      rw [ex] at ha
      clear HA ex
      obtain ⟨b, hb1, hb2⟩ := Option.bind_eq_some_iff.1 ha
      clear ha
      generalize l.getD kk [] = x at *
      have HC := Aside0.mk (fun W h0 => progOk1_calls k A0 c0 x b W h0 hc0' hb1)
      have HH := Aside0.mk H0
      clear hb1 H0
      replace p1 := eq_true p1
      replace q1 := eq_true q1
      cases b with
      | false =>
        obtain rfl := Option.some.inj (show some false = some r by simpa using hb2)
        clear hb2
        go_wp2_with (go_at_call 18; refine (HC.out _ HH.out).mono ?_; rintro e w' ⟨rfl, hb'⟩; have n2 := Aside0.mk (below_step HB.out hb'); clear HB HC hb' hq; have HB := n2; clear n2)
        go_ret
        exact ⟨⟨(kk : Int), rfl, by rw [decide_eq_true (by omega : (0 : Int) ≤ kk)]; rfl⟩, (by repeat (first | exact HB.out | (with_reducible apply pw_below_drewN) | (with_reducible apply below_drew1) | (with_reducible apply below_alloc) | exact Below.refl _ _))⟩
      | true =>
        have HN := Aside0.mk (show listG (impl_StmtsOk.f k) (l.drop (kk + 1)) = some r by simpa using hb2)
        clear hb2
        go_wp2_with (go_at_call 18; refine (HC.out _ HH.out).mono ?_; rintro e w' ⟨rfl, hb'⟩; have n2 := Aside0.mk (below_step HB.out hb'); clear HB HC hb' hq; have HB := n2; clear n2)
        go_roundg (l.length - (kk + 1))
        case measure => omega
        case rel => exact ⟨kk + 1, by omega, by omega, by go_num, HN, ⟨(by repeat (first | exact HB.out | (with_reducible apply pw_below_drewN) | (with_reducible apply below_drew1) | (with_reducible apply below_alloc) | exact Below.refl _ _))⟩⟩
    · have hltz : decide ((kk : Int) < (l.length : Int)) = false := decide_eq_false (by omega)
      have ha := HA.out
      rw [List.drop_of_length_le (by omega)] at ha
      obtain rfl := Option.some.inj (show some true = some r from ha)
      clear ha HA
      go_wp2
      go_ret
      exact ⟨⟨-1, rfl, by rw [decide_eq_false (by omega)]; rfl⟩, (by repeat (first | exact HB.out | (with_reducible apply pw_below_drewN) | (with_reducible apply below_drew1) | (with_reducible apply below_alloc) | exact Below.refl _ _))⟩
theorem pgAny_calls (k : Nat) (A : Option Addr) (c : Nat) (l : List (List S48)) (r : Bool) (w : World) (hr : Kd.C (Kd.slice 48 k48) w A l.length l) (h : listG (impl_StmtsOk.f k) l = some r) :
    Calls Try.prog 17 #[.slice A l.length c, .func (.func 18) #[] #[]] w fun e w' => e = .returned (.bool (!r)) ∧ Below w.heap.size w w' := by
  have HI := Aside0.mk (pgIdx_calls k A c l r w hr h)
  clear hr h
  go_enter Try.func17, Try.ntmps17
  go_wp2_with (go_at_call 27; refine HI.out.mono ?_; rintro e w' ⟨⟨i, rfl, hi⟩, hb⟩; have HB := Aside0.mk hb; clear hb)
  go_ret
  exact ⟨by first | rfl | rw [hi], (by repeat (first | exact HB.out | (with_reducible apply pw_below_drewN) | (with_reducible apply below_drew1) | (with_reducible apply below_alloc) | exact Below.refl _ _))⟩
def impl_ProgOk.f (k : Nat) (l0 : List (List S48)) : Option Bool := if 1 ≤ (l0.length : Int) then if (l0.length : Int) ≤ 3 then listG (impl_StmtsOk.f k) l0 else some false else some false
set_option maxHeartbeats 2000000 in
theorem impl_ProgOk.calls (k : Nat) (A0 : Option Addr) (c0 : Nat) (l0 : List (List S48)) (r : Bool) (w : World) (hr0 : Kd.C (Kd.slice 48 k48) w A0 l0.length l0) (hc0 : l0.length ≤ c0) (h : impl_ProgOk.f k l0 = some r) :
    Calls Try.prog 8 #[.slice A0 l0.length c0] w fun e w' => e = .returned (.bool r) ∧ Below w.heap.size w w' := by
  have HR := Aside0.mk hr0
  clear hr0
  unfold impl_ProgOk.f at h
  by_cases h1 : 1 ≤ (l0.length : Int)
  · have b1 : decide (1 ≤ (l0.length : Int)) = true := decide_eq_true h1
    rw [if_pos h1] at h
    by_cases h2 : (l0.length : Int) ≤ 3
    · have b2 : decide ((l0.length : Int) ≤ 3) = true := decide_eq_true h2
      rw [if_pos h2] at h
      have HI := Aside0.mk (fun W hW => pgAny_calls k A0 c0 l0 r W hW h)
      clear h1 h2 h
      go_enter Try.func8, Try.ntmps8
      go_wp2_with (go_at_call 17; refine (HI.out _ HR.out).mono ?_; rintro e w' ⟨rfl, hb⟩; have HB := Aside0.mk hb; clear hb)
      go_ret
      exact ⟨by first | rfl | (simp; done), (by repeat (first | exact HB.out | (with_reducible apply pw_below_drewN) | (with_reducible apply below_drew1) | (with_reducible apply below_alloc) | exact Below.refl _ _))⟩
    · have b2 : decide ((l0.length : Int) ≤ 3) = false := decide_eq_false h2
      rw [if_neg h2] at h
      obtain rfl := Option.some.inj h
      clear h1 h2 h
      go_enter Try.func8, Try.ntmps8
      go_wp2
      go_ret
      exact ⟨by first | rfl | (simp; done), (by repeat (first | (with_reducible apply pw_below_drewN) | (with_reducible apply below_drew1) | (with_reducible apply below_alloc) | exact Below.refl _ _))⟩
  · have b1 : decide (1 ≤ (l0.length : Int)) = false := decide_eq_false h1
    rw [if_neg h1] at h
    obtain rfl := Option.some.inj h
    clear h1 h
    go_enter Try.func8, Try.ntmps8
    go_wp2
    go_ret
    exact ⟨by first | rfl | (simp; done), (by repeat (first | (with_reducible apply pw_below_drewN) | (with_reducible apply below_drew1) | (with_reducible apply below_alloc) | exact Below.refl _ _))⟩
end Go.Proofs.Ytjplhicpfeplgaa.P

namespace Go.Proofs.Ytjplhicpfeplgaa.P
open Go.RowKit Go.Proofs.YtjplhicpfeplgaaW.PrintWords Go.Proofs.YtjplhicpfeplgaaW.PrintLast Go.Proofs.YtjplhicpfeplgaaW.PrintMore
attribute [local go_sem] max2_int min2_int max_two min_two max_three min_three max_four min_four
set_option linter.unusedVariables false
set_option linter.unusedSimpArgs false
mutual
def laws_FnProgFirst.j0 : Nat → List (S48) → List (List (S48)) → Int → Bool → Option (Bool)
  | 0, _, _, _, _ => none
  | k + 1, x3, x4, x5, x25 => if x25 = true then (some false) else ((spec_ProgOk.f k x4).bind fun t310 => (if t310 = true then (if (x4.length : Int) > 1 then (if 0 ≤ (wrap64 ((x4.length : Int) - 1)) then (if (wrap64 ((x4.length : Int) - 1)) ≤ (x4.length : Int) then ((impl_ProgOk.f k (x4.take ((wrap64 ((x4.length : Int) - 1)) : Int).toNat)).bind fun t316 => (laws_FnProgFirst.j1 k x3 x5 (!t316))) else (none)) else (none)) else (laws_FnProgFirst.j1 k x3 x5 false)) else (laws_FnProgFirst.j1 k x3 x5 false)))
def laws_FnProgFirst.j1 : Nat → List (S48) → Int → Bool → Option (Bool)
  | 0, _, _, _ => none
  | k + 1, x3, x5, x41 => if x41 = true then (some false) else ((spec_StmtsOk.f k x3).bind fun t317 => (if t317 = true then (laws_FnProgFirst.j2 k x3 x5 ((x3.length : Int) == 0)) else (laws_FnProgFirst.j2 k x3 x5 true)))
def laws_FnProgFirst.j2 : Nat → List (S48) → Int → Bool → Option (Bool)
  | 0, _, _, _ => none
  | k + 1, x3, x5, x49 => if x49 = true then (some true) else (if 1 ≤ (x3.length : Int) then ((impl_StmtsOk.f k (x3.drop 1)).bind fun t323 => (if t323 = true then ((impl_StmtsMany.f k (x3.drop 1)).bind fun t329 => (some (decide (t329 < x5)))) else (some false))) else (none))
end
def laws_FnProgFirst.f (k : Nat) (l0 : List Int) : Option (Bool) := if (l0.length : Int) > 1048576 then (some true) else ((spec_DrawStmtsMany.f k l0).bind fun t300 => ((spec_DrawProgOk.f k l0).bind fun t303 => ((impl_StmtsMany.f k t300).bind fun t306 => ((spec_StmtsMany.f k t300).bind fun t307 => (if t306 = t307 then ((impl_ProgOk.f k t303).bind fun t308 => ((spec_ProgOk.f k t303).bind fun t309 => (laws_FnProgFirst.j0 k t300 t303 t306 (t308 != t309)))) else (laws_FnProgFirst.j0 k t300 t303 t306 true))))))
set_option maxHeartbeats 8000000 in
set_option maxRecDepth 100000 in
theorem laws_FnProgFirst.calls (k : Nat) (A0 : Option Addr) (c0 : Nat) (l0 : List Int) (r : Bool) (w : World) (hr0 : Kd.C (Kd.int .u8) w A0 l0.length l0) (hc0 : l0.length ≤ c0) (h : laws_FnProgFirst.f k l0 = some r) :
    Calls Try.prog 3 #[.slice A0 l0.length c0] w fun e w' => e = .returned (.bool r) ∧ Below w.heap.size w w' := by
  have HR0 := Aside0.mk hr0; have HC0 := Aside0.mk hc0; clear hr0 hc0; have HB := Aside0.mk (Below.refl w.heap.size w); have H : (if (l0.length : Int) > 1048576 then (some true) else ((spec_DrawStmtsMany.f k l0).bind fun t300 => ((spec_DrawProgOk.f k l0).bind fun t303 => ((impl_StmtsMany.f k t300).bind fun t306 => ((spec_StmtsMany.f k t300).bind fun t307 => (if t306 = t307 then ((impl_ProgOk.f k t303).bind fun t308 => ((spec_ProgOk.f k t303).bind fun t309 => (laws_FnProgFirst.j0 k t300 t303 t306 (t308 != t309)))) else (laws_FnProgFirst.j0 k t300 t303 t306 true))))))) = some r := h; clear h
  by_cases c2 : (l0.length : Int) > 1048576
  · rw [if_pos c2] at H; have c2b0 : decide (1048576 < (l0.length : Int)) = true := decide_eq_true c2
    have c2b1 : decide (1048576 < l0.length) = true := decide_eq_true (by omega)
    clear c2; obtain rfl := Option.some.inj H; go_enter Try.func3, Try.ntmps3
    go_wp2
    go_ret
    exact ⟨by first | rfl | (simp [errW_none, errW_some] <;> rfl) | (simp [*, errW_none, errW_some] <;> rfl), by repeat (first | (with_reducible first | exact HB.out | apply below_alloc | apply pw_below_drewN | apply below_drew1) | exact HB.out)⟩
  · rw [if_neg c2] at H; have c2b0 : decide (1048576 < (l0.length : Int)) = false := decide_eq_false c2
    have c2b1 : decide (1048576 < l0.length) = false := decide_eq_false (by omega)
    clear c2; replace H := Option.bind_eq_some_iff.mp H; obtain ⟨t300, A30, H⟩ := H; replace H : ((spec_DrawProgOk.f k l0).bind fun t303 => ((impl_StmtsMany.f k t300).bind fun t306 => ((spec_StmtsMany.f k t300).bind fun t307 => (if t306 = t307 then ((impl_ProgOk.f k t303).bind fun t308 => ((spec_ProgOk.f k t303).bind fun t309 => (laws_FnProgFirst.j0 k t300 t303 t306 (t308 != t309)))) else (laws_FnProgFirst.j0 k t300 t303 t306 true))))) = some r := H; have A3 := Aside0.mk A30; clear A30; replace H := Option.bind_eq_some_iff.mp H; obtain ⟨t303, A40, H⟩ := H; replace H : ((impl_StmtsMany.f k t300).bind fun t306 => ((spec_StmtsMany.f k t300).bind fun t307 => (if t306 = t307 then ((impl_ProgOk.f k t303).bind fun t308 => ((spec_ProgOk.f k t303).bind fun t309 => (laws_FnProgFirst.j0 k t300 t303 t306 (t308 != t309)))) else (laws_FnProgFirst.j0 k t300 t303 t306 true)))) = some r := H; have A4 := Aside0.mk A40; clear A40; replace H := Option.bind_eq_some_iff.mp H; obtain ⟨t306, A50, H⟩ := H; replace H : ((spec_StmtsMany.f k t300).bind fun t307 => (if t306 = t307 then ((impl_ProgOk.f k t303).bind fun t308 => ((spec_ProgOk.f k t303).bind fun t309 => (laws_FnProgFirst.j0 k t300 t303 t306 (t308 != t309)))) else (laws_FnProgFirst.j0 k t300 t303 t306 true))) = some r := H; have A5 := Aside0.mk A50; clear A50; have HC6 := Aside0.mk H; clear H; go_enter Try.func3, Try.ntmps3
    go_upto_region 6 with (first | ((with_reducible refine gate_callee (f := 4) rfl ?_); refine goesM_ (some 10) Try.func4 #[.slice A0 l0.length c0] ?_; (with_reducible refine (spec_DrawStmtsMany.calls k _ _ l0 t300 _ ?side1 ?side2 A3.out).mono ?_); (case side1 => repeat (first | exact HR0.out | (with_reducible refine Kd.C_alloc ?_ _) | (with_reducible refine Kd.C_drewN ?_ _) | (with_reducible refine Kd.C_drew ?_))); (case side2 => exact HC0.out); rintro e w7 ⟨v301, rfl, ho0, hb⟩; refine ⟨_, rfl, ?_⟩; have n0_ := Aside0.mk (Kd.N_lower (Kd.N_mono (ok' := fun k_ => True) ho0 (fun k_ hk_ => trivial)) (below_size (q0_ HB))); have n1_ := Aside0.mk (below_step (q0_ HB) hb); clear HB; have HO302 := n0_; have HB := n1_; clear n0_ n1_; (try clear hb); (try clear hb2); (try clear hk); (try clear hi); (try clear ho0)) | ((with_reducible refine gate_callee (f := 5) rfl ?_); refine goesM_ (some 12) Try.func5 #[.slice A0 l0.length c0] ?_; (with_reducible refine (spec_DrawProgOk.calls k _ _ l0 t303 _ ?side1 ?side2 A4.out).mono ?_); (case side1 => repeat (first | exact (Kd.C_below HR0.out HB.out) | (with_reducible refine Kd.C_alloc ?_ _) | (with_reducible refine Kd.C_drewN ?_ _) | (with_reducible refine Kd.C_drew ?_))); (case side2 => exact HC0.out); rintro e w8 ⟨v304, rfl, ho0, hb⟩; refine ⟨_, rfl, ?_⟩; have n0_ := Aside0.mk (Kd.N_elder' (q5_ HO302) (Kd.N_base ho0) hb); have n1_ := Aside0.mk (Kd.N_lower (Kd.N_mono (ok' := fun k_ => some k_ ≠ (v301 : Value).ownBlock) ho0 (fun k_ hk_ => (Kd.fresh' (Kd.N_lt (q5_ HO302)) k_ hk_))) (below_size (q0_ HB))); have n2_ := Aside0.mk (below_step (q0_ HB) hb); clear HO302; clear HB; have HO302 := n0_; have HO305 := n1_; have HB := n2_; clear n0_ n1_ n2_; (try clear hb); (try clear hb2); (try clear hk); (try clear hi); (try clear ho0); obtain ⟨Ao9, co9, eo9⟩ := Kd.N_slice HO302.out; subst eo9) | ((with_reducible refine gate_callee (f := 6) rfl ?_); refine goesM_ (some 14) Try.func6 #[.slice Ao9 t300.length co9] ?_; (with_reducible refine (impl_StmtsMany.calls k _ _ t300 t306 _ ?side1 ?side2 A5.out).mono ?_); (case side1 => repeat (first | exact (Kd.N_reads' HO302.out).2.2 | (with_reducible refine Kd.C_alloc ?_ _) | (with_reducible refine Kd.C_drewN ?_ _) | (with_reducible refine Kd.C_drew ?_))); (case side2 => exact (Kd.N_reads' HO302.out).2.1); rintro e w10 ⟨rfl, hb⟩; refine ⟨_, rfl, ?_⟩; have n0_ := Aside0.mk (Kd.N_below (q5_ HO302) hb); have n1_ := Aside0.mk (Kd.N_below (q5_ HO305) hb); have n2_ := Aside0.mk (below_step (q0_ HB) hb); clear HO302; clear HO305; clear HB; have HO302 := n0_; have HO305 := n1_; have HB := n2_; clear n0_ n1_ n2_; (try clear hb); (try clear hb2); (try clear hk); (try clear hi)))
    (try simp only [Act.put, List.setIfInBounds_toArray, List.set_cons_zero, List.set_cons_succ])
    go_cut [25] (fun v25 wc => ∃ (kq : Nat) (x25_5 : Bool), v25 = .bool x25_5 ∧ Aside0 (laws_FnProgFirst.j0 kq t300 t303 t306 x25_5 = some r) ∧ Aside0 (kq ≤ k) ∧ Aside0 (Kd.N k48 48 wc w.heap.size (fun k_ => some k_ ≠ (v304 : Value).ownBlock) (.slice Ao9 t300.length co9) t300) ∧ Aside0 (Kd.N (Kd.slice 48 k48) 23 wc w.heap.size (fun k_ => some k_ ≠ ((.slice Ao9 t300.length co9) : Value).ownBlock) v304 t303) ∧ Aside0 (Below w.heap.size w wc))
    case first =>
      have H := HC6.out; clear HC6; replace H := Option.bind_eq_some_iff.mp H; obtain ⟨t307, A110, H⟩ := H; replace H : (if t306 = t307 then ((impl_ProgOk.f k t303).bind fun t308 => ((spec_ProgOk.f k t303).bind fun t309 => (laws_FnProgFirst.j0 k t300 t303 t306 (t308 != t309)))) else (laws_FnProgFirst.j0 k t300 t303 t306 true)) = some r := H; have A11 := Aside0.mk A110; clear A110
      by_cases c12 : t306 = t307
      · rw [if_pos c12] at H; have c12b0 : (t306 == t307) = true := beq_iff_eq.mpr c12; have c12b1 : (t306 != t307) = false := bne_eq_false_iff_eq.mpr c12; clear c12
        (first | rw [c12b0] | (simp only [i64_w, i32_w]; rw [c12b0]) | skip)
        replace H := Option.bind_eq_some_iff.mp H; obtain ⟨t308, A130, H⟩ := H; replace H : ((spec_ProgOk.f k t303).bind fun t309 => (laws_FnProgFirst.j0 k t300 t303 t306 (t308 != t309))) = some r := H; have A13 := Aside0.mk A130; clear A130; replace H := Option.bind_eq_some_iff.mp H; obtain ⟨t309, A140, H⟩ := H; replace H : (laws_FnProgFirst.j0 k t300 t303 t306 (t308 != t309)) = some r := H; have A14 := Aside0.mk A140; clear A140; have H' := Aside0.mk H; clear H
        go_wp2_with (first | ((with_reducible refine gate_callee (f := 7) rfl ?_); refine goesM_ (some 17) Try.func7 #[.slice Ao9 t300.length co9] ?_; (with_reducible refine (spec_StmtsMany.calls k _ _ t300 t307 _ ?side1 ?side2 A11.out).mono ?_); (case side1 => repeat (first | exact (Kd.N_reads' HO302.out).2.2 | (with_reducible refine Kd.C_alloc ?_ _) | (with_reducible refine Kd.C_drewN ?_ _) | (with_reducible refine Kd.C_drew ?_))); (case side2 => exact (Kd.N_reads' HO302.out).2.1); rintro e w15 ⟨rfl, hb⟩; refine ⟨_, rfl, ?_⟩; have n0_ := Aside0.mk (Kd.N_below (q5_ HO302) hb); have n1_ := Aside0.mk (Kd.N_below (q5_ HO305) hb); have n2_ := Aside0.mk (below_step (q0_ HB) hb); clear HO302; clear HO305; clear HB; have HO302 := n0_; have HO305 := n1_; have HB := n2_; clear n0_ n1_ n2_; (try clear hb); (try clear hb2); (try clear hk); (try clear hi); obtain ⟨Ao16, co16, eo16⟩ := Kd.N_slice HO305.out; subst eo16) | (go_at_call 8; (with_reducible refine (impl_ProgOk.calls k _ _ t303 t308 _ ?side1 ?side2 A13.out).mono ?_); (case side1 => repeat (first | exact (Kd.N_reads' HO305.out).2.2 | (with_reducible refine Kd.C_alloc ?_ _) | (with_reducible refine Kd.C_drewN ?_ _) | (with_reducible refine Kd.C_drew ?_))); (case side2 => exact (Kd.N_reads' HO305.out).2.1); rintro e w17 ⟨rfl, hb⟩; have n0_ := Aside0.mk (Kd.N_below (q5_ HO302) hb); have n1_ := Aside0.mk (Kd.N_below (q5_ HO305) hb); have n2_ := Aside0.mk (below_step (q0_ HB) hb); clear HO302; clear HO305; clear HB; have HO302 := n0_; have HO305 := n1_; have HB := n2_; clear n0_ n1_ n2_; (try clear hb); (try clear hb2); (try clear hk); (try clear hi)) | (go_at_call 9; (with_reducible refine (spec_ProgOk.calls k _ _ t303 t309 _ ?side1 ?side2 A14.out).mono ?_); (case side1 => repeat (first | exact (Kd.N_reads' HO305.out).2.2 | (with_reducible refine Kd.C_alloc ?_ _) | (with_reducible refine Kd.C_drewN ?_ _) | (with_reducible refine Kd.C_drew ?_))); (case side2 => exact (Kd.N_reads' HO305.out).2.1); rintro e w18 ⟨rfl, hb⟩; have n0_ := Aside0.mk (Kd.N_below (q5_ HO302) hb); have n1_ := Aside0.mk (Kd.N_below (q5_ HO305) hb); have n2_ := Aside0.mk (below_step (q0_ HB) hb); clear HO302; clear HO305; clear HB; have HO302 := n0_; have HO305 := n1_; have HB := n2_; clear n0_ n1_ n2_; (try clear hb); (try clear hb2); (try clear hk); (try clear hi)))
        go_meet
        case rel => exact ⟨_, ((t308 != t309)), (by first | rfl | (simp; done) | (simp [*]; done)), H', ⟨by first | omega | exact Nat.le_refl _⟩, ⟨by (with_reducible repeat (first | apply Kd.N_alloc | apply Kd.N_drewN | apply Kd.N_drew)); exact Kd.N_mono HO302.out (fun _ hk => hk.2)⟩, ⟨by (with_reducible repeat (first | apply Kd.N_alloc | apply Kd.N_drewN | apply Kd.N_drew)); exact HO305.out⟩, ⟨by repeat (first | (with_reducible first | exact HB.out | apply below_alloc | apply pw_below_drewN | apply below_drew1) | exact HB.out)⟩⟩
      · rw [if_neg c12] at H; have c12b0 : (t306 == t307) = false := beq_eq_false_iff_ne.mpr c12; have c12b1 : (t306 != t307) = true := bne_iff_ne.mpr c12
        (first | rw [c12b0] | (simp only [i64_w, i32_w]; rw [c12b0]) | skip)
        have H' := Aside0.mk H; clear H
        go_wp2_with (first | ((with_reducible refine gate_callee (f := 7) rfl ?_); refine goesM_ (some 17) Try.func7 #[.slice Ao9 t300.length co9] ?_; (with_reducible refine (spec_StmtsMany.calls k _ _ t300 t307 _ ?side1 ?side2 A11.out).mono ?_); (case side1 => repeat (first | exact (Kd.N_reads' HO302.out).2.2 | (with_reducible refine Kd.C_alloc ?_ _) | (with_reducible refine Kd.C_drewN ?_ _) | (with_reducible refine Kd.C_drew ?_))); (case side2 => exact (Kd.N_reads' HO302.out).2.1); rintro e w19 ⟨rfl, hb⟩; refine ⟨_, rfl, ?_⟩; have n0_ := Aside0.mk (Kd.N_below (q5_ HO302) hb); have n1_ := Aside0.mk (Kd.N_below (q5_ HO305) hb); have n2_ := Aside0.mk (below_step (q0_ HB) hb); clear HO302; clear HO305; clear HB; have HO302 := n0_; have HO305 := n1_; have HB := n2_; clear n0_ n1_ n2_; (try clear hb); (try clear hb2); (try clear hk); (try clear hi)))
        go_meet
        case rel => exact ⟨_, (true), (by first | rfl | (simp; done) | (simp [*]; done)), H', ⟨by first | omega | exact Nat.le_refl _⟩, ⟨by (with_reducible repeat (first | apply Kd.N_alloc | apply Kd.N_drewN | apply Kd.N_drew)); exact Kd.N_mono HO302.out (fun _ hk => hk.2)⟩, ⟨by (with_reducible repeat (first | apply Kd.N_alloc | apply Kd.N_drewN | apply Kd.N_drew)); exact HO305.out⟩, ⟨by repeat (first | (with_reducible first | exact HB.out | apply below_alloc | apply pw_below_drewN | apply below_drew1) | exact HB.out)⟩⟩
    case rest =>
      clear HC6; (try clear c1); (try clear c2); (try clear c2b0); (try clear c2b1); (try clear p2); (try clear c3); (try clear c4); (try clear c5); (try clear c6); (try clear c7); (try clear c12); (try clear c12b0); (try clear c12b1); obtain ⟨kq, x25_5, rfl, HA, HJ5, HO_3, HO_4, HB⟩ := hcut
      cases kq with
      | zero => exact absurd HA.out (by simp [laws_FnProgFirst.j0])
      | succ kj5 =>
        have H := HA.out; clear HA; simp only [laws_FnProgFirst.j0] at H
        by_cases c20 : x25_5 = true
        · subst c20
          have H1 : (some false) = some r := by rw [if_pos rfl] at H; exact H
          clear H; have H := H1; clear H1; obtain rfl := Option.some.inj H
          go_wp2
          go_ret
          exact ⟨by first | rfl | (simp [errW_none, errW_some] <;> rfl) | (simp [*, errW_none, errW_some] <;> rfl), by repeat (first | (with_reducible first | exact HB.out | apply below_alloc | apply pw_below_drewN | apply below_drew1) | exact HB.out)⟩
        · replace c20 := Bool.eq_false_iff.mpr c20; subst c20
          have H1 : ((spec_ProgOk.f kj5 t303).bind fun t310 => (if t310 = true then (if (t303.length : Int) > 1 then (if 0 ≤ (wrap64 ((t303.length : Int) - 1)) then (if (wrap64 ((t303.length : Int) - 1)) ≤ (t303.length : Int) then ((impl_ProgOk.f kj5 (t303.take ((wrap64 ((t303.length : Int) - 1)) : Int).toNat)).bind fun t316 => (laws_FnProgFirst.j1 kj5 t300 t306 (!t316))) else (none)) else (none)) else (laws_FnProgFirst.j1 kj5 t300 t306 false)) else (laws_FnProgFirst.j1 kj5 t300 t306 false))) = some r := by rw [if_neg (show ¬ (false = true) by decide)] at H; exact H
          clear H; have H := H1; clear H1; have HC21 := Aside0.mk H; clear H
          go_upto_region 8 with (fail)
          go_cut [41] (fun v41 wc => ∃ (kq : Nat) (x41_20 : Bool), v41 = .bool x41_20 ∧ Aside0 (laws_FnProgFirst.j1 kq t300 t306 x41_20 = some r) ∧ Aside0 (kq ≤ kj5) ∧ Aside0 (Kd.N k48 48 wc w.heap.size (fun _ => True) (.slice Ao9 t300.length co9) t300) ∧ Aside0 (Below w.heap.size w wc))
          case first =>
            have H := HC21.out; clear HC21; replace H := Option.bind_eq_some_iff.mp H; obtain ⟨t310, A220, H⟩ := H; replace H : (if t310 = true then (if (t303.length : Int) > 1 then (if 0 ≤ (wrap64 ((t303.length : Int) - 1)) then (if (wrap64 ((t303.length : Int) - 1)) ≤ (t303.length : Int) then ((impl_ProgOk.f kj5 (t303.take ((wrap64 ((t303.length : Int) - 1)) : Int).toNat)).bind fun t316 => (laws_FnProgFirst.j1 kj5 t300 t306 (!t316))) else (none)) else (none)) else (laws_FnProgFirst.j1 kj5 t300 t306 false)) else (laws_FnProgFirst.j1 kj5 t300 t306 false)) = some r := H; have A22 := Aside0.mk A220; clear A220
            by_cases c23 : t310 = true
            · subst c23
              have H1 : (if (t303.length : Int) > 1 then (if 0 ≤ (wrap64 ((t303.length : Int) - 1)) then (if (wrap64 ((t303.length : Int) - 1)) ≤ (t303.length : Int) then ((impl_ProgOk.f kj5 (t303.take ((wrap64 ((t303.length : Int) - 1)) : Int).toNat)).bind fun t316 => (laws_FnProgFirst.j1 kj5 t300 t306 (!t316))) else (none)) else (none)) else (laws_FnProgFirst.j1 kj5 t300 t306 false)) = some r := by rw [if_pos rfl] at H; exact H
              clear H; have H := H1; clear H1
              by_cases c24 : (t303.length : Int) > 1
              · rw [if_pos c24] at H; have c24b0 : decide (1 < (t303.length : Int)) = true := decide_eq_true c24
                have c24b1 : decide (1 < t303.length) = true := decide_eq_true (by omega)
                clear c24
                (first | rw [c24b0] | (simp only [i64_w, i32_w]; rw [c24b0]) | skip)
                obtain ⟨ji25, hji25⟩ : ∃ j_ : Int, (wrap64 ((t303.length : Int) - 1)) = j_ := ⟨_, rfl⟩
                replace H : (if 0 ≤ (ji25) then (if (ji25) ≤ (t303.length : Int) then ((impl_ProgOk.f kj5 (t303.take ((ji25) : Int).toNat)).bind fun t316 => (laws_FnProgFirst.j1 kj5 t300 t306 (!t316))) else (none)) else (none)) = some r := by first | (rw [hji25] at H; exact H) | (simp only [hji25] at H ⊢; exact H)
                (try rw [hji25] at A22)
                have hji25w : (IntKind.i64.wrap ((t303.length : Int) - 1)) = ji25 := (i64_w _).trans hji25
                by_cases c26 : 0 ≤ (ji25)
                · rw [if_pos c26] at H; have c26b0 := eq_true c26; have c26b1 : decide (0 ≤ (ji25)) = true := decide_eq_true c26; clear c26
                  by_cases c27 : (ji25) ≤ (t303.length : Int)
                  · rw [if_pos c27] at H; have c27b0 := eq_true c27; have c27b1 : decide ((ji25) ≤ (t303.length : Int)) = true := decide_eq_true c27; clear c27; obtain ⟨y311, hy311⟩ : ∃ y_ : List (List (S48)), y_ = (t303.take ((ji25) : Int).toNat) := ⟨_, rfl⟩
                    replace H : ((impl_ProgOk.f kj5 y311).bind fun t316 => (laws_FnProgFirst.j1 kj5 t300 t306 (!t316))) = some r := by first | (rw [hy311]; with_reducible exact H) | (have H2_ := (Option.bind_some _ _).symm.trans H; rw [hy311]; with_reducible exact H2_) | (have H2_ := (Option.bind_some _ _).symm.trans H; with_reducible exact H2_) | with_reducible exact H | (rw [hy311]; exact H) | exact H
                    have Ny311 := Aside0.mk hy311; clear hy311; replace H := Option.bind_eq_some_iff.mp H; obtain ⟨t316, A280, H⟩ := H; replace H : (laws_FnProgFirst.j1 kj5 t300 t306 (!t316)) = some r := H; have A28 := Aside0.mk A280; clear A280; have H' := Aside0.mk H; clear H; obtain ⟨Ao29, co29, eo29⟩ := Kd.N_slice HO_4.out; subst eo29
                    go_wp2_with (first | ((with_reducible refine gate_callee (f := 9) rfl ?_); refine goesM_ (some 27) Try.func9 #[.slice Ao29 t303.length co29] ?_; (with_reducible refine (spec_ProgOk.calls kj5 _ _ t303 true _ ?side1 ?side2 A22.out).mono ?_); (case side1 => repeat (first | exact (Kd.N_reads' HO_4.out).2.2 | (with_reducible refine Kd.C_alloc ?_ _) | (with_reducible refine Kd.C_drewN ?_ _) | (with_reducible refine Kd.C_drew ?_))); (case side2 => exact (Kd.N_reads' HO_4.out).2.1); rintro e w30 ⟨rfl, hb⟩; refine ⟨_, rfl, ?_⟩; have n0_ := Aside0.mk (Kd.N_below (q5_ HO_3) hb); have n1_ := Aside0.mk (Kd.N_below (q5_ HO_4) hb); have n2_ := Aside0.mk (below_step (q0_ HB) hb); clear HO_3; clear HO_4; clear HB; have HO_3 := n0_; have HO_4 := n1_; have HB := n2_; clear n0_ n1_ n2_; (try clear hb); (try clear hb2); (try clear hk); (try clear hi); have q31 : ((ji25) : Int) ≤ ((t303.length : Int) : Int) := of_decide_eq_true (by first | (with_reducible assumption) | assumption); obtain ⟨i031, hi031, _, hsz31, _⟩ := info_parts info23; have hroom31 : t303.length ≤ co29 := (Kd.N_reads' HO_4.out).2.1; have hC31 : Kd.F (Kd.slice 48 k48) _ _ Ao29 t303.length t303 := (Kd.V_at (base := w.heap.size) (Kd.N_V HO_4.out)).2.2; have hcut31 := cut_to (P := Try.prog) 25 23 .i64 Try.underlying25 hi031 Ao29 t303.length co29 (ji25) (of_decide_eq_true (by first | (with_reducible assumption) | assumption)) q31 hroom31; have hr31 := Kd.F_take (m := ((ji25) : Int).toNat) hC31 (by omega); have hy31 : y311.length = ((ji25) : Int).toNat := (by rw [Ny311.out, List.length_take]; omega); rw [← Ny311.out] at hr31; rw [← hy31] at hcut31; have HO315 := Aside0.mk (show Kd.V (Kd.slice 48 k48) 23 _ w.heap.size _ (.slice Ao29 y311.length co29) y311 from Kd.V_mk (by omega) hr31); have HC315 := Aside0.mk (show y311.length ≤ co29 from by omega); clear hr31 hC31 hroom31 hi031 hsz31; have KY31 := Aside0.mk hy31; clear hy31; replace q31 := eq_true q31) | (go_at_call 8; (with_reducible refine (impl_ProgOk.calls kj5 _ _ y311 t316 _ ?side1 ?side2 A28.out).mono ?_); (case side1 => repeat (first | exact (Kd.V_reads' HO315.out).2.2 | (with_reducible refine Kd.C_alloc ?_ _) | (with_reducible refine Kd.C_drewN ?_ _) | (with_reducible refine Kd.C_drew ?_))); (case side2 => exact (Kd.V_reads' HO315.out).2.1); rintro e w32 ⟨rfl, hb⟩; have n0_ := Aside0.mk (Kd.N_below (q5_ HO_3) hb); have n1_ := Aside0.mk (Kd.N_below (q5_ HO_4) hb); have n2_ := Aside0.mk (Kd.V_below (q4_ HO315) hb); have n3_ := Aside0.mk (below_step (q0_ HB) hb); clear HO_3; clear HO_4; clear HO315; clear HB; have HO_3 := n0_; have HO_4 := n1_; have HO315 := n2_; have HB := n3_; clear n0_ n1_ n2_ n3_; (try clear hb); (try clear hb2); (try clear hk); (try clear hi)))
                    go_meet
                    case rel => exact ⟨_, (!t316), (by first | rfl | (simp; done) | (simp [*]; done)), H', ⟨by have := HJ5.out; first | omega | exact Nat.le_refl _⟩, ⟨by (with_reducible repeat (first | apply Kd.N_alloc | apply Kd.N_drewN | apply Kd.N_drew)); exact Kd.N_mono HO_3.out (fun _ hk => trivial)⟩, ⟨by repeat (first | (with_reducible first | exact HB.out | apply below_alloc | apply pw_below_drewN | apply below_drew1) | exact HB.out)⟩⟩
                  · rw [if_neg c27] at H
                    exact absurd H (by simp)
                · rw [if_neg c26] at H
                  exact absurd H (by simp)
              · rw [if_neg c24] at H; have c24b0 : decide (1 < (t303.length : Int)) = false := decide_eq_false c24
                have c24b1 : decide (1 < t303.length) = false := decide_eq_false (by omega)
                clear c24
                (first | rw [c24b0] | (simp only [i64_w, i32_w]; rw [c24b0]) | skip)
                have H' := Aside0.mk H; clear H; obtain ⟨Ao33, co33, eo33⟩ := Kd.N_slice HO_4.out; subst eo33
                go_wp2_with (first | ((with_reducible refine gate_callee (f := 9) rfl ?_); refine goesM_ (some 27) Try.func9 #[.slice Ao33 t303.length co33] ?_; (with_reducible refine (spec_ProgOk.calls kj5 _ _ t303 true _ ?side1 ?side2 A22.out).mono ?_); (case side1 => repeat (first | exact (Kd.N_reads' HO_4.out).2.2 | (with_reducible refine Kd.C_alloc ?_ _) | (with_reducible refine Kd.C_drewN ?_ _) | (with_reducible refine Kd.C_drew ?_))); (case side2 => exact (Kd.N_reads' HO_4.out).2.1); rintro e w34 ⟨rfl, hb⟩; refine ⟨_, rfl, ?_⟩; have n0_ := Aside0.mk (Kd.N_below (q5_ HO_3) hb); have n1_ := Aside0.mk (Kd.N_below (q5_ HO_4) hb); have n2_ := Aside0.mk (below_step (q0_ HB) hb); clear HO_3; clear HO_4; clear HB; have HO_3 := n0_; have HO_4 := n1_; have HB := n2_; clear n0_ n1_ n2_; (try clear hb); (try clear hb2); (try clear hk); (try clear hi)))
                go_meet
                case rel => exact ⟨_, (false), (by first | rfl | (simp; done) | (simp [*]; done)), H', ⟨by have := HJ5.out; first | omega | exact Nat.le_refl _⟩, ⟨by (with_reducible repeat (first | apply Kd.N_alloc | apply Kd.N_drewN | apply Kd.N_drew)); exact Kd.N_mono HO_3.out (fun _ hk => trivial)⟩, ⟨by repeat (first | (with_reducible first | exact HB.out | apply below_alloc | apply pw_below_drewN | apply below_drew1) | exact HB.out)⟩⟩
            · replace c23 := Bool.eq_false_iff.mpr c23; subst c23
              have H1 : (laws_FnProgFirst.j1 kj5 t300 t306 false) = some r := by rw [if_neg (show ¬ (false = true) by decide)] at H; exact H
              clear H; have H := H1; clear H1; have H' := Aside0.mk H; clear H; obtain ⟨Ao35, co35, eo35⟩ := Kd.N_slice HO_4.out; subst eo35
              go_wp2_with (first | ((with_reducible refine gate_callee (f := 9) rfl ?_); refine goesM_ (some 27) Try.func9 #[.slice Ao35 t303.length co35] ?_; (with_reducible refine (spec_ProgOk.calls kj5 _ _ t303 false _ ?side1 ?side2 A22.out).mono ?_); (case side1 => repeat (first | exact (Kd.N_reads' HO_4.out).2.2 | (with_reducible refine Kd.C_alloc ?_ _) | (with_reducible refine Kd.C_drewN ?_ _) | (with_reducible refine Kd.C_drew ?_))); (case side2 => exact (Kd.N_reads' HO_4.out).2.1); rintro e w36 ⟨rfl, hb⟩; refine ⟨_, rfl, ?_⟩; have n0_ := Aside0.mk (Kd.N_below (q5_ HO_3) hb); have n1_ := Aside0.mk (Kd.N_below (q5_ HO_4) hb); have n2_ := Aside0.mk (below_step (q0_ HB) hb); clear HO_3; clear HO_4; clear HB; have HO_3 := n0_; have HO_4 := n1_; have HB := n2_; clear n0_ n1_ n2_; (try clear hb); (try clear hb2); (try clear hk); (try clear hi)))
              go_meet
              case rel => exact ⟨_, (false), (by first | rfl | (simp; done) | (simp [*]; done)), H', ⟨by have := HJ5.out; first | omega | exact Nat.le_refl _⟩, ⟨by (with_reducible repeat (first | apply Kd.N_alloc | apply Kd.N_drewN | apply Kd.N_drew)); exact Kd.N_mono HO_3.out (fun _ hk => trivial)⟩, ⟨by repeat (first | (with_reducible first | exact HB.out | apply below_alloc | apply pw_below_drewN | apply below_drew1) | exact HB.out)⟩⟩
          case rest =>
            clear HC21; (try clear c1); (try clear c2); (try clear c2b0); (try clear c2b1); (try clear p2); (try clear c3); (try clear q3); (try clear c4); (try clear c5); (try clear c6); (try clear p6); (try clear c7); (try clear c9); (try clear c12); (try clear c12b0); (try clear c12b1); (try clear c20); (try clear c23); (try clear c24); (try clear c24b0); (try clear c24b1); (try clear c26); (try clear c26b0); (try clear c26b1); (try clear c27); (try clear c27b0); (try clear c27b1); (try clear q31); (try clear p2); (try clear q31); obtain ⟨kq, x41_20, rfl, HA, HJ20, HO_3, HB⟩ := hcut
            cases kq with
            | zero => exact absurd HA.out (by simp [laws_FnProgFirst.j1])
            | succ kj20 =>
              have H := HA.out; clear HA; simp only [laws_FnProgFirst.j1] at H
              by_cases c37 : x41_20 = true
              · subst c37
                have H1 : (some false) = some r := by rw [if_pos rfl] at H; exact H
                clear H; have H := H1; clear H1; obtain rfl := Option.some.inj H
                go_wp2
                go_ret
                exact ⟨by first | rfl | (simp [errW_none, errW_some] <;> rfl) | (simp [*, errW_none, errW_some] <;> rfl), by repeat (first | (with_reducible first | exact HB.out | apply below_alloc | apply pw_below_drewN | apply below_drew1) | exact HB.out)⟩
              · replace c37 := Bool.eq_false_iff.mpr c37; subst c37
                have H1 : ((spec_StmtsOk.f kj20 t300).bind fun t317 => (if t317 = true then (laws_FnProgFirst.j2 kj20 t300 t306 ((t300.length : Int) == 0)) else (laws_FnProgFirst.j2 kj20 t300 t306 true))) = some r := by rw [if_neg (show ¬ (false = true) by decide)] at H; exact H
                clear H; have H := H1; clear H1; have HC38 := Aside0.mk H; clear H
                go_upto_region 10 with (fail)
                go_cut [49] (fun v49 wc => ∃ (kq : Nat) (x49_37 : Bool), v49 = .bool x49_37 ∧ Aside0 (laws_FnProgFirst.j2 kq t300 t306 x49_37 = some r) ∧ Aside0 (kq ≤ kj20) ∧ Aside0 (Kd.N k48 48 wc w.heap.size (fun _ => True) (.slice Ao9 t300.length co9) t300) ∧ Aside0 (Below w.heap.size w wc))
                case first =>
                  have H := HC38.out; clear HC38; replace H := Option.bind_eq_some_iff.mp H; obtain ⟨t317, A390, H⟩ := H; replace H : (if t317 = true then (laws_FnProgFirst.j2 kj20 t300 t306 ((t300.length : Int) == 0)) else (laws_FnProgFirst.j2 kj20 t300 t306 true)) = some r := H; have A39 := Aside0.mk A390; clear A390
                  by_cases c40 : t317 = true
                  · subst c40
                    have H1 : (laws_FnProgFirst.j2 kj20 t300 t306 ((t300.length : Int) == 0)) = some r := by rw [if_pos rfl] at H; exact H
                    clear H; have H := H1; clear H1; have H' := Aside0.mk H; clear H
                    go_wp2_with (first | ((with_reducible refine gate_callee (f := 10) rfl ?_); refine goesM_ (some 43) Try.func10 #[.slice Ao9 t300.length co9] ?_; (with_reducible refine (spec_StmtsOk.calls kj20 _ _ t300 true _ ?side1 ?side2 A39.out).mono ?_); (case side1 => repeat (first | exact (Kd.N_reads' HO_3.out).2.2 | (with_reducible refine Kd.C_alloc ?_ _) | (with_reducible refine Kd.C_drewN ?_ _) | (with_reducible refine Kd.C_drew ?_))); (case side2 => exact (Kd.N_reads' HO_3.out).2.1); rintro e w41 ⟨rfl, hb⟩; refine ⟨_, rfl, ?_⟩; have n0_ := Aside0.mk (Kd.N_below (q5_ HO_3) hb); have n1_ := Aside0.mk (below_step (q0_ HB) hb); clear HO_3; clear HB; have HO_3 := n0_; have HB := n1_; clear n0_ n1_; (try clear hb); (try clear hb2); (try clear hk); (try clear hi)))
                    go_meet
                    case rel => exact ⟨_, (((t300.length : Int) == 0)), (by first | rfl | (simp; done) | (simp [*]; done)), H', ⟨by have := HJ5.out; have := HJ20.out; first | omega | exact Nat.le_refl _⟩, ⟨by (with_reducible repeat (first | apply Kd.N_alloc | apply Kd.N_drewN | apply Kd.N_drew)); exact HO_3.out⟩, ⟨by repeat (first | (with_reducible first | exact HB.out | apply below_alloc | apply pw_below_drewN | apply below_drew1) | exact HB.out)⟩⟩
                  · replace c40 := Bool.eq_false_iff.mpr c40; subst c40
                    have H1 : (laws_FnProgFirst.j2 kj20 t300 t306 true) = some r := by rw [if_neg (show ¬ (false = true) by decide)] at H; exact H
                    clear H; have H := H1; clear H1; have H' := Aside0.mk H; clear H
                    go_wp2_with (first | ((with_reducible refine gate_callee (f := 10) rfl ?_); refine goesM_ (some 43) Try.func10 #[.slice Ao9 t300.length co9] ?_; (with_reducible refine (spec_StmtsOk.calls kj20 _ _ t300 false _ ?side1 ?side2 A39.out).mono ?_); (case side1 => repeat (first | exact (Kd.N_reads' HO_3.out).2.2 | (with_reducible refine Kd.C_alloc ?_ _) | (with_reducible refine Kd.C_drewN ?_ _) | (with_reducible refine Kd.C_drew ?_))); (case side2 => exact (Kd.N_reads' HO_3.out).2.1); rintro e w42 ⟨rfl, hb⟩; refine ⟨_, rfl, ?_⟩; have n0_ := Aside0.mk (Kd.N_below (q5_ HO_3) hb); have n1_ := Aside0.mk (below_step (q0_ HB) hb); clear HO_3; clear HB; have HO_3 := n0_; have HB := n1_; clear n0_ n1_; (try clear hb); (try clear hb2); (try clear hk); (try clear hi)))
                    go_meet
                    case rel => exact ⟨_, (true), (by first | rfl | (simp; done) | (simp [*]; done)), H', ⟨by have := HJ5.out; have := HJ20.out; first | omega | exact Nat.le_refl _⟩, ⟨by (with_reducible repeat (first | apply Kd.N_alloc | apply Kd.N_drewN | apply Kd.N_drew)); exact HO_3.out⟩, ⟨by repeat (first | (with_reducible first | exact HB.out | apply below_alloc | apply pw_below_drewN | apply below_drew1) | exact HB.out)⟩⟩
                case rest =>
                  clear HC38; (try clear c1); (try clear c2); (try clear c2b0); (try clear c2b1); (try clear p2); (try clear c3); (try clear q3); (try clear c4); (try clear c5); (try clear c6); (try clear p6); (try clear c7); (try clear c9); (try clear c10); (try clear c12); (try clear c12b0); (try clear c12b1); (try clear c20); (try clear c23); (try clear c24); (try clear c24b0); (try clear c24b1); (try clear c26); (try clear c26b0); (try clear c26b1); (try clear c27); (try clear c27b0); (try clear c27b1); (try clear q31); (try clear c37); (try clear c40); (try clear p2); (try clear p6); (try clear q3); (try clear q31); obtain ⟨kq, x49_37, rfl, HA, HJ37, HO_3, HB⟩ := hcut
                  cases kq with
                  | zero => exact absurd HA.out (by simp [laws_FnProgFirst.j2])
                  | succ kj37 =>
                    have H := HA.out; clear HA; simp only [laws_FnProgFirst.j2] at H
                    by_cases c43 : x49_37 = true
                    · subst c43
                      have H1 : (some true) = some r := by rw [if_pos rfl] at H; exact H
                      clear H; have H := H1; clear H1; obtain rfl := Option.some.inj H
                      go_wp2
                      go_ret
                      exact ⟨by first | rfl | (simp [errW_none, errW_some] <;> rfl) | (simp [*, errW_none, errW_some] <;> rfl), by repeat (first | (with_reducible first | exact HB.out | apply below_alloc | apply pw_below_drewN | apply below_drew1) | exact HB.out)⟩
                    · replace c43 := Bool.eq_false_iff.mpr c43; subst c43
                      have H1 : (if 1 ≤ (t300.length : Int) then ((impl_StmtsOk.f kj37 (t300.drop 1)).bind fun t323 => (if t323 = true then ((impl_StmtsMany.f kj37 (t300.drop 1)).bind fun t329 => (some (decide (t329 < t306)))) else (some false))) else (none)) = some r := by rw [if_neg (show ¬ (false = true) by decide)] at H; exact H
                      clear H; have H := H1; clear H1
                      by_cases c44 : 1 ≤ (t300.length : Int)
                      · rw [if_pos c44] at H; have c44b0 := eq_true c44; have c44b1 : decide (1 ≤ (t300.length : Int)) = true := decide_eq_true c44; clear c44; obtain ⟨y318, hy318⟩ : ∃ y_ : List (S48), y_ = (t300.drop 1) := ⟨_, rfl⟩
                        replace H : ((impl_StmtsOk.f kj37 y318).bind fun t323 => (if t323 = true then ((impl_StmtsMany.f kj37 (t300.drop 1)).bind fun t329 => (some (decide (t329 < t306)))) else (some false))) = some r := by first | (rw [hy318]; with_reducible exact H) | (have H2_ := (Option.bind_some _ _).symm.trans H; rw [hy318]; with_reducible exact H2_) | (have H2_ := (Option.bind_some _ _).symm.trans H; with_reducible exact H2_) | with_reducible exact H | (rw [hy318]; exact H) | exact H
                        have Ny318 := Aside0.mk hy318; clear hy318; replace H := Option.bind_eq_some_iff.mp H; obtain ⟨t323, A450, H⟩ := H; replace H : (if t323 = true then ((impl_StmtsMany.f kj37 (t300.drop 1)).bind fun t329 => (some (decide (t329 < t306)))) else (some false)) = some r := H; have A45 := Aside0.mk A450; clear A450
                        by_cases c46 : t323 = true
                        · subst c46
                          have H1 : ((impl_StmtsMany.f kj37 (t300.drop 1)).bind fun t329 => (some (decide (t329 < t306)))) = some r := by rw [if_pos rfl] at H; exact H
                          clear H; have H := H1; clear H1
                          have c47b0 := eq_true (of_decide_eq_true (by first | (with_reducible assumption) | assumption) : 1 ≤ (t300.length : Int))
                          obtain ⟨y324, hy324⟩ : ∃ y_ : List (S48), y_ = (t300.drop 1) := ⟨_, rfl⟩
                          replace H : ((impl_StmtsMany.f kj37 y324).bind fun t329 => (some (decide (t329 < t306)))) = some r := by first | (rw [hy324]; with_reducible exact H) | (have H2_ := (Option.bind_some _ _).symm.trans H; rw [hy324]; with_reducible exact H2_) | (have H2_ := (Option.bind_some _ _).symm.trans H; with_reducible exact H2_) | with_reducible exact H | (rw [hy324]; exact H) | exact H
                          have Ny324 := Aside0.mk hy324; clear hy324; replace H := Option.bind_eq_some_iff.mp H; obtain ⟨t329, A480, H⟩ := H; replace H : (some (decide (t329 < t306))) = some r := H; have A48 := Aside0.mk A480; clear A480; obtain rfl := Option.some.inj H
                          have q49 : (1 : Int) ≤ ((t300.length : Int) : Int) := of_decide_eq_true (by first | (with_reducible assumption) | assumption)
                          obtain ⟨i049, hi049, _, hsz49, _⟩ := info_parts info48; have hroom49 : t300.length ≤ co9 := (Kd.N_reads' HO_3.out).2.1; have hC49 : Kd.F k48 _ _ Ao9 t300.length t300 := (Kd.V_at (base := w.heap.size) (Kd.N_V HO_3.out)).2.2
                          have hcut49 := cut_from (P := Try.prog) 23 48 .i64 Try.underlying23 hi049 6 hsz49 Ao9 t300.length co9 1 (by omega) q49
                          have hr49 := Kd.F_cut (m := (1 : Int).toNat) (c := co9) hC49 (by omega) hroom49
                          obtain ⟨A49, hA49⟩ : ∃ A1, A1 = (if co9 = (1 : Int).toNat then Ao9 else (Ao9 : Option Addr).map (·.add ((1 : Int).toNat * 6))) := ⟨_, rfl⟩; obtain ⟨c49, hc49⟩ : ∃ c1, c1 = co9 - (1 : Int).toNat := ⟨_, rfl⟩
                          have hy49 : y318.length = t300.length - (1 : Int).toNat := (by rw [Ny318.out, List.length_drop] <;> omega)
                          rw [show (t300).drop (1 : Int).toNat = y318 from Ny318.out.symm] at hr49
                          replace hr49 : Kd.F k48 _ _ A49 y318.length y318 := (by rw [hA49]; exact hr49)
                          rw [← hy49, ← hA49, ← hc49] at hcut49
                          have HO322 := Aside0.mk (show Kd.V k48 48 _ w.heap.size _ (.slice A49 y318.length c49) y318 from Kd.V_mk (by rw [hy49, hc49]; exact Nat.sub_le_sub_right hroom49 _) hr49)
                          have HC322 := Aside0.mk (show y318.length ≤ c49 from by rw [hy49, hc49]; exact Nat.sub_le_sub_right hroom49 _)
                          clear hr49 hC49 hroom49 hi049 hsz49 hc49; have KY49 := Aside0.mk hy49; have KA49 := Aside0.mk hA49; clear hy49 hA49; replace q49 := eq_true q49; have e_ := Ny318.out.trans Ny324.out.symm; subst e_
                          go_wp2_with (first | ((with_reducible refine gate_callee (f := 11) rfl ?_); refine goesM_ (some 52) Try.func11 #[.slice A49 y318.length c49] ?_; (with_reducible refine (impl_StmtsOk.calls kj37 _ _ y318 true _ ?side1 ?side2 A45.out).mono ?_); (case side1 => repeat (first | exact (Kd.V_reads' HO322.out).2.2 | (with_reducible refine Kd.C_alloc ?_ _) | (with_reducible refine Kd.C_drewN ?_ _) | (with_reducible refine Kd.C_drew ?_))); (case side2 => exact (Kd.V_reads' HO322.out).2.1); rintro e w50 ⟨rfl, hb⟩; refine ⟨_, rfl, ?_⟩; have n0_ := Aside0.mk (Kd.N_below (q5_ HO_3) hb); have n1_ := Aside0.mk (Kd.V_below (q4_ HO322) hb); have n2_ := Aside0.mk (below_step (q0_ HB) hb); clear HO_3; clear HO322; clear HB; have HO_3 := n0_; have HO322 := n1_; have HB := n2_; clear n0_ n1_ n2_; (try clear hb); (try clear hb2); (try clear hk); (try clear hi); have q51 : (1 : Int) ≤ ((t300.length : Int) : Int) := of_decide_eq_true (by first | (with_reducible assumption) | assumption); obtain ⟨i051, hi051, _, hsz51, _⟩ := info_parts info48; have hroom51 : t300.length ≤ co9 := (Kd.N_reads' HO_3.out).2.1; have hC51 : Kd.F k48 _ _ Ao9 t300.length t300 := (Kd.V_at (base := w.heap.size) (Kd.N_V HO_3.out)).2.2; have hcut51 := cut_from (P := Try.prog) 23 48 .i64 Try.underlying23 hi051 6 hsz51 Ao9 t300.length co9 1 (by omega) q51; have hr51 := Kd.F_cut (m := (1 : Int).toNat) (c := co9) hC51 (by omega) hroom51; obtain ⟨A51, hA51⟩ : ∃ A1, A1 = (if co9 = (1 : Int).toNat then Ao9 else (Ao9 : Option Addr).map (·.add ((1 : Int).toNat * 6))) := ⟨_, rfl⟩; obtain ⟨c51, hc51⟩ : ∃ c1, c1 = co9 - (1 : Int).toNat := ⟨_, rfl⟩; have hy51 : y318.length = t300.length - (1 : Int).toNat := (by rw [Ny318.out, List.length_drop] <;> omega); rw [show (t300).drop (1 : Int).toNat = y318 from Ny318.out.symm] at hr51; replace hr51 : Kd.F k48 _ _ A51 y318.length y318 := (by rw [hA51]; exact hr51); rw [← hy51, ← hA51, ← hc51] at hcut51; have HO328 := Aside0.mk (show Kd.V k48 48 _ w.heap.size _ (.slice A51 y318.length c51) y318 from Kd.V_mk (by rw [hy51, hc51]; exact Nat.sub_le_sub_right hroom51 _) hr51); have HC328 := Aside0.mk (show y318.length ≤ c51 from by rw [hy51, hc51]; exact Nat.sub_le_sub_right hroom51 _); clear hr51 hC51 hroom51 hi051 hsz51 hc51; have KY51 := Aside0.mk hy51; have KA51 := Aside0.mk hA51; clear hy51 hA51; replace q51 := eq_true q51; clear HO328 HC328 hcut51; have HO328 := HO322) | (go_at_call 6; (with_reducible refine (impl_StmtsMany.calls kj37 _ _ y318 t329 _ ?side1 ?side2 A48.out).mono ?_); (case side1 => repeat (first | exact (Kd.V_reads' HO328.out).2.2 | (with_reducible refine Kd.C_alloc ?_ _) | (with_reducible refine Kd.C_drewN ?_ _) | (with_reducible refine Kd.C_drew ?_))); (case side2 => exact (Kd.V_reads' HO328.out).2.1); rintro e w52 ⟨rfl, hb⟩; have n0_ := Aside0.mk (Kd.N_below (q5_ HO_3) hb); have n1_ := Aside0.mk (Kd.V_below (q4_ HO322) hb); have n2_ := Aside0.mk (Kd.V_below (q4_ HO328) hb); have n3_ := Aside0.mk (below_step (q0_ HB) hb); clear HO_3; clear HO322; clear HO328; clear HB; have HO_3 := n0_; have HO322 := n1_; have HO328 := n2_; have HB := n3_; clear n0_ n1_ n2_ n3_; (try clear hb); (try clear hb2); (try clear hk); (try clear hi)))
                          go_ret
                          exact ⟨by first | rfl | (simp [errW_none, errW_some] <;> rfl) | (simp [*, errW_none, errW_some] <;> rfl), by repeat (first | (with_reducible first | exact HB.out | apply below_alloc | apply pw_below_drewN | apply below_drew1) | exact HB.out)⟩
                        · replace c46 := Bool.eq_false_iff.mpr c46; subst c46
                          have H1 : (some false) = some r := by rw [if_neg (show ¬ (false = true) by decide)] at H; exact H
                          clear H; have H := H1; clear H1; obtain rfl := Option.some.inj H
                          have q53 : (1 : Int) ≤ ((t300.length : Int) : Int) := of_decide_eq_true (by first | (with_reducible assumption) | assumption)
                          obtain ⟨i053, hi053, _, hsz53, _⟩ := info_parts info48; have hroom53 : t300.length ≤ co9 := (Kd.N_reads' HO_3.out).2.1; have hC53 : Kd.F k48 _ _ Ao9 t300.length t300 := (Kd.V_at (base := w.heap.size) (Kd.N_V HO_3.out)).2.2
                          have hcut53 := cut_from (P := Try.prog) 23 48 .i64 Try.underlying23 hi053 6 hsz53 Ao9 t300.length co9 1 (by omega) q53
                          have hr53 := Kd.F_cut (m := (1 : Int).toNat) (c := co9) hC53 (by omega) hroom53
                          obtain ⟨A53, hA53⟩ : ∃ A1, A1 = (if co9 = (1 : Int).toNat then Ao9 else (Ao9 : Option Addr).map (·.add ((1 : Int).toNat * 6))) := ⟨_, rfl⟩; obtain ⟨c53, hc53⟩ : ∃ c1, c1 = co9 - (1 : Int).toNat := ⟨_, rfl⟩
                          have hy53 : y318.length = t300.length - (1 : Int).toNat := (by rw [Ny318.out, List.length_drop] <;> omega)
                          rw [show (t300).drop (1 : Int).toNat = y318 from Ny318.out.symm] at hr53
                          replace hr53 : Kd.F k48 _ _ A53 y318.length y318 := (by rw [hA53]; exact hr53)
                          rw [← hy53, ← hA53, ← hc53] at hcut53
                          have HO322 := Aside0.mk (show Kd.V k48 48 _ w.heap.size _ (.slice A53 y318.length c53) y318 from Kd.V_mk (by rw [hy53, hc53]; exact Nat.sub_le_sub_right hroom53 _) hr53)
                          have HC322 := Aside0.mk (show y318.length ≤ c53 from by rw [hy53, hc53]; exact Nat.sub_le_sub_right hroom53 _)
                          clear hr53 hC53 hroom53 hi053 hsz53 hc53; have KY53 := Aside0.mk hy53; have KA53 := Aside0.mk hA53; clear hy53 hA53; replace q53 := eq_true q53
                          go_wp2_with (first | ((with_reducible refine gate_callee (f := 11) rfl ?_); refine goesM_ (some 52) Try.func11 #[.slice A53 y318.length c53] ?_; (with_reducible refine (impl_StmtsOk.calls kj37 _ _ y318 false _ ?side1 ?side2 A45.out).mono ?_); (case side1 => repeat (first | exact (Kd.V_reads' HO322.out).2.2 | (with_reducible refine Kd.C_alloc ?_ _) | (with_reducible refine Kd.C_drewN ?_ _) | (with_reducible refine Kd.C_drew ?_))); (case side2 => exact (Kd.V_reads' HO322.out).2.1); rintro e w54 ⟨rfl, hb⟩; refine ⟨_, rfl, ?_⟩; have n0_ := Aside0.mk (Kd.N_below (q5_ HO_3) hb); have n1_ := Aside0.mk (Kd.V_below (q4_ HO322) hb); have n2_ := Aside0.mk (below_step (q0_ HB) hb); clear HO_3; clear HO322; clear HB; have HO_3 := n0_; have HO322 := n1_; have HB := n2_; clear n0_ n1_ n2_; (try clear hb); (try clear hb2); (try clear hk); (try clear hi)))
                          go_ret
                          exact ⟨by first | rfl | (simp [errW_none, errW_some] <;> rfl) | (simp [*, errW_none, errW_some] <;> rfl), by repeat (first | (with_reducible first | exact HB.out | apply below_alloc | apply pw_below_drewN | apply below_drew1) | exact HB.out)⟩
                      · rw [if_neg c44] at H
                        exact absurd H (by simp)
def laws_FnProgFirst.Pure : Prop := ∀ (l0 : List Int), l0.length ≤ maxLen → l0.length * 1 ≤ 140737488351232 → (∀ x ∈ l0, (Lit.int .u8 x).wf = true) → ∃ k, laws_FnProgFirst.f k l0 = some true
theorem laws_FnProgFirst.walk (P : laws_FnProgFirst.Pure) (a0 : Option Addr) (len0 cap0 : Nat) (z0 : List Int) (w : World) (w0 : (a0 = none ∧ len0 = 0 ∧ cap0 = 0 ∧ z0 = []) ∨ ∃ x, a0 = some x ∧ len0 ≤ cap0 ∧ cap0 ≤ maxLen ∧ z0.length = cap0 ∧ (∀ i, i < z0.length → w.cell? (x.add i) = some (.int .u8 (z0.getD i 0))) ∧ ∀ n ∈ z0, (Lit.int .u8 n).wf = true) (y0 : len0 * 1 ≤ 140737488351232) :
    Calls Try.prog 3 #[.slice a0 len0 cap0] w fun e w' => e = .returned (.bool true) ∧ Below w.heap.size w w' := by
  obtain ⟨l0, rfl, hr0, hm0, hw0, hc0⟩ := ReadsInt.ofRowC w0; obtain ⟨k, h⟩ := P l0 hm0 y0 hw0
  refine (laws_FnProgFirst.calls k _ _ l0 true w (Kd.C_of_reads (d := (0 : Int)) (h1 := fun _ => rfl) hr0) hc0 h).mono ?_
  rintro e w' ⟨rfl, hd⟩
  exact ⟨rfl, hd⟩
end Go.Proofs.Ytjplhicpfeplgaa.P
