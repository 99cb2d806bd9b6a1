/- Parts of the proof of FnExactWholeOk: plain Lean functions of Go functions, and that the calls come to what they say; no condition beyond those that each theorem names. -/
import Derived.Test.YthbflhimmmfonaaZFnExactWholeOk9
import Derived.RangeFuncNested
import Derived.RangeFuncBound
import Derived.RangeFuncCalls
import Derived.RangeFuncLeaves
import Derived.WalkKit
import Derived.OwnWalkIn
import Derived.TacticsInMore
import Derived.LoopNIn
import Derived.LoopIn
import Derived.RangeFuncBox
import Derived.Shelf.Abstract
import Derived.Test.YthbflhimmmfonaaZFnExactWholeOk4
import Derived.Test.YthbflhimmmfonaaZFnExactWholeOk7
import Derived.Test.YthbflhimmmfonaaZFnExactWholeOk8
namespace Go.Proofs.Ythbflhimmmfonaa.P
open Go.RowKit Go.Proofs.YthbflhimmmfonaaW.PrintWords Go.Proofs.YthbflhimmmfonaaW.PrintLast Go.Proofs.YthbflhimmmfonaaW.PrintMore
attribute [local go_sem] Oper.semAt_some
set_option linter.unusedVariables false
set_option linter.unusedSimpArgs false
structure Pl where
  k : Int
  a : Int
  b : Int
  n : Int
  s4 : Option Addr × Nat × Nat
  s5 : Option Addr × Nat × Nat
  rm : Int
def Pl.enc (x : Pl) : Array Value := #[.agg #[.int .i64 x.k, .int .i64 x.a, .int .i64 x.b, .int .i64 x.n, .slice x.s4.1 x.s4.2.1 x.s4.2.2, .slice x.s5.1 x.s5.2.1 x.s5.2.2, .int .i64 x.rm]]
abbrev I5 := Int × Int × Int × Int × Int
def Pl.ints (x : Pl) : I5 := (x.k, x.a, x.b, x.n, x.rm)
def allL (T : S104 → Int → Option (List I5)) (rm : Int) : List S104 → Option (List I5)
  | [] => some []
  | x :: t => (T x rm).bind fun a => (allL T rm t).bind fun b => some (a ++ b)
def innR (s : S104) (rm : Int) : Int := if s.f0 = 8 then s.f1 else rm
def allT (L : List S104 → Int → Option (List I5)) (s : S104) (rm : Int) : Option (List I5) :=
  (L s.f4 (innR s rm)).bind fun a => (L s.f5 (innR s rm)).bind fun b => some ((s.f0, s.f1, s.f2, s.f3, rm) :: (a ++ b))
def allK : Nat → List S104 → Int → Option (List I5)
  | 0 => fun _ _ => none
  | k + 1 => fun l rm => allL (allT (allK k)) rm l
structure Kq (n₀ B : Nat) (W W' : World) : Prop where
  below : Below n₀ W W'
  cells : ∀ (k : Nat) (cs : Array Value) (t : TypeId) (fr : Nat × Nat), B ≤ k → W.heap[k]? = some (.cells cs t fr) → W'.heap[k]? = some (.cells cs t fr)
theorem Kq.refl (n₀ B : Nat) (W : World) : Kq n₀ B W W := ⟨Below.refl _ _, fun _ _ _ _ _ h => h⟩
theorem Kq.trans {n₀ B : Nat} {X Y Z : World} (h : Kq n₀ B X Y) (k : Kq n₀ B Y Z) : Kq n₀ B X Z := ⟨h.below.trans k.below, fun i cs t fr hi hc => k.cells i cs t fr hi (h.cells i cs t fr hi hc)⟩
theorem Kq.alloc {n₀ B : Nat} {X Y : World} (h : Kq n₀ B X Y) (hn : n₀ ≤ Y.heap.size) (o : Obj) : Kq n₀ B X (Y.alloc o) :=
  ⟨h.below.alloc hn o, fun i cs t fr hi hc => (Below.heap_alloc Y o i (Array.getElem?_eq_some_iff.1 (h.cells i cs t fr hi hc)).1).trans (h.cells i cs t fr hi hc)⟩
theorem Kq.drewN {n₀ B : Nat} {X Y : World} (h : Kq n₀ B X Y) (n : Nat) : Kq n₀ B X (Y.drewN n) := ⟨pw_below_drewN h.below n, fun i cs t fr hi hc => h.cells i cs t fr hi hc⟩
theorem Kq.drew {n₀ B : Nat} {X Y : World} (h : Kq n₀ B X Y) : Kq n₀ B X Y.drew := ⟨h.below.drew, fun i cs t fr hi hc => h.cells i cs t fr hi hc⟩
theorem Kq.t {n₀ B : Nat} {X Y Z : World} (h : Kq n₀ B X Y) (k : Kq n₀ B Y Z) : Kq n₀ B X Z := h.trans k
theorem Kq.b {n₀ B : Nat} {w : World} (hn : n₀ ≤ w.heap.size) (W : World) (l : Nat) (o o' : Obj) (hl : w.heap.size ≤ l) (h : W.heap[l]? = some o) (hc : o.isCells = false) (hw : o.isWalk = false) : Kq n₀ B W (W.putObj l o') :=
  ⟨belowK_b hn W l o o' hl h hc hw, fun k cs t fr _ hk => by
    by_cases e : k = l
    · subst e
      rw [h] at hk
      cases hk
      cases hc
    · exact (World.putObj_heap_other e).trans hk⟩
theorem Kq.box {n₀ B : Nat} {W W' : World} (h : Kq n₀ B W W') {b : Nat} (hb : B ≤ b) {v : Value} {t : TypeId} (hv : W.heap[b]? = some (.cells #[v] t (0, 0))) : W'.heap[b]? = some (.cells #[v] t (0, 0)) := h.cells _ _ _ _ hb hv
structure WAt (w0 : World) (l By Bw : Nat) (W : World) : Prop where
  b : Below w0.heap.size w0 W
  y : W.heap[By]? = some (.cells #[.func (.yield l) #[] #[]] 130 (0, 0))
  k : W.heap[Bw]? = some (.cells #[.func (.func 110) #[] #[.pointer (some ⟨By, 0, none⟩), .pointer (some ⟨Bw, 0, none⟩)]] 131 (0, 0))
theorem WAt.step {w0 : World} {l By Bw B : Nat} {W W' : World} (h : WAt w0 l By Bw W) (hy : B ≤ By) (hk : B ≤ Bw) (q : Kq w0.heap.size B W W') : WAt w0 l By Bw W' := ⟨h.b.trans q.below, q.box hy h.y, q.box hk h.k⟩
theorem WAt.cells {w0 : World} {l By Bw : Nat} {W : World} (h : WAt w0 l By Bw W) : W.cell? ⟨By, 0, none⟩ = some (.func (.yield l) #[] #[]) ∧ W.cell? ⟨Bw, 0, none⟩ = some (.func (.func 110) #[] #[.pointer (some ⟨By, 0, none⟩), .pointer (some ⟨Bw, 0, none⟩)]) := ⟨cell_of h.y 0 rfl, cell_of h.k 0 rfl⟩
def WPost (xs : List I5) (n₀ B : Nat) (J Jx : List Pl → World → Prop) (pre : List Pl) (W : World) (e : Ending) (W' : World) : Prop :=
  (e = .returned (.bool true) ∧ ∃ ys : List Pl, ys.map Pl.ints = xs ∧ J (pre ++ ys) W' ∧ Kq n₀ B W W') ∨ (e = .returned (.bool false) ∧ ∃ ys : List Pl, ys.map Pl.ints <+: xs ∧ Jx (pre ++ ys) W')
def Rounds (G : I5 → Prop) (l N n₀ B : Nat) (J Jx : List Pl → World → Prop) : Prop :=
  ∀ (m : Nat) (pre : List Pl) (x : Pl) (W : World), J pre W → pre.length < N → G x.ints → YieldAt Fence.wide m Try.prog l x.enc W fun e W' => (e = .returned (.bool true) ∧ J (pre ++ [x]) W' ∧ Kq n₀ B W W') ∨ (e = .returned (.bool false) ∧ Jx (pre ++ [x]) W')
def Grows (J : List Pl → World → Prop) : Prop := ∀ s W W', J s W → W.grownBy W' none → J s W'
def WSays (G : I5 → Prop) (w0 : World) (l By Bw B N : Nat) (J Jx : List Pl → World → Prop) (L : List S104 → Int → Option (List I5)) : Prop :=
  ∀ (n : Nat) (A : Option Addr) (c : Nat) (ls : List S104) (rm : Int) (pre : List Pl) (W : World) (xs : List I5), Kd.C k104 w0 A ls.length ls → WAt w0 l By Bw W → J pre W → L ls rm = some xs → (∀ z ∈ xs, G z) → pre.length + xs.length ≤ N →
    CallsIn Fence.wide n Try.prog 110 #[.slice A ls.length c, .int .i64 rm, .pointer (some ⟨By, 0, none⟩), .pointer (some ⟨Bw, 0, none⟩)] W (WPost xs w0.heap.size B J Jx pre W)
set_option maxRecDepth 100000 in
set_option maxHeartbeats 4000000 in
theorem walk_of (G : I5 → Prop) (w0 : World) (l By Bw B N : Nat) (J Jx : List Pl → World → Prop) (hB : w0.heap.size ≤ B) (hy : B ≤ By) (hw : B ≤ Bw) (hR : Rounds G l N w0.heap.size B J Jx) (hJ : Grows J)
    (L : List S104 → Int → Option (List I5)) (hL : WSays G w0 l By Bw B N J Jx L) : WSays G w0 l By Bw B N J Jx (fun ls rm => allL (allT L) rm ls) := by
  intro n A c ls rm pre W xs hC hW h0 h hG hN
  have HG := Aside0.mk hG
  clear hG
  have HL := Aside0.mk hL
  have HR := Aside0.mk hR
  have HC := Aside0.mk hC
  have HW := Aside0.mk hW
  have HJ := Aside0.mk hJ
  have H := Aside0.mk h
  have H0 := Aside0.mk h0
  have hl : ls.length ≤ 9223372036854775807 := hC.2.1
  have hdd : ∀ k : Nat, (Fence.wide.depth.isSome = true → 1 ≤ k) := fun k h => by cases h
  clear hL hR hC hW hJ h h0
  refine callsIn_of_wp Try.func110 rfl trivial ?_ rfl
  simp only [Try.ntmps110, List.size_toArray, List.length_cons, List.length_nil, Nat.reduceAdd, Nat.reduceSub, Array.replicate_succ, Array.replicate_zero, List.push_toArray, List.append_toArray, List.nil_append, List.cons_append]
  gi_wp2
  gi_loopw [12] (fun p wr => ∃ (i : Nat) (ys : List Pl) (rest : List I5), p = .int .i64 i ∧ i ≤ ls.length ∧ Aside0 (xs = ys.map Pl.ints ++ rest) ∧ Aside0 (allL (allT L) rm (ls.drop i) = some rest) ∧ Aside0 (J (pre ++ ys) wr) ∧ Aside0 (Kq w0.heap.size B W wr)) (fun p _ => ls.length - (intOf p).toNat)
  case atStart => exact ⟨0, [], xs, rfl, Nat.zero_le _, ⟨rfl⟩, H, ⟨by simpa using H0.out⟩, ⟨Kq.refl _ _ _⟩⟩
  case round =>
    obtain ⟨i, ys, rest, rfl, hi, HX, HA, HJS, HK⟩ := hrel
    clear H H0
    by_cases hlt : i < ls.length
    · have hltz : decide ((i : Int) < (ls.length : Int)) = true := decide_eq_true (by omega)
      have p1 : 0 ≤ (i : Int) := by omega
      have q1 : (i : Int) < (ls.length : Int) := by omega
      have HW2 := Aside0.mk (HW.out.step hy hw HK.out)
      obtain ⟨ad, A4, c4, A5, c5, e1, f0, f1, f2, f3, f4, f5, hc4, H4, hc5, H5⟩ := at_T104 HC.out (i : Int) p1 q1
      cases e1
      rw [Int.toNat_natCast] at f0 f1 f2 f3 f4 f5
      have tr : ∀ {p : Addr} {v : Value}, w0.cell? p = some v → wr.cell? p = some v := fun h => (HW2.out.b.cell (World.block_lt_of_cell? w0 _ h)).trans h
      have g0 := tr f0
      have g1 := tr f1
      have g2 := tr f2
      have g3 := tr f3
      have g4 := tr f4
      have g5 := tr f5
      clear f0 f1 f2 f3 f4 f5 tr
      have ex : ls.drop i = rd_T104 ls (i : Int) :: ls.drop (i + 1) := by
        rw [List.drop_eq_getElem_cons hlt]
        unfold rd_T104
        rw [Int.toNat_natCast, List.getD_eq_getElem?_getD, List.getElem?_eq_getElem hlt]
        rfl
      have ha := HA.out
      rw [ex] at ha
      clear HA ex
      generalize rd_T104 ls (i : Int) = x at *
      obtain ⟨a, ha1, ha⟩ := Option.bind_eq_some_iff.1 ha
      obtain ⟨b, hb1, hb2⟩ := Option.bind_eq_some_iff.1 ha
      obtain rfl : a ++ b = rest := Option.some.inj hb2
      obtain ⟨a4, h4, ha1⟩ := Option.bind_eq_some_iff.1 ha1
      obtain ⟨a5, h5, ha1⟩ := Option.bind_eq_some_iff.1 ha1
      obtain rfl := Option.some.inj ha1
      clear ha hb2 ha1
      have hxl : xs.length = ys.length + (1 + a4.length + a5.length + b.length) := by rw [HX.out]; simp; omega
      obtain ⟨cy, ck⟩ := HW2.out.cells
      have ly := World.block_lt_of_cell? wr _ cy
      have lk := World.block_lt_of_cell? wr _ ck
      have my : ∀ o, (wr.alloc o).cell? ⟨By, 0, none⟩ = some (.func (.yield l) #[] #[]) := fun o => ((below_alloc (Below.refl _ wr) o).cell ly).trans cy
      clear cy ck
      obtain ⟨pl, hpl⟩ : ∃ pl : Pl, pl = ⟨x.f0, x.f1, x.f2, x.f3, (A4, x.f4.length, c4), (A5, x.f5.length, c5), rm⟩ := ⟨_, rfl⟩
      have hint : pl.ints = (x.f0, x.f1, x.f2, x.f3, rm) := by rw [hpl]; rfl
      obtain ⟨fn, tmps, assign, body, hyy, hRd⟩ := HR.out (n - 1) (pre ++ ys) pl (wr.alloc (.cells #[.int .i64 x.f0, .int .i64 x.f1, .int .i64 x.f2, .int .i64 x.f3, .slice A4 x.f4.length c4, .slice A5 x.f5.length c5] 104)) (HJ.out _ _ _ HJS.out (World.grownBy_alloc wr _ none)) (by simp; omega) (by rw [hint]; exact HG.out _ (by rw [HX.out]; simp))
      rw [hpl] at hyy
      dsimp only [Pl.enc] at hyy
      have HH := Aside0.mk (And.intro (And.intro h4 h5) hb1)
      have HRd := Aside0.mk hRd
      have HI := Aside0.mk hint
      clear hRd h4 h5 hb1 hint hpl
      gi_wp2
      (try refine ⟨hdd _, ?_⟩)
      refine HRd.out.mono ?_
      clear HRd hyy my g0 g1 g2 g3 g4 g5
      rintro e W3 (⟨rfl, hJ3, hk3⟩ | ⟨rfl, hJx3⟩)
      · have hBw : B ≤ wr.heap.size := Nat.le_of_lt (Nat.lt_of_le_of_lt hy ly)
        have hs3 := hk3.cells _ _ _ _ hBw (World.alloc_heap_new wr (.cells #[.int .i64 x.f0, .int .i64 x.f1, .int .i64 x.f2, .int .i64 x.f3, .slice A4 x.f4.length c4, .slice A5 x.f5.length c5] 104))
        have hk3' : Kq w0.heap.size B W W3 := (HK.out.alloc (by omega) _).trans hk3
        have HW3 := Aside0.mk (HW.out.step hy hw hk3')
        have HK3 := Aside0.mk hk3'
        have HJ3 := Aside0.mk hJ3
        obtain ⟨cy, ck⟩ := HW3.out.cells
        have e0 := cell_of hs3 0 rfl
        have e1 := cell_of hs3 1 rfl
        have e4 := cell_of hs3 4 rfl
        have e5 := cell_of hs3 5 rfl
        have HS3 := Aside0.mk hs3
        clear hs3 hk3 hk3' hJ3 HJS HK HW2
        obtain ⟨⟨h4, h5⟩, hb1⟩ := HH.out
        clear HH
        have HB1 := Aside0.mk hb1
        clear hb1
        have h8 : ((x.f0 == 8) = true ∧ innR x rm = x.f1) ∨ ((x.f0 == 8) = false ∧ innR x rm = rm) := by
          by_cases q : x.f0 = 8
          · exact .inl ⟨by simpa using q, if_pos q⟩
          · exact .inr ⟨by simpa using q, if_neg q⟩
        rcases h8 with ⟨h8, hin⟩ | ⟨h8, hin⟩
        all_goals (
          rw [hin] at h4 h5
          clear hin
          have ih1 := (HL.out (n - 1) A4 c4 x.f4 _ (pre ++ ys ++ [pl]) W3 a4 H4 HW3.out HJ3.out h4 (fun z hz => HG.out z (by rw [HX.out]; simp [hz])) (by simp; omega)).mono (R' := fun e W1 =>
            (e = .returned (.bool true) ∧ W1.cell? ⟨wr.heap.size, 5, none⟩ = some (.slice A5 x.f5.length c5) ∧ W1.cell? ⟨Bw, 0, none⟩ = some (.func (.func 110) #[] #[.pointer (some ⟨By, 0, none⟩), .pointer (some ⟨Bw, 0, none⟩)]) ∧ ∃ zs : List Pl, Aside0 (zs.map Pl.ints = a4 ∧ J (pre ++ ys ++ [pl] ++ zs) W1 ∧ Kq w0.heap.size B W W1)) ∨
            (e = .returned (.bool false) ∧ ∃ zs : List Pl, zs.map Pl.ints <+: a4 ∧ Jx (pre ++ ys ++ [pl] ++ zs) W1))
            (fun e W1 h => h.elim (fun ⟨he, zs, hz, hj, hk⟩ => .inl ⟨he, cell_of (hk.cells _ _ _ _ hBw HS3.out) 5 rfl, (HW3.out.step hy hw hk).cells.2, zs, ⟨hz, hj, HK3.out.trans hk⟩⟩) .inr)
          have ih2 := fun W1 zs (hj : J (pre ++ ys ++ [pl] ++ zs) W1) (hz : zs.map Pl.ints = a4) (hk : Kq w0.heap.size B W W1) => HL.out (n - 1) A5 c5 x.f5 _ (pre ++ ys ++ [pl] ++ zs) W1 a5 H5 (HW.out.step hy hw hk) hj h5 (fun z hz => HG.out z (by rw [HX.out]; simp [hz])) (by have := congrArg List.length hz; simp at this; simp; omega)
          clear h4 h5
          gi_wp2
          refine ⟨trivial, hdd _, ?_⟩
          refine ih1.mono ?_
          clear ih1
          rintro e W1 (⟨rfl, c5', ck', zs, HZ⟩ | ⟨rfl, zs, hzs, hx4⟩)
          · gi_wp2
            refine ⟨trivial, hdd _, ?_⟩
            refine (ih2 _ zs HZ.out.2.1 HZ.out.1 HZ.out.2.2).mono ?_
            clear ih2
            rintro e W2 (⟨rfl, us, hus, hJ5, hk5⟩ | ⟨rfl, us, hus, hx5⟩)
            · gi_wp2
              go_roundw
              case rel => exact ⟨i + 1, ys ++ [pl] ++ zs ++ us, b, by go_num, by omega, ⟨by rw [HX.out]; simp [HI.out, HZ.out.1, hus]⟩, HB1, ⟨by simpa [List.append_assoc] using hJ5⟩, ⟨HZ.out.2.2.trans hk5⟩⟩
              case measure => simp [intOf]; omega
            · gi_wp2
              go_ret
              refine .inr ⟨rfl, ys ++ [pl] ++ zs ++ us, ?_, by simpa [List.append_assoc] using hx5⟩
              rw [HX.out]
              obtain ⟨q, hq⟩ := hus
              exact ⟨q ++ b, by simp [HI.out, HZ.out.1, ← hq]⟩
          · gi_wp2
            refine ⟨fun _ h => (by cases h), ?_⟩
            gi_wp2
            go_ret
            refine .inr ⟨rfl, ys ++ [pl] ++ zs, ?_, by simpa [List.append_assoc] using hx4⟩
            rw [HX.out]
            obtain ⟨q, hq⟩ := hzs
            exact ⟨q ++ a5 ++ b, by simp [HI.out, ← hq]⟩)
      · gi_wp2
        go_ret
        refine .inr ⟨rfl, ys ++ [pl], ?_, by simpa [List.append_assoc] using hJx3⟩
        rw [HX.out]
        exact ⟨a4 ++ a5 ++ b, by simp [HI.out]⟩
    · have hltz : decide ((i : Int) < (ls.length : Int)) = false := decide_eq_false (by omega)
      have ha := HA.out
      rw [List.drop_of_length_le (by omega)] at ha
      obtain rfl := Option.some.inj (show some [] = some rest from ha)
      clear ha HA
      gi_wp2
      go_ret
      exact .inl ⟨rfl, ys, by rw [HX.out, List.append_nil], HJS.out, HK.out⟩
end Go.Proofs.Ythbflhimmmfonaa.P
namespace Go.Proofs.Ythbflhimmmfonaa.P
open Go.RowKit Go.Proofs.YthbflhimmmfonaaW.PrintWords Go.Proofs.YthbflhimmmfonaaW.PrintLast Go.Proofs.YthbflhimmmfonaaW.PrintMore
attribute [local go_sem] Oper.semAt_some
set_option linter.unusedVariables false
set_option linter.unusedSimpArgs false
theorem run_store_fn (P : Program) (w : World) (a : Addr) (m : Mode) (fn : Fn) (first cap : Array Value) : (store a (.func fn first cap) m).run P w = stored P w a (.func fn first cap) m := run_store P w a _ m rfl
attribute [local go_sem] run_store_fn
theorem walk_says (G : I5 → Prop) (w0 : World) (l By Bw B N : Nat) (J Jx : List Pl → World → Prop) (hB : w0.heap.size ≤ B) (hy : B ≤ By) (hw : B ≤ Bw) (hR : Rounds G l N w0.heap.size B J Jx) (hJ : Grows J) : ∀ k, WSays G w0 l By Bw B N J Jx (allK k)
  | 0 => fun _ _ _ _ _ _ _ _ _ _ _ h _ _ => by cases h
  | k + 1 => walk_of G w0 l By Bw B N J Jx hB hy hw hR hJ (allK k) (walk_says G w0 l By Bw B N J Jx hB hy hw hR hJ k)
theorem yield_any {m m' : Nat} {P : Program} {l : Nat} {args : Array Value} {W : World} {R : Ending → World → Prop} (h : YieldAt Fence.wide m P l args W R) : YieldAt Fence.wide m' P l args W R := by
  obtain ⟨fn, tmps, assign, body, hy, hR⟩ := h
  exact ⟨fn, tmps, assign, body, hy, hR.1, fun c cs _ => hR.2 c cs (fun d h => by cases h)⟩
set_option maxHeartbeats 2000000 in
theorem all1_in (G : I5 → Prop) (w0 : World) (n l Bl Br N B : Nat) (J Jx : List Pl → World → Prop) (hB : w0.heap.size ≤ B) (hR : Rounds G l N w0.heap.size B J Jx) (hJ : Grows J) (A : Option Addr) (c : Nat) (ls : List S104) (rm : Int) (xs : List I5) (k : Nat)
    (hC : Kd.C k104 w0 A ls.length ls) (W : World) (hW : Below w0.heap.size w0 W) (hBW : B ≤ W.heap.size) (hl : W.cell? ⟨Bl, 0, none⟩ = some (.slice A ls.length c)) (hr : W.cell? ⟨Br, 0, none⟩ = some (.int .i64 rm)) (h0 : J [] W) (h : allK k ls rm = some xs) (hG : ∀ z ∈ xs, G z) (hN : xs.length ≤ N) :
    CallsIn Fence.wide n Try.prog 109 #[.func (.yield l) #[] #[], .pointer (some ⟨Bl, 0, none⟩), .pointer (some ⟨Br, 0, none⟩)] W fun e W' => (∃ v, e = .returned v) ∧ ((∃ ys : List Pl, ys.map Pl.ints = xs ∧ J ys W') ∨ (∃ pre : List Pl, pre.map Pl.ints <+: xs ∧ Jx pre W')) := by
  have hdd : ∀ k : Nat, (Fence.wide.depth.isSome = true → 1 ≤ k) := fun k h => by cases h
  have l1 := World.block_lt_of_cell? W _ hl
  have l2 := World.block_lt_of_cell? W _ hr
  obtain ⟨W2, hW2⟩ : ∃ W2, W2 = (W.alloc (.cells #[.func (.yield l) #[] #[]] 130)).alloc (.cells #[.func (.func 110) #[] #[.pointer (some ⟨W.heap.size, 0, none⟩), .pointer (some ⟨W.heap.size + 1, 0, none⟩)]] 131) := ⟨_, rfl⟩
  have hq : Kq w0.heap.size B W W2 := by rw [hW2]; exact ((Kq.refl _ _ W).alloc (Nat.le_trans hB hBW) _).alloc (by rw [size_alloc]; omega) _
  have hy2 : W2.heap[W.heap.size]? = some (.cells #[.func (.yield l) #[] #[]] 130 (0, 0)) := by rw [hW2]; exact blk_alloc (blk_new W _) _
  have hw2 : W2.heap[W.heap.size + 1]? = some (.cells #[.func (.func 110) #[] #[.pointer (some ⟨W.heap.size, 0, none⟩), .pointer (some ⟨W.heap.size + 1, 0, none⟩)]] 131 (0, 0)) := by
    rw [hW2, ← size_alloc W (.cells #[.func (.yield l) #[] #[]] 130)]
    exact blk_new _ _
  have hj2 : J [] W2 := by rw [hW2]; exact hJ _ _ _ (hJ _ _ _ h0 (World.grownBy_alloc _ _ none)) (World.grownBy_alloc _ _ none)
  have hp := walk_says G w0 l W.heap.size (W.heap.size + 1) B N J Jx hB hBW (by omega) hR hJ k (n - 1) A c ls rm [] W2 xs hC ⟨hW.trans hq.below, hy2, hw2⟩ hj2 h hG (by simpa using hN)
  have m1 : ∀ v t v' t', ((W.alloc (.cells v t)).alloc (.cells v' t')).cell? ⟨Bl, 0, none⟩ = some (.slice A ls.length c) := fun v t v' t' => ((below_alloc (below_alloc (Below.refl _ W) _) _).cell l1).trans hl
  have m2 : ∀ v t v' t', ((W.alloc (.cells v t)).alloc (.cells v' t')).cell? ⟨Br, 0, none⟩ = some (.int .i64 rm) := fun v t v' t' => ((below_alloc (below_alloc (Below.refl _ W) _) _).cell l2).trans hr
  have hmf : ∀ (fn : Fn) (first cap : Array Value) (w : World), (Instr.makeFunc fn first cap).run Try.prog w = .ok (.func fn first cap) w := by
    intros
    rfl
  rw [hW2] at hp
  have HP := Aside0.mk hp
  clear hp hj2 hw2 hy2 hq hW2 hR hJ hC h0 h hl hr
  refine callsIn_of_wp Try.func109 rfl trivial ?_ rfl
  simp only [Try.ntmps109, List.size_toArray, List.length_cons, List.length_nil, Nat.reduceAdd, Nat.reduceSub, Array.replicate_succ, Array.replicate_zero, List.push_toArray, List.append_toArray, List.nil_append, List.cons_append]
  gi_wp2
  refine ⟨trivial, hdd _, ?_⟩
  refine HP.out.mono ?_
  rintro e W3 (⟨rfl, ys, hys, hj, _⟩ | ⟨rfl, ys, hys, hx⟩)
  · gi_wp2
    go_end0
    exact ⟨⟨_, rfl⟩, .inl ⟨ys, hys, by simpa using hj⟩⟩
  · gi_wp2
    go_end0
    exact ⟨⟨_, rfl⟩, .inr ⟨ys, hys, by simpa using hx⟩⟩
theorem all_stops (w0 : World) (n Bl Br : Nat) (A : Option Addr) (c : Nat) (ls : List S104) (rm : Int) (xs : List I5) (k : Nat) (hC : Kd.C k104 w0 A ls.length ls) (w : World) (hw : Below w0.heap.size w0 w)
    (hl : w.cell? ⟨Bl, 0, none⟩ = some (.slice A ls.length c)) (hr : w.cell? ⟨Br, 0, none⟩ = some (.int .i64 rm)) (h : allK k ls rm = some xs) :
    SeqStopsK Fence.wide n Try.prog 109 #[.pointer (some ⟨Bl, 0, none⟩), .pointer (some ⟨Br, 0, none⟩)] Pl.enc (Kq w0.heap.size w.heap.size) (fun ys => ys.map Pl.ints = xs) (fun pre => pre.map Pl.ints <+: xs) xs.length w := fun l J Jx W hW hJ _ hY h0 =>
  all1_in (fun _ => True) w0 n l Bl Br xs.length w.heap.size J Jx hw.size (fun m pre x W1 hj hlen _ => yield_any (hY pre x W1 hj hlen)) (fun s X Y hs hg => hJ s X Y none hs hg (fun r e => by cases e)) A c ls rm xs k hC W (hw.trans (hW.mono hw.size)) hW.size
    ((hW.cell (World.block_lt_of_cell? w _ hl)).trans hl) ((hW.cell (World.block_lt_of_cell? w _ hr)).trans hr) h0 h (fun _ _ => trivial) (Nat.le_refl _)
theorem all_stopsG (w0 : World) (n Bl Br : Nat) (A : Option Addr) (c : Nat) (ls : List S104) (rm : Int) (xs : List I5) (k : Nat) (hC : Kd.C k104 w0 A ls.length ls) (w : World) (hw : Below w0.heap.size w0 w)
    (hl : w.cell? ⟨Bl, 0, none⟩ = some (.slice A ls.length c)) (hr : w.cell? ⟨Br, 0, none⟩ = some (.int .i64 rm)) (h : allK k ls rm = some xs) :
    SeqStopsK Fence.wide n Try.prog 109 #[.pointer (some ⟨Bl, 0, none⟩), .pointer (some ⟨Br, 0, none⟩)] (fun x : {x : Pl // x.ints ∈ xs} => Pl.enc x.1) (Kq w0.heap.size w.heap.size) (fun ys => ys.map (fun y => y.1.ints) = xs) (fun pre => pre.map (fun y => y.1.ints) <+: xs) xs.length w := fun l J Jx W hW hJ _ hY h0 => by
  have e := all1_in (fun z => z ∈ xs) w0 n l Bl Br xs.length w.heap.size (fun (s : List Pl) W => ∃ s' : List {x : Pl // x.ints ∈ xs}, s'.map Subtype.val = s ∧ J s' W) (fun (s : List Pl) W => ∃ s' : List {x : Pl // x.ints ∈ xs}, s'.map Subtype.val = s ∧ Jx s' W) hw.size (fun m pre x W1 hj hlen hx => by
      obtain ⟨s', hs, hj⟩ := hj
      obtain ⟨fn, tmps, assign, body, hyy, hRd⟩ := yield_any (m' := m) (hY s' ⟨x, hx⟩ W1 hj (by rw [← hs, List.length_map] at hlen; exact hlen))
      refine ⟨fn, tmps, assign, body, hyy, hRd.mono ?_⟩
      rintro e W' (⟨h1, h2, h3⟩ | ⟨h1, h2⟩)
      · exact .inl ⟨h1, ⟨_, by rw [List.map_append, hs]; rfl, h2⟩, h3⟩
      · exact .inr ⟨h1, ⟨_, by rw [List.map_append, hs]; rfl, h2⟩⟩)
    (fun s X Y hs hg => by
      obtain ⟨s', hs, hj⟩ := hs
      exact ⟨s', hs, hJ s' X Y none hj hg (fun r e => by cases e)⟩) A c ls rm xs k hC W (hw.trans (hW.mono hw.size)) hW.size
    ((hW.cell (World.block_lt_of_cell? w _ hl)).trans hl) ((hW.cell (World.block_lt_of_cell? w _ hr)).trans hr) ⟨[], rfl, h0⟩ h (fun _ hz => hz) (Nat.le_refl _)
  refine e.mono ?_
  rintro e W' ⟨hv, ⟨ys, hys, s', hs, hj⟩ | ⟨pre, hpre, s', hs, hj⟩⟩
  · subst hs
    rw [List.map_map] at hys
    exact ⟨hv, .inl ⟨s', hys, hj⟩⟩
  · subst hs
    rw [List.map_map] at hpre
    exact ⟨hv, .inr ⟨s', hpre, hj⟩⟩
theorem Kq.setCell {n₀ B : Nat} (W : World) {b : Nat} (v : Value) (h1 : n₀ ≤ b) (h2 : b < B) : Kq n₀ B W (W.setCell ⟨b, 0, none⟩ v) :=
  ⟨(Below.refl n₀ W).setCell (p := ⟨b, 0, none⟩) h1 v, fun k cs t fr hk h => (Below.heap_setCell W ⟨b, 0, none⟩ v k (by show k ≠ b; omega)).trans h⟩
theorem boxed_own (B : Nat) (t : TypeId) (f : List Pl → Value) : Own (fun s W => Boxed W B t (f s)) := by
  intro s X Y row hs hg hr
  refine hs.kept hg fun e => ?_
  obtain ⟨o, ho, hc⟩ := hr B e.symm
  rw [show X.heap[B]? = _ from hs] at ho
  cases ho
  cases hc
theorem wrap_len (pre : List Pl) (x : Pl) : wrap64 (wrap64 (pre.length : Int) + 1) = wrap64 (((pre ++ [x]).length : Nat) : Int) := by
  rw [List.length_append, List.length_singleton]
  unfold wrap64
  push_cast
  omega
theorem all_calls (A : Option Addr) (n c : Nat) (rm : Int) (w : World) : Calls Try.prog 82 #[.slice A n c, .int .i64 rm] w fun e w' => e = .returned (.func (.func 109) #[] #[.pointer (some ⟨w.heap.size, 0, none⟩), .pointer (some ⟨w.heap.size + 1, 0, none⟩)]) ∧ w' = (w.alloc (.cells #[.slice A n c] 82)).alloc (.cells #[.int .i64 rm] 3) := by
  have hmf : ∀ (fn : Fn) (first cap : Array Value) (w : World), (Instr.makeFunc fn first cap).run Try.prog w = .ok (.func fn first cap) w := by
    intros
    rfl
  go_enter Try.func82, Try.ntmps82
  go_wp2
  go_ret
  exact ⟨by first | rfl | simp, by first | rfl | simp⟩
set_option maxRecDepth 100000 in
set_option maxHeartbeats 2000000 in
theorem stmtsOk_walk (A : Option Addr) (c : Nat) (ls : List S104) (b : Bool) (xs : List I5) (k : Nat) (w : World) (hC : Kd.C k104 w A ls.length ls) (hc : ls.length ≤ c) (hb : impl_listOk.f k ls 3 (-1) = some b) (hx : b = true → allK k ls (-1) = some xs) :
    Calls Try.prog 103 #[.slice A ls.length c] w fun e w' => e = .returned (.bool (b && decide (wrap64 (xs.length : Int) ≤ 14))) ∧ Below w.heap.size w w' := by
  have hdd : ∀ k : Nat, (Fence.wide.depth.isSome = true → 1 ≤ k) := fun k h => by cases h
  have HC := Aside0.mk hC
  have HB := Aside0.mk hb
  have HX := Aside0.mk hx
  clear hC hb hx
  refine (callsIn_wide (n := 9)).1 ?_
  refine callsIn_of_wp_marks Try.func103 rfl trivial ?_ rfl
  simp only [Try.ntmps103, List.size_toArray, List.length_cons, List.length_nil, Nat.reduceAdd, Nat.reduceSub, Array.replicate_succ, Array.replicate_zero, List.push_toArray, List.append_toArray, List.nil_append, List.cons_append]
  gi_wp2
  refine ⟨trivial, ?_⟩
  refine (callsIn_wide.2 (impl_listOk.calls k A c ls 3 (-1) b w HC.out hc HB.out)).mono ?_
  rintro e W1 ⟨rfl, hb1⟩
  cases b with
  | false =>
    gi_wp2
    exact ⟨_, results_tmp rfl _ _ _, rfl, hb1⟩
  | true =>
    have HB1 := Aside0.mk hb1
    clear hb1
    gi_wp2
    refine ⟨trivial, ?_⟩
    refine (callsIn_wide.2 (all_calls A ls.length c (-1) _)).mono ?_
    rintro e W3 ⟨rfl, rfl⟩
    obtain ⟨W2, hW2⟩ : ∃ W2, W1.alloc (.cells #[.int .i64 0] 3) = W2 := ⟨_, rfl⟩
    rw [hW2]
    have hx := HX.out trivial
    clear HX
    have z1 : W2.heap.size = W1.heap.size + 1 := by rw [← hW2, size_alloc]
    have hm0 : W2.heap[W1.heap.size]? = some (.cells #[.int .i64 0] 3 (0, 0)) := by rw [← hW2]; exact blk_new W1 _
    have hB2 : Below w.heap.size w W2 := by rw [← hW2]; exact below_alloc HB1.out _
    obtain ⟨W3, hW3⟩ : ∃ W3, (W2.alloc (.cells #[.slice A ls.length c] 82)).alloc (.cells #[.int .i64 (-1)] 3) = W3 := ⟨_, rfl⟩
    have hB3 : Below w.heap.size w W3 := by rw [← hW3]; exact below_alloc (below_alloc hB2 _) _
    have z3 : W3.heap.size = W1.heap.size + 3 := by rw [← hW3, size_alloc, size_alloc, z1]
    have c1 : W3.cell? ⟨W2.heap.size, 0, none⟩ = some (.slice A ls.length c) := cell_of (by rw [← hW3]; exact blk_alloc (blk_new W2 _) _) 0 rfl
    have c2 : W3.cell? ⟨W2.heap.size + 1, 0, none⟩ = some (.int .i64 (-1)) := cell_of (by rw [← hW3, ← size_alloc W2 (.cells #[.slice A ls.length c] 82)]; exact blk_new _ _) 0 rfl
    have hm3 : W3.heap[W1.heap.size]? = some (.cells #[.int .i64 0] 3 (0, 0)) := by rw [← hW3]; exact blk_alloc (blk_alloc hm0 _) _
    rw [z1] at c1 c2
    have hs := all_stops w 8 (W1.heap.size + 1) (W1.heap.size + 1 + 1) A c ls (-1) xs k HC.out W3 hB3 c1 c2 hx
    have hle := HB1.out.size
    rw [hW3]
    have HS := Aside0.mk (And.intro hs (And.intro hx (And.intro hW2 hW3)))
    clear hs hx hW2 hW3
    gi_wp2
    refine wpIn_rangeFunc_ownF rfl (by omega) (gf := 109) (lb := #[.pointer (some ⟨W1.heap.size + 1, 0, none⟩), .pointer (some ⟨W1.heap.size + 1 + 1, 0, none⟩)]) rfl trivial (Go.Proofs.enters_of Try.func109 (by kernel_rfl) rfl)
      HS.out.1 (fun h k => Kq.t h k) (Kq.b (by omega)) (Below.refl _ _) (fun _ => rfl)
      (fun pre W => Boxed W W1.heap.size 3 (.int .i64 (wrap64 (pre.length : Int))) ∧ Below w.heap.size w W)
      (fun _ _ _ => False)
      (OwnFrom.and (Own.from (boxed_own W1.heap.size 3 (fun pre => .int .i64 (wrap64 (pre.length : Int)))) _) (ownFrom_below (Nat.le_refl _) (by omega)))
      (fun _ _ _ _ _ hs _ _ => hs)
      ⟨by rw [show wrap64 (([] : List Pl).length : Int) = 0 from by simp [wrap64]]; exact hm3, hB3⟩
      (fun x => { tmps := #[.slice A ls.length c, undef, .bool false, .pointer (some ⟨W1.heap.size, 0, none⟩), .slice A ls.length c, .bool true, .bool false, .slice A ls.length c, .func (.func 109) #[] #[.pointer (some ⟨W1.heap.size + 1, 0, none⟩), .pointer (some ⟨W1.heap.size + 1 + 1, 0, none⟩)], (.agg #[.int .i64 x.k, .int .i64 x.a, .int .i64 x.b, .int .i64 x.n, .slice x.s4.1 x.s4.2.1 x.s4.2.2, .slice x.s5.1 x.s5.2.1 x.s5.2.2, .int .i64 x.rm]), undef, undef, undef, undef], defers := [] }) ?assign ?body ?done ?stop
    case assign =>
      intro l x W K hK
      gi_wp2
      unfold Pl.enc
      simpa using hK
    case body =>
      rintro l pre x W ⟨hc, hb⟩ _
      have hcc := hc.cell
      have hff := hc.frozen
      gi_wp2
      refine ⟨KeepsOthers.setCell _ _ _, Kq.setCell _ _ (by omega) (by omega), ?_, hb.setCell (p := ⟨W1.heap.size, 0, none⟩) (by show w.heap.size ≤ W1.heap.size; omega) _⟩
      rw [← wrap_len]
      exact hc.set _
    case done =>
      rintro D ys W hD hS ⟨hc, hb⟩ hK
      have hcc := hc.cell
      gi_wp2
      refine ⟨by simp, .inl ⟨_, _, rfl, run_takeDeferred hK, ?_⟩⟩
      refine ⟨_, results_tmp rfl _ _ _, ?_, hb.trans (belowK_b (w := w) (Nat.le_refl _) W D _ _ (by omega) hK rfl rfl)⟩
      rw [show xs.length = ys.length by rw [← hS, List.length_map]]
      simp
    case stop =>
      rintro D c pre W _ _ h _
      exact h.elim
def impl_StmtsOk.f (k : Nat) (l0 : List S104) : Option Bool := (impl_listOk.f k l0 3 (-1)).bind fun b => if b = true then (allK k l0 (-1)).bind fun xs => some (decide (wrap64 (xs.length : Int) ≤ 14)) else some false
theorem impl_StmtsOk.calls (k : Nat) (A0 : Option Addr) (c0 : Nat) (l0 : List S104) (r : Bool) (w : World) (hr0 : Kd.C k104 w A0 l0.length l0) (hc0 : l0.length ≤ c0) (h : impl_StmtsOk.f k l0 = some r) :
    Calls Try.prog 103 #[.slice A0 l0.length c0] w fun e w' => e = .returned (.bool r) ∧ Below w.heap.size w w' := by
  obtain ⟨b, hb, h⟩ := Option.bind_eq_some_iff.1 h
  cases b with
  | false =>
    obtain rfl := Option.some.inj (show some false = some r by simpa using h)
    have q := stmtsOk_walk A0 c0 l0 false [] k w hr0 hc0 hb (fun h => by cases h)
    rw [Bool.false_and] at q
    exact q
  | true =>
    obtain ⟨xs, hx, h⟩ := Option.bind_eq_some_iff.1 (show ((allK k l0 (-1)).bind fun xs => some (decide (wrap64 (xs.length : Int) ≤ 14))) = some r by simpa using h)
    have q := stmtsOk_walk A0 c0 l0 true xs k w hr0 hc0 hb (fun _ => hx)
    rw [Bool.true_and, Option.some.inj h] at q
    exact q
end Go.Proofs.Ythbflhimmmfonaa.P

namespace Go.Proofs.Ythbflhimmmfonaa.P
open Go.RowKit Go.Maps Go.Proofs.YthbflhimmmfonaaW.PrintWords Go.Proofs.YthbflhimmmfonaaW.PrintLast Go.Proofs.YthbflhimmmfonaaW.PrintMore
attribute [local go_sem] max2_int min2_int max_two min_two max_three min_three max_four min_four
set_option linter.unusedVariables false
set_option linter.unusedSimpArgs false
def listG {α : Type} (T : α → Option Bool) : List α → Option Bool
  | [] => some true
  | x :: t => (T x).bind fun b => if b = true then listG T t else some false
theorem progOk1_calls (k : Nat) (A : Option Addr) (c : Nat) (l : List S104) (r : Bool) (w : World) (hr : Kd.C k104 w A l.length l) (hc : l.length ≤ c) (h : impl_StmtsOk.f k l = some r) :
    Calls Try.prog 102 #[.slice A l.length c] w fun e w' => e = .returned (.bool (!r)) ∧ Below w.heap.size w w' := by
  have HI := Aside0.mk (impl_StmtsOk.calls k A c l r w hr hc h)
  clear hr h
  go_enter Try.func102, Try.ntmps102
  go_wp2_with (go_at_call 103; refine HI.out.mono ?_; rintro e w' ⟨rfl, hb⟩; have HB := Aside0.mk hb; clear hb)
  go_ret
  exact ⟨by first | rfl | (simp; done), (by repeat (first | exact HB.out | (with_reducible apply pw_below_drewN) | (with_reducible apply below_drew1) | (with_reducible apply below_alloc) | exact Below.refl _ _))⟩
set_option maxHeartbeats 4000000 in
theorem pgIdx_calls (k : Nat) (A : Option Addr) (c : Nat) (l : List (List S104)) (r : Bool) (w : World) (hr : Kd.C (Kd.slice 104 k104) w A l.length l) (h : listG (impl_StmtsOk.f k) l = some r) :
    Calls Try.prog 113 #[.slice A l.length c, .func (.func 102) #[] #[]] w fun e w' => (∃ i : Int, e = .returned (.int .i64 i) ∧ decide (0 ≤ i) = !r) ∧ Below w.heap.size w w' := by
  have HR := Aside0.mk hr
  have H := Aside0.mk h
  have hl : l.length ≤ 9223372036854775807 := hr.2.1
  clear hr h
  go_enter Try.func113, Try.ntmps113
  go_wp2
  go_loopg [5, 8] l.length (fun gg _ s8 wr => ∃ kk : Nat, kk ≤ l.length ∧ l.length - kk ≤ gg ∧ s8 = .int .i64 kk ∧ Aside0 (listG (impl_StmtsOk.f k) (l.drop kk) = some r) ∧ Aside0 (Below w.heap.size w wr))
  case atStart => exact ⟨0, Nat.zero_le _, by omega, rfl, H, ⟨Below.refl _ w⟩⟩
  case round =>
    obtain ⟨kk, hkk, hg, rfl, HA, HB⟩ := hrel
    clear H
    by_cases hlt : kk < l.length
    · have hltz : decide ((kk : Int) < (l.length : Int)) = true := decide_eq_true (by omega)
      have p1 : 0 ≤ (kk : Int) := by omega
      have q1 : (kk : Int) < (l.length : Int) := by omega
      obtain ⟨ad, cs, e1, _, hK, hc0⟩ := Kd.C_get (Kd.C_below HR.out HB.out) ([] : List S104) (kk : Int) p1 q1
      obtain ⟨A0, c0, rfl, hc0', H0⟩ := hK
      have hq : wr.cell? (ad.add ((kk : Int).toNat * 1 + 0)) = some (.slice A0 (l.getD (kk : Int).toNat []).length c0) := hc0 0 _ rfl
      rw [Nat.mul_one, Nat.add_zero, Int.toNat_natCast] at hq
      rw [Int.toNat_natCast] at hc0' H0
      clear hc0
      cases e1
      have ex : l.drop kk = l.getD kk [] :: l.drop (kk + 1) := by
        rw [List.drop_eq_getElem_cons hlt, List.getD_eq_getElem?_getD, List.getElem?_eq_getElem hlt]
        rfl
      have ha := HA.out
      rw [ex] at ha
      clear HA ex
      obtain ⟨b, hb1, hb2⟩ := Option.bind_eq_some_iff.1 ha
      clear ha
      generalize l.getD kk [] = x at *
      have HC := Aside0.mk (fun W h0 => progOk1_calls k A0 c0 x b W h0 hc0' hb1)
      have HH := Aside0.mk H0
      clear hb1 H0
      replace p1 := eq_true p1
      replace q1 := eq_true q1
      cases b with
      | false =>
        obtain rfl := Option.some.inj (show some false = some r by simpa using hb2)
        clear hb2
        go_wp2_with (go_at_call 102; refine (HC.out _ HH.out).mono ?_; rintro e w' ⟨rfl, hb'⟩; have n2 := Aside0.mk (below_step HB.out hb'); clear HB HC hb' hq; have HB := n2; clear n2)
        go_ret
        exact ⟨⟨(kk : Int), rfl, by rw [decide_eq_true (by omega : (0 : Int) ≤ kk)]; rfl⟩, (by repeat (first | exact HB.out | (with_reducible apply pw_below_drewN) | (with_reducible apply below_drew1) | (with_reducible apply below_alloc) | exact Below.refl _ _))⟩
      | true =>
        have HN := Aside0.mk (show listG (impl_StmtsOk.f k) (l.drop (kk + 1)) = some r by simpa using hb2)
        clear hb2
        go_wp2_with (go_at_call 102; refine (HC.out _ HH.out).mono ?_; rintro e w' ⟨rfl, hb'⟩; have n2 := Aside0.mk (below_step HB.out hb'); clear HB HC hb' hq; have HB := n2; clear n2)
        go_roundg (l.length - (kk + 1))
        case measure => omega
        case rel => exact ⟨kk + 1, by omega, by omega, by go_num, HN, ⟨(by repeat (first | exact HB.out | (with_reducible apply pw_below_drewN) | (with_reducible apply below_drew1) | (with_reducible apply below_alloc) | exact Below.refl _ _))⟩⟩
    · have hltz : decide ((kk : Int) < (l.length : Int)) = false := decide_eq_false (by omega)
      have ha := HA.out
      rw [List.drop_of_length_le (by omega)] at ha
      obtain rfl := Option.some.inj (show some true = some r from ha)
      clear ha HA
      go_wp2
      go_ret
      exact ⟨⟨-1, rfl, by rw [decide_eq_false (by omega)]; rfl⟩, (by repeat (first | exact HB.out | (with_reducible apply pw_below_drewN) | (with_reducible apply below_drew1) | (with_reducible apply below_alloc) | exact Below.refl _ _))⟩
theorem pgAny_calls (k : Nat) (A : Option Addr) (c : Nat) (l : List (List S104)) (r : Bool) (w : World) (hr : Kd.C (Kd.slice 104 k104) w A l.length l) (h : listG (impl_StmtsOk.f k) l = some r) :
    Calls Try.prog 101 #[.slice A l.length c, .func (.func 102) #[] #[]] w fun e w' => e = .returned (.bool (!r)) ∧ Below w.heap.size w w' := by
  have HI := Aside0.mk (pgIdx_calls k A c l r w hr h)
  clear hr h
  go_enter Try.func101, Try.ntmps101
  go_wp2_with (go_at_call 113; refine HI.out.mono ?_; rintro e w' ⟨⟨i, rfl, hi⟩, hb⟩; have HB := Aside0.mk hb; clear hb)
  go_ret
  exact ⟨by first | rfl | rw [hi], (by repeat (first | exact HB.out | (with_reducible apply pw_below_drewN) | (with_reducible apply below_drew1) | (with_reducible apply below_alloc) | exact Below.refl _ _))⟩
def impl_ProgOk.f (k : Nat) (l0 : List (List S104)) : Option Bool := if 1 ≤ (l0.length : Int) then if (l0.length : Int) ≤ 3 then listG (impl_StmtsOk.f k) l0 else some false else some false
set_option maxHeartbeats 2000000 in
theorem impl_ProgOk.calls (k : Nat) (A0 : Option Addr) (c0 : Nat) (l0 : List (List S104)) (r : Bool) (w : World) (hr0 : Kd.C (Kd.slice 104 k104) w A0 l0.length l0) (hc0 : l0.length ≤ c0) (h : impl_ProgOk.f k l0 = some r) :
    Calls Try.prog 66 #[.slice A0 l0.length c0] w fun e w' => e = .returned (.bool r) ∧ Below w.heap.size w w' := by
  have HR := Aside0.mk hr0
  clear hr0
  unfold impl_ProgOk.f at h
  by_cases h1 : 1 ≤ (l0.length : Int)
  · have b1 : decide (1 ≤ (l0.length : Int)) = true := decide_eq_true h1
    rw [if_pos h1] at h
    by_cases h2 : (l0.length : Int) ≤ 3
    · have b2 : decide ((l0.length : Int) ≤ 3) = true := decide_eq_true h2
      rw [if_pos h2] at h
      have HI := Aside0.mk (fun W hW => pgAny_calls k A0 c0 l0 r W hW h)
      clear h1 h2 h
      go_enter Try.func66, Try.ntmps66
      go_wp2_with (go_at_call 101; refine (HI.out _ HR.out).mono ?_; rintro e w' ⟨rfl, hb⟩; have HB := Aside0.mk hb; clear hb)
      go_ret
      exact ⟨by first | rfl | (simp; done), (by repeat (first | exact HB.out | (with_reducible apply pw_below_drewN) | (with_reducible apply below_drew1) | (with_reducible apply below_alloc) | exact Below.refl _ _))⟩
    · have b2 : decide ((l0.length : Int) ≤ 3) = false := decide_eq_false h2
      rw [if_neg h2] at h
      obtain rfl := Option.some.inj h
      clear h1 h2 h
      go_enter Try.func66, Try.ntmps66
      go_wp2
      go_ret
      exact ⟨by first | rfl | (simp; done), (by repeat (first | (with_reducible apply pw_below_drewN) | (with_reducible apply below_drew1) | (with_reducible apply below_alloc) | exact Below.refl _ _))⟩
  · have b1 : decide (1 ≤ (l0.length : Int)) = false := decide_eq_false h1
    rw [if_neg h1] at h
    obtain rfl := Option.some.inj h
    clear h1 h
    go_enter Try.func66, Try.ntmps66
    go_wp2
    go_ret
    exact ⟨by first | rfl | (simp; done), (by repeat (first | (with_reducible apply pw_below_drewN) | (with_reducible apply below_drew1) | (with_reducible apply below_alloc) | exact Below.refl _ _))⟩
end Go.Proofs.Ythbflhimmmfonaa.P

namespace Go.Proofs.Ythbflhimmmfonaa.P
open Go.RowKit Go.Proofs.YthbflhimmmfonaaW.PrintWords Go.Proofs.YthbflhimmmfonaaW.PrintLast Go.Proofs.YthbflhimmmfonaaW.PrintMore
attribute [local go_sem] max2_int min2_int max_two min_two max_three min_three max_four min_four
set_option linter.unusedVariables false
set_option linter.unusedSimpArgs false
def ownOff (n : Int) : Bool := decide (n < 0) || decide (n ≥ 2)
theorem ownOff_calls (n : Int) (w : World) : Calls Try.prog 81 #[.int .i64 n] w fun e w' => e = .returned (.bool (ownOff n)) ∧ Drawn0 w w' := by
  unfold ownOff
  by_cases h : n < 0
  · have h0 : decide (n < 0) = true := decide_eq_true h
    rw [h0]
    go_enter Try.func81, Try.ntmps81
    go_wp2
    go_ret
    exact ⟨by simp, by repeat (first | exact Drawn0.refl _ | apply Drawn0.step)⟩
  · have h0 : decide (n < 0) = false := decide_eq_false h
    rw [h0]
    go_enter Try.func81, Try.ntmps81
    go_wp2
    go_ret
    exact ⟨by simp, by repeat (first | exact Drawn0.refl _ | apply Drawn0.step)⟩
set_option maxHeartbeats 2000000 in
theorem ownIdx_calls (A : Option Addr) (c : Nat) (l : List Int) (w : World) (hr : Kd.C (Kd.int .i64) w A l.length l) :
    Calls Try.prog 108 #[.slice A l.length c, .func (.func 81) #[] #[]] w fun e w' => (∃ i : Int, e = .returned (.int .i64 i) ∧ decide (0 ≤ i) = l.any ownOff) ∧ Drawn0 w w' := by
  have HR := Aside0.mk hr
  have hl : l.length ≤ 9223372036854775807 := hr.2.1
  clear hr
  go_enter Try.func108, Try.ntmps108
  go_wp2
  go_loopg [5, 8] l.length (fun gg _ s8 wr => ∃ kk : Nat, kk ≤ l.length ∧ l.length - kk ≤ gg ∧ s8 = .int .i64 kk ∧ Aside0 (∀ j, j < kk → ownOff (rd l (j : Int)) = false) ∧ Drawn0 w wr)
  case atStart => exact ⟨0, Nat.zero_le _, by omega, rfl, ⟨fun j hj => absurd hj (Nat.not_lt_zero _)⟩, by repeat (first | exact Drawn0.refl _ | apply Drawn0.step)⟩
  case round =>
    obtain ⟨kk, hkk, hg, rfl, HA, ⟨m1, rfl⟩⟩ := hrel
    by_cases hlt : kk < l.length
    · have hltz : decide ((kk : Int) < (l.length : Int)) = true := decide_eq_true (by omega)
      have p1 : 0 ≤ (kk : Int) := by omega
      have q1 : (kk : Int) < (l.length : Int) := by omega
      obtain ⟨ad, e1, hx⟩ := Kd.at_int HR.out (kk : Int) p1 q1
      cases e1
      rw [Int.toNat_natCast] at hx
      replace p1 := eq_true p1
      replace q1 := eq_true q1
      have hcall := fun W => ownOff_calls (rd l (kk : Int)) W
      cases hq : ownOff (rd l (kk : Int)) with
      | true =>
        rw [hq] at hcall
        go_wp2_with (go_at_call 81; refine (hcall _).mono ?_; rintro e w' ⟨rfl, ⟨nd, rfl⟩⟩)
        go_ret
        refine ⟨⟨(kk : Int), rfl, ?_⟩, by repeat (first | exact Drawn0.refl _ | apply Drawn0.step)⟩
        rw [decide_eq_true (by omega : (0 : Int) ≤ kk), eq_comm, List.any_eq_true]
        refine ⟨rd l (kk : Int), ?_, hq⟩
        unfold rd
        rw [Int.toNat_natCast, List.getD_eq_getElem?_getD, List.getElem?_eq_getElem hlt]
        exact List.getElem_mem hlt
      | false =>
        rw [hq] at hcall
        go_wp2_with (go_at_call 81; refine (hcall _).mono ?_; rintro e w' ⟨rfl, ⟨nd, rfl⟩⟩)
        go_roundg (l.length - (kk + 1))
        case measure => omega
        case rel =>
          refine ⟨kk + 1, by omega, by omega, by go_num, ⟨fun j hj => ?_⟩, by repeat (first | exact Drawn0.refl _ | apply Drawn0.step)⟩
          by_cases e : j = kk
          · subst e
            exact hq
          · exact HA.out j (by omega)
    · have hltz : decide ((kk : Int) < (l.length : Int)) = false := decide_eq_false (by omega)
      go_wp2
      go_ret
      refine ⟨⟨-1, rfl, ?_⟩, by repeat (first | exact Drawn0.refl _ | apply Drawn0.step)⟩
      rw [decide_eq_false (by omega), eq_comm, List.any_eq_false]
      intro x hx
      obtain ⟨i, hi, rfl⟩ := List.mem_iff_getElem.1 hx
      have := HA.out i (by omega)
      unfold rd at this
      rw [Int.toNat_natCast, List.getD_eq_getElem?_getD, List.getElem?_eq_getElem hi] at this
      simpa using this
theorem ownAny_calls (A : Option Addr) (c : Nat) (l : List Int) (w : World) (hr : Kd.C (Kd.int .i64) w A l.length l) :
    Calls Try.prog 80 #[.slice A l.length c, .func (.func 81) #[] #[]] w fun e w' => e = .returned (.bool (l.any ownOff)) ∧ Drawn0 w w' := by
  have HR := Aside0.mk hr
  clear hr
  go_enter Try.func80, Try.ntmps80
  go_wp2_with (go_at_call 108; refine (ownIdx_calls _ _ l _ HR.out).mono ?_; rintro e w' ⟨⟨i, rfl, hi⟩, ⟨nd, rfl⟩⟩)
  go_ret
  exact ⟨by first | rfl | rw [hi], by repeat (first | exact Drawn0.refl _ | apply Drawn0.step)⟩
def ownB (x : I5) (own : List Int) : Option Bool :=
  if x.1 = 3 then (if 0 ≤ x.2.2.1 ∧ x.2.2.1 < (own.length : Int) then some (x.2.2.2.2 == rd own x.2.2.1) else none)
  else if x.1 = 4 then (if 0 ≤ x.2.1 ∧ x.2.1 < (own.length : Int) then some (x.2.2.2.2 == rd own x.2.1) else none)
  else if x.1 = 9 ∨ x.1 = 10 then (if 0 ≤ x.2.1 ∧ 3 + x.2.1 < (own.length : Int) then some (x.2.2.2.2 == rd own (3 + x.2.1)) else none)
  else some true
set_option maxHeartbeats 4000000 in
theorem owned_calls (x : Pl) (A : Option Addr) (c : Nat) (own : List Int) (r : Bool) (w : World) (hr : Kd.C (Kd.int .i64) w A own.length own) (h : ownB x.ints own = some r) :
    Calls Try.prog 83 #[.agg #[.int .i64 x.k, .int .i64 x.a, .int .i64 x.b, .int .i64 x.n, .slice x.s4.1 x.s4.2.1 x.s4.2.2, .slice x.s5.1 x.s5.2.1 x.s5.2.2, .int .i64 x.rm], .slice A own.length c] w fun e w' => e = .returned (.bool r) ∧ Below w.heap.size w w' := by
  obtain ⟨k, a, b, n, ⟨A4, l4, c4⟩, ⟨A5, l5, c5⟩, rm⟩ := x
  have hl : own.length ≤ 9223372036854775807 := hr.2.1
  unfold ownB Pl.ints at h
  dsimp only at h ⊢
  have hu := Try.underlying106
  have hu2 := Try.underlying104
  by_cases h3 : k = 3
  · rw [if_pos h3] at h
    have k3 : (k == 3) = true := beq_iff_eq.mpr h3
    clear h3
    by_cases hb : 0 ≤ b ∧ b < (own.length : Int)
    · rw [if_pos hb] at h
      obtain rfl := Option.some.inj h
      clear h
      obtain ⟨p1, q1⟩ := hb
      obtain ⟨ad, e1, hx⟩ := Kd.at_int hr (b) (by omega) q1
      cases e1
      have hx2 : ∀ o, (w.alloc o).cell? (ad.add (b : Int).toNat) = some (.int .i64 (rd own (b))) := fun o => pw_cell_below (below_alloc (Below.refl _ w) o) hx
      have hx3 := hx2 (.cells #[.int .i64 k, .int .i64 a, .int .i64 b, .int .i64 n, .slice A4 l4 c4, .slice A5 l5 c5, .int .i64 rm] 106)
      clear hx hx2 hr
      generalize rd own (b) = q at *
      replace p1 := eq_true p1
      replace q1 := eq_true q1
      go_enter Try.func83, Try.ntmps83
      go_wp2
      go_quiet (fail)
      go_wp2
      go_ret
      exact ⟨by first | rfl | (simp; done) | (simp [*]; done), by repeat (first | exact Below.refl _ _ | (with_reducible apply pw_below_drewN) | (with_reducible apply below_drew1) | (with_reducible apply below_alloc))⟩
    · rw [if_neg hb] at h
      cases h
  · rw [if_neg h3] at h
    have k3 : (k == 3) = false := beq_eq_false_iff_ne.mpr h3
    clear h3
    by_cases h4 : k = 4
    · rw [if_pos h4] at h
      have k4 : (k == 4) = true := beq_iff_eq.mpr h4
      clear h4
      by_cases hb : 0 ≤ a ∧ a < (own.length : Int)
      · rw [if_pos hb] at h
        obtain rfl := Option.some.inj h
        clear h
        obtain ⟨p1, q1⟩ := hb
        obtain ⟨ad, e1, hx⟩ := Kd.at_int hr (a) (by omega) q1
        cases e1
        have hx2 : ∀ o, (w.alloc o).cell? (ad.add (a : Int).toNat) = some (.int .i64 (rd own (a))) := fun o => pw_cell_below (below_alloc (Below.refl _ w) o) hx
        have hx3 := hx2 (.cells #[.int .i64 k, .int .i64 a, .int .i64 b, .int .i64 n, .slice A4 l4 c4, .slice A5 l5 c5, .int .i64 rm] 106)
        clear hx hx2 hr
        generalize rd own (a) = q at *
        replace p1 := eq_true p1
        replace q1 := eq_true q1
        go_enter Try.func83, Try.ntmps83
        go_wp2
        go_quiet (fail)
        go_wp2
        go_ret
        exact ⟨by first | rfl | (simp; done) | (simp [*]; done), by repeat (first | exact Below.refl _ _ | (with_reducible apply pw_below_drewN) | (with_reducible apply below_drew1) | (with_reducible apply below_alloc))⟩
      · rw [if_neg hb] at h
        cases h
    · rw [if_neg h4] at h
      have k4 : (k == 4) = false := beq_eq_false_iff_ne.mpr h4
      clear h4
      by_cases h9 : k = 9 ∨ k = 10
      · rw [if_pos h9] at h
        by_cases hb : 0 ≤ a ∧ 3 + a < (own.length : Int)
        · rw [if_pos hb] at h
          by_cases h9' : k = 9
          · have k9 : (k == 9) = true := beq_iff_eq.mpr h9'
            clear h9 h9'
            obtain rfl := Option.some.inj h
            clear h
            obtain ⟨p1, q1⟩ := hb
            obtain ⟨ad, e1, hx⟩ := Kd.at_int hr (3 + a) (by omega) q1
            cases e1
            have hx2 : ∀ o, (w.alloc o).cell? (ad.add (3 + a : Int).toNat) = some (.int .i64 (rd own (3 + a))) := fun o => pw_cell_below (below_alloc (Below.refl _ w) o) hx
            have hx3 := hx2 (.cells #[.int .i64 k, .int .i64 a, .int .i64 b, .int .i64 n, .slice A4 l4 c4, .slice A5 l5 c5, .int .i64 rm] 106)
            clear hx hx2 hr
            generalize rd own (3 + a) = q at *
            have hs : IntKind.i64.wrap (3 + a) = 3 + a := by
              rw [i64_w]
              unfold wrap64
              omega
            have p2 : 0 ≤ 3 + a := by omega
            replace p2 := eq_true p2
            replace p1 := eq_true p1
            replace q1 := eq_true q1
            go_enter Try.func83, Try.ntmps83
            go_wp2
            go_quiet (fail)
            go_wp2
            go_ret
            exact ⟨by first | rfl | (simp; done) | (simp [*]; done), by repeat (first | exact Below.refl _ _ | (with_reducible apply pw_below_drewN) | (with_reducible apply below_drew1) | (with_reducible apply below_alloc))⟩
          · have k9 : (k == 9) = false := beq_eq_false_iff_ne.mpr h9'
            have k10 : (k == 10) = true := beq_iff_eq.mpr (h9.resolve_left h9')
            clear h9 h9'
            obtain rfl := Option.some.inj h
            clear h
            obtain ⟨p1, q1⟩ := hb
            obtain ⟨ad, e1, hx⟩ := Kd.at_int hr (3 + a) (by omega) q1
            cases e1
            have hx2 : ∀ o, (w.alloc o).cell? (ad.add (3 + a : Int).toNat) = some (.int .i64 (rd own (3 + a))) := fun o => pw_cell_below (below_alloc (Below.refl _ w) o) hx
            have hx3 := hx2 (.cells #[.int .i64 k, .int .i64 a, .int .i64 b, .int .i64 n, .slice A4 l4 c4, .slice A5 l5 c5, .int .i64 rm] 106)
            clear hx hx2 hr
            generalize rd own (3 + a) = q at *
            have hs : IntKind.i64.wrap (3 + a) = 3 + a := by
              rw [i64_w]
              unfold wrap64
              omega
            have p2 : 0 ≤ 3 + a := by omega
            replace p2 := eq_true p2
            replace p1 := eq_true p1
            replace q1 := eq_true q1
            go_enter Try.func83, Try.ntmps83
            go_wp2
            go_quiet (fail)
            go_wp2
            go_ret
            exact ⟨by first | rfl | (simp; done) | (simp [*]; done), by repeat (first | exact Below.refl _ _ | (with_reducible apply pw_below_drewN) | (with_reducible apply below_drew1) | (with_reducible apply below_alloc))⟩
        · rw [if_neg hb] at h
          cases h
      · rw [if_neg h9] at h
        have k9 : (k == 9) = false := beq_eq_false_iff_ne.mpr (fun e => h9 (.inl e))
        have k10 : (k == 10) = false := beq_eq_false_iff_ne.mpr (fun e => h9 (.inr e))
        clear h9 hr
        obtain rfl := Option.some.inj h
        clear h
        go_enter Try.func83, Try.ntmps83
        go_wp2
        go_ret
        exact ⟨by first | rfl | (simp; done) | (simp [*]; done), by repeat (first | exact Below.refl _ _ | (with_reducible apply pw_below_drewN) | (with_reducible apply below_drew1) | (with_reducible apply below_alloc))⟩
end Go.Proofs.Ythbflhimmmfonaa.P

namespace Go.Proofs.Ythbflhimmmfonaa.P
open Go.RowKit Go.Proofs.YthbflhimmmfonaaW.PrintWords Go.Proofs.YthbflhimmmfonaaW.PrintLast Go.Proofs.YthbflhimmmfonaaW.PrintMore
attribute [local go_sem] Oper.semAt_some
attribute [local go_sem] run_store_fn
set_option linter.unusedVariables false
set_option linter.unusedSimpArgs false
def ownL (own : List Int) : List I5 → Option Bool
  | [] => some true
  | x :: t => (ownB x own).bind fun b => (ownL own t).bind fun c => some (b && c)
theorem ownL_def {own : List Int} : ∀ {xs : List I5} {q : Bool}, ownL own xs = some q → ∀ x ∈ xs, ∃ b, ownB x own = some b
  | [], _, _, x, hx => by cases hx
  | y :: t, q, h, x, hx => by
    obtain ⟨b, hb, h1⟩ := Option.bind_eq_some_iff.1 h
    obtain ⟨c, hc, _⟩ := Option.bind_eq_some_iff.1 h1
    rcases List.mem_cons.1 hx with e | hx
    · rw [e]; exact ⟨b, hb⟩
    · exact ownL_def hc x hx
theorem ownL_all {own : List Int} : ∀ {xs : List I5}, (∀ x ∈ xs, ownB x own = some true) → ownL own xs = some true
  | [], _ => rfl
  | y :: t, h => by
    unfold ownL
    rw [h y (List.mem_cons_self ..), ownL_all fun x hx => h x (List.mem_cons_of_mem _ hx)]
    rfl
theorem ownL_one {own : List Int} : ∀ {xs : List I5} {q : Bool}, ownL own xs = some q → (∃ x ∈ xs, ownB x own = some false) → q = false
  | [], _, _, ⟨x, hx, _⟩ => by cases hx
  | y :: t, q, h, ⟨x, hx, hf⟩ => by
    obtain ⟨b, hb, h1⟩ := Option.bind_eq_some_iff.1 h
    obtain ⟨c, hc, h2⟩ := Option.bind_eq_some_iff.1 h1
    have e := Option.some.inj h2
    rcases List.mem_cons.1 hx with e1 | hx
    · rw [← e1, hf] at hb
      rw [← Option.some.inj hb] at e
      exact e.symm
    · have e2 := ownL_one hc ⟨x, hx, hf⟩
      rw [e2, Bool.and_false] at e
      exact e.symm
def wholeL (k : Nat) (own : List Int) : List (List S104) → Option Bool
  | [] => some true
  | l :: t => (allK k l (-1)).bind fun xs => (ownL own xs).bind fun b => if b = true then wholeL k own t else some false
def Marks (lo : Nat) : Nat → List Deferred → World → Prop
  | _, [], _ => True
  | hi, d :: ds, W => ∃ D, d = { target := .collected D, args := #[] } ∧ lo ≤ D ∧ D < hi ∧ W.heap[D]? = some (.deferred (some [])) ∧ Marks lo D ds W
theorem Marks.step {lo : Nat} : ∀ {hi : Nat} {ds : List Deferred} {W W' : World}, Marks lo hi ds W → (∀ k, lo ≤ k → k < hi → W.heap[k]? = some (.deferred (some [])) → W'.heap[k]? = some (.deferred (some []))) → Marks lo hi ds W'
  | _, [], _, _, _, _ => trivial
  | _, d :: ds, W, W', ⟨D, h1, h2, h3, h4, h5⟩, hk => ⟨D, h1, h2, h3, hk D h2 h3 h4, Marks.step h5 (fun k a b c => hk k a (by omega) c)⟩
theorem Marks.mono {lo : Nat} {hi hi' : Nat} {ds : List Deferred} {W : World} (h : Marks lo hi ds W) (hle : hi ≤ hi') : Marks lo hi' ds W := by
  cases ds with
  | nil => trivial
  | cons d ds =>
    obtain ⟨D, h1, h2, h3, h4, h5⟩ := h
    exact ⟨D, h1, h2, by omega, h4, h5⟩
theorem leaves_marks {F : Fence} {n : Nat} {fn : Func} {tmps : Array Value} {R : Ending → World → Prop} {lo : Nat} : ∀ (ds : List Deferred) (hi : Nat) (W : World), Marks lo hi ds W →
    (∀ W', Below lo W W' → (∀ (k : Nat) (cs : Array Value) (t : TypeId) (fr : Nat × Nat), W.heap[k]? = some (.cells cs t fr) → W'.heap[k]? = some (.cells cs t fr)) → LeavesInM F n Try.prog fn tmps R [] .returning W') → LeavesInM F n Try.prog fn tmps R ds .returning W
  | [], _, W, _, h => h W (Below.refl _ _) (fun _ _ _ _ h => h)
  | d :: ds, hi, W, ⟨D, h1, h2, h3, h4, h5⟩, h => by
    refine ⟨by simp, .inl ⟨D, _, by rw [h1], run_takeDeferred h4, ?_⟩⟩
    have hb : Below lo W (W.putObj D (.deferred none)) := (Below.refl lo W).grown (grownBy_putObj' W D _) (by have := (Array.getElem?_eq_some_iff.1 h4).1; omega) (fun k e => by cases e; omega)
    refine leaves_marks ds D _ (Marks.step h5 fun k a b c => (World.putObj_heap_other (by omega)).trans c) fun W' hW' hC => h W' (hb.trans hW') fun k cs t fr hk => hC k cs t fr ((World.putObj_heap_other (fun e => by subst e; rw [h4] at hk; cases hk)).trans hk)
structure WhI (w : World) (Ao : Option Addr) (co : Nat) (own : List Int) (q : Bool) (W : World) : Prop where
  b : Below w.heap.size w W
  z : w.heap.size + 2 ≤ W.heap.size
  o : W.heap[w.heap.size]? = some (.cells #[.slice Ao own.length co] 23 (0, 0))
  r : W.heap[w.heap.size + 1]? = some (.cells #[.bool q] 4 (0, 0))
theorem WhI.step {w : World} {Ao : Option Addr} {co : Nat} {own : List Int} {q : Bool} {W W' : World} (h : WhI w Ao co own q W) {B : Nat} (hB : w.heap.size + 2 ≤ B) (hb : Below B W W') : WhI w Ao co own q W' :=
  ⟨h.b.trans (hb.mono (by omega)), Nat.le_trans h.z hb.size, (hb.block _ (by omega)).trans h.o, (hb.block _ (by omega)).trans h.r⟩
theorem WhI.own {w : World} {Ao : Option Addr} {co : Nat} {own : List Int} {q : Bool} {β : Type} {B : Nat} (hB : w.heap.size + 2 ≤ B) : OwnFrom B (fun (_ : β) W => WhI w Ao co own q W) :=
  fun _ X Y row hs hg hr => ⟨(ownFrom_below (β := Unit) (w₀ := w) (Nat.le_refl _) (by omega : w.heap.size ≤ B)) () X Y row hs.b hg hr, Nat.le_trans hs.z hg.size,
    (hg.block _ (by have := hs.z; omega) (fun e => by have := (hr _ e.symm).1; omega)).trans hs.o, (hg.block _ (by have := hs.z; omega) (fun e => by have := (hr _ e.symm).1; omega)).trans hs.r⟩
theorem Marks.own {lo hi : Nat} {ds : List Deferred} {β : Type} : OwnFrom hi (fun (_ : β) W => Marks lo hi ds W) :=
  fun _ X Y row hs hg hr => Marks.step hs fun k a b c => (hg.block k (Array.getElem?_eq_some_iff.1 c).1 (fun e => by have := (hr _ e.symm).1; omega)).trans c
theorem kf_of_below {B : Nat} {W W' : World} (h : Below W.heap.size W W') : KeepsFrom B W W' := ⟨h.size, fun k o _ h0 _ => (h.block k (Array.getElem?_eq_some_iff.1 h0).1).trans h0⟩
theorem kq_of_below {n₀ B : Nat} {W W' : World} (hn : n₀ ≤ W.heap.size) (h : Below W.heap.size W W') : Kq n₀ B W W' := ⟨h.mono hn, fun i cs t fr _ hc => (h.block i (Array.getElem?_eq_some_iff.1 hc).1).trans hc⟩
theorem results_box {fn : Func} {t : Tmp} {ty : TypeId} (h : fn.results = #[.cell t ty]) (tmps : Array Value) (P : Program) (w : World) (g : Nat) (r : Bool) (hp : tmps.getD t undef = .pointer (some ⟨g, 0, none⟩)) (hg : w.cell? ⟨g, 0, none⟩ = some (.bool r)) (hu : P.underlying ty = some .bool) :
    (results fn tmps).run P w = .ok (.bool r) w := by
  have hp' : tmps[t]?.getD undef = .pointer (some ⟨g, 0, none⟩) := by simpa using hp
  have hl : (loadVar ty ⟨g, 0, none⟩).run P w = .ok (.bool r) w := by
    have ha : (isAgg ty).run P w = .ok false w := by simp [isAgg, run_underlying hu]
    simp [loadVar, Sem.run_bind, ha, Result.andThen, hg]
  simp [results, h, hp', asAddr, hl]
set_option maxRecDepth 100000 in
set_option maxHeartbeats 4000000 in
theorem wholeOk_walk (k : Nat) (A : Option Addr) (c : Nat) (p : List (List S104)) (Ao : Option Addr) (co : Nat) (own : List Int) (b r : Bool) (w : World) (hp : Kd.C (Kd.slice 104 k104) w A p.length p) (hc : p.length ≤ c) (ho : Kd.C (Kd.int .i64) w Ao own.length own) (hoc : own.length ≤ co)
    (hb : impl_ProgOk.f k p = some b) (h : (if b = true then (if own.length = 5 then (if own.any ownOff = true then some false else wholeL k own p) else some false) else some false) = some r) :
    Calls Try.prog 33 #[.slice A p.length c, .slice Ao own.length co] w fun e w' => e = .returned (.bool r) ∧ Below w.heap.size w w' := by
  have hdd : ∀ k : Nat, (Fence.wide.depth.isSome = true → 1 ≤ k) := fun k h => by cases h
  have HP := Aside0.mk hp
  have HO := Aside0.mk ho
  have HB := Aside0.mk hb
  have H := Aside0.mk h
  clear hp ho hb h
  refine (callsIn_wide (n := 9)).1 ?_
  refine callsIn_of_wp_marks Try.func33 rfl trivial ?_ rfl
  simp only [Try.ntmps33, List.size_toArray, List.length_cons, List.length_nil, Nat.reduceAdd, Nat.reduceSub, Array.replicate_succ, Array.replicate_zero, List.push_toArray, List.append_toArray, List.nil_append, List.cons_append]
  gi_wp2
  refine ⟨trivial, ?_⟩
  refine (callsIn_wide.2 (impl_ProgOk.calls k A c p b _ (Kd.C_alloc (Kd.C_alloc HP.out _) _) hc HB.out)).mono ?_
  rintro e W1 ⟨rfl, hb1⟩
  obtain ⟨W0, hW0⟩ : ∃ W0, (w.alloc (.cells #[.slice Ao own.length co] 23)).alloc (.cells #[.bool false] 4) = W0 := ⟨_, rfl⟩
  have b0 : W0.heap[w.heap.size]? = some (.cells #[.slice Ao own.length co] 23 (0, 0)) := by rw [← hW0]; exact blk_alloc (blk_new w _) _
  have b1 : W0.heap[w.heap.size + 1]? = some (.cells #[.bool false] 4 (0, 0)) := by rw [← hW0, ← size_alloc w (.cells #[.slice Ao own.length co] 23)]; exact blk_new _ _
  have z0 : W0.heap.size = w.heap.size + 2 := by rw [← hW0, size_alloc, size_alloc]
  have h0 : Below w.heap.size w W0 := by rw [← hW0]; exact below_alloc (below_alloc (Below.refl _ w) _) _
  rw [hW0] at hb1
  clear hW0
  have b0' := blk_below b0 hb1
  have b1' := blk_below b1 hb1
  have HW := Aside0.mk (below_step h0 hb1)
  have HZ := Aside0.mk (show w.heap.size + 2 ≤ W1.heap.size by have := hb1.size; omega)
  have c0 : W1.cell? ⟨w.heap.size, 0, none⟩ = some (.slice Ao own.length co) := cell_of b0' 0 rfl
  have c1 : W1.cell? ⟨w.heap.size + 1, 0, none⟩ = some (.bool false) := cell_of b1' 0 rfl
  have f1 : W1.frozen? ⟨w.heap.size + 1, 0, none⟩ = false := blk_frozen b1' 0
  have HB0 := Aside0.mk b0'
  have HB1 := Aside0.mk b1'
  clear b0 b1 h0 hb1 z0 b0' b1' HB W0
  have h := H.out
  clear H
  have out : ∀ (W : World) (q : Bool) (tmps : Array Value), tmps.getD 4 undef = .pointer (some ⟨w.heap.size + 1, 0, none⟩) → W.cell? ⟨w.heap.size + 1, 0, none⟩ = some (.bool q) → Below w.heap.size w W → LeavesInM Fence.wide 9 Try.prog Try.f33 tmps (fun e w' => e = .returned (.bool q) ∧ Below w.heap.size w w') [] .returning W := fun W q tmps h1 h2 h3 => ⟨_, results_box rfl _ _ _ _ q h1 h2 Try.underlying4, rfl, h3⟩
  have HOut := Aside0.mk out
  clear out
  cases b with
  | false =>
    obtain rfl := Option.some.inj (show some false = some r by simpa using h)
    clear h
    gi_wp2
    refine ⟨trivial, ?_⟩
    gi_wp2
    exact HOut.out _ false _ rfl (by simp [c1, go_sem]) (HW.out.setCell (p := ⟨w.heap.size + 1, 0, none⟩) (by show w.heap.size ≤ w.heap.size + 1; omega) _)
  | true =>
    rw [if_pos rfl] at h
    by_cases h5 : own.length = 5
    · rw [if_pos h5] at h
      have k5 : ((own.length : Int) != 5) = false := bne_eq_false_iff_eq.mpr (by omega)
      clear h5
      gi_wp2
      refine ⟨trivial, ?_⟩
      refine (callsIn_wide.2 (ownAny_calls Ao co own _ (Kd.C_below HO.out HW.out))).mono ?_
      rintro e W2 ⟨rfl, nd, rfl⟩
      cases ha : own.any ownOff with
      | true =>
        rw [ha, if_pos rfl] at h
        obtain rfl := Option.some.inj h
        clear h
        gi_wp2
        exact HOut.out _ false _ rfl (by simp [c1, go_sem]) ((pw_below_drewN HW.out nd).setCell (p := ⟨w.heap.size + 1, 0, none⟩) (by show w.heap.size ≤ w.heap.size + 1; omega) _)
      | false =>
        rw [ha, if_neg (by simp)] at h
        have HH := Aside0.mk h
        have HC := Aside0.mk hc
        clear h ha k5 hc hoc c0 c1 f1
        gi_wp2
        have hl : p.length ≤ 9223372036854775807 := HP.out.2.1
        refine wpIn_loop (fun a W => ∃ (i : Nat) (u6 u23 u24 u25 u26 u27 u33 : Value) (ds : List Deferred), a = { tmps := #[.slice A p.length c, .slice Ao own.length co, undef, .pointer (some ⟨w.heap.size, 0, none⟩), .pointer (some ⟨w.heap.size + 1, 0, none⟩), undef, u6, undef, .slice A p.length c, .bool true, .bool false, .bool false, .slice Ao own.length co, .int .i64 own.length, .bool false, .bool false, .bool false, .slice Ao own.length co, .bool false, .bool false, .slice A p.length c, .int .i64 p.length, .int .i64 i, u23, u24, u25, u26, u27, undef, undef, undef, undef, undef, u33], defers := ds } ∧
            i ≤ p.length ∧ Aside0 (wholeL k own (p.drop i) = some r) ∧ Aside0 (WhI w Ao co own false W) ∧ Aside0 (Marks (w.heap.size + 2) W.heap.size ds W)) (fun a _ => p.length - (intOf (a.tmps.getD 22 undef)).toNat) ?_ ?_
        · exact ⟨0, _, _, _, _, _, _, _, [], rfl, Nat.zero_le _, HH, ⟨⟨pw_below_drewN HW.out nd, HZ.out, HB0.out, HB1.out⟩⟩, ⟨trivial⟩⟩
        · rintro a W ⟨i, u6, u23, u24, u25, u26, u27, u33, ds, rfl, hi, HL, HI, HM⟩
          clear HH HW HZ HB0 HB1
          by_cases hlt : i < p.length
          · have hltz : decide ((i : Int) < (p.length : Int)) = true := decide_eq_true (by omega)
            have p1 : 0 ≤ (i : Int) := by omega
            have q1 : (i : Int) < (p.length : Int) := by omega
            obtain ⟨ad, cs, e1, _, hK, hcs⟩ := Kd.C_get HP.out [] (i : Int) p1 q1
            cases e1
            obtain ⟨A4, c4, rfl, hc4, hC4⟩ := hK
            have g0 : W.cell? (ad.add i) = some (.slice A4 (p.getD i []).length c4) := by
              have := hcs 0 _ rfl
              rw [Int.toNat_natCast] at this
              have e : i * (Kd.slice 104 k104).sz + 0 = i := Nat.mul_one i
              rw [e] at this
              exact (HI.out.b.cell (World.block_lt_of_cell? w _ this)).trans this
            rw [Int.toNat_natCast] at hC4
            have ex : p.drop i = p.getD i [] :: p.drop (i + 1) := by
              rw [List.drop_eq_getElem_cons hlt, List.getD_eq_getElem?_getD, List.getElem?_eq_getElem hlt]
              rfl
            have hL := HL.out
            rw [ex] at hL
            clear HL ex hcs
            obtain ⟨xs, hx, h1⟩ := Option.bind_eq_some_iff.1 hL
            obtain ⟨q, hq, h2⟩ := Option.bind_eq_some_iff.1 h1
            clear hL h1
            generalize p.getD i [] = ls at *
            replace p1 := eq_true p1
            replace q1 := eq_true q1
            have HC4 := Aside0.mk hC4
            have HX := Aside0.mk hx
            have HQ := Aside0.mk hq
            have HN := Aside0.mk h2
            clear hC4 hx hq h2
            gi_wp2
            refine ⟨trivial, ?_⟩
            refine (callsIn_wide.2 (all_calls A4 ls.length c4 (-1) _)).mono ?_
            rintro e W3 ⟨rfl, rfl⟩
            obtain ⟨W3, hW3⟩ : ∃ W3, (W.alloc (.cells #[.slice A4 ls.length c4] 82)).alloc (.cells #[.int .i64 (-1)] 3) = W3 := ⟨_, rfl⟩
            have hB3 : Below W.heap.size W W3 := by rw [← hW3]; exact below_alloc (below_alloc (Below.refl _ W) _) _
            have z3 : W3.heap.size = W.heap.size + 2 := by rw [← hW3, size_alloc, size_alloc]
            have c1 : W3.cell? ⟨W.heap.size, 0, none⟩ = some (.slice A4 ls.length c4) := cell_of (by rw [← hW3]; exact blk_alloc (blk_new W _) _) 0 rfl
            have c2 : W3.cell? ⟨W.heap.size + 1, 0, none⟩ = some (.int .i64 (-1)) := cell_of (by rw [← hW3, ← size_alloc W (.cells #[.slice A4 ls.length c4] 82)]; exact blk_new _ _) 0 rfl
            have hz := HI.out.z
            have hI3 : WhI w Ao co own false W3 := HI.out.step hz hB3
            have hM3 : Marks (w.heap.size + 2) W3.heap.size ds W3 := (Marks.step HM.out fun k1 a b c => (hB3.block k1 b).trans c).mono (by omega)
            have hs := all_stopsG w 8 W.heap.size (W.heap.size + 1) A4 c4 ls (-1) xs k HC4.out W3 hI3.b c1 c2 HX.out
            rw [hW3]
            have HS := Aside0.mk (And.intro hs (And.intro hW3 (And.intro hI3 (And.intro hM3 (And.intro z3 hz)))))
            clear hs hW3 hI3 hM3 z3 hz c1 c2 hB3 HI HM g0
            gi_wp2
            have hz2 := HS.out.2.2.2.2.1
            have hz1 := HS.out.2.2.2.2.2
            refine wpIn_rangeFunc_ownH rfl (by omega) (gf := 109) (lb := #[.pointer (some ⟨W.heap.size, 0, none⟩), .pointer (some ⟨W.heap.size + 1, 0, none⟩)]) rfl trivial (Go.Proofs.enters_of Try.func109 (by kernel_rfl) rfl)
              HS.out.1 (fun h k => Kq.t h k) (Kq.b (by omega)) (Below.refl _ _) (fun _ => rfl)
              (fun pre W' => WhI w Ao co own false W' ∧ Marks (w.heap.size + 2) W3.heap.size ds W' ∧ ∀ y ∈ pre, ownB y.1.ints own = some true)
              (fun c pre W' => WhI w Ao co own false W' ∧ Marks (w.heap.size + 2) W3.heap.size ds W' ∧ c = .ret ∧ ∃ y ∈ pre, ownB y.1.ints own = some false)
              (OwnFrom.and (WhI.own (by omega)) (OwnFrom.and Marks.own (ownFrom_pure _ _)))
              (fun c => OwnFrom.and (WhI.own (by omega)) (OwnFrom.and Marks.own (ownFrom_pure _ _)))
              ⟨HS.out.2.2.1, HS.out.2.2.2.1, fun y hy => by cases hy⟩
              (fun x a' W' => ∃ bs, a' = { tmps := #[.slice (some ad) p.length c, .slice Ao own.length co, undef, .pointer (some ⟨w.heap.size, 0, none⟩), .pointer (some ⟨w.heap.size + 1, 0, none⟩), undef, .slice A4 ls.length c4, .pointer (some ⟨bs, 0, none⟩), .slice (some ad) p.length c, .bool true, .bool false, .bool false, .slice Ao own.length co, .int .i64 own.length, .bool false, .bool false, .bool false, .slice Ao own.length co, .bool false, .bool false, .slice (some ad) p.length c, .int .i64 p.length, .int .i64 i, .bool true, .pointer (some (ad.add i)), .slice A4 ls.length c4, .slice A4 ls.length c4, .func (.func 109) #[] #[.pointer (some ⟨W.heap.size, 0, none⟩), .pointer (some ⟨W.heap.size + 1, 0, none⟩)], (.agg #[.int .i64 x.1.k, .int .i64 x.1.a, .int .i64 x.1.b, .int .i64 x.1.n, .slice x.1.s4.1 x.1.s4.2.1 x.1.s4.2.2, .slice x.1.s5.1 x.1.s5.2.1 x.1.s5.2.2, .int .i64 x.1.rm]), undef, undef, undef, undef, u33], defers := [] } ∧ W'.heap[bs]? = some (.cells #[.int .i64 x.1.k, .int .i64 x.1.a, .int .i64 x.1.b, .int .i64 x.1.n, .slice x.1.s4.1 x.1.s4.2.1 x.1.s4.2.2, .slice x.1.s5.1 x.1.s5.2.1 x.1.s5.2.2, .int .i64 x.1.rm] 106 (0, 0)))
              (fun x a' _ X Y row hs hg hr => by
                obtain ⟨bs, h2, h3⟩ := hs
                refine ⟨bs, h2, (hg.block bs (Array.getElem?_eq_some_iff.1 h3).1 (fun e => ?_)).trans h3⟩
                obtain ⟨_, o, ho, hoc⟩ := hr bs e.symm
                rw [h3] at ho
                cases ho
                cases hoc) ?assign ?body ?done ?stop
            case assign =>
              intro l pre x W' K hI hK
              have ez : (#[28].zip (Pl.enc x.1) : Array (Tmp × Value)) = #[(28, .agg #[.int .i64 x.1.k, .int .i64 x.1.a, .int .i64 x.1.b, .int .i64 x.1.n, .slice x.1.s4.1 x.1.s4.2.1 x.1.s4.2.2, .slice x.1.s5.1 x.1.s5.2.1 x.1.s5.2.2, .int .i64 x.1.rm])] := by simp [Pl.enc]
              rw [ez]
              clear ez
              change Code.wpIn _ _ _ _ _ ({ tmps := #[.slice (some ad) p.length c, .slice Ao own.length co, undef, .pointer (some ⟨w.heap.size, 0, none⟩), .pointer (some ⟨w.heap.size + 1, 0, none⟩), undef, .slice A4 ls.length c4, undef, .slice (some ad) p.length c, .bool true, .bool false, .bool false, .slice Ao own.length co, .int .i64 own.length, .bool false, .bool false, .bool false, .slice Ao own.length co, .bool false, .bool false, .slice (some ad) p.length c, .int .i64 p.length, .int .i64 i, .bool true, .pointer (some (ad.add i)), .slice A4 ls.length c4, .slice A4 ls.length c4, .func (.func 109) #[] #[.pointer (some ⟨W.heap.size, 0, none⟩), .pointer (some ⟨W.heap.size + 1, 0, none⟩)], (.agg #[.int .i64 x.1.k, .int .i64 x.1.a, .int .i64 x.1.b, .int .i64 x.1.n, .slice x.1.s4.1 x.1.s4.2.1 x.1.s4.2.2, .slice x.1.s5.1 x.1.s5.2.1 x.1.s5.2.2, .int .i64 x.1.rm]), undef, undef, undef, undef, u33], defers := [] } : Act) W'
              gi_wp2
              refine hK _ _ ((KeepsOthers.alloc _ _).from _) ((Kq.refl _ _ _).alloc (by have := hI.1.z; omega) _) ⟨hI.1.step hI.1.z (below_alloc (Below.refl _ _) _), (Marks.step hI.2.1 fun k1 _ _ c => ((below_alloc (Below.refl W'.heap.size W') (.cells #[.int .i64 x.1.k, .int .i64 x.1.a, .int .i64 x.1.b, .int .i64 x.1.n, .slice x.1.s4.1 x.1.s4.2.1 x.1.s4.2.2, .slice x.1.s5.1 x.1.s5.2.1 x.1.s5.2.2, .int .i64 x.1.rm] 106)).block k1 (Array.getElem?_eq_some_iff.1 c).1).trans c), hI.2.2⟩ ⟨_, rfl, blk_new _ _⟩
            case body =>
              rintro l pre x a' W' hl _ ⟨hI, hM, hP⟩ ⟨bs, rfl, hbx⟩ hlen
              obtain ⟨bb, hbb⟩ := ownL_def HQ.out _ x.2
              have HI := Aside0.mk hI
              have HM := Aside0.mk hM
              have HPP := Aside0.mk hP
              have HBB := Aside0.mk hbb
              have d0 := cell_of hbx 0 rfl
              have d1 := cell_of hbx 1 rfl
              have d2 := cell_of hbx 2 rfl
              have d3 := cell_of hbx 3 rfl
              have d4 := cell_of hbx 4 rfl
              have d5 := cell_of hbx 5 rfl
              have d6 := cell_of hbx 6 rfl
              have g0 := cell_of hI.o 0 rfl
              have g1 := cell_of hI.r 0 rfl
              have f1 := blk_frozen hI.r 0
              clear hI hM hP hbb hbx
              gi_wp2
              refine ⟨trivial, ?_⟩
              refine (CallsIn.inRound l (callsIn_wide.2 (owned_calls x.1 Ao co own bb _ (Kd.C_below HO.out HI.out.b) HBB.out))).mono ?_
              rintro e W4 ⟨rfl, hb4⟩
              have HB4 := Aside0.mk hb4
              have hz4 := HI.out.z
              have HI4 := Aside0.mk (HI.out.step HI.out.z hb4)
              have HM4 := Aside0.mk (Marks.step HM.out fun k1 _ _ c => (hb4.block k1 (Array.getElem?_eq_some_iff.1 c).1).trans c)
              have h1 := cell_of HI4.out.r 0 rfl
              have h2 := blk_frozen HI4.out.r 0
              clear hb4
              cases bb with
              | true =>
                gi_wp2
                refine ⟨kf_of_below HB4.out, kq_of_below (by omega) HB4.out, HI4.out, HM4.out, ?_⟩
                intro y hy
                rcases List.mem_append.1 hy with hy | hy
                · exact HPP.out y hy
                · rw [List.mem_singleton.1 hy]
                  exact HBB.out
              | false =>
                gi_wp2
                refine ⟨(kf_of_below HB4.out).trans ((KeepsOthers.setCell _ _ _).from _), ?_, ?_, rfl, x, List.mem_append.2 (.inr (List.mem_singleton.2 rfl)), HBB.out⟩
                · exact ⟨HI4.out.b.setCell (p := ⟨w.heap.size + 1, 0, none⟩) (by show w.heap.size ≤ w.heap.size + 1; omega) _, Nat.le_trans HI4.out.z (by simp), (Below.heap_setCell W4 ⟨w.heap.size + 1, 0, none⟩ _ w.heap.size (by show w.heap.size ≠ w.heap.size + 1; omega)).trans HI4.out.o, blk_set HI4.out.r 0 (.bool false)⟩
                · exact Marks.step HM4.out fun k1 a b c => (Below.heap_setCell W4 ⟨w.heap.size + 1, 0, none⟩ _ k1 (by show k1 ≠ w.heap.size + 1; omega)).trans c
            case done =>
              rintro D ys W' hD hS ⟨hI, hM, hP⟩ hK
              have hz3 := HS.out.2.2.2.2.1
              have hq : q = true := Option.some.inj (HQ.out.symm.trans (ownL_all fun x hx => by
                rw [← hS] at hx
                obtain ⟨y, hy, rfl⟩ := List.mem_map.1 hx
                exact hP y hy))
              have hN := HN.out
              rw [if_pos hq] at hN
              have HI := Aside0.mk hI
              have HM := Aside0.mk (show Marks (w.heap.size + 2) W'.heap.size ({ target := .collected D, args := #[] } :: ds) W' from ⟨D, rfl, by omega, (Array.getElem?_eq_some_iff.1 hK).1, hK, Marks.mono hM hD⟩)
              have HN' := Aside0.mk hN
              clear hI hM hP hN hK hS
              gi_wp2
              exact ⟨⟨i + 1, _, _, _, _, _, _, _, _, rfl, hlt, HN', HI, HM⟩, by
                show p.length - ((i : Int) + 1).toNat < p.length - (i : Int).toNat
                omega⟩
            case stop =>
              rintro D cd pre W' hD hS ⟨hI, hM, rfl, y, hy, hf⟩ hK
              have hz3 := HS.out.2.2.2.2.1
              have hq : q = false := ownL_one HQ.out ⟨_, y.2, hf⟩
              have hN := HN.out
              rw [hq, if_neg (by simp)] at hN
              obtain rfl := Option.some.inj hN
              have HI := Aside0.mk hI
              have HM := Aside0.mk (show Marks (w.heap.size + 2) W'.heap.size ({ target := .collected D, args := #[] } :: ds) W' from ⟨D, rfl, by omega, (Array.getElem?_eq_some_iff.1 hK).1, hK, Marks.mono hM hD⟩)
              clear hI hM hN hK hS hq
              gi_wp2
              exact leaves_marks (lo := w.heap.size + 2) _ W'.heap.size _ HM.out fun W5 hb hc => HOut.out W5 false _ rfl (cell_of (hc _ _ _ _ HI.out.r) 0 rfl) (HI.out.b.trans (hb.mono (by omega)))
          · have hltz : decide ((i : Int) < (p.length : Int)) = false := decide_eq_false (by omega)
            have hL := HL.out
            rw [List.drop_of_length_le (by omega)] at hL
            obtain rfl := Option.some.inj (show some true = some r from hL)
            clear hL HL
            have c1 : W.cell? ⟨w.heap.size + 1, 0, none⟩ = some (.bool false) := cell_of HI.out.r 0 rfl
            have f1 : W.frozen? ⟨w.heap.size + 1, 0, none⟩ = false := blk_frozen HI.out.r 0
            have hs : (W.setCell ⟨w.heap.size + 1, 0, none⟩ (.bool true)).heap[w.heap.size + 1]? = some (.cells #[.bool true] 4 (0, 0)) := blk_set HI.out.r 0 (.bool true)
            have HS := Aside0.mk hs
            clear hs
            gi_wp2
            refine leaves_marks (lo := w.heap.size + 2) ds W.heap.size _ (Marks.step HM.out fun k1 a b c => (Below.heap_setCell W ⟨w.heap.size + 1, 0, none⟩ _ k1 (by show k1 ≠ w.heap.size + 1; omega)).trans c) fun W' hb hc => HOut.out W' true _ rfl (cell_of (hc _ _ _ _ HS.out) 0 rfl) ?_
            exact (HI.out.b.setCell (p := ⟨w.heap.size + 1, 0, none⟩) (by show w.heap.size ≤ w.heap.size + 1; omega) _).trans (hb.mono (by omega))
    · rw [if_neg h5] at h
      have k5 : ((own.length : Int) != 5) = true := bne_iff_ne.mpr (by omega)
      clear h5
      obtain rfl := Option.some.inj h
      clear h
      gi_wp2
      refine ⟨trivial, ?_⟩
      gi_wp2
      exact HOut.out _ false _ rfl (by simp [c1, go_sem]) (HW.out.setCell (p := ⟨w.heap.size + 1, 0, none⟩) (by show w.heap.size ≤ w.heap.size + 1; omega) _)
def impl_WholeOk.f (k : Nat) (l0 : List (List S104)) (l1 : List Int) : Option Bool := (impl_ProgOk.f k l0).bind fun b => if b = true then (if l1.length = 5 then (if l1.any ownOff = true then some false else wholeL k l1 l0) else some false) else some false
theorem impl_WholeOk.calls (k : Nat) (A0 : Option Addr) (c0 : Nat) (l0 : List (List S104)) (A1 : Option Addr) (c1 : Nat) (l1 : List Int) (r : Bool) (w : World) (hr0 : Kd.C (Kd.slice 104 k104) w A0 l0.length l0) (hc0 : l0.length ≤ c0) (hr1 : Kd.C (Kd.int .i64) w A1 l1.length l1) (hc1 : l1.length ≤ c1) (h : impl_WholeOk.f k l0 l1 = some r) :
    Calls Try.prog 33 #[.slice A0 l0.length c0, .slice A1 l1.length c1] w fun e w' => e = .returned (.bool r) ∧ Below w.heap.size w w' := by
  obtain ⟨b, hb, h⟩ := Option.bind_eq_some_iff.1 h
  exact wholeOk_walk k A0 c0 l0 A1 c1 l1 b r w hr0 hc0 hr1 hc1 hb h
end Go.Proofs.Ythbflhimmmfonaa.P

namespace Go.Proofs.Ythbflhimmmfonaa.P
open Go.RowKit Go.Proofs.YthbflhimmmfonaaW.PrintWords Go.Proofs.YthbflhimmmfonaaW.PrintLast Go.Proofs.YthbflhimmmfonaaW.PrintMore
attribute [local go_sem] max2_int min2_int max_two min_two max_three min_three max_four min_four
set_option linter.unusedVariables false
set_option linter.unusedSimpArgs false
def laws_FnExactWholeOk.f (k : Nat) (l0 : List (List (S122))) (l1 : List Int) : Option (Bool) := if (l1.length : Int) > 1048576 then (some true) else ((laws_szStmtSS.f k l0 1048576).bind fun t1178 => (if t1178 < 0 then (some true) else ((laws_toStmtSS.f k l0).bind fun t1179 => ((laws_toIntS.f k l1).bind fun t1182 => ((spec_WholeOk.f k t1179 t1182).bind fun t1185 => ((laws_toStmtSS.f k l0).bind fun t1186 => ((laws_toIntS.f k l1).bind fun t1189 => ((impl_WholeOk.f k t1186 t1189).bind fun t1192 => (if (t1192 != t1185) = true then (some false) else ((laws_toStmtSS.f k l0).bind fun t1193 => ((laws_eqStmtSS.f k t1186 t1193).bind fun t1196 => (if t1196 = true then ((laws_toIntS.f k l1).bind fun t1197 => ((laws_eqIntS.f k t1189 t1197).bind fun t1200 => (if t1200 = true then (some true) else (some false)))) else (some false)))))))))))))
set_option maxHeartbeats 8000000 in
set_option maxRecDepth 100000 in
theorem laws_FnExactWholeOk.calls (k : Nat) (A0 : Option Addr) (c0 : Nat) (l0 : List (List (S122))) (A1 : Option Addr) (c1 : Nat) (l1 : List Int) (r : Bool) (w : World) (hr0 : Kd.C (Kd.slice 122 k122) w A0 l0.length l0) (hc0 : l0.length ≤ c0) (hr1 : Kd.C (Kd.int .i64) w A1 l1.length l1) (hc1 : l1.length ≤ c1) (h : laws_FnExactWholeOk.f k l0 l1 = some r) (hr_ : r = true) :
    Calls Try.prog 8 #[.slice A0 l0.length c0, .slice A1 l1.length c1] w fun e w' => e = .returned (.bool r) ∧ Below w.heap.size w w' := by
  have HR0 := Aside0.mk hr0; have HC0 := Aside0.mk hc0; clear hr0 hc0; have HR1 := Aside0.mk hr1; have HC1 := Aside0.mk hc1; clear hr1 hc1; have HB := Aside0.mk (Below.refl w.heap.size w)
  have H : (if (l1.length : Int) > 1048576 then (some true) else ((laws_szStmtSS.f k l0 1048576).bind fun t1178 => (if t1178 < 0 then (some true) else ((laws_toStmtSS.f k l0).bind fun t1179 => ((laws_toIntS.f k l1).bind fun t1182 => ((spec_WholeOk.f k t1179 t1182).bind fun t1185 => ((laws_toStmtSS.f k l0).bind fun t1186 => ((laws_toIntS.f k l1).bind fun t1189 => ((impl_WholeOk.f k t1186 t1189).bind fun t1192 => (if (t1192 != t1185) = true then (some false) else ((laws_toStmtSS.f k l0).bind fun t1193 => ((laws_eqStmtSS.f k t1186 t1193).bind fun t1196 => (if t1196 = true then ((laws_toIntS.f k l1).bind fun t1197 => ((laws_eqIntS.f k t1189 t1197).bind fun t1200 => (if t1200 = true then (some true) else (some false)))) else (some false)))))))))))))) = some r := h
  clear h
  by_cases c3 : (l1.length : Int) > 1048576
  · rw [if_pos c3] at H; have c3b0 : decide (1048576 < (l1.length : Int)) = true := decide_eq_true c3
    have c3b1 : decide (1048576 < l1.length) = true := decide_eq_true (by omega)
    clear c3; obtain rfl := Option.some.inj H; go_enter Try.func8, Try.ntmps8
    go_wp2
    go_ret
    exact ⟨by first | rfl | (simp [errW_none, errW_some] <;> rfl) | (simp [*, errW_none, errW_some] <;> rfl), by repeat (first | (with_reducible first | exact HB.out | apply below_alloc | apply pw_below_drewN | apply below_drew1) | exact HB.out)⟩
  · rw [if_neg c3] at H; have c3b0 : decide (1048576 < (l1.length : Int)) = false := decide_eq_false c3
    have c3b1 : decide (1048576 < l1.length) = false := decide_eq_false (by omega)
    clear c3; replace H := Option.bind_eq_some_iff.mp H; obtain ⟨t1178, A40, H⟩ := H
    replace H : (if t1178 < 0 then (some true) else ((laws_toStmtSS.f k l0).bind fun t1179 => ((laws_toIntS.f k l1).bind fun t1182 => ((spec_WholeOk.f k t1179 t1182).bind fun t1185 => ((laws_toStmtSS.f k l0).bind fun t1186 => ((laws_toIntS.f k l1).bind fun t1189 => ((impl_WholeOk.f k t1186 t1189).bind fun t1192 => (if (t1192 != t1185) = true then (some false) else ((laws_toStmtSS.f k l0).bind fun t1193 => ((laws_eqStmtSS.f k t1186 t1193).bind fun t1196 => (if t1196 = true then ((laws_toIntS.f k l1).bind fun t1197 => ((laws_eqIntS.f k t1189 t1197).bind fun t1200 => (if t1200 = true then (some true) else (some false)))) else (some false)))))))))))) = some r := H
    have A4 := Aside0.mk A40; clear A40
    by_cases c5 : t1178 < 0
    · rw [if_pos c5] at H; have c5b0 : decide (t1178 < 0) = true := decide_eq_true c5; clear c5; obtain rfl := Option.some.inj H; go_enter Try.func8, Try.ntmps8
      go_wp2_with (first | ((with_reducible refine gate_callee (f := 23) rfl ?_); refine goesM_ (some 15) Try.func23 #[.slice A0 l0.length c0, .int .i64 1048576] ?_; (with_reducible refine (laws_szStmtSS.calls k _ _ l0 1048576 t1178 _ ?side1 ?side2 A4.out).mono ?_); (case side1 => repeat (first | exact HR0.out | (with_reducible refine Kd.C_alloc ?_ _) | (with_reducible refine Kd.C_drewN ?_ _) | (with_reducible refine Kd.C_drew ?_))); (case side2 => exact HC0.out); rintro e w6 ⟨rfl, hb⟩; refine ⟨_, rfl, ?_⟩; have n0_ := Aside0.mk (below_step (q0_ HB) hb); clear HB; have HB := n0_; clear n0_; (try clear hb); (try clear hb2); (try clear hk); (try clear hi)))
      go_ret
      exact ⟨by first | rfl | (simp [errW_none, errW_some] <;> rfl) | (simp [*, errW_none, errW_some] <;> rfl), by repeat (first | (with_reducible first | exact HB.out | apply below_alloc | apply pw_below_drewN | apply below_drew1) | exact HB.out)⟩
    · rw [if_neg c5] at H; have c5b0 : decide (t1178 < 0) = false := decide_eq_false c5; clear c5; replace H := Option.bind_eq_some_iff.mp H; obtain ⟨t1179, A70, H⟩ := H; replace H : ((laws_toIntS.f k l1).bind fun t1182 => ((spec_WholeOk.f k t1179 t1182).bind fun t1185 => ((laws_toStmtSS.f k l0).bind fun t1186 => ((laws_toIntS.f k l1).bind fun t1189 => ((impl_WholeOk.f k t1186 t1189).bind fun t1192 => (if (t1192 != t1185) = true then (some false) else ((laws_toStmtSS.f k l0).bind fun t1193 => ((laws_eqStmtSS.f k t1186 t1193).bind fun t1196 => (if t1196 = true then ((laws_toIntS.f k l1).bind fun t1197 => ((laws_eqIntS.f k t1189 t1197).bind fun t1200 => (if t1200 = true then (some true) else (some false)))) else (some false)))))))))) = some r := H; have A7 := Aside0.mk A70; clear A70; replace H := Option.bind_eq_some_iff.mp H; obtain ⟨t1182, A80, H⟩ := H; replace H : ((spec_WholeOk.f k t1179 t1182).bind fun t1185 => ((laws_toStmtSS.f k l0).bind fun t1186 => ((laws_toIntS.f k l1).bind fun t1189 => ((impl_WholeOk.f k t1186 t1189).bind fun t1192 => (if (t1192 != t1185) = true then (some false) else ((laws_toStmtSS.f k l0).bind fun t1193 => ((laws_eqStmtSS.f k t1186 t1193).bind fun t1196 => (if t1196 = true then ((laws_toIntS.f k l1).bind fun t1197 => ((laws_eqIntS.f k t1189 t1197).bind fun t1200 => (if t1200 = true then (some true) else (some false)))) else (some false))))))))) = some r := H; have A8 := Aside0.mk A80; clear A80; replace H := Option.bind_eq_some_iff.mp H; obtain ⟨t1185, A90, H⟩ := H; replace H : ((laws_toStmtSS.f k l0).bind fun t1186 => ((laws_toIntS.f k l1).bind fun t1189 => ((impl_WholeOk.f k t1186 t1189).bind fun t1192 => (if (t1192 != t1185) = true then (some false) else ((laws_toStmtSS.f k l0).bind fun t1193 => ((laws_eqStmtSS.f k t1186 t1193).bind fun t1196 => (if t1196 = true then ((laws_toIntS.f k l1).bind fun t1197 => ((laws_eqIntS.f k t1189 t1197).bind fun t1200 => (if t1200 = true then (some true) else (some false)))) else (some false)))))))) = some r := H; have A9 := Aside0.mk A90; clear A90; replace H := Option.bind_eq_some_iff.mp H; obtain ⟨t1186, A100, H⟩ := H; replace H : ((laws_toIntS.f k l1).bind fun t1189 => ((impl_WholeOk.f k t1186 t1189).bind fun t1192 => (if (t1192 != t1185) = true then (some false) else ((laws_toStmtSS.f k l0).bind fun t1193 => ((laws_eqStmtSS.f k t1186 t1193).bind fun t1196 => (if t1196 = true then ((laws_toIntS.f k l1).bind fun t1197 => ((laws_eqIntS.f k t1189 t1197).bind fun t1200 => (if t1200 = true then (some true) else (some false)))) else (some false))))))) = some r := H
      have A10 := Aside0.mk A100; clear A100; replace H := Option.bind_eq_some_iff.mp H; obtain ⟨t1189, A110, H⟩ := H; replace H : ((impl_WholeOk.f k t1186 t1189).bind fun t1192 => (if (t1192 != t1185) = true then (some false) else ((laws_toStmtSS.f k l0).bind fun t1193 => ((laws_eqStmtSS.f k t1186 t1193).bind fun t1196 => (if t1196 = true then ((laws_toIntS.f k l1).bind fun t1197 => ((laws_eqIntS.f k t1189 t1197).bind fun t1200 => (if t1200 = true then (some true) else (some false)))) else (some false)))))) = some r := H; have A11 := Aside0.mk A110; clear A110; replace H := Option.bind_eq_some_iff.mp H; obtain ⟨t1192, A120, H⟩ := H; replace H : (if (t1192 != t1185) = true then (some false) else ((laws_toStmtSS.f k l0).bind fun t1193 => ((laws_eqStmtSS.f k t1186 t1193).bind fun t1196 => (if t1196 = true then ((laws_toIntS.f k l1).bind fun t1197 => ((laws_eqIntS.f k t1189 t1197).bind fun t1200 => (if t1200 = true then (some true) else (some false)))) else (some false))))) = some r := H; have A12 := Aside0.mk A120; clear A120
      by_cases c13 : (t1192 != t1185) = true
      · rw [if_pos c13, hr_] at H
        exact absurd H (by simp)
      · rw [if_neg c13] at H
        have c13b0 : (t1192 != t1185) = false := by simpa using c13
        (try (have c13b1 : decide (t1192 = t1185) = true := by simpa using c13))
        (try (have c13b2 : (t1192 == t1185) = true := by simpa using c13))
        clear c13; replace H := Option.bind_eq_some_iff.mp H; obtain ⟨t1193, A250, H⟩ := H; replace H : ((laws_eqStmtSS.f k t1186 t1193).bind fun t1196 => (if t1196 = true then ((laws_toIntS.f k l1).bind fun t1197 => ((laws_eqIntS.f k t1189 t1197).bind fun t1200 => (if t1200 = true then (some true) else (some false)))) else (some false))) = some r := H; have A25 := Aside0.mk A250; clear A250; replace H := Option.bind_eq_some_iff.mp H; obtain ⟨t1196, A260, H⟩ := H; replace H : (if t1196 = true then ((laws_toIntS.f k l1).bind fun t1197 => ((laws_eqIntS.f k t1189 t1197).bind fun t1200 => (if t1200 = true then (some true) else (some false)))) else (some false)) = some r := H; have A26 := Aside0.mk A260; clear A260
        by_cases c27 : t1196 = true
        · subst c27
          have H1 : ((laws_toIntS.f k l1).bind fun t1197 => ((laws_eqIntS.f k t1189 t1197).bind fun t1200 => (if t1200 = true then (some true) else (some false)))) = some r := by rw [if_pos rfl] at H; exact H
          clear H; have H := H1; clear H1; replace H := Option.bind_eq_some_iff.mp H; obtain ⟨t1197, A280, H⟩ := H; replace H : ((laws_eqIntS.f k t1189 t1197).bind fun t1200 => (if t1200 = true then (some true) else (some false))) = some r := H; have A28 := Aside0.mk A280; clear A280; replace H := Option.bind_eq_some_iff.mp H; obtain ⟨t1200, A290, H⟩ := H; replace H : (if t1200 = true then (some true) else (some false)) = some r := H; have A29 := Aside0.mk A290; clear A290
          by_cases c30 : t1200 = true
          · subst c30
            have H1 : (some true) = some r := by rw [if_pos rfl] at H; exact H
            clear H; have H := H1; clear H1; obtain rfl := Option.some.inj H; go_enter Try.func8, Try.ntmps8
            go_wp2_with (first | ((with_reducible refine gate_callee (f := 23) rfl ?_); refine goesM_ (some 15) Try.func23 #[.slice A0 l0.length c0, .int .i64 1048576] ?_; (with_reducible refine (laws_szStmtSS.calls k _ _ l0 1048576 t1178 _ ?side1 ?side2 A4.out).mono ?_); (case side1 => repeat (first | exact HR0.out | (with_reducible refine Kd.C_alloc ?_ _) | (with_reducible refine Kd.C_drewN ?_ _) | (with_reducible refine Kd.C_drew ?_))); (case side2 => exact HC0.out); rintro e w31 ⟨rfl, hb⟩; refine ⟨_, rfl, ?_⟩; have n0_ := Aside0.mk (below_step (q0_ HB) hb); clear HB; have HB := n0_; clear n0_; (try clear hb); (try clear hb2); (try clear hk); (try clear hi)) | ((with_reducible refine gate_callee (f := 25) rfl ?_); refine goesM_ (some 19) Try.func25 #[.slice A0 l0.length c0] ?_; (with_reducible refine (laws_toStmtSS.calls k _ _ l0 t1179 _ ?side1 ?side2 A7.out).mono ?_); (case side1 => repeat (first | exact (Kd.C_below HR0.out HB.out) | (with_reducible refine Kd.C_alloc ?_ _) | (with_reducible refine Kd.C_drewN ?_ _) | (with_reducible refine Kd.C_drew ?_))); (case side2 => exact HC0.out); rintro e w32 ⟨v1180, rfl, ho0, hb⟩; refine ⟨_, rfl, ?_⟩; have n0_ := Aside0.mk (Kd.R_lower ho0 (below_size (q0_ HB))); have n1_ := Aside0.mk (below_step (q0_ HB) hb); clear HB; have HO1181 := n0_; have HB := n1_; clear n0_ n1_; (try clear hb); (try clear hb2); (try clear hk); (try clear hi); (try clear ho0)) | ((with_reducible refine gate_callee (f := 32) rfl ?_); refine goesM_ (some 21) Try.func32 #[.slice A1 l1.length c1] ?_; (with_reducible refine (laws_toIntS.calls k _ _ l1 t1182 _ ?side1 ?side2 A8.out).mono ?_); (case side1 => repeat (first | exact (Kd.C_below HR1.out HB.out) | (with_reducible refine Kd.C_alloc ?_ _) | (with_reducible refine Kd.C_drewN ?_ _) | (with_reducible refine Kd.C_drew ?_))); (case side2 => exact HC1.out); rintro e w33 ⟨v1183, rfl, ho0, hb⟩; refine ⟨_, rfl, ?_⟩; have n0_ := Aside0.mk (Kd.R_below (q9_ HO1181) hb); have n1_ := Aside0.mk (Kd.R_lower ho0 (below_size (q0_ HB))); have n2_ := Aside0.mk (below_step (q0_ HB) hb); clear HO1181; clear HB; have HO1181 := n0_; have HO1184 := n1_; have HB := n2_; clear n0_ n1_ n2_; (try clear hb); (try clear hb2); (try clear hk); (try clear hi); (try clear ho0); obtain ⟨Ao34, co34, eo34⟩ := Kd.R_slice HO1181.out; subst eo34; obtain ⟨Ao35, co35, eo35⟩ := Kd.R_slice HO1184.out; subst eo35) | ((with_reducible refine gate_callee (f := 31) rfl ?_); refine goesM_ (some 22) Try.func31 #[.slice Ao34 t1179.length co34, .slice Ao35 t1182.length co35] ?_; (with_reducible refine (spec_WholeOk.calls k _ _ t1179 _ _ t1182 t1185 _ ?side1 ?side2 ?side3 ?side4 A9.out).mono ?_); (case side1 => repeat (first | exact (Kd.R_reads' HO1181.out).2.2 | (with_reducible refine Kd.C_alloc ?_ _) | (with_reducible refine Kd.C_drewN ?_ _) | (with_reducible refine Kd.C_drew ?_))); (case side2 => exact (Kd.R_reads' HO1181.out).2.1); (case side3 => repeat (first | exact (Kd.R_reads' HO1184.out).2.2 | (with_reducible refine Kd.C_alloc ?_ _) | (with_reducible refine Kd.C_drewN ?_ _) | (with_reducible refine Kd.C_drew ?_))); (case side4 => exact (Kd.R_reads' HO1184.out).2.1); rintro e w36 ⟨rfl, hb⟩; refine ⟨_, rfl, ?_⟩; have n0_ := Aside0.mk (Kd.R_below (q9_ HO1181) hb); have n1_ := Aside0.mk (Kd.R_below (q9_ HO1184) hb); have n2_ := Aside0.mk (below_step (q0_ HB) hb); clear HO1181; clear HO1184; clear HB; have HO1181 := n0_; have HO1184 := n1_; have HB := n2_; clear n0_ n1_ n2_; (try clear hb); (try clear hb2); (try clear hk); (try clear hi)) | ((with_reducible refine gate_callee (f := 25) rfl ?_); refine goesM_ (some 24) Try.func25 #[.slice A0 l0.length c0] ?_; (with_reducible refine (laws_toStmtSS.calls k _ _ l0 t1186 _ ?side1 ?side2 A10.out).mono ?_); (case side1 => repeat (first | exact (Kd.C_below HR0.out HB.out) | (with_reducible refine Kd.C_alloc ?_ _) | (with_reducible refine Kd.C_drewN ?_ _) | (with_reducible refine Kd.C_drew ?_))); (case side2 => exact HC0.out); rintro e w37 ⟨v1187, rfl, ho0, hb⟩; refine ⟨_, rfl, ?_⟩; have n0_ := Aside0.mk (Kd.R_elder' (q9_ HO1181) (Kd.R_base ho0) hb); have n1_ := Aside0.mk (Kd.R_below (q9_ HO1184) hb); have n2_ := Aside0.mk (Kd.R_lower (Kd.R_new' ho0 (Kd.R_lt (q9_ HO1181))) (below_size (q0_ HB))); have n3_ := Aside0.mk (below_step (q0_ HB) hb); clear HO1181; clear HO1184; clear HB; have HO1181 := n0_; have HO1184 := n1_; have HO1188 := n2_; have HB := n3_; clear n0_ n1_ n2_ n3_; (try clear hb); (try clear hb2); (try clear hk); (try clear hi); (try clear ho0)) | ((with_reducible refine gate_callee (f := 32) rfl ?_); refine goesM_ (some 26) Try.func32 #[.slice A1 l1.length c1] ?_; (with_reducible refine (laws_toIntS.calls k _ _ l1 t1189 _ ?side1 ?side2 A11.out).mono ?_); (case side1 => repeat (first | exact (Kd.C_below HR1.out HB.out) | (with_reducible refine Kd.C_alloc ?_ _) | (with_reducible refine Kd.C_drewN ?_ _) | (with_reducible refine Kd.C_drew ?_))); (case side2 => exact HC1.out); rintro e w38 ⟨v1190, rfl, ho0, hb⟩; refine ⟨_, rfl, ?_⟩; have n0_ := Aside0.mk (Kd.R_below (q9_ HO1181) hb); have n1_ := Aside0.mk (Kd.R_elder' (q9_ HO1184) (Kd.R_base ho0) hb); have n2_ := Aside0.mk (Kd.R_below (q9_ HO1188) hb); have n3_ := Aside0.mk (Kd.R_lower (Kd.R_new' ho0 (Kd.R_lt (q9_ HO1184))) (below_size (q0_ HB))); have n4_ := Aside0.mk (below_step (q0_ HB) hb); clear HO1181; clear HO1184; clear HO1188; clear HB; have HO1181 := n0_; have HO1184 := n1_; have HO1188 := n2_; have HO1191 := n3_; have HB := n4_; clear n0_ n1_ n2_ n3_ n4_; (try clear hb); (try clear hb2); (try clear hk); (try clear hi); (try clear ho0); obtain ⟨Ao39, co39, eo39⟩ := Kd.R_slice HO1188.out; subst eo39; obtain ⟨Ao40, co40, eo40⟩ := Kd.R_slice HO1191.out; subst eo40) | ((with_reducible refine gate_callee (f := 33) rfl ?_); refine goesM_ (some 29) Try.func33 #[.slice Ao39 t1186.length co39, .slice Ao40 t1189.length co40] ?_; (with_reducible refine (impl_WholeOk.calls k _ _ t1186 _ _ t1189 t1192 _ ?side1 ?side2 ?side3 ?side4 A12.out).mono ?_); (case side1 => repeat (first | exact (Kd.R_reads' HO1188.out).2.2 | (with_reducible refine Kd.C_alloc ?_ _) | (with_reducible refine Kd.C_drewN ?_ _) | (with_reducible refine Kd.C_drew ?_))); (case side2 => exact (Kd.R_reads' HO1188.out).2.1); (case side3 => repeat (first | exact (Kd.R_reads' HO1191.out).2.2 | (with_reducible refine Kd.C_alloc ?_ _) | (with_reducible refine Kd.C_drewN ?_ _) | (with_reducible refine Kd.C_drew ?_))); (case side4 => exact (Kd.R_reads' HO1191.out).2.1); rintro e w41 ⟨rfl, hb⟩; refine ⟨_, rfl, ?_⟩; have n0_ := Aside0.mk (Kd.R_below (q9_ HO1181) hb); have n1_ := Aside0.mk (Kd.R_below (q9_ HO1184) hb); have n2_ := Aside0.mk (Kd.R_below (q9_ HO1188) hb); have n3_ := Aside0.mk (Kd.R_below (q9_ HO1191) hb); have n4_ := Aside0.mk (below_step (q0_ HB) hb); clear HO1181; clear HO1184; clear HO1188; clear HO1191; clear HB; have HO1181 := n0_; have HO1184 := n1_; have HO1188 := n2_; have HO1191 := n3_; have HB := n4_; clear n0_ n1_ n2_ n3_ n4_; (try clear hb); (try clear hb2); (try clear hk); (try clear hi)) | ((with_reducible refine gate_callee (f := 25) rfl ?_); refine goesM_ (some 35) Try.func25 #[.slice A0 l0.length c0] ?_; (with_reducible refine (laws_toStmtSS.calls k _ _ l0 t1193 _ ?side1 ?side2 A25.out).mono ?_); (case side1 => repeat (first | exact (Kd.C_below HR0.out HB.out) | (with_reducible refine Kd.C_alloc ?_ _) | (with_reducible refine Kd.C_drewN ?_ _) | (with_reducible refine Kd.C_drew ?_))); (case side2 => exact HC0.out); rintro e w42 ⟨v1194, rfl, ho0, hb⟩; refine ⟨_, rfl, ?_⟩; have n0_ := Aside0.mk (Kd.R_elder' (q9_ HO1181) (Kd.R_base ho0) hb); have n1_ := Aside0.mk (Kd.R_below (q9_ HO1184) hb); have n2_ := Aside0.mk (Kd.R_elder' (q9_ HO1188) (Kd.R_base ho0) hb); have n3_ := Aside0.mk (Kd.R_below (q9_ HO1191) hb); have n4_ := Aside0.mk (Kd.R_lower (Kd.R_new' (Kd.R_new' ho0 (Kd.R_lt (q9_ HO1181))) (Kd.R_lt (q9_ HO1188))) (below_size (q0_ HB))); have n5_ := Aside0.mk (below_step (q0_ HB) hb); clear HO1181; clear HO1184; clear HO1188; clear HO1191; clear HB; have HO1181 := n0_; have HO1184 := n1_; have HO1188 := n2_; have HO1191 := n3_; have HO1195 := n4_; have HB := n5_; clear n0_ n1_ n2_ n3_ n4_ n5_; (try clear hb); (try clear hb2); (try clear hk); (try clear hi); (try clear ho0); obtain ⟨Ao43, co43, eo43⟩ := Kd.R_slice HO1195.out; subst eo43) | ((with_reducible refine gate_callee (f := 27) rfl ?_); refine goesM_ (some 36) Try.func27 #[.slice Ao39 t1186.length co39, .slice Ao43 t1193.length co43] ?_; (with_reducible refine (laws_eqStmtSS.calls k _ _ t1186 _ _ t1193 true _ ?side1 ?side2 ?side3 ?side4 A26.out).mono ?_); (case side1 => repeat (first | exact (Kd.R_reads' HO1188.out).2.2 | (with_reducible refine Kd.C_alloc ?_ _) | (with_reducible refine Kd.C_drewN ?_ _) | (with_reducible refine Kd.C_drew ?_))); (case side2 => exact (Kd.R_reads' HO1188.out).2.1); (case side3 => repeat (first | exact (Kd.R_reads' HO1195.out).2.2 | (with_reducible refine Kd.C_alloc ?_ _) | (with_reducible refine Kd.C_drewN ?_ _) | (with_reducible refine Kd.C_drew ?_))); (case side4 => exact (Kd.R_reads' HO1195.out).2.1); rintro e w44 ⟨rfl, hb⟩; refine ⟨_, rfl, ?_⟩; have n0_ := Aside0.mk (Kd.R_below (q9_ HO1181) hb); have n1_ := Aside0.mk (Kd.R_below (q9_ HO1184) hb); have n2_ := Aside0.mk (Kd.R_below (q9_ HO1188) hb); have n3_ := Aside0.mk (Kd.R_below (q9_ HO1191) hb); have n4_ := Aside0.mk (Kd.R_below (q9_ HO1195) hb); have n5_ := Aside0.mk (below_step (q0_ HB) hb); clear HO1181; clear HO1184; clear HO1188; clear HO1191; clear HO1195; clear HB; have HO1181 := n0_; have HO1184 := n1_; have HO1188 := n2_; have HO1191 := n3_; have HO1195 := n4_; have HB := n5_; clear n0_ n1_ n2_ n3_ n4_ n5_; (try clear hb); (try clear hb2); (try clear hk); (try clear hi)) | ((with_reducible refine gate_callee (f := 32) rfl ?_); refine goesM_ (some 40) Try.func32 #[.slice A1 l1.length c1] ?_; (with_reducible refine (laws_toIntS.calls k _ _ l1 t1197 _ ?side1 ?side2 A28.out).mono ?_); (case side1 => repeat (first | exact (Kd.C_below HR1.out HB.out) | (with_reducible refine Kd.C_alloc ?_ _) | (with_reducible refine Kd.C_drewN ?_ _) | (with_reducible refine Kd.C_drew ?_))); (case side2 => exact HC1.out); rintro e w45 ⟨v1198, rfl, ho0, hb⟩; refine ⟨_, rfl, ?_⟩; have n0_ := Aside0.mk (Kd.R_below (q9_ HO1181) hb); have n1_ := Aside0.mk (Kd.R_elder' (q9_ HO1184) (Kd.R_base ho0) hb); have n2_ := Aside0.mk (Kd.R_below (q9_ HO1188) hb); have n3_ := Aside0.mk (Kd.R_elder' (q9_ HO1191) (Kd.R_base ho0) hb); have n4_ := Aside0.mk (Kd.R_below (q9_ HO1195) hb); have n5_ := Aside0.mk (Kd.R_lower (Kd.R_new' (Kd.R_new' ho0 (Kd.R_lt (q9_ HO1184))) (Kd.R_lt (q9_ HO1191))) (below_size (q0_ HB))); have n6_ := Aside0.mk (below_step (q0_ HB) hb); clear HO1181; clear HO1184; clear HO1188; clear HO1191; clear HO1195; clear HB; have HO1181 := n0_; have HO1184 := n1_; have HO1188 := n2_; have HO1191 := n3_; have HO1195 := n4_; have HO1199 := n5_; have HB := n6_; clear n0_ n1_ n2_ n3_ n4_ n5_ n6_; (try clear hb); (try clear hb2); (try clear hk); (try clear hi); (try clear ho0); obtain ⟨Ao46, co46, eo46⟩ := Kd.R_slice HO1199.out; subst eo46) | ((with_reducible refine gate_callee (f := 34) rfl ?_); refine goesM_ (some 41) Try.func34 #[.slice Ao40 t1189.length co40, .slice Ao46 t1197.length co46] ?_; (with_reducible refine (laws_eqIntS.calls k _ _ t1189 _ _ t1197 true _ ?side1 ?side2 ?side3 ?side4 A29.out).mono ?_); (case side1 => repeat (first | exact (Kd.R_reads' HO1191.out).2.2 | (with_reducible refine Kd.C_alloc ?_ _) | (with_reducible refine Kd.C_drewN ?_ _) | (with_reducible refine Kd.C_drew ?_))); (case side2 => exact (Kd.R_reads' HO1191.out).2.1); (case side3 => repeat (first | exact (Kd.R_reads' HO1199.out).2.2 | (with_reducible refine Kd.C_alloc ?_ _) | (with_reducible refine Kd.C_drewN ?_ _) | (with_reducible refine Kd.C_drew ?_))); (case side4 => exact (Kd.R_reads' HO1199.out).2.1); rintro e w' ⟨rfl, ⟨nd, rfl⟩⟩; refine ⟨_, rfl, ?_⟩))
            go_ret
            exact ⟨by first | rfl | (simp [errW_none, errW_some] <;> rfl) | (simp [*, errW_none, errW_some] <;> rfl), by repeat (first | (with_reducible first | exact HB.out | apply below_alloc | apply pw_below_drewN | apply below_drew1) | exact HB.out)⟩
          · replace c30 := Bool.eq_false_iff.mpr c30; subst c30
            have H1 : (some false) = some r := by rw [if_neg (show ¬ (false = true) by decide)] at H; exact H
            rw [hr_] at H1
            exact absurd H1 (by simp)
        · replace c27 := Bool.eq_false_iff.mpr c27; subst c27
          have H1 : (some false) = some r := by rw [if_neg (show ¬ (false = true) by decide)] at H; exact H
          rw [hr_] at H1
          exact absurd H1 (by simp)
def laws_FnExactWholeOk.Pure : Prop := ∀ (l0 : List (List (S122))) (l1 : List Int), (∃ (w : World) (A : Option Addr), Kd.C ((Kd.slice 122 k122)) w A l0.length l0) → l1.length ≤ 9223372036854775807 → ∃ k, laws_FnExactWholeOk.f k l0 l1 = some true
end Go.Proofs.Ythbflhimmmfonaa.P
