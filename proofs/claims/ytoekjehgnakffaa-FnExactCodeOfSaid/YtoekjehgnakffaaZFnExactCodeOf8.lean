/- Parts of the proof of FnExactCodeOf: plain Lean functions of Go functions, and that the calls come to what they say; no condition beyond those that each theorem names. -/
import Derived.Test.YtoekjehgnakffaaZFnExactCodeOf7
import Derived.Test.YtoekjehgnakffaaZFnExactCodeOf4
import Derived.Deep.LoopGhost
import Derived.RegionTactic
import Derived.ChangeAlike
namespace Go.Proofs.Ytoekjehgnakffaa.P
open Go.RowKit Go.Maps Go.Proofs.YtoekjehgnakffaaW.PrintWords Go.Proofs.YtoekjehgnakffaaW.PrintLast Go.Proofs.YtoekjehgnakffaaW.PrintMore
attribute [local go_sem] max2_int min2_int max_two min_two max_three min_three max_four min_four
attribute [local go_sem ↓] Go.wp_at_zero Go.wp_at_succ
set_option linter.unusedVariables false
set_option linter.unusedSimpArgs false
theorem CAt.patch {w0 W : World} {g gg cap a : Nat} {vl : Value} {code : List S39} {ps : List (Nat × Nat × Nat)} {x : S39} {tg : Int} (h : CAt w0 g (.slice (some ⟨gg, 0, none⟩) code.length cap) vl code ps W) (ha : a < code.length)
    (hcc : ∀ (j : Nat) (u : Value), [Value.int .i64 x.f0, .int .i64 x.f1, .int .i64 x.f2, .int .i64 x.f3][j]? = some u → W.cell? ⟨gg, (a : Int).toNat * k39.sz + j, none⟩ = some u) :
    CAt w0 g (.slice (some ⟨gg, 0, none⟩) code.length cap) vl (code.set a ⟨x.f0, x.f1, x.f2, tg⟩) ps (W.setCell ⟨gg, a * 4 + 3, none⟩ (.int .i64 tg)).drew ∧ Kc W (W.setCell ⟨gg, a * 4 + 3, none⟩ (.int .i64 tg)).drew := by
  obtain ⟨hs, hg⟩ := Kd.R_seg (okp := fun _ => False) h.code (a : Int) (by omega) (by omega) (c := [.int .i64 x.f0, .int .i64 x.f1, .int .i64 x.f2, .int .i64 x.f3]) (seg := [.int .i64 tg]) (j := 3) rfl hcc (Nat.le_refl 4) (x' := ⟨x.f0, x.f1, x.f2, tg⟩) (k39_mkM _ _ _ _) (fun k hk => hk.elim)
  have e : W.setCells gg ((a : Int).toNat * k39.sz + 3) [Value.int .i64 tg] = W.setCell ⟨gg, a * 4 + 3, none⟩ (.int .i64 tg) := by
    rw [Int.toNat_natCast]
    rfl
  rw [e] at hs hg
  rw [Int.toNat_natCast] at hs
  have hty := Kd.R_typed h.code gg rfl
  obtain ⟨cells, hcells⟩ := hty
  have hne : g ≠ gg := blk_ne h.blk hcells (by decide)
  have hg' : W.grownBy (W.setCell ⟨gg, a * 4 + 3, none⟩ (.int .i64 tg)) (Value.slice (some ⟨gg, 0, none⟩) code.length cap).ownBlock := hg
  refine ⟨CAt.low ⟨blk_far h.blk hne _, hs, Kd.R_over' h.late (Kd.R_typed h.code) (by decide) hg', h.ge, below_set h.below (Kd.R_base h.code gg rfl)⟩ (below_drew1 (Below.refl _ _)), ?_⟩
  exact ((Kc.refl W).set hcells (.inl rfl) _ _).drew
set_option maxHeartbeats 4000000 in
set_option maxRecDepth 100000 in
theorem late_calls (w0 : World) (g : Nat) (vc vl : Value) (code : List S39) (ps : List (Nat × Nat × Nat)) (p : Nat × Nat × Nat) (q : Nat × Nat) (W : World) (hC : CAt w0 g vc vl code ps W) (hL : LateAt g W p q) (hq : q.1 < code.length) :
    Calls Try.prog 45 #[.pointer (some ⟨p.1, 0, none⟩), .pointer (some ⟨p.2.1, 0, none⟩), .pointer (some ⟨p.2.2, 0, none⟩)] W fun e W' => e = .returned (.tuple #[]) ∧ CAt w0 g vc vl (code.set q.1 ⟨(rd_T39 code (q.1 : Int)).f0, (rd_T39 code (q.1 : Int)).f1, (rd_T39 code (q.1 : Int)).f2, (q.2 : Int)⟩) ps W' ∧ Kc W W' := by
  obtain ⟨bt, bc, ba⟩ := p
  obtain ⟨a, tg⟩ := q
  obtain ⟨gg, cap, rfl, hgg, hggl, cells, hcells⟩ := Kd.R_form hC.code (by omega)
  obtain ⟨cs, hcl, hcm, hcc, hcf⟩ := Kd.R_elem hC.code z39 (a : Int) (by omega) (by simp only at hq; omega)
  have eo := k39_openM hcm
  subst eo
  have sc := hcc 3 _ rfl
  have sf := hcf 3
  rw [Int.toNat_natCast] at sc sf
  rw [show k39.sz = 4 from rfl] at sc sf
  have c0 := cell_of hL.c 0 rfl
  have t0 := cell_of hL.t 0 rfl
  have a0 := cell_of hL.a 0 rfl
  obtain ⟨g0, g1, z0, z1⟩ := hC.cells
  have p1 : 0 ≤ (a : Int) := by omega
  have q1 : (a : Int) < (code.length : Int) := by simp only at hq; omega
  have HC := Aside0.mk hC
  have HL := Aside0.mk hL
  have HR := Aside0.mk (And.intro hcl (And.intro hcm hcc))
  clear hC hL hcells hcl hcm hcc hcf
  simp only at c0 t0 a0
  go_enter Try.func45, Try.ntmps45
  go_wp2_with fail
  go_region
  all_goals (
    go_end0
    have e := CAt.patch (x := List.getD code (a : Int).toNat z39) (tg := (tg : Int)) HC.out (by omega) HR.out.2.2
    exact ⟨rfl, e.1, e.2⟩)
abbrev Cm := List S39 × List (Nat × Nat)
def emB (s : Cm) (i : S39) : Option Cm := if s.1.length < 1000000000 ∧ s.2.length < 1000000000 then some (s.1 ++ [i], s.2) else none
def ltB (s : Cm) (a : Nat) : Option Cm := if s.1.length < 1000000000 ∧ s.2.length < 1000000000 then some (s.1, s.2 ++ [(a, s.1.length)]) else none
def smp (k : Int) : Int := if k = 1 then 1 else if k = 2 then 2 else if k = 3 then 3 else if k = 4 then 4 else if k = 5 then 5 else if k = 9 then 10 else if k = 10 then 11 else if k = 11 then 12 else 0
def cmOne (L : List S41 → Cm → Option Cm) (x : S41) (s : Cm) : Option Cm :=
  if x.f0 = 6 then (emB s ⟨6, x.f1, 0, 0⟩).bind fun s1 => (L x.f4 s1).bind fun s2 => (emB s2 ⟨7, 0, 0, 0⟩).bind fun s3 => (ltB s3 s.1.length).bind fun s4 => (L x.f5 s4).bind fun s5 => ltB s5 s2.1.length
  else if x.f0 = 7 then (emB s ⟨6, x.f1, 0, 0⟩).bind fun s1 => (L x.f4 s1).bind fun s2 => (emB s2 ⟨7, 0, 0, (s.1.length : Int)⟩).bind fun s3 => ltB s3 s.1.length
  else if x.f0 = 8 then (emB s ⟨8, x.f1, 0, 0⟩).bind fun s1 => (L x.f4 s1).bind fun s2 => emB s2 ⟨9, x.f1, 0, 0⟩
  else emB s ⟨smp x.f0, x.f1, x.f2, x.f3⟩
def cmL (T : S41 → Cm → Option Cm) : List S41 → Cm → Option Cm
  | [], s => some s
  | x :: t, s => (T x s).bind fun s1 => cmL T t s1
def cmK : Nat → List S41 → Cm → Option Cm
  | 0 => fun _ _ => none
  | k + 1 => cmL (cmOne (cmK k))
def LSays (w0 : World) (g : Nat) (L : List S41 → Cm → Option Cm) : Prop :=
  ∀ (A : Option Addr) (c : Nat) (l : List S41) (s r : Cm) (W : World), Kd.C k41 w0 A l.length l → CSt w0 g s.1 s.2 W → L l s = some r →
    Calls Try.prog 26 #[.pointer (some ⟨g, 0, none⟩), .slice A l.length c] W fun e W' => e = .returned (.tuple #[]) ∧ CSt w0 g r.1 r.2 W' ∧ Kc W W'
def TSays (w0 : World) (g : Nat) (T : S41 → Cm → Option Cm) : Prop :=
  ∀ (A4 : Option Addr) (c4 : Nat) (A5 : Option Addr) (c5 : Nat) (x : S41) (s r : Cm) (W : World), Kd.C k41 w0 A4 x.f4.length x.f4 → Kd.C k41 w0 A5 x.f5.length x.f5 → CSt w0 g s.1 s.2 W → T x s = some r →
    Calls Try.prog 34 #[.pointer (some ⟨g, 0, none⟩), .agg #[.int .i64 x.f0, .int .i64 x.f1, .int .i64 x.f2, .int .i64 x.f3, .slice A4 x.f4.length c4, .slice A5 x.f5.length c5]] W fun e W' => e = .returned (.tuple #[]) ∧ CSt w0 g r.1 r.2 W' ∧ Kc W W'
set_option maxHeartbeats 4000000 in
set_option maxRecDepth 100000 in
theorem list_of (w0 : World) (g : Nat) (T : S41 → Cm → Option Cm) (hT : TSays w0 g T) : LSays w0 g (cmL T) := by
  intro A c l s r W hC hS h
  have HT := Aside0.mk hT
  have HC := Aside0.mk hC
  have HS := Aside0.mk hS
  have H := Aside0.mk h
  have hu := Try.underlying41
  have hl : l.length ≤ 9223372036854775807 := hC.2.1
  clear hT hC hS h
  go_enter Try.func26, Try.ntmps26
  go_wp2
  go_loopg [8] l.length (fun gg p wr => ∃ (kk : Nat) (s1 : Cm), kk ≤ l.length ∧ l.length - kk ≤ gg ∧ p = .int .i64 kk ∧ Aside0 (cmL T (l.drop kk) s1 = some r) ∧ Aside0 (CSt w0 g s1.1 s1.2 wr) ∧ Aside0 (Kc W wr))
  case atStart => exact ⟨0, s, Nat.zero_le _, by omega, rfl, H, HS, ⟨Kc.refl W⟩⟩
  case round =>
    obtain ⟨kk, s1, hkk, hgk, rfl, HE, HS1, HK⟩ := hrel
    clear H HS
    by_cases hlt : kk < l.length
    · have hltz : decide ((kk : Int) < (l.length : Int)) = true := decide_eq_true (by omega)
      have p1 : 0 ≤ (kk : Int) := by omega
      have q1 : (kk : Int) < (l.length : Int) := by omega
      obtain ⟨ad, A4, c4, A5, c5, e1, f0, f1, f2, f3, f4, f5, hc4, H4, hc5, H5⟩ := at_T41 HC.out (kk : Int) p1 q1
      cases e1
      rw [Int.toNat_natCast] at f0 f1 f2 f3 f4 f5
      have HBW : Aside0 (Below w0.heap.size w0 wr) := by
        obtain ⟨vc, vl, ps, hC, _⟩ := HS1.out
        exact ⟨hC.below⟩
      have tr : ∀ {p : Addr} {v : Value}, w0.cell? p = some v → wr.cell? p = some v := fun h => (HBW.out.cell (World.block_lt_of_cell? w0 _ h)).trans h
      have g0 := tr f0
      have g1 := tr f1
      have g2 := tr f2
      have g3 := tr f3
      have g4 := tr f4
      have g5 := tr f5
      clear f0 f1 f2 f3 f4 f5 tr
      have ha := HE.out
      rw [drop_rd l hlt] at ha
      clear HE
      generalize rd_T41 l (kk : Int) = x at *
      obtain ⟨s2, ha1, ha2⟩ := Option.bind_eq_some_iff.1 ha
      have HN := Aside0.mk ha2
      have HX := Aside0.mk (fun W' (q : CSt w0 g s1.1 s1.2 W') => HT.out A4 c4 A5 c5 x s1 s2 W' H4 H5 q ha1)
      clear ha ha1 ha2 H4 H5
      replace p1 := eq_true p1
      replace q1 := eq_true q1
      go_wp2_with (go_at_call 34; refine (HX.out _ (HS1.out.low (below_alloc (Below.refl _ _) _))).mono ?_; rintro e w1 ⟨rfl, hs1, hk1⟩; replace hs1 := Aside0.mk hs1; replace hk1 := Aside0.mk hk1)
      go_roundg (l.length - (kk + 1))
      case measure => omega
      case rel => exact ⟨kk + 1, s2, by omega, by omega, by go_num, HN, hs1, ⟨(HK.out.trans (kc_below (below_alloc (Below.refl _ _) _))).trans hk1.out⟩⟩
    · have hltz : decide ((kk : Int) < (l.length : Int)) = false := decide_eq_false (by omega)
      have he := HE.out
      rw [List.drop_of_length_le (by omega)] at he
      obtain rfl := Option.some.inj (show some s1 = some r from he)
      clear he HE
      go_wp2
      go_end0
      exact ⟨rfl, HS1.out, HK.out⟩
end Go.Proofs.Ytoekjehgnakffaa.P

namespace Go.Proofs.Ytoekjehgnakffaa.P
open Go.RowKit Go.Maps Go.Proofs.YtoekjehgnakffaaW.PrintWords Go.Proofs.YtoekjehgnakffaaW.PrintLast Go.Proofs.YtoekjehgnakffaaW.PrintMore
attribute [local go_sem] max2_int min2_int max_two min_two max_three min_three max_four min_four
set_option linter.unusedVariables false
set_option linter.unusedSimpArgs false
def simL : List (Int × Value) := [(1, .int .i64 1), (2, .int .i64 2), (3, .int .i64 3), (4, .int .i64 4), (5, .int .i64 5), (9, .int .i64 10), (10, .int .i64 11), (11, .int .i64 12)]
theorem run_look1 {P : Program} {t kt e : TypeId} (ht : P.underlying t = some (.map kt e)) (hk : P.underlying kt = some (.int .i64)) {w : World} {b : Nat} {es : Array MapEntry} {c : Nat} (hb : w.heap[b]? = some (.map es c)) (n : Int) {z : Value} (hz : (zeroValue e).run P w = .ok z w)
    {r : Option (Nat × Value)} (hn : Instr.findNow (.int .i64) (.int .i64 n) es.toList 0 = some r) :
    (Instr.lookup t (.map (some b)) (.int .i64 n) false).run P w = .ok ((r.map (·.2)).getD z) w := by
  have hf := MapKept.run_findKey (w := w) hk hn
  have hc := fun em => MapKept.run_checkKey (w := w) (k := .int .i64 n) hk (by simp [MapKept.IsKey]) em 9999
  cases r <;> simp [Instr.lookup, run_underlying ht, MapKept.run_getObj_map hb, hc, hf, hz, Result.andThen]
set_option maxRecDepth 100000 in
theorem look_sim {W : World} {b : Nat} (hb : W.heap[b]? = some (.map (entries simL 8) 8)) (n : Int) : (Instr.lookup 73 (.map (some b)) (.int .i64 n) false).run Try.prog W = .ok (.int .i64 (smp n)) W := by
  have hz : (zeroValue 3).run Try.prog W = .ok (.int .i64 0) W := by rfl
  by_cases h1 : n = 1
  · subst h1; exact run_look1 Try.underlying73 Try.underlying3 hb 1 hz rfl
  by_cases h2 : n = 2
  · subst h2; exact run_look1 Try.underlying73 Try.underlying3 hb 2 hz rfl
  by_cases h3 : n = 3
  · subst h3; exact run_look1 Try.underlying73 Try.underlying3 hb 3 hz rfl
  by_cases h4 : n = 4
  · subst h4; exact run_look1 Try.underlying73 Try.underlying3 hb 4 hz rfl
  by_cases h5 : n = 5
  · subst h5; exact run_look1 Try.underlying73 Try.underlying3 hb 5 hz rfl
  by_cases h9 : n = 9
  · subst h9; exact run_look1 Try.underlying73 Try.underlying3 hb 9 hz rfl
  by_cases h10 : n = 10
  · subst h10; exact run_look1 Try.underlying73 Try.underlying3 hb 10 hz rfl
  by_cases h11 : n = 11
  · subst h11; exact run_look1 Try.underlying73 Try.underlying3 hb 11 hz rfl
  have none_ : Instr.findNow (.int .i64) (.int .i64 n) (entries simL 8).toList 0 = some none := by
    have e : ∀ m : Int, ¬ n = m → (n == m) = false := fun m h => by simpa using h
    simp [entries, simL, Instr.findNow, Instr.sameNow, List.zipIdx, e 1 h1, e 2 h2, e 3 h3, e 4 h4, e 5 h5, e 9 h9, e 10 h10, e 11 h11]
  have e := run_look1 Try.underlying73 Try.underlying3 hb n hz none_
  have a : smp n = 0 := by unfold smp; simp [*]
  rw [a]
  exact e
theorem emB_some {s r : Cm} {i : S39} (h : emB s i = some r) : s.1.length < 1000000000 ∧ r = (s.1 ++ [i], s.2) := by
  unfold emB at h
  split at h
  · rename_i q
    exact ⟨q.1, (Option.some.inj h).symm⟩
  · cases h
theorem ltB_some {s r : Cm} {a : Nat} (h : ltB s a = some r) : s.2.length < 1000000000 ∧ r = (s.1, s.2 ++ [(a, s.1.length)]) := by
  unfold ltB at h
  split at h
  · rename_i q
    exact ⟨q.2, (Option.some.inj h).symm⟩
  · cases h
def BxAt (W : World) (b : Nat) (x : S41) (v4 v5 : Value) : Prop := W.heap[b]? = some (.cells #[.int .i64 x.f0, .int .i64 x.f1, .int .i64 x.f2, .int .i64 x.f3, v4, v5] 41 (0, 0))
theorem BxAt.cells {W : World} {b : Nat} {x : S41} {v4 v5 : Value} (h : BxAt W b x v4 v5) : W.cell? ⟨b, 0, none⟩ = some (.int .i64 x.f0) ∧ W.cell? ⟨b, 1, none⟩ = some (.int .i64 x.f1) ∧ W.cell? ⟨b, 2, none⟩ = some (.int .i64 x.f2) ∧ W.cell? ⟨b, 3, none⟩ = some (.int .i64 x.f3) ∧ W.cell? ⟨b, 4, none⟩ = some v4 ∧ W.cell? ⟨b, 5, none⟩ = some v5 :=
  ⟨cell_of h 0 rfl, cell_of h 1 rfl, cell_of h 2 rfl, cell_of h 3 rfl, cell_of h 4 rfl, cell_of h 5 rfl⟩
theorem BxAt.keep {W W' : World} {b : Nat} {x : S41} {v4 v5 : Value} (h : BxAt W b x v4 v5) (k : Kc W W') : BxAt W' b x v4 v5 := k _ _ _ _ (by decide) (by decide) (by decide) h
set_option maxHeartbeats 8000000 in
set_option maxRecDepth 100000 in
theorem stmt_leaf (w0 : World) (g : Nat) (L : List S41 → Cm → Option Cm) (hL : LSays w0 g L) (A4 : Option Addr) (c4 : Nat) (A5 : Option Addr) (c5 : Nat) (x : S41) (s r : Cm) (W : World) (h4 : Kd.C k41 w0 A4 x.f4.length x.f4) (h5 : Kd.C k41 w0 A5 x.f5.length x.f5) (hS : CSt w0 g s.1 s.2 W) (h : cmOne L x s = some r)
    (n6 : ¬ x.f0 = 6) (n7 : ¬ x.f0 = 7) (n8 : ¬ x.f0 = 8) :
    Calls Try.prog 34 #[.pointer (some ⟨g, 0, none⟩), .agg #[.int .i64 x.f0, .int .i64 x.f1, .int .i64 x.f2, .int .i64 x.f3, .slice A4 x.f4.length c4, .slice A5 x.f5.length c5]] W fun e W' => e = .returned (.tuple #[]) ∧ CSt w0 g r.1 r.2 W' ∧ Kc W W' := by
  have HR4 := Aside0.mk h4
  have HR5 := Aside0.mk h5
  have HL := Aside0.mk hL
  have HS := Aside0.mk hS
  have hu := Try.underlying41
  have hu2 := Try.underlying39
  obtain ⟨lg, lw⟩ := hS.lt
  unfold cmOne at h
  rw [if_neg n6, if_neg n7, if_neg n8] at h
  have k6 : (x.f0 == 6) = false := by simpa using n6
  have k7 : (x.f0 == 7) = false := by simpa using n7
  have k8 : (x.f0 == 8) = false := by simpa using n8
  clear n6 n7 n8
  obtain ⟨hb, rfl⟩ := emB_some h
  have H := Aside0.mk h
  clear h4 h5 hL hS h
  obtain ⟨W1, hW1⟩ : ∃ W1, W1 = W.alloc (.cells #[.int .i64 x.f0, .int .i64 x.f1, .int .i64 x.f2, .int .i64 x.f3, .slice A4 x.f4.length c4, .slice A5 x.f5.length c5] 41) := ⟨_, rfl⟩
  have hz1 : W1.heap.size = W.heap.size + 1 := by rw [hW1, size_alloc]
  have hmm : (Instr.makeMap 73 none).run Try.prog (W.alloc (.cells #[.int .i64 x.f0, .int .i64 x.f1, .int .i64 x.f2, .int .i64 x.f3, .slice A4 x.f4.length c4, .slice A5 x.f5.length c5] 41)) = .ok (.map (some (W.heap.size + 1))) ((W.alloc (.cells #[.int .i64 x.f0, .int .i64 x.f1, .int .i64 x.f2, .int .i64 x.f3, .slice A4 x.f4.length c4, .slice A5 x.f5.length c5] 41)).alloc (.map (entries simL 0) 0)) := by rw [← hW1, ← hz1]; rfl
  have m0 : (Instr.mapUpdate 73 (.map (some (W.heap.size + 1))) (.int .i64 1) (.int .i64 1)).run Try.prog ((W.alloc (.cells #[.int .i64 x.f0, .int .i64 x.f1, .int .i64 x.f2, .int .i64 x.f3, .slice A4 x.f4.length c4, .slice A5 x.f5.length c5] 41)).alloc (.map (entries simL 0) 0)) = .ok () ((W.alloc (.cells #[.int .i64 x.f0, .int .i64 x.f1, .int .i64 x.f2, .int .i64 x.f3, .slice A4 x.f4.length c4, .slice A5 x.f5.length c5] 41)).alloc (.map (entries simL 1) 1)) := by
    rw [← hW1, ← hz1]
    exact run_put_new Try.underlying73 Try.underlying3 W1 (entries simL 0) 0 1 _ rfl
  have m1 : (Instr.mapUpdate 73 (.map (some (W.heap.size + 1))) (.int .i64 2) (.int .i64 2)).run Try.prog ((W.alloc (.cells #[.int .i64 x.f0, .int .i64 x.f1, .int .i64 x.f2, .int .i64 x.f3, .slice A4 x.f4.length c4, .slice A5 x.f5.length c5] 41)).alloc (.map (entries simL 1) 1)) = .ok () ((W.alloc (.cells #[.int .i64 x.f0, .int .i64 x.f1, .int .i64 x.f2, .int .i64 x.f3, .slice A4 x.f4.length c4, .slice A5 x.f5.length c5] 41)).alloc (.map (entries simL 2) 2)) := by
    rw [← hW1, ← hz1]
    exact run_put_new Try.underlying73 Try.underlying3 W1 (entries simL 1) 1 2 _ rfl
  have m2 : (Instr.mapUpdate 73 (.map (some (W.heap.size + 1))) (.int .i64 3) (.int .i64 3)).run Try.prog ((W.alloc (.cells #[.int .i64 x.f0, .int .i64 x.f1, .int .i64 x.f2, .int .i64 x.f3, .slice A4 x.f4.length c4, .slice A5 x.f5.length c5] 41)).alloc (.map (entries simL 2) 2)) = .ok () ((W.alloc (.cells #[.int .i64 x.f0, .int .i64 x.f1, .int .i64 x.f2, .int .i64 x.f3, .slice A4 x.f4.length c4, .slice A5 x.f5.length c5] 41)).alloc (.map (entries simL 3) 3)) := by
    rw [← hW1, ← hz1]
    exact run_put_new Try.underlying73 Try.underlying3 W1 (entries simL 2) 2 3 _ rfl
  have m3 : (Instr.mapUpdate 73 (.map (some (W.heap.size + 1))) (.int .i64 4) (.int .i64 4)).run Try.prog ((W.alloc (.cells #[.int .i64 x.f0, .int .i64 x.f1, .int .i64 x.f2, .int .i64 x.f3, .slice A4 x.f4.length c4, .slice A5 x.f5.length c5] 41)).alloc (.map (entries simL 3) 3)) = .ok () ((W.alloc (.cells #[.int .i64 x.f0, .int .i64 x.f1, .int .i64 x.f2, .int .i64 x.f3, .slice A4 x.f4.length c4, .slice A5 x.f5.length c5] 41)).alloc (.map (entries simL 4) 4)) := by
    rw [← hW1, ← hz1]
    exact run_put_new Try.underlying73 Try.underlying3 W1 (entries simL 3) 3 4 _ rfl
  have m4 : (Instr.mapUpdate 73 (.map (some (W.heap.size + 1))) (.int .i64 5) (.int .i64 5)).run Try.prog ((W.alloc (.cells #[.int .i64 x.f0, .int .i64 x.f1, .int .i64 x.f2, .int .i64 x.f3, .slice A4 x.f4.length c4, .slice A5 x.f5.length c5] 41)).alloc (.map (entries simL 4) 4)) = .ok () ((W.alloc (.cells #[.int .i64 x.f0, .int .i64 x.f1, .int .i64 x.f2, .int .i64 x.f3, .slice A4 x.f4.length c4, .slice A5 x.f5.length c5] 41)).alloc (.map (entries simL 5) 5)) := by
    rw [← hW1, ← hz1]
    exact run_put_new Try.underlying73 Try.underlying3 W1 (entries simL 4) 4 5 _ rfl
  have m5 : (Instr.mapUpdate 73 (.map (some (W.heap.size + 1))) (.int .i64 9) (.int .i64 10)).run Try.prog ((W.alloc (.cells #[.int .i64 x.f0, .int .i64 x.f1, .int .i64 x.f2, .int .i64 x.f3, .slice A4 x.f4.length c4, .slice A5 x.f5.length c5] 41)).alloc (.map (entries simL 5) 5)) = .ok () ((W.alloc (.cells #[.int .i64 x.f0, .int .i64 x.f1, .int .i64 x.f2, .int .i64 x.f3, .slice A4 x.f4.length c4, .slice A5 x.f5.length c5] 41)).alloc (.map (entries simL 6) 6)) := by
    rw [← hW1, ← hz1]
    exact run_put_new Try.underlying73 Try.underlying3 W1 (entries simL 5) 5 9 _ rfl
  have m6 : (Instr.mapUpdate 73 (.map (some (W.heap.size + 1))) (.int .i64 10) (.int .i64 11)).run Try.prog ((W.alloc (.cells #[.int .i64 x.f0, .int .i64 x.f1, .int .i64 x.f2, .int .i64 x.f3, .slice A4 x.f4.length c4, .slice A5 x.f5.length c5] 41)).alloc (.map (entries simL 6) 6)) = .ok () ((W.alloc (.cells #[.int .i64 x.f0, .int .i64 x.f1, .int .i64 x.f2, .int .i64 x.f3, .slice A4 x.f4.length c4, .slice A5 x.f5.length c5] 41)).alloc (.map (entries simL 7) 7)) := by
    rw [← hW1, ← hz1]
    exact run_put_new Try.underlying73 Try.underlying3 W1 (entries simL 6) 6 10 _ rfl
  have m7 : (Instr.mapUpdate 73 (.map (some (W.heap.size + 1))) (.int .i64 11) (.int .i64 12)).run Try.prog ((W.alloc (.cells #[.int .i64 x.f0, .int .i64 x.f1, .int .i64 x.f2, .int .i64 x.f3, .slice A4 x.f4.length c4, .slice A5 x.f5.length c5] 41)).alloc (.map (entries simL 7) 7)) = .ok () ((W.alloc (.cells #[.int .i64 x.f0, .int .i64 x.f1, .int .i64 x.f2, .int .i64 x.f3, .slice A4 x.f4.length c4, .slice A5 x.f5.length c5] 41)).alloc (.map (entries simL 8) 8)) := by
    rw [← hW1, ← hz1]
    exact run_put_new Try.underlying73 Try.underlying3 W1 (entries simL 7) 7 11 _ rfl
  have HBX : Aside0 (BxAt ((W.alloc (.cells #[.int .i64 x.f0, .int .i64 x.f1, .int .i64 x.f2, .int .i64 x.f3, .slice A4 x.f4.length c4, .slice A5 x.f5.length c5] 41)).alloc (.map (entries simL 8) 8)) W.heap.size x (.slice A4 x.f4.length c4) (.slice A5 x.f5.length c5)) := ⟨blk_alloc (blk_new W _) _⟩
  have HK : Aside0 (Kc W ((W.alloc (.cells #[.int .i64 x.f0, .int .i64 x.f1, .int .i64 x.f2, .int .i64 x.f3, .slice A4 x.f4.length c4, .slice A5 x.f5.length c5] 41)).alloc (.map (entries simL 8) 8))) := ⟨kc_below (below_alloc (below_alloc (Below.refl _ W) _) _)⟩
  have HS2 := Aside0.mk (HS.out.low (W' := (W.alloc (.cells #[.int .i64 x.f0, .int .i64 x.f1, .int .i64 x.f2, .int .i64 x.f3, .slice A4 x.f4.length c4, .slice A5 x.f5.length c5] 41)).alloc (.map (entries simL 8) 8)) (below_alloc (below_alloc (Below.refl _ W) _) _))
  have hlk := look_sim (W := (W.alloc (.cells #[.int .i64 x.f0, .int .i64 x.f1, .int .i64 x.f2, .int .i64 x.f3, .slice A4 x.f4.length c4, .slice A5 x.f5.length c5] 41)).alloc (.map (entries simL 8) 8)) (b := W.heap.size + 1) (by rw [← hW1, ← hz1]; exact blk_new W1 _) x.f0
  clear hW1 hz1
  obtain ⟨b0, b1, b2, b3, b4, b5⟩ := HBX.out.cells
  go_enter Try.func34, Try.ntmps34
  go_wp2_with fail
  go_at_call 27
  refine (emit_calls w0 g s.1 s.2 _ (smp x.f0) x.f1 x.f2 x.f3 HS2.out hb).mono ?_
  rintro e w1 ⟨rfl, hs2, hk⟩
  replace HBX := Aside0.mk (HBX.out.keep hk)
  replace HK := Aside0.mk (HK.out.trans hk)
  clear b0 b1 b2 b3 b4 b5 HS2
  obtain ⟨b0, b1, b2, b3, b4, b5⟩ := HBX.out.cells
  have HS2 := Aside0.mk hs2
  clear hs2
  clear hk
  go_wp2
  go_end0
  exact ⟨rfl, HS2.out, HK.out⟩
set_option maxHeartbeats 8000000 in
set_option maxRecDepth 100000 in
theorem stmt_in (w0 : World) (g : Nat) (L : List S41 → Cm → Option Cm) (hL : LSays w0 g L) (A4 : Option Addr) (c4 : Nat) (A5 : Option Addr) (c5 : Nat) (x : S41) (s r : Cm) (W : World) (h4 : Kd.C k41 w0 A4 x.f4.length x.f4) (h5 : Kd.C k41 w0 A5 x.f5.length x.f5) (hS : CSt w0 g s.1 s.2 W) (h : cmOne L x s = some r)
    (h8 : x.f0 = 8) :
    Calls Try.prog 34 #[.pointer (some ⟨g, 0, none⟩), .agg #[.int .i64 x.f0, .int .i64 x.f1, .int .i64 x.f2, .int .i64 x.f3, .slice A4 x.f4.length c4, .slice A5 x.f5.length c5]] W fun e W' => e = .returned (.tuple #[]) ∧ CSt w0 g r.1 r.2 W' ∧ Kc W W' := by
  have HR4 := Aside0.mk h4
  have HR5 := Aside0.mk h5
  have HL := Aside0.mk hL
  have HS := Aside0.mk hS
  have hu := Try.underlying41
  have hu2 := Try.underlying39
  obtain ⟨lg, lw⟩ := hS.lt
  unfold cmOne at h
  have n6 : ¬ x.f0 = 6 := by omega
  have n7 : ¬ x.f0 = 7 := by omega
  rw [if_neg n6, if_neg n7, if_pos h8] at h
  have k6 : (x.f0 == 6) = false := by simpa using n6
  have k7 : (x.f0 == 7) = false := by simpa using n7
  have k8 : (x.f0 == 8) = true := by simpa using h8
  clear n6 n7 h8
  obtain ⟨s1, e1, h⟩ := Option.bind_eq_some_iff.1 h
  obtain ⟨s2, e2, e3⟩ := Option.bind_eq_some_iff.1 h
  obtain ⟨hb1, rfl⟩ := emB_some e1
  obtain ⟨hb3, rfl⟩ := emB_some e3
  have HE2 := Aside0.mk e2
  clear e1 e2 e3
  have H := Aside0.mk h
  clear h4 h5 hL hS h
  obtain ⟨W1, hW1⟩ : ∃ W1, W1 = W.alloc (.cells #[.int .i64 x.f0, .int .i64 x.f1, .int .i64 x.f2, .int .i64 x.f3, .slice A4 x.f4.length c4, .slice A5 x.f5.length c5] 41) := ⟨_, rfl⟩
  have hz1 : W1.heap.size = W.heap.size + 1 := by rw [hW1, size_alloc]
  have hmm : (Instr.makeMap 73 none).run Try.prog (W.alloc (.cells #[.int .i64 x.f0, .int .i64 x.f1, .int .i64 x.f2, .int .i64 x.f3, .slice A4 x.f4.length c4, .slice A5 x.f5.length c5] 41)) = .ok (.map (some (W.heap.size + 1))) ((W.alloc (.cells #[.int .i64 x.f0, .int .i64 x.f1, .int .i64 x.f2, .int .i64 x.f3, .slice A4 x.f4.length c4, .slice A5 x.f5.length c5] 41)).alloc (.map (entries simL 0) 0)) := by rw [← hW1, ← hz1]; rfl
  have m0 : (Instr.mapUpdate 73 (.map (some (W.heap.size + 1))) (.int .i64 1) (.int .i64 1)).run Try.prog ((W.alloc (.cells #[.int .i64 x.f0, .int .i64 x.f1, .int .i64 x.f2, .int .i64 x.f3, .slice A4 x.f4.length c4, .slice A5 x.f5.length c5] 41)).alloc (.map (entries simL 0) 0)) = .ok () ((W.alloc (.cells #[.int .i64 x.f0, .int .i64 x.f1, .int .i64 x.f2, .int .i64 x.f3, .slice A4 x.f4.length c4, .slice A5 x.f5.length c5] 41)).alloc (.map (entries simL 1) 1)) := by
    rw [← hW1, ← hz1]
    exact run_put_new Try.underlying73 Try.underlying3 W1 (entries simL 0) 0 1 _ rfl
  have m1 : (Instr.mapUpdate 73 (.map (some (W.heap.size + 1))) (.int .i64 2) (.int .i64 2)).run Try.prog ((W.alloc (.cells #[.int .i64 x.f0, .int .i64 x.f1, .int .i64 x.f2, .int .i64 x.f3, .slice A4 x.f4.length c4, .slice A5 x.f5.length c5] 41)).alloc (.map (entries simL 1) 1)) = .ok () ((W.alloc (.cells #[.int .i64 x.f0, .int .i64 x.f1, .int .i64 x.f2, .int .i64 x.f3, .slice A4 x.f4.length c4, .slice A5 x.f5.length c5] 41)).alloc (.map (entries simL 2) 2)) := by
    rw [← hW1, ← hz1]
    exact run_put_new Try.underlying73 Try.underlying3 W1 (entries simL 1) 1 2 _ rfl
  have m2 : (Instr.mapUpdate 73 (.map (some (W.heap.size + 1))) (.int .i64 3) (.int .i64 3)).run Try.prog ((W.alloc (.cells #[.int .i64 x.f0, .int .i64 x.f1, .int .i64 x.f2, .int .i64 x.f3, .slice A4 x.f4.length c4, .slice A5 x.f5.length c5] 41)).alloc (.map (entries simL 2) 2)) = .ok () ((W.alloc (.cells #[.int .i64 x.f0, .int .i64 x.f1, .int .i64 x.f2, .int .i64 x.f3, .slice A4 x.f4.length c4, .slice A5 x.f5.length c5] 41)).alloc (.map (entries simL 3) 3)) := by
    rw [← hW1, ← hz1]
    exact run_put_new Try.underlying73 Try.underlying3 W1 (entries simL 2) 2 3 _ rfl
  have m3 : (Instr.mapUpdate 73 (.map (some (W.heap.size + 1))) (.int .i64 4) (.int .i64 4)).run Try.prog ((W.alloc (.cells #[.int .i64 x.f0, .int .i64 x.f1, .int .i64 x.f2, .int .i64 x.f3, .slice A4 x.f4.length c4, .slice A5 x.f5.length c5] 41)).alloc (.map (entries simL 3) 3)) = .ok () ((W.alloc (.cells #[.int .i64 x.f0, .int .i64 x.f1, .int .i64 x.f2, .int .i64 x.f3, .slice A4 x.f4.length c4, .slice A5 x.f5.length c5] 41)).alloc (.map (entries simL 4) 4)) := by
    rw [← hW1, ← hz1]
    exact run_put_new Try.underlying73 Try.underlying3 W1 (entries simL 3) 3 4 _ rfl
  have m4 : (Instr.mapUpdate 73 (.map (some (W.heap.size + 1))) (.int .i64 5) (.int .i64 5)).run Try.prog ((W.alloc (.cells #[.int .i64 x.f0, .int .i64 x.f1, .int .i64 x.f2, .int .i64 x.f3, .slice A4 x.f4.length c4, .slice A5 x.f5.length c5] 41)).alloc (.map (entries simL 4) 4)) = .ok () ((W.alloc (.cells #[.int .i64 x.f0, .int .i64 x.f1, .int .i64 x.f2, .int .i64 x.f3, .slice A4 x.f4.length c4, .slice A5 x.f5.length c5] 41)).alloc (.map (entries simL 5) 5)) := by
    rw [← hW1, ← hz1]
    exact run_put_new Try.underlying73 Try.underlying3 W1 (entries simL 4) 4 5 _ rfl
  have m5 : (Instr.mapUpdate 73 (.map (some (W.heap.size + 1))) (.int .i64 9) (.int .i64 10)).run Try.prog ((W.alloc (.cells #[.int .i64 x.f0, .int .i64 x.f1, .int .i64 x.f2, .int .i64 x.f3, .slice A4 x.f4.length c4, .slice A5 x.f5.length c5] 41)).alloc (.map (entries simL 5) 5)) = .ok () ((W.alloc (.cells #[.int .i64 x.f0, .int .i64 x.f1, .int .i64 x.f2, .int .i64 x.f3, .slice A4 x.f4.length c4, .slice A5 x.f5.length c5] 41)).alloc (.map (entries simL 6) 6)) := by
    rw [← hW1, ← hz1]
    exact run_put_new Try.underlying73 Try.underlying3 W1 (entries simL 5) 5 9 _ rfl
  have m6 : (Instr.mapUpdate 73 (.map (some (W.heap.size + 1))) (.int .i64 10) (.int .i64 11)).run Try.prog ((W.alloc (.cells #[.int .i64 x.f0, .int .i64 x.f1, .int .i64 x.f2, .int .i64 x.f3, .slice A4 x.f4.length c4, .slice A5 x.f5.length c5] 41)).alloc (.map (entries simL 6) 6)) = .ok () ((W.alloc (.cells #[.int .i64 x.f0, .int .i64 x.f1, .int .i64 x.f2, .int .i64 x.f3, .slice A4 x.f4.length c4, .slice A5 x.f5.length c5] 41)).alloc (.map (entries simL 7) 7)) := by
    rw [← hW1, ← hz1]
    exact run_put_new Try.underlying73 Try.underlying3 W1 (entries simL 6) 6 10 _ rfl
  have m7 : (Instr.mapUpdate 73 (.map (some (W.heap.size + 1))) (.int .i64 11) (.int .i64 12)).run Try.prog ((W.alloc (.cells #[.int .i64 x.f0, .int .i64 x.f1, .int .i64 x.f2, .int .i64 x.f3, .slice A4 x.f4.length c4, .slice A5 x.f5.length c5] 41)).alloc (.map (entries simL 7) 7)) = .ok () ((W.alloc (.cells #[.int .i64 x.f0, .int .i64 x.f1, .int .i64 x.f2, .int .i64 x.f3, .slice A4 x.f4.length c4, .slice A5 x.f5.length c5] 41)).alloc (.map (entries simL 8) 8)) := by
    rw [← hW1, ← hz1]
    exact run_put_new Try.underlying73 Try.underlying3 W1 (entries simL 7) 7 11 _ rfl
  have HBX : Aside0 (BxAt ((W.alloc (.cells #[.int .i64 x.f0, .int .i64 x.f1, .int .i64 x.f2, .int .i64 x.f3, .slice A4 x.f4.length c4, .slice A5 x.f5.length c5] 41)).alloc (.map (entries simL 8) 8)) W.heap.size x (.slice A4 x.f4.length c4) (.slice A5 x.f5.length c5)) := ⟨blk_alloc (blk_new W _) _⟩
  have HK : Aside0 (Kc W ((W.alloc (.cells #[.int .i64 x.f0, .int .i64 x.f1, .int .i64 x.f2, .int .i64 x.f3, .slice A4 x.f4.length c4, .slice A5 x.f5.length c5] 41)).alloc (.map (entries simL 8) 8))) := ⟨kc_below (below_alloc (below_alloc (Below.refl _ W) _) _)⟩
  have HS2 := Aside0.mk (HS.out.low (W' := (W.alloc (.cells #[.int .i64 x.f0, .int .i64 x.f1, .int .i64 x.f2, .int .i64 x.f3, .slice A4 x.f4.length c4, .slice A5 x.f5.length c5] 41)).alloc (.map (entries simL 8) 8)) (below_alloc (below_alloc (Below.refl _ W) _) _))
  have hlk := look_sim (W := (W.alloc (.cells #[.int .i64 x.f0, .int .i64 x.f1, .int .i64 x.f2, .int .i64 x.f3, .slice A4 x.f4.length c4, .slice A5 x.f5.length c5] 41)).alloc (.map (entries simL 8) 8)) (b := W.heap.size + 1) (by rw [← hW1, ← hz1]; exact blk_new W1 _) x.f0
  clear hW1 hz1
  obtain ⟨b0, b1, b2, b3, b4, b5⟩ := HBX.out.cells
  go_enter Try.func34, Try.ntmps34
  go_wp2_with fail
  go_at_call 27
  refine (emit_calls w0 g s.1 s.2 _ 8 x.f1 0 0 HS2.out hb1).mono ?_
  rintro e w1 ⟨rfl, hs2, hk⟩
  replace HBX := Aside0.mk (HBX.out.keep hk)
  replace HK := Aside0.mk (HK.out.trans hk)
  clear b0 b1 b2 b3 b4 b5 HS2
  obtain ⟨b0, b1, b2, b3, b4, b5⟩ := HBX.out.cells
  have HS2 := Aside0.mk hs2
  clear hs2
  clear hk
  go_wp2_with fail
  go_at_call 26
  refine (HL.out A4 c4 x.f4 _ s2 _ HR4.out HS2.out HE2.out).mono ?_
  rintro e w2 ⟨rfl, hs2, hk⟩
  replace HBX := Aside0.mk (HBX.out.keep hk)
  replace HK := Aside0.mk (HK.out.trans hk)
  clear b0 b1 b2 b3 b4 b5 HS2
  obtain ⟨b0, b1, b2, b3, b4, b5⟩ := HBX.out.cells
  have HS2 := Aside0.mk hs2
  clear hs2
  clear hk
  go_wp2_with fail
  go_at_call 27
  refine (emit_calls w0 g s2.1 s2.2 _ 9 x.f1 0 0 HS2.out hb3).mono ?_
  rintro e w3 ⟨rfl, hs2, hk⟩
  replace HBX := Aside0.mk (HBX.out.keep hk)
  replace HK := Aside0.mk (HK.out.trans hk)
  clear b0 b1 b2 b3 b4 b5 HS2
  obtain ⟨b0, b1, b2, b3, b4, b5⟩ := HBX.out.cells
  have HS2 := Aside0.mk hs2
  clear hs2
  clear hk
  go_wp2
  go_end0
  exact ⟨rfl, HS2.out, HK.out⟩
set_option maxHeartbeats 8000000 in
set_option maxRecDepth 100000 in
theorem stmt_while (w0 : World) (g : Nat) (L : List S41 → Cm → Option Cm) (hL : LSays w0 g L) (A4 : Option Addr) (c4 : Nat) (A5 : Option Addr) (c5 : Nat) (x : S41) (s r : Cm) (W : World) (h4 : Kd.C k41 w0 A4 x.f4.length x.f4) (h5 : Kd.C k41 w0 A5 x.f5.length x.f5) (hS : CSt w0 g s.1 s.2 W) (h : cmOne L x s = some r)
    (h7 : x.f0 = 7) :
    Calls Try.prog 34 #[.pointer (some ⟨g, 0, none⟩), .agg #[.int .i64 x.f0, .int .i64 x.f1, .int .i64 x.f2, .int .i64 x.f3, .slice A4 x.f4.length c4, .slice A5 x.f5.length c5]] W fun e W' => e = .returned (.tuple #[]) ∧ CSt w0 g r.1 r.2 W' ∧ Kc W W' := by
  have HR4 := Aside0.mk h4
  have HR5 := Aside0.mk h5
  have HL := Aside0.mk hL
  have HS := Aside0.mk hS
  have hu := Try.underlying41
  have hu2 := Try.underlying39
  obtain ⟨lg, lw⟩ := hS.lt
  unfold cmOne at h
  have n6 : ¬ x.f0 = 6 := by omega
  rw [if_neg n6, if_pos h7] at h
  have k6 : (x.f0 == 6) = false := by simpa using n6
  have k7 : (x.f0 == 7) = true := by simpa using h7
  clear n6 h7
  obtain ⟨s1, e1, h⟩ := Option.bind_eq_some_iff.1 h
  obtain ⟨s2, e2, h⟩ := Option.bind_eq_some_iff.1 h
  obtain ⟨s3, e3, e4⟩ := Option.bind_eq_some_iff.1 h
  obtain ⟨hb1, rfl⟩ := emB_some e1
  obtain ⟨hb3, rfl⟩ := emB_some e3
  obtain ⟨hb4, rfl⟩ := ltB_some e4
  have HE2 := Aside0.mk e2
  clear e1 e2 e3 e4
  have H := Aside0.mk h
  clear h4 h5 hL hS h
  obtain ⟨W1, hW1⟩ : ∃ W1, W1 = W.alloc (.cells #[.int .i64 x.f0, .int .i64 x.f1, .int .i64 x.f2, .int .i64 x.f3, .slice A4 x.f4.length c4, .slice A5 x.f5.length c5] 41) := ⟨_, rfl⟩
  have hz1 : W1.heap.size = W.heap.size + 1 := by rw [hW1, size_alloc]
  have hmm : (Instr.makeMap 73 none).run Try.prog (W.alloc (.cells #[.int .i64 x.f0, .int .i64 x.f1, .int .i64 x.f2, .int .i64 x.f3, .slice A4 x.f4.length c4, .slice A5 x.f5.length c5] 41)) = .ok (.map (some (W.heap.size + 1))) ((W.alloc (.cells #[.int .i64 x.f0, .int .i64 x.f1, .int .i64 x.f2, .int .i64 x.f3, .slice A4 x.f4.length c4, .slice A5 x.f5.length c5] 41)).alloc (.map (entries simL 0) 0)) := by rw [← hW1, ← hz1]; rfl
  have m0 : (Instr.mapUpdate 73 (.map (some (W.heap.size + 1))) (.int .i64 1) (.int .i64 1)).run Try.prog ((W.alloc (.cells #[.int .i64 x.f0, .int .i64 x.f1, .int .i64 x.f2, .int .i64 x.f3, .slice A4 x.f4.length c4, .slice A5 x.f5.length c5] 41)).alloc (.map (entries simL 0) 0)) = .ok () ((W.alloc (.cells #[.int .i64 x.f0, .int .i64 x.f1, .int .i64 x.f2, .int .i64 x.f3, .slice A4 x.f4.length c4, .slice A5 x.f5.length c5] 41)).alloc (.map (entries simL 1) 1)) := by
    rw [← hW1, ← hz1]
    exact run_put_new Try.underlying73 Try.underlying3 W1 (entries simL 0) 0 1 _ rfl
  have m1 : (Instr.mapUpdate 73 (.map (some (W.heap.size + 1))) (.int .i64 2) (.int .i64 2)).run Try.prog ((W.alloc (.cells #[.int .i64 x.f0, .int .i64 x.f1, .int .i64 x.f2, .int .i64 x.f3, .slice A4 x.f4.length c4, .slice A5 x.f5.length c5] 41)).alloc (.map (entries simL 1) 1)) = .ok () ((W.alloc (.cells #[.int .i64 x.f0, .int .i64 x.f1, .int .i64 x.f2, .int .i64 x.f3, .slice A4 x.f4.length c4, .slice A5 x.f5.length c5] 41)).alloc (.map (entries simL 2) 2)) := by
    rw [← hW1, ← hz1]
    exact run_put_new Try.underlying73 Try.underlying3 W1 (entries simL 1) 1 2 _ rfl
  have m2 : (Instr.mapUpdate 73 (.map (some (W.heap.size + 1))) (.int .i64 3) (.int .i64 3)).run Try.prog ((W.alloc (.cells #[.int .i64 x.f0, .int .i64 x.f1, .int .i64 x.f2, .int .i64 x.f3, .slice A4 x.f4.length c4, .slice A5 x.f5.length c5] 41)).alloc (.map (entries simL 2) 2)) = .ok () ((W.alloc (.cells #[.int .i64 x.f0, .int .i64 x.f1, .int .i64 x.f2, .int .i64 x.f3, .slice A4 x.f4.length c4, .slice A5 x.f5.length c5] 41)).alloc (.map (entries simL 3) 3)) := by
    rw [← hW1, ← hz1]
    exact run_put_new Try.underlying73 Try.underlying3 W1 (entries simL 2) 2 3 _ rfl
  have m3 : (Instr.mapUpdate 73 (.map (some (W.heap.size + 1))) (.int .i64 4) (.int .i64 4)).run Try.prog ((W.alloc (.cells #[.int .i64 x.f0, .int .i64 x.f1, .int .i64 x.f2, .int .i64 x.f3, .slice A4 x.f4.length c4, .slice A5 x.f5.length c5] 41)).alloc (.map (entries simL 3) 3)) = .ok () ((W.alloc (.cells #[.int .i64 x.f0, .int .i64 x.f1, .int .i64 x.f2, .int .i64 x.f3, .slice A4 x.f4.length c4, .slice A5 x.f5.length c5] 41)).alloc (.map (entries simL 4) 4)) := by
    rw [← hW1, ← hz1]
    exact run_put_new Try.underlying73 Try.underlying3 W1 (entries simL 3) 3 4 _ rfl
  have m4 : (Instr.mapUpdate 73 (.map (some (W.heap.size + 1))) (.int .i64 5) (.int .i64 5)).run Try.prog ((W.alloc (.cells #[.int .i64 x.f0, .int .i64 x.f1, .int .i64 x.f2, .int .i64 x.f3, .slice A4 x.f4.length c4, .slice A5 x.f5.length c5] 41)).alloc (.map (entries simL 4) 4)) = .ok () ((W.alloc (.cells #[.int .i64 x.f0, .int .i64 x.f1, .int .i64 x.f2, .int .i64 x.f3, .slice A4 x.f4.length c4, .slice A5 x.f5.length c5] 41)).alloc (.map (entries simL 5) 5)) := by
    rw [← hW1, ← hz1]
    exact run_put_new Try.underlying73 Try.underlying3 W1 (entries simL 4) 4 5 _ rfl
  have m5 : (Instr.mapUpdate 73 (.map (some (W.heap.size + 1))) (.int .i64 9) (.int .i64 10)).run Try.prog ((W.alloc (.cells #[.int .i64 x.f0, .int .i64 x.f1, .int .i64 x.f2, .int .i64 x.f3, .slice A4 x.f4.length c4, .slice A5 x.f5.length c5] 41)).alloc (.map (entries simL 5) 5)) = .ok () ((W.alloc (.cells #[.int .i64 x.f0, .int .i64 x.f1, .int .i64 x.f2, .int .i64 x.f3, .slice A4 x.f4.length c4, .slice A5 x.f5.length c5] 41)).alloc (.map (entries simL 6) 6)) := by
    rw [← hW1, ← hz1]
    exact run_put_new Try.underlying73 Try.underlying3 W1 (entries simL 5) 5 9 _ rfl
  have m6 : (Instr.mapUpdate 73 (.map (some (W.heap.size + 1))) (.int .i64 10) (.int .i64 11)).run Try.prog ((W.alloc (.cells #[.int .i64 x.f0, .int .i64 x.f1, .int .i64 x.f2, .int .i64 x.f3, .slice A4 x.f4.length c4, .slice A5 x.f5.length c5] 41)).alloc (.map (entries simL 6) 6)) = .ok () ((W.alloc (.cells #[.int .i64 x.f0, .int .i64 x.f1, .int .i64 x.f2, .int .i64 x.f3, .slice A4 x.f4.length c4, .slice A5 x.f5.length c5] 41)).alloc (.map (entries simL 7) 7)) := by
    rw [← hW1, ← hz1]
    exact run_put_new Try.underlying73 Try.underlying3 W1 (entries simL 6) 6 10 _ rfl
  have m7 : (Instr.mapUpdate 73 (.map (some (W.heap.size + 1))) (.int .i64 11) (.int .i64 12)).run Try.prog ((W.alloc (.cells #[.int .i64 x.f0, .int .i64 x.f1, .int .i64 x.f2, .int .i64 x.f3, .slice A4 x.f4.length c4, .slice A5 x.f5.length c5] 41)).alloc (.map (entries simL 7) 7)) = .ok () ((W.alloc (.cells #[.int .i64 x.f0, .int .i64 x.f1, .int .i64 x.f2, .int .i64 x.f3, .slice A4 x.f4.length c4, .slice A5 x.f5.length c5] 41)).alloc (.map (entries simL 8) 8)) := by
    rw [← hW1, ← hz1]
    exact run_put_new Try.underlying73 Try.underlying3 W1 (entries simL 7) 7 11 _ rfl
  have HBX : Aside0 (BxAt ((W.alloc (.cells #[.int .i64 x.f0, .int .i64 x.f1, .int .i64 x.f2, .int .i64 x.f3, .slice A4 x.f4.length c4, .slice A5 x.f5.length c5] 41)).alloc (.map (entries simL 8) 8)) W.heap.size x (.slice A4 x.f4.length c4) (.slice A5 x.f5.length c5)) := ⟨blk_alloc (blk_new W _) _⟩
  have HK : Aside0 (Kc W ((W.alloc (.cells #[.int .i64 x.f0, .int .i64 x.f1, .int .i64 x.f2, .int .i64 x.f3, .slice A4 x.f4.length c4, .slice A5 x.f5.length c5] 41)).alloc (.map (entries simL 8) 8))) := ⟨kc_below (below_alloc (below_alloc (Below.refl _ W) _) _)⟩
  have HS2 := Aside0.mk (HS.out.low (W' := (W.alloc (.cells #[.int .i64 x.f0, .int .i64 x.f1, .int .i64 x.f2, .int .i64 x.f3, .slice A4 x.f4.length c4, .slice A5 x.f5.length c5] 41)).alloc (.map (entries simL 8) 8)) (below_alloc (below_alloc (Below.refl _ W) _) _))
  have hlk := look_sim (W := (W.alloc (.cells #[.int .i64 x.f0, .int .i64 x.f1, .int .i64 x.f2, .int .i64 x.f3, .slice A4 x.f4.length c4, .slice A5 x.f5.length c5] 41)).alloc (.map (entries simL 8) 8)) (b := W.heap.size + 1) (by rw [← hW1, ← hz1]; exact blk_new W1 _) x.f0
  clear hW1 hz1
  obtain ⟨b0, b1, b2, b3, b4, b5⟩ := HBX.out.cells
  -- the code's length is read
  obtain ⟨vc, vl, ps, hC, hLA⟩ := HS2.out
  obtain ⟨A, c, rfl⟩ := Kd.R_slice hC.code
  obtain ⟨g0, g1, z0, z1⟩ := hC.cells
  clear hC hLA
  go_enter Try.func34, Try.ntmps34
  go_wp2_with fail
  go_at_call 40
  refine (forward_calls w0 g s.1 s.2 _ 6 x.f1 0 0 HS2.out hb1).mono ?_
  rintro e w1 ⟨bc, ba, rfl, hs2, hc, ha, hk⟩
  replace HBX := Aside0.mk (HBX.out.keep hk)
  replace HK := Aside0.mk (HK.out.trans hk)
  clear b0 b1 b2 b3 b4 b5 HS2
  obtain ⟨b0, b1, b2, b3, b4, b5⟩ := HBX.out.cells
  have HS2 := Aside0.mk hs2
  clear hs2
  clear hk
  have HCA := Aside0.mk (And.intro hc ha)
  clear hc ha
  go_wp2_with fail
  go_at_call 26
  refine (HL.out A4 c4 x.f4 _ s2 _ HR4.out HS2.out HE2.out).mono ?_
  rintro e w2 ⟨rfl, hs2, hk⟩
  replace HBX := Aside0.mk (HBX.out.keep hk)
  replace HK := Aside0.mk (HK.out.trans hk)
  clear b0 b1 b2 b3 b4 b5 HS2
  obtain ⟨b0, b1, b2, b3, b4, b5⟩ := HBX.out.cells
  have HS2 := Aside0.mk hs2
  clear hs2
  replace HCA := Aside0.mk (And.intro (hk _ _ _ _ (by decide) (by decide) (by decide) HCA.out.1) (hk _ _ _ _ (by decide) (by decide) (by decide) HCA.out.2))
  clear hk
  go_wp2_with fail
  go_at_call 27
  refine (emit_calls w0 g s2.1 s2.2 _ 7 0 0 (s.1.length : Int) HS2.out hb3).mono ?_
  rintro e w3 ⟨rfl, hs2, hk⟩
  replace HBX := Aside0.mk (HBX.out.keep hk)
  replace HK := Aside0.mk (HK.out.trans hk)
  clear b0 b1 b2 b3 b4 b5 HS2
  obtain ⟨b0, b1, b2, b3, b4, b5⟩ := HBX.out.cells
  have HS2 := Aside0.mk hs2
  clear hs2
  replace HCA := Aside0.mk (And.intro (hk _ _ _ _ (by decide) (by decide) (by decide) HCA.out.1) (hk _ _ _ _ (by decide) (by decide) (by decide) HCA.out.2))
  clear hk
  go_wp2_with fail
  go_at_call 44
  refine (fixed_calls w0 g (s2.1 ++ [⟨7, 0, 0, (s.1.length : Int)⟩]) s2.2 _ bc ba s.1.length HS2.out hb4 HCA.out.1 HCA.out.2).mono ?_
  rintro e w4 ⟨rfl, hs2, hk⟩
  replace HBX := Aside0.mk (HBX.out.keep hk)
  replace HK := Aside0.mk (HK.out.trans hk)
  clear b0 b1 b2 b3 b4 b5 HS2
  obtain ⟨b0, b1, b2, b3, b4, b5⟩ := HBX.out.cells
  have HS2 := Aside0.mk hs2
  clear hs2
  clear hk
  go_wp2
  go_end0
  exact ⟨rfl, HS2.out, HK.out⟩
set_option maxHeartbeats 8000000 in
set_option maxRecDepth 100000 in
theorem stmt_if (w0 : World) (g : Nat) (L : List S41 → Cm → Option Cm) (hL : LSays w0 g L) (A4 : Option Addr) (c4 : Nat) (A5 : Option Addr) (c5 : Nat) (x : S41) (s r : Cm) (W : World) (h4 : Kd.C k41 w0 A4 x.f4.length x.f4) (h5 : Kd.C k41 w0 A5 x.f5.length x.f5) (hS : CSt w0 g s.1 s.2 W) (h : cmOne L x s = some r)
    (h6 : x.f0 = 6) :
    Calls Try.prog 34 #[.pointer (some ⟨g, 0, none⟩), .agg #[.int .i64 x.f0, .int .i64 x.f1, .int .i64 x.f2, .int .i64 x.f3, .slice A4 x.f4.length c4, .slice A5 x.f5.length c5]] W fun e W' => e = .returned (.tuple #[]) ∧ CSt w0 g r.1 r.2 W' ∧ Kc W W' := by
  have HR4 := Aside0.mk h4
  have HR5 := Aside0.mk h5
  have HL := Aside0.mk hL
  have HS := Aside0.mk hS
  have hu := Try.underlying41
  have hu2 := Try.underlying39
  obtain ⟨lg, lw⟩ := hS.lt
  unfold cmOne at h
  rw [if_pos h6] at h
  have k6 : (x.f0 == 6) = true := by simpa using h6
  clear h6
  obtain ⟨s1, e1, h⟩ := Option.bind_eq_some_iff.1 h
  obtain ⟨s2, e2, h⟩ := Option.bind_eq_some_iff.1 h
  obtain ⟨s3, e3, h⟩ := Option.bind_eq_some_iff.1 h
  obtain ⟨s4, e4, h⟩ := Option.bind_eq_some_iff.1 h
  obtain ⟨s5, e5, e6⟩ := Option.bind_eq_some_iff.1 h
  obtain ⟨hb1, rfl⟩ := emB_some e1
  obtain ⟨hb3, rfl⟩ := emB_some e3
  obtain ⟨hb4, rfl⟩ := ltB_some e4
  obtain ⟨hb6, rfl⟩ := ltB_some e6
  have HE2 := Aside0.mk e2
  have HE5 := Aside0.mk e5
  clear e1 e2 e3 e4 e5 e6
  have H := Aside0.mk h
  clear h4 h5 hL hS h
  obtain ⟨W1, hW1⟩ : ∃ W1, W1 = W.alloc (.cells #[.int .i64 x.f0, .int .i64 x.f1, .int .i64 x.f2, .int .i64 x.f3, .slice A4 x.f4.length c4, .slice A5 x.f5.length c5] 41) := ⟨_, rfl⟩
  have hz1 : W1.heap.size = W.heap.size + 1 := by rw [hW1, size_alloc]
  have hmm : (Instr.makeMap 73 none).run Try.prog (W.alloc (.cells #[.int .i64 x.f0, .int .i64 x.f1, .int .i64 x.f2, .int .i64 x.f3, .slice A4 x.f4.length c4, .slice A5 x.f5.length c5] 41)) = .ok (.map (some (W.heap.size + 1))) ((W.alloc (.cells #[.int .i64 x.f0, .int .i64 x.f1, .int .i64 x.f2, .int .i64 x.f3, .slice A4 x.f4.length c4, .slice A5 x.f5.length c5] 41)).alloc (.map (entries simL 0) 0)) := by rw [← hW1, ← hz1]; rfl
  have m0 : (Instr.mapUpdate 73 (.map (some (W.heap.size + 1))) (.int .i64 1) (.int .i64 1)).run Try.prog ((W.alloc (.cells #[.int .i64 x.f0, .int .i64 x.f1, .int .i64 x.f2, .int .i64 x.f3, .slice A4 x.f4.length c4, .slice A5 x.f5.length c5] 41)).alloc (.map (entries simL 0) 0)) = .ok () ((W.alloc (.cells #[.int .i64 x.f0, .int .i64 x.f1, .int .i64 x.f2, .int .i64 x.f3, .slice A4 x.f4.length c4, .slice A5 x.f5.length c5] 41)).alloc (.map (entries simL 1) 1)) := by
    rw [← hW1, ← hz1]
    exact run_put_new Try.underlying73 Try.underlying3 W1 (entries simL 0) 0 1 _ rfl
  have m1 : (Instr.mapUpdate 73 (.map (some (W.heap.size + 1))) (.int .i64 2) (.int .i64 2)).run Try.prog ((W.alloc (.cells #[.int .i64 x.f0, .int .i64 x.f1, .int .i64 x.f2, .int .i64 x.f3, .slice A4 x.f4.length c4, .slice A5 x.f5.length c5] 41)).alloc (.map (entries simL 1) 1)) = .ok () ((W.alloc (.cells #[.int .i64 x.f0, .int .i64 x.f1, .int .i64 x.f2, .int .i64 x.f3, .slice A4 x.f4.length c4, .slice A5 x.f5.length c5] 41)).alloc (.map (entries simL 2) 2)) := by
    rw [← hW1, ← hz1]
    exact run_put_new Try.underlying73 Try.underlying3 W1 (entries simL 1) 1 2 _ rfl
  have m2 : (Instr.mapUpdate 73 (.map (some (W.heap.size + 1))) (.int .i64 3) (.int .i64 3)).run Try.prog ((W.alloc (.cells #[.int .i64 x.f0, .int .i64 x.f1, .int .i64 x.f2, .int .i64 x.f3, .slice A4 x.f4.length c4, .slice A5 x.f5.length c5] 41)).alloc (.map (entries simL 2) 2)) = .ok () ((W.alloc (.cells #[.int .i64 x.f0, .int .i64 x.f1, .int .i64 x.f2, .int .i64 x.f3, .slice A4 x.f4.length c4, .slice A5 x.f5.length c5] 41)).alloc (.map (entries simL 3) 3)) := by
    rw [← hW1, ← hz1]
    exact run_put_new Try.underlying73 Try.underlying3 W1 (entries simL 2) 2 3 _ rfl
  have m3 : (Instr.mapUpdate 73 (.map (some (W.heap.size + 1))) (.int .i64 4) (.int .i64 4)).run Try.prog ((W.alloc (.cells #[.int .i64 x.f0, .int .i64 x.f1, .int .i64 x.f2, .int .i64 x.f3, .slice A4 x.f4.length c4, .slice A5 x.f5.length c5] 41)).alloc (.map (entries simL 3) 3)) = .ok () ((W.alloc (.cells #[.int .i64 x.f0, .int .i64 x.f1, .int .i64 x.f2, .int .i64 x.f3, .slice A4 x.f4.length c4, .slice A5 x.f5.length c5] 41)).alloc (.map (entries simL 4) 4)) := by
    rw [← hW1, ← hz1]
    exact run_put_new Try.underlying73 Try.underlying3 W1 (entries simL 3) 3 4 _ rfl
  have m4 : (Instr.mapUpdate 73 (.map (some (W.heap.size + 1))) (.int .i64 5) (.int .i64 5)).run Try.prog ((W.alloc (.cells #[.int .i64 x.f0, .int .i64 x.f1, .int .i64 x.f2, .int .i64 x.f3, .slice A4 x.f4.length c4, .slice A5 x.f5.length c5] 41)).alloc (.map (entries simL 4) 4)) = .ok () ((W.alloc (.cells #[.int .i64 x.f0, .int .i64 x.f1, .int .i64 x.f2, .int .i64 x.f3, .slice A4 x.f4.length c4, .slice A5 x.f5.length c5] 41)).alloc (.map (entries simL 5) 5)) := by
    rw [← hW1, ← hz1]
    exact run_put_new Try.underlying73 Try.underlying3 W1 (entries simL 4) 4 5 _ rfl
  have m5 : (Instr.mapUpdate 73 (.map (some (W.heap.size + 1))) (.int .i64 9) (.int .i64 10)).run Try.prog ((W.alloc (.cells #[.int .i64 x.f0, .int .i64 x.f1, .int .i64 x.f2, .int .i64 x.f3, .slice A4 x.f4.length c4, .slice A5 x.f5.length c5] 41)).alloc (.map (entries simL 5) 5)) = .ok () ((W.alloc (.cells #[.int .i64 x.f0, .int .i64 x.f1, .int .i64 x.f2, .int .i64 x.f3, .slice A4 x.f4.length c4, .slice A5 x.f5.length c5] 41)).alloc (.map (entries simL 6) 6)) := by
    rw [← hW1, ← hz1]
    exact run_put_new Try.underlying73 Try.underlying3 W1 (entries simL 5) 5 9 _ rfl
  have m6 : (Instr.mapUpdate 73 (.map (some (W.heap.size + 1))) (.int .i64 10) (.int .i64 11)).run Try.prog ((W.alloc (.cells #[.int .i64 x.f0, .int .i64 x.f1, .int .i64 x.f2, .int .i64 x.f3, .slice A4 x.f4.length c4, .slice A5 x.f5.length c5] 41)).alloc (.map (entries simL 6) 6)) = .ok () ((W.alloc (.cells #[.int .i64 x.f0, .int .i64 x.f1, .int .i64 x.f2, .int .i64 x.f3, .slice A4 x.f4.length c4, .slice A5 x.f5.length c5] 41)).alloc (.map (entries simL 7) 7)) := by
    rw [← hW1, ← hz1]
    exact run_put_new Try.underlying73 Try.underlying3 W1 (entries simL 6) 6 10 _ rfl
  have m7 : (Instr.mapUpdate 73 (.map (some (W.heap.size + 1))) (.int .i64 11) (.int .i64 12)).run Try.prog ((W.alloc (.cells #[.int .i64 x.f0, .int .i64 x.f1, .int .i64 x.f2, .int .i64 x.f3, .slice A4 x.f4.length c4, .slice A5 x.f5.length c5] 41)).alloc (.map (entries simL 7) 7)) = .ok () ((W.alloc (.cells #[.int .i64 x.f0, .int .i64 x.f1, .int .i64 x.f2, .int .i64 x.f3, .slice A4 x.f4.length c4, .slice A5 x.f5.length c5] 41)).alloc (.map (entries simL 8) 8)) := by
    rw [← hW1, ← hz1]
    exact run_put_new Try.underlying73 Try.underlying3 W1 (entries simL 7) 7 11 _ rfl
  have HBX : Aside0 (BxAt ((W.alloc (.cells #[.int .i64 x.f0, .int .i64 x.f1, .int .i64 x.f2, .int .i64 x.f3, .slice A4 x.f4.length c4, .slice A5 x.f5.length c5] 41)).alloc (.map (entries simL 8) 8)) W.heap.size x (.slice A4 x.f4.length c4) (.slice A5 x.f5.length c5)) := ⟨blk_alloc (blk_new W _) _⟩
  have HK : Aside0 (Kc W ((W.alloc (.cells #[.int .i64 x.f0, .int .i64 x.f1, .int .i64 x.f2, .int .i64 x.f3, .slice A4 x.f4.length c4, .slice A5 x.f5.length c5] 41)).alloc (.map (entries simL 8) 8))) := ⟨kc_below (below_alloc (below_alloc (Below.refl _ W) _) _)⟩
  have HS2 := Aside0.mk (HS.out.low (W' := (W.alloc (.cells #[.int .i64 x.f0, .int .i64 x.f1, .int .i64 x.f2, .int .i64 x.f3, .slice A4 x.f4.length c4, .slice A5 x.f5.length c5] 41)).alloc (.map (entries simL 8) 8)) (below_alloc (below_alloc (Below.refl _ W) _) _))
  have hlk := look_sim (W := (W.alloc (.cells #[.int .i64 x.f0, .int .i64 x.f1, .int .i64 x.f2, .int .i64 x.f3, .slice A4 x.f4.length c4, .slice A5 x.f5.length c5] 41)).alloc (.map (entries simL 8) 8)) (b := W.heap.size + 1) (by rw [← hW1, ← hz1]; exact blk_new W1 _) x.f0
  clear hW1 hz1
  obtain ⟨b0, b1, b2, b3, b4, b5⟩ := HBX.out.cells
  go_enter Try.func34, Try.ntmps34
  go_wp2_with fail
  go_at_call 40
  refine (forward_calls w0 g s.1 s.2 _ 6 x.f1 0 0 HS2.out hb1).mono ?_
  rintro e w1 ⟨bc, ba, rfl, hs2, hc, ha, hk⟩
  replace HBX := Aside0.mk (HBX.out.keep hk)
  replace HK := Aside0.mk (HK.out.trans hk)
  clear b0 b1 b2 b3 b4 b5 HS2
  obtain ⟨b0, b1, b2, b3, b4, b5⟩ := HBX.out.cells
  have HS2 := Aside0.mk hs2
  clear hs2
  clear hk
  have HCA := Aside0.mk (And.intro hc ha)
  clear hc ha
  go_wp2_with fail
  go_at_call 26
  refine (HL.out A4 c4 x.f4 _ s2 _ HR4.out HS2.out HE2.out).mono ?_
  rintro e w2 ⟨rfl, hs2, hk⟩
  replace HBX := Aside0.mk (HBX.out.keep hk)
  replace HK := Aside0.mk (HK.out.trans hk)
  clear b0 b1 b2 b3 b4 b5 HS2
  obtain ⟨b0, b1, b2, b3, b4, b5⟩ := HBX.out.cells
  have HS2 := Aside0.mk hs2
  clear hs2
  replace HCA := Aside0.mk (And.intro (hk _ _ _ _ (by decide) (by decide) (by decide) HCA.out.1) (hk _ _ _ _ (by decide) (by decide) (by decide) HCA.out.2))
  clear hk
  go_wp2_with fail
  go_at_call 40
  refine (forward_calls w0 g s2.1 s2.2 _ 7 0 0 0 HS2.out hb3).mono ?_
  rintro e w3 ⟨bc2, ba2, rfl, hs2, hc, ha, hk⟩
  replace HBX := Aside0.mk (HBX.out.keep hk)
  replace HK := Aside0.mk (HK.out.trans hk)
  clear b0 b1 b2 b3 b4 b5 HS2
  obtain ⟨b0, b1, b2, b3, b4, b5⟩ := HBX.out.cells
  have HS2 := Aside0.mk hs2
  clear hs2
  have HCB := Aside0.mk (And.intro hc ha)
  clear hc ha
  replace HCA := Aside0.mk (And.intro (hk _ _ _ _ (by decide) (by decide) (by decide) HCA.out.1) (hk _ _ _ _ (by decide) (by decide) (by decide) HCA.out.2))
  clear hk
  go_wp2_with fail
  go_at_call 44
  refine (fixed_calls w0 g (s2.1 ++ [⟨7, 0, 0, 0⟩]) s2.2 _ bc ba s.1.length HS2.out hb4 HCA.out.1 HCA.out.2).mono ?_
  rintro e w4 ⟨rfl, hs2, hk⟩
  replace HBX := Aside0.mk (HBX.out.keep hk)
  replace HK := Aside0.mk (HK.out.trans hk)
  clear b0 b1 b2 b3 b4 b5 HS2
  obtain ⟨b0, b1, b2, b3, b4, b5⟩ := HBX.out.cells
  have HS2 := Aside0.mk hs2
  clear hs2
  replace HCB := Aside0.mk (And.intro (hk _ _ _ _ (by decide) (by decide) (by decide) HCB.out.1) (hk _ _ _ _ (by decide) (by decide) (by decide) HCB.out.2))
  clear hk
  go_wp2_with fail
  go_at_call 26
  refine (HL.out A5 c5 x.f5 _ s5 _ HR5.out HS2.out HE5.out).mono ?_
  rintro e w5 ⟨rfl, hs2, hk⟩
  replace HBX := Aside0.mk (HBX.out.keep hk)
  replace HK := Aside0.mk (HK.out.trans hk)
  clear b0 b1 b2 b3 b4 b5 HS2
  obtain ⟨b0, b1, b2, b3, b4, b5⟩ := HBX.out.cells
  have HS2 := Aside0.mk hs2
  clear hs2
  replace HCB := Aside0.mk (And.intro (hk _ _ _ _ (by decide) (by decide) (by decide) HCB.out.1) (hk _ _ _ _ (by decide) (by decide) (by decide) HCB.out.2))
  clear hk
  go_wp2_with fail
  go_at_call 44
  refine (fixed_calls w0 g s5.1 s5.2 _ bc2 ba2 s2.1.length HS2.out hb6 HCB.out.1 HCB.out.2).mono ?_
  rintro e w6 ⟨rfl, hs2, hk⟩
  replace HBX := Aside0.mk (HBX.out.keep hk)
  replace HK := Aside0.mk (HK.out.trans hk)
  clear b0 b1 b2 b3 b4 b5 HS2
  obtain ⟨b0, b1, b2, b3, b4, b5⟩ := HBX.out.cells
  have HS2 := Aside0.mk hs2
  clear hs2
  clear hk
  go_wp2
  go_end0
  exact ⟨rfl, HS2.out, HK.out⟩
theorem stmt_of (w0 : World) (g : Nat) (L : List S41 → Cm → Option Cm) (hL : LSays w0 g L) : TSays w0 g (cmOne L) := by
  intro A4 c4 A5 c5 x s r W h4 h5 hS h
  by_cases h6 : x.f0 = 6
  · exact stmt_if w0 g L hL A4 c4 A5 c5 x s r W h4 h5 hS h h6
  by_cases h7 : x.f0 = 7
  · exact stmt_while w0 g L hL A4 c4 A5 c5 x s r W h4 h5 hS h h7
  by_cases h8 : x.f0 = 8
  · exact stmt_in w0 g L hL A4 c4 A5 c5 x s r W h4 h5 hS h h8
  exact stmt_leaf w0 g L hL A4 c4 A5 c5 x s r W h4 h5 hS h h6 h7 h8
theorem list_says (w0 : World) (g : Nat) : ∀ k, LSays w0 g (cmK k)
  | 0 => fun _ _ _ _ _ _ _ _ h => by cases h
  | k + 1 => list_of w0 g _ (stmt_of w0 g _ (list_says w0 g k))
def ptB : List (Nat × Nat) → List S39 → Option (List S39)
  | [], c => some c
  | q :: t, c => if q.1 < c.length then ptB t (c.set q.1 ⟨(rd_T39 c (q.1 : Int)).f0, (rd_T39 c (q.1 : Int)).f1, (rd_T39 c (q.1 : Int)).f2, (q.2 : Int)⟩) else none
def impl_codeOf.f (k : Nat) (l : List S41) : Option (List S39) := (cmK k l ([], [])).bind fun s => (emB s ⟨13, 0, 0, 0⟩).bind fun s2 => ptB s2.2 s2.1
set_option maxHeartbeats 8000000 in
set_option maxRecDepth 100000 in
theorem impl_codeOf.calls (k : Nat) (A0 : Option Addr) (c0 : Nat) (l0 : List S41) (r : List S39) (w : World) (hr0 : Kd.C k41 w A0 l0.length l0) (hc0 : l0.length ≤ c0) (h : impl_codeOf.f k l0 = some r) :
    Calls Try.prog 18 #[.slice A0 l0.length c0] w fun e w' => ∃ v0_ : Value, e = .returned (v0_) ∧ Kd.R k39 39 w' w.heap.size (fun _ => True) v0_ r ∧ Below w.heap.size w w' := by
  obtain ⟨s, e1, h⟩ := Option.bind_eq_some_iff.1 h
  obtain ⟨s2, e2, e3⟩ := Option.bind_eq_some_iff.1 h
  obtain ⟨hb, rfl⟩ := emB_some e2
  have HP := Aside0.mk e3
  have HLI := Aside0.mk (fun W' (q : CSt w w.heap.size [] [] W') => list_says w w.heap.size k A0 c0 l0 ([], []) s W' hr0 q e1)
  clear e1 e2 e3 h hr0
  have hu2 := Try.underlying53
  have hu3 := Try.underlying39
  have HS0 : Aside0 (CSt w w.heap.size [] [] (w.alloc (.cells #[.slice none 0 0, .slice none 0 0] 53))) := ⟨⟨.slice none 0 0, .slice none 0 0, [], ⟨blk_new w _, Kd.R_nil _ _ _ _ _, Kd.R_nil _ _ _ _ _, Nat.le_refl _, below_alloc (Below.refl _ w) _⟩, rfl, fun j p q hp => by simp at hp⟩⟩
  go_enter Try.func18, Try.ntmps18
  go_wp2_with fail
  go_at_call 26
  refine (HLI.out _ HS0.out).mono ?_
  rintro e w1 ⟨rfl, hs1, hk1⟩
  have HS1 := Aside0.mk hs1
  clear hs1 hk1 HLI HS0
  go_wp2_with fail
  go_at_call 27
  refine (emit_calls w w.heap.size s.1 s.2 _ 13 0 0 0 HS1.out hb).mono ?_
  rintro e w2 ⟨rfl, hs2, hk2⟩
  clear HS1 hk2
  obtain ⟨vc, vl, ps, hC, hL⟩ := hs2
  obtain ⟨B, d, rfl⟩ := Kd.R_slice hC.late
  obtain ⟨g0, g1, z0, z1⟩ := hC.cells
  have hlp : ps.length ≤ 9223372036854775807 := (Kd.R_reads' hC.late).2.2.2.1
  have HC := Aside0.mk hC
  have HL := Aside0.mk hL
  clear hC hL
  go_wp2_with fail
  go_loopg [19] ps.length (fun gg p wr => ∃ (kk : Nat) (cd : List S39), kk ≤ ps.length ∧ ps.length - kk ≤ gg ∧ p = .int .i64 kk ∧ Aside0 (ptB (s.2.drop kk) cd = some r) ∧ Aside0 (CAt w w.heap.size vc (.slice B ps.length d) cd ps wr) ∧ Aside0 (LAll w.heap.size wr ps s.2))
  case atStart => exact ⟨0, _, Nat.zero_le _, by omega, rfl, HP, HC, HL⟩
  case round =>
    obtain ⟨kk, cd, hkk, hgk, rfl, HE, HC1, HL1⟩ := hrel
    clear HP HC HL g0 g1 z0 z1
    by_cases hlt : kk < ps.length
    · have hltz : decide ((kk : Int) < (ps.length : Int)) = true := decide_eq_true (by omega)
      have p1 : 0 ≤ (kk : Int) := by omega
      have q1 : (kk : Int) < (ps.length : Int) := by omega
      obtain ⟨ad, cs, e1, hcl, hcr, hcc⟩ := ReadsRow.get_ (Kd.R_reads' HC1.out.late).2.2 (0, 0, 0) (kk : Int) p1 q1
      cases e1
      have hcr' : cs = [lateE (ps.getD (kk : Int).toNat (0, 0, 0))] := hcr
      subst hcr'
      have fc := hcc 0 _ rfl
      rw [Int.toNat_natCast, show lateK.sz = 1 from rfl, Nat.mul_one, Nat.add_zero] at fc
      rw [List.getD_eq_getElem?_getD, List.getElem?_eq_getElem hlt] at fc
      have hp := List.getElem?_eq_getElem hlt
      have hlq : kk < s.2.length := by have := HL1.out.1; omega
      have hq := List.getElem?_eq_getElem hlq
      have hla := HL1.out.2 kk _ _ hp hq
      have he := HE.out
      rw [List.drop_eq_getElem_cons hlq] at he
      generalize ps[kk] = pv at *
      generalize s.2[kk] = qv at *
      simp only [Option.getD_some] at fc
      unfold lateE at fc
      unfold ptB at he
      by_cases hq1 : qv.1 < cd.length
      · rw [if_pos hq1] at he
        have HN := Aside0.mk he
        have HX := Aside0.mk (late_calls w w.heap.size vc (.slice (some ad) ps.length d) cd ps pv qv wr HC1.out hla hq1)
        clear he HE hla hp hq hcc hcr hcl
        replace p1 := eq_true p1
        replace q1 := eq_true q1
        go_wp2_with fail
        go_at_call 45
        refine HX.out.mono ?_
        rintro e w3 ⟨rfl, hc3, hk3⟩
        have HC3 := Aside0.mk hc3
        have HL3 := Aside0.mk (HL1.out.keep hk3)
        clear HX hc3 hk3 HC1 HL1 fc
        go_wp2
        go_roundg (ps.length - (kk + 1))
        case measure => omega
        case rel => exact ⟨kk + 1, _, by omega, by omega, by go_num, HN, HC3, HL3⟩
      · rw [if_neg hq1] at he
        cases he
    · have hltz : decide ((kk : Int) < (ps.length : Int)) = false := decide_eq_false (by omega)
      have he := HE.out
      rw [List.drop_of_length_le (by have := HL1.out.1; omega)] at he
      obtain rfl := Option.some.inj (show some cd = some r from he)
      obtain ⟨g0, g1, z0, z1⟩ := HC1.out.cells
      clear he HE
      go_wp2
      go_ret
      exact ⟨vc, by simp, HC1.out.code, HC1.out.below⟩
end Go.Proofs.Ytoekjehgnakffaa.P
