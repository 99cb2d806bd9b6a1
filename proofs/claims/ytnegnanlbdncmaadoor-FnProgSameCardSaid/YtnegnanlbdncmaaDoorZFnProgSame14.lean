/- impl's texts of statements by their contract: what each call answers, out of the tree alone; the table of powers of ten reads as it is laid; no other condition. -/
import Derived.Test.YtnegnanlbdncmaaDoorZFnProgSame4
import Derived.Test.YtnegnanlbdncmaaDoorZFnProgSame5
import Derived.Test.YtnegnanlbdncmaaDoorZFnProgSame6
import Derived.Test.YtnegnanlbdncmaaDoorZFnProgSame12
import Derived.Test.YtnegnanlbdncmaaDoorZFnProgSame13
import Derived.Lib.AppendIntMem
import Derived.Lib.ItoaLen
import Derived.Deep.RegionHeld3
import Derived.Deep.DeepCutAuto
namespace Go.Proofs.YtnegnanlbdncmaaDoor.P
open Go.RowKit Go.Maps Go.Proofs.YtnegnanlbdncmaaDoorW.PrintWords Go.Proofs.YtnegnanlbdncmaaDoorW.PrintLast Go.Proofs.YtnegnanlbdncmaaDoorW.PrintMore
attribute [local go_sem] max2_int min2_int max_two min_two max_three min_three max_four min_four
attribute [local go_sem ↓] Go.wp_at_zero Go.wp_at_succ
set_option linter.unusedVariables false
set_option linter.unusedSimpArgs false
def Tab (W : World) : Prop := Lib.TabIs Tryd.prog W "internal/strconv.uint64pow10" .u64 Lib.pow10Tab
theorem Tab.below {W W' : World} (h : Tab W) (hb : Below W.heap.size W W') : Tab W' := (Lib.tabBelow_of_tabIs h) W' hb
theorem itoa_calls (n : Int) (h0 : -9223372036854775808 ≤ n) (h1 : n ≤ 9223372036854775807) (W : World) (h : Tab W) : Calls Tryd.prog 62 #[.int .i64 n] W fun e w' => e = .returned (.string ⟨(Lib.itoa n).toArray⟩) ∧ Below W.heap.size W w' := by
  refine (Tryd.strconv_Itoa n h0 h1 W h).mono ?_
  rintro e w' ⟨he, k, os, rfl⟩
  exact ⟨he, rfl, rfl, rfl, by simp [Sort.grow], fun i hi => by
    show (W.heap ++ os)[i]? = W.heap[i]?
    exact Array.getElem?_append_left hi⟩
def sV (l : List UInt8) : Value := .string ⟨l.toArray⟩
def opW (n : Int) : List UInt8 := if n = 1 then [97, 100, 100] else if n = 2 then [115, 117, 98] else if n = 3 then [109, 117, 108] else if n = 4 then [108, 101, 115, 115] else if n = 5 then [115, 97, 109, 101] else []
def opsC : Array Value := #[sV [], sV [97, 100, 100], sV [115, 117, 98], sV [109, 117, 108], sV [108, 101, 115, 115], sV [115, 97, 109, 101]]
theorem opWords_calls (w : World) : Calls Tryd.prog 61 #[] w fun e w' => e = .returned (.slice (some ⟨w.heap.size, 0, none⟩) 6 6) ∧ w' = w.alloc (.cells opsC 9) := by
  go_enter Tryd.func61, Tryd.ntmps61
  go_wp2
  go_ret
  exact ⟨rfl, rfl⟩
theorem run_look' {P : Program} {t kt e : TypeId} (ht : P.underlying t = some (.map kt e)) (hk : P.underlying kt = some (.int .i64)) {w : World} {b : Nat} {es : Array MapEntry} {c : Nat} (hb : w.heap[b]? = some (.map es c)) (n : Int) {z : Value} (hz : (zeroValue e).run P w = .ok z w)
    {r : Option (Nat × Value)} (hn : Instr.findNow (.int .i64) (.int .i64 n) es.toList 0 = some r) :
    (Instr.lookup t (.map (some b)) (.int .i64 n) false).run P w = .ok ((r.map (·.2)).getD z) w := by
  have hf := MapKept.run_findKey (w := w) hk hn
  have hc := fun em => MapKept.run_checkKey (w := w) (k := .int .i64 n) hk (by simp [MapKept.IsKey]) em 9999
  cases r <;> simp [Instr.lookup, run_underlying ht, MapKept.run_getObj_map hb, hc, hf, hz, Result.andThen]
set_option maxRecDepth 100000 in
theorem look_forms' {W : World} {b : Nat} (hb : W.heap[b]? = some (.map (entries formsL 11) 11)) (n : Int) :
    (Instr.lookup 83 (.map (some b)) (.int .i64 n) false).run Tryd.prog W = .ok (.agg #[.string (fmS n), .int .i64 (fmA n), .int .i64 (fmB n), .bool (fmX n), .bool (fmY n)]) W := by
  have hz : (zeroValue 81).run Tryd.prog W = .ok (.agg #[.string ⟨#[]⟩, .int .i64 0, .int .i64 0, .bool false, .bool false]) W := by rfl
  by_cases h1 : n = 1
  · subst h1; exact run_look' Tryd.underlying83 Tryd.underlying3 hb 1 hz rfl
  by_cases h2 : n = 2
  · subst h2; exact run_look' Tryd.underlying83 Tryd.underlying3 hb 2 hz rfl
  by_cases h3 : n = 3
  · subst h3; exact run_look' Tryd.underlying83 Tryd.underlying3 hb 3 hz rfl
  by_cases h4 : n = 4
  · subst h4; exact run_look' Tryd.underlying83 Tryd.underlying3 hb 4 hz rfl
  by_cases h5 : n = 5
  · subst h5; exact run_look' Tryd.underlying83 Tryd.underlying3 hb 5 hz rfl
  by_cases h6 : n = 6
  · subst h6; exact run_look' Tryd.underlying83 Tryd.underlying3 hb 6 hz rfl
  by_cases h7 : n = 7
  · subst h7; exact run_look' Tryd.underlying83 Tryd.underlying3 hb 7 hz rfl
  by_cases h8 : n = 8
  · subst h8; exact run_look' Tryd.underlying83 Tryd.underlying3 hb 8 hz rfl
  by_cases h9 : n = 9
  · subst h9; exact run_look' Tryd.underlying83 Tryd.underlying3 hb 9 hz rfl
  by_cases h10 : n = 10
  · subst h10; exact run_look' Tryd.underlying83 Tryd.underlying3 hb 10 hz rfl
  by_cases h11 : n = 11
  · subst h11; exact run_look' Tryd.underlying83 Tryd.underlying3 hb 11 hz rfl
  have none_ : Instr.findNow (.int .i64) (.int .i64 n) (entries formsL 11).toList 0 = some none := by
    have e : ∀ m : Int, ¬ n = m → (n == m) = false := fun m h => by simpa using h
    simp [entries, formsL, Instr.findNow, Instr.sameNow, List.zipIdx, e 1 h1, e 2 h2, e 3 h3, e 4 h4, e 5 h5, e 6 h6, e 7 h7, e 8 h8, e 9 h9, e 10 h10, e 11 h11]
  have e := run_look' Tryd.underlying83 Tryd.underlying3 hb n hz none_
  have a1 : fmS n = ⟨#[]⟩ := by unfold fmS; simp [*]
  have a2 : fmA n = 0 := by unfold fmA; rw [if_neg (by omega), if_neg (by omega)]
  have a3 : fmB n = 0 := by unfold fmB; rw [if_neg (by omega)]
  have a4 : fmX n = false := decide_eq_false (by omega)
  have a5 : fmY n = false := decide_eq_false (by omega)
  rw [a1, a2, a3, a4, a5]
  exact e
theorem look1' (w : World) (o : Obj) (n : Int) : (Instr.lookup 83 (.map (some (w.heap.size + 1))) (.int .i64 n) false).run Tryd.prog (((w.alloc o).alloc (.map (entries formsL 11) 11)).drew) = .ok (.agg #[.string (fmS n), .int .i64 (fmA n), .int .i64 (fmB n), .bool (fmX n), .bool (fmY n)]) (((w.alloc o).alloc (.map (entries formsL 11) 11)).drew) := by
  refine look_forms' (W := ((w.alloc o).alloc (.map (entries formsL 11) 11)).drew) ?_ n
  rw [← size_alloc w o]
  exact (MapKept.heap_alloc (w.alloc o) _).1
theorem look2' (w : World) (o o' : Obj) (n : Int) : (Instr.lookup 83 (.map (some (w.heap.size + 1))) (.int .i64 n) false).run Tryd.prog ((((w.alloc o).alloc (.map (entries formsL 11) 11)).alloc o').drew) = .ok (.agg #[.string (fmS n), .int .i64 (fmA n), .int .i64 (fmB n), .bool (fmX n), .bool (fmY n)]) ((((w.alloc o).alloc (.map (entries formsL 11) 11)).alloc o').drew) := by
  refine look_forms' (W := (((w.alloc o).alloc (.map (entries formsL 11) 11)).alloc o').drew) ?_ n
  rw [← size_alloc w o]
  refine ((MapKept.heap_alloc ((w.alloc o).alloc (.map (entries formsL 11) 11)) o').2 _ (by rw [size_alloc (w.alloc o)]; omega)).trans ?_
  exact (MapKept.heap_alloc (w.alloc o) _).1
theorem look3' (w : World) (o o' : Obj) (n : Int) : (Instr.lookup 83 (.map (some (w.heap.size + 2))) (.int .i64 n) false).run Tryd.prog ((((w.alloc o).alloc o').alloc (.map (entries formsL 11) 11)).drew) = .ok (.agg #[.string (fmS n), .int .i64 (fmA n), .int .i64 (fmB n), .bool (fmX n), .bool (fmY n)]) ((((w.alloc o).alloc o').alloc (.map (entries formsL 11) 11)).drew) := by
  refine look_forms' (W := (((w.alloc o).alloc o').alloc (.map (entries formsL 11) 11)).drew) ?_ n
  have e : w.heap.size + 2 = ((w.alloc o).alloc o').heap.size := by rw [size_alloc, size_alloc]
  rw [e]
  exact (MapKept.heap_alloc ((w.alloc o).alloc o') _).1
def limT (l : List UInt8) : Option (List UInt8) := if l.length ≤ 1099511627776 then some l else none
def brF (F : List S49 → Option (List UInt8)) (l : List S49) : Option (List UInt8) := if l.length = 0 then some [91, 32, 93] else (F l).bind fun t => limT ([91, 32] ++ t ++ [32, 93])
def i64 (n : Int) : Prop := -9223372036854775808 ≤ n ∧ n ≤ 9223372036854775807
instance (n : Int) : Decidable (i64 n) := inferInstanceAs (Decidable (_ ∧ _))
def head0 (a0 a3 : Int) : List UInt8 := if a0 = 2 then opW a3 else (fmS a0).data.toList
def wHeads (a0 a1 a2 a3 : Int) : List (List UInt8) := [head0 a0 a3] ++ (if 0 < fmA a0 then [Lib.itoa a1] else []) ++ (if 0 < fmB a0 then [Lib.itoa a2] else []) ++ (if a0 = 1 then [Lib.itoa a3] else [])
def optF (c : Bool) (F : List S49 → Option (List UInt8)) (l : List S49) : Option (List (List UInt8)) := if c = true then (brF F l).bind fun t => some [t] else some []
def okN (a0 a1 a2 a3 : Int) : Prop := i64 a1 ∧ i64 a2 ∧ i64 a3 ∧ (a0 = 2 → 0 ≤ a3 ∧ a3 < 6)
instance (a0 a1 a2 a3 : Int) : Decidable (okN a0 a1 a2 a3) := inferInstanceAs (Decidable (_ ∧ _ ∧ _ ∧ _))
def stB (F : List S49 → Option (List UInt8)) (a0 a1 a2 a3 : Int) (l4 l5 : List S49) : Option (List UInt8) :=
  if okN a0 a1 a2 a3 then (optF (fmX a0) F l4).bind fun x => (optF (fmY a0) F l5).bind fun y => limT (Lib.join (wHeads a0 a1 a2 a3 ++ x ++ y) [32]) else none
def stF (F : List S49 → Option (List UInt8)) (x : S49) : Option (List UInt8) := stB F x.f0 x.f1 x.f2 x.f3 x.f4 x.f5
def wsF (F : List S49 → Option (List UInt8)) : List S49 → Option (List (List UInt8))
  | [] => some []
  | x :: t => (stF F x).bind fun s => (wsF F t).bind fun r => some (s :: r)
def joF (F : List S49 → Option (List UInt8)) (l : List S49) : Option (List UInt8) :=
  if l.length ≤ 1099511627776 then (wsF F l).bind fun ws => limT (Lib.join ws [32]) else none
def txF : Nat → List S49 → Option (List UInt8)
  | 0, _ => none
  | k + 1, l => joF (txF k) l
def TSays (F : List S49 → Option (List UInt8)) : Prop := ∀ (A : Option Addr) (c : Nat) (l : List S49) (r : List UInt8) (w : World), Tab w → Kd.C k49 w A l.length l → l.length ≤ c → F l = some r →
  Calls Tryd.prog 27 #[.slice A l.length c] w fun e w' => e = .returned (sV r) ∧ Below w.heap.size w w'
theorem join_calls (v : Value) (ws : List (List UInt8)) (r : List UInt8) (W : World) (B : Nat) (h : W.ownsRow B 9 1 v ws.length (encs sV ws)) (hl : ws.length ≤ 1099511627777) (hr : limT (Lib.join ws [32]) = some r) :
    Calls Tryd.prog 47 #[v, .string ⟨#[32]⟩] W fun e w' => e = .returned (sV r) ∧ Below W.heap.size W w' := by
  unfold limT at hr
  split at hr
  case isFalse => cases hr
  rename_i hlim
  obtain rfl := Option.some.inj hr
  rcases Nat.eq_zero_or_pos ws.length with h0 | h0
  · obtain rfl := List.eq_nil_of_length_eq_zero h0
    obtain ⟨A, c, rfl⟩ := own_slice h
    refine (Tryd.strings_Join_none A c _ W).mono ?_
    rintro e w' ⟨rfl, rfl⟩
    exact ⟨rfl, Below.refl _ _⟩
  · obtain ⟨g, c, rfl, _, _⟩ := h.form h0
    have hg : g < W.heap.size := own_lt h g rfl
    have hcap : ws.length ≤ c := by
      rcases h.2 with ⟨h', _⟩ | ⟨g', cap', cur, h', _, _, h1, _⟩
      · cases h'
      · injection h' with _ _ h2
        omega
    have e1 : (ws.map fun l : List UInt8 => (⟨l.toArray⟩ : ByteArray)).length = ws.length := List.length_map ..
    have e2 : (ws.map fun l : List UInt8 => (⟨l.toArray⟩ : ByteArray)).map (·.data.toList) = ws := by
      rw [List.map_map]
      exact List.map_id' _
    have k := Tryd.strings_Join g 0 c (ws.map fun l : List UInt8 => (⟨l.toArray⟩ : ByteArray)) ⟨#[32]⟩ W (fun j x hx => by
      rw [List.getElem?_map] at hx
      obtain ⟨l, hl1, rfl⟩ := Option.map_eq_some_iff.1 hx
      have hc := h.cells (g := g) rfl j (sV l) (by rw [encs, List.getElem?_map, hl1]; rfl)
      rw [add_plain] at hc
      rw [Nat.zero_add]
      exact hc) hg (by rw [e1]; omega) (by rw [e1]; exact hcap) (by rw [e2]; show (Lib.join ws [32]).length ≤ _; omega)
    rw [e1, e2] at k
    exact k
theorem brk_of (F : List S49 → Option (List UInt8)) (hF : TSays F) (A : Option Addr) (c : Nat) (l : List S49) (r : List UInt8) (w : World) (hT : Tab w) (hC : Kd.C k49 w A l.length l) (hc : l.length ≤ c) (h : brF F l = some r) :
    Calls Tryd.prog 63 #[.slice A l.length c] w fun e w' => e = .returned (sV r) ∧ Below w.heap.size w w' := by
  have HC := Aside0.mk hC
  have HT := Aside0.mk hT
  have HF := Aside0.mk hF
  clear hC hT hF
  by_cases h0 : l.length = 0
  · obtain rfl := List.eq_nil_of_length_eq_zero h0
    obtain rfl := Option.some.inj (show some [91, 32, 93] = some r from h)
    go_enter Tryd.func63, Tryd.ntmps63
    go_wp2
    go_ret
    exact ⟨rfl, Below.refl _ _⟩
  · unfold brF at h
    rw [if_neg h0] at h
    obtain ⟨t, ht, h⟩ := Option.bind_eq_some_iff.1 h
    have hz : ((l.length : Int) == 0) = false := by simpa using h0
    have HR := Aside0.mk (HF.out A c l t w HT.out HC.out hc ht)
    unfold limT at h
    split at h
    case isFalse => cases h
    rename_i hlim
    obtain rfl := Option.some.inj h
    have hlim' : t.length ≤ 1099511627776 := by simp at hlim; omega
    have u1 : ¬ 9223372036854775807 < 2 + t.length := by omega
    have u2 : ¬ 9223372036854775807 < 2 + t.length + 2 := by omega
    clear ht HF h h0 hlim hlim'
    go_enter Tryd.func63, Tryd.ntmps63
    go_wp2_with (first | (go_at_call 27; refine (HR.out).mono ?_; rintro e w' ⟨rfl, hb⟩; have HB := Aside0.mk hb; clear hb; unfold sV))
    go_ret
    refine ⟨?_, HB.out⟩
    congr 2
structure WdAt (w W : World) (g : Nat) (a0 a1 a2 a3 : Int) (v4 v5 v : Value) (ws : List (List UInt8)) (m : Nat) : Prop where
  k : OkAt W w.heap.size g a0 a1 a2 a3 v4 v5
  o : W.ownsRow w.heap.size 9 1 v ws.length (encs sV ws)
  b : Below w.heap.size w W
  n : ws.length + m ≤ 10
theorem WdAt.below {w W W' : World} {g : Nat} {a0 a1 a2 a3 : Int} {v4 v5 v : Value} {ws : List (List UInt8)} {m : Nat} (h : WdAt w W g a0 a1 a2 a3 v4 v5 v ws m) (hb : Below W.heap.size W W') : WdAt w W' g a0 a1 a2 a3 v4 v5 v ws m :=
  ⟨h.k.below hb, pw_own_below h.o hb, below_step h.b hb, h.n⟩
theorem WdAt.weak {w W : World} {g : Nat} {a0 a1 a2 a3 : Int} {v4 v5 v : Value} {ws : List (List UInt8)} {m m' : Nat} (h : WdAt w W g a0 a1 a2 a3 v4 v5 v ws m) (hm : m' ≤ m) : WdAt w W g a0 a1 a2 a3 v4 v5 v ws m' :=
  ⟨h.k, h.o, h.b, by have := h.n; omega⟩
theorem WdAt.room {w W : World} {g : Nat} {a0 a1 a2 a3 : Int} {v4 v5 v : Value} {ws : List (List UInt8)} {m : Nat} (h : WdAt w W g a0 a1 a2 a3 v4 v5 v ws m) : (ws.length + 1) * 16 ≤ 140737488355328 := by
  have := h.n
  omega
theorem own_ne {W : World} {B n b : Nat} {v : Value} {xs : List Value} {cs : Array Value} {t : TypeId} (h : W.ownsRow B 9 1 v n xs) (hb : W.heap[b]? = some (.cells cs t (0, 0))) (ht : t ≠ 9) : some b ≠ v.ownBlock := by
  rcases h.2 with ⟨rfl, _⟩ | ⟨g, cap, cur, rfl, _, hh, _⟩
  · simp [Value.ownBlock]
  · intro e
    have e' : b = g := by simpa [Value.ownBlock] using e
    rw [e', hh] at hb
    injection hb with hb
    injection hb with _ hb
    exact ht hb.symm
theorem own_blk {W : World} {B b n c : Nat} {xs : List Value} (h : W.ownsRow B 9 1 (.slice (some ⟨b, 0, none⟩) n c) n xs) (h0 : 0 < n) {y : Value} (hy : xs[0]? = some y) : W.cell? ⟨b, 0, none⟩ = some y ∧ W.frozen? ⟨b, 0, none⟩ = false ∧ ∀ o : Obj, (W.alloc o).cell? ⟨b, 0, none⟩ = some y ∧ (W.alloc o).frozen? ⟨b, 0, none⟩ = false := by
  have hc : W.cell? ⟨b, 0, none⟩ = some y := by have := h.cells (g := b) rfl 0 y hy; rwa [add_plain] at this
  refine ⟨hc, ?_⟩
  rcases h.2 with ⟨h', _⟩ | ⟨g', cap', cur, h', _, hh, _⟩
  · cases h'
  · injection h' with h' _ _
    injection h' with h'
    injection h' with h'
    rw [h'] at hc ⊢
    exact ⟨blk_frozen hh 0, fun o => ⟨(blk_cell (blk_alloc hh o) 0).trans ((blk_cell hh 0).symm.trans hc), blk_frozen (blk_alloc hh o) 0⟩⟩
theorem blk_app {w W W' : World} {g : Nat} {a0 a1 a2 a3 : Int} {v4 v5 v : Value} {ws : List (List UInt8)} {m : Nat} (h : WdAt w W g a0 a1 a2 a3 v4 v5 v ws m) (hg : W.grownBy W' v.ownBlock) {b : Nat} {cs : Array Value} {t : TypeId} (hb : W.heap[b]? = some (.cells cs t (0, 0))) (ht : t ≠ 9) : W'.heap[b]? = some (.cells cs t (0, 0)) := by
  rw [hg.block b (Array.getElem?_eq_some_iff.1 hb).1 (own_ne h.o hb ht), hb]
theorem WdAt.app {w W W' : World} {g : Nat} {a0 a1 a2 a3 : Int} {v4 v5 v v' : Value} {ws : List (List UInt8)} {y : List UInt8} {m : Nat} (h : WdAt w W g a0 a1 a2 a3 v4 v5 v ws (m + 1)) (hg : W.grownBy W' v.ownBlock) (ho : W'.ownsRow w.heap.size 9 1 v' (ws ++ [y]).length (encs sV (ws ++ [y]))) (hb : Below w.heap.size w W') :
    WdAt w W' g a0 a1 a2 a3 v4 v5 v' (ws ++ [y]) m :=
  ⟨⟨blk_app h hg h.k.s (by decide), blk_app h hg h.k.f (by decide)⟩, ho, hb, by have := h.n; simp; omega⟩
theorem WdAt.put {w W : World} {g b : Nat} {a0 a1 a2 a3 : Int} {v4 v5 : Value} {p : List UInt8} {m : Nat} (h : WdAt w W g a0 a1 a2 a3 v4 v5 (.slice (some ⟨b, 0, none⟩) 1 1) [p] m) (o : Obj) (q : List UInt8) :
    WdAt w (((W.alloc o).setCell ⟨b, 0, none⟩ (sV q)).drew) g a0 a1 a2 a3 v4 v5 (.slice (some ⟨b, 0, none⟩) 1 1) [q] m := by
  have h1 := h.below ((Below.refl _ W).alloc (Nat.le_refl _) o)
  have hs := h1.o.stored 0 (sV q)
  have h2 : WdAt w ((W.alloc o).setCell ⟨b, 0, none⟩ (sV q)) g a0 a1 a2 a3 v4 v5 (.slice (some ⟨b, 0, none⟩) 1 1) [q] m :=
    ⟨⟨blk_app h1 hs.2 h1.k.s (by decide), blk_app h1 hs.2 h1.k.f (by decide)⟩, hs.1, h1.b.grown hs.2 h1.b.size (own_base h1.o), h1.n⟩
  exact h2.below (below_drew1 (Below.refl _ _))
def wsAt (a0 a1 a2 a3 : Int) : Nat → List (List UInt8)
  | 0 => [head0 a0 a3]
  | 1 => [head0 a0 a3] ++ (if 0 < fmA a0 then [Lib.itoa a1] else [])
  | _ + 2 => [head0 a0 a3] ++ (if 0 < fmA a0 then [Lib.itoa a1] else []) ++ (if 0 < fmB a0 then [Lib.itoa a2] else [])
theorem wsA_pos {a0 a1 a2 a3 : Int} (h : 0 < fmA a0) : wsAt a0 a1 a2 a3 1 = wsAt a0 a1 a2 a3 0 ++ [Lib.itoa a1] := by
  show [head0 a0 a3] ++ (if 0 < fmA a0 then [Lib.itoa a1] else []) = _
  rw [if_pos h]
  rfl
theorem wsA_neg {a0 a1 a2 a3 : Int} (h : ¬ 0 < fmA a0) : wsAt a0 a1 a2 a3 1 = wsAt a0 a1 a2 a3 0 := by
  show [head0 a0 a3] ++ (if 0 < fmA a0 then [Lib.itoa a1] else []) = _
  rw [if_neg h]
  rfl
theorem wsB_pos {a0 a1 a2 a3 : Int} (h : 0 < fmB a0) : wsAt a0 a1 a2 a3 2 = wsAt a0 a1 a2 a3 1 ++ [Lib.itoa a2] := by
  show _ ++ (if 0 < fmB a0 then [Lib.itoa a2] else []) = _
  rw [if_pos h]
  rfl
theorem wsB_neg {a0 a1 a2 a3 : Int} (h : ¬ 0 < fmB a0) : wsAt a0 a1 a2 a3 2 = wsAt a0 a1 a2 a3 1 := by
  show _ ++ (if 0 < fmB a0 then [Lib.itoa a2] else []) = _
  rw [if_neg h, List.append_nil]
  rfl
end Go.Proofs.YtnegnanlbdncmaaDoor.P
