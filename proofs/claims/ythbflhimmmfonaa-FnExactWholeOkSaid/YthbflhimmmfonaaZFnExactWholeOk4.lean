/- Parts of the proof of FnExactWholeOk: plain Lean functions of Go functions, and that the calls come to what they say; no condition beyond those that each theorem names. -/
import Derived.Test.YthbflhimmmfonaaProg
import Derived.Below
import Derived.Deep.Draws
import Derived.Deep.AppendLies
import Derived.Maps.AppendAt
import Derived.OwnWalk
import Derived.Laws.BytesArg
import Derived.Laws.MakeOwn
import Derived.Laws.OwnMore
import Derived.Deep.OwnRows
import Derived.Tactics
import Derived.Lib.ConvBytes
import Derived.Laws.Slices
import Derived.WalkKit
import Derived.KernelRfl
import Derived.RowKit3
import Derived.Deep.LoopGhost
import Derived.Deep.QuietTactic
import Derived.BigQuiet
import Derived.WideLaws
import Derived.Deep.DeepCutAuto
import Derived.Deep.CutBlock
import Derived.Deep.RegionHeld3
import Derived.Laws.Rows
import Derived.Lib.AppendStr
import Derived.ArgAppend
import Derived.Laws.IdiomCopy
import Derived.OrdersHeld
import Derived.Laws.BitsLemmas
import Derived.RowKit
import Derived.Test.YthbflhimmmfonaaZFnExactWholeOk0
import Derived.Test.YthbflhimmmfonaaZFnExactWholeOk1
import Derived.Test.YthbflhimmmfonaaZFnExactWholeOk2
import Derived.Test.YthbflhimmmfonaaZFnExactWholeOk3
namespace Go.Proofs.Ythbflhimmmfonaa.P
open Go.RowKit Go.Proofs.YthbflhimmmfonaaW.PrintWords Go.Proofs.YthbflhimmmfonaaW.PrintLast Go.Proofs.YthbflhimmmfonaaW.PrintMore
attribute [local go_sem] max2_int min2_int max_two min_two max_three min_three max_four min_four
set_option linter.unusedVariables false
set_option linter.unusedSimpArgs false
def errW : Option Int → Value
  | none => .nilIface
  | some c => .iface 0 (.int .i64 c)
theorem errW_none : errW none = .nilIface := rfl
theorem errW_some (c : Int) : errW (some c) = .iface 0 (.int .i64 c) := rfl
section
variable {α : Type} {d : Kd α} {e : Nat} {w : World} {base : Nat} {ok : Nat → Prop} {v : Value} {xs : List α}
theorem slice_store (h : ∃ A n c, v = .slice A n c) (P : Program) (W : World) (a : Addr) (m : Mode) : (store a v m).run P W = stored P W a v m := by
  obtain ⟨A, n, c, rfl⟩ := h
  exact run_store_slice ..
theorem R_store (h : d.R e w base ok v xs) (P : Program) (W : World) (a : Addr) (m : Mode) : (store a v m).run P W = stored P W a v m := by
  obtain ⟨A, c, h'⟩ := Kd.R_slice h
  exact slice_store ⟨A, _, c, h'⟩ P W a m
end
theorem info3 : (Try.prog.info? 3).map (fun i => (i.zero, i.size, i.bytes)) = some (some (.int .i64 0), 1, 8) := by kernel_rfl
theorem info82 : (Try.prog.info? 82).map (fun i => (i.zero, i.size, i.bytes)) = some (some (.slice none 0 0), 1, 24) := by kernel_rfl
theorem info104 : (Try.prog.info? 104).map (fun i => (i.zero, i.size, i.bytes)) = some (some (.agg #[(.int .i64 0), (.int .i64 0), (.int .i64 0), (.int .i64 0), (.slice none 0 0), (.slice none 0 0)]), 6, 80) := by kernel_rfl
def rd_L1 (xs : List (List Int)) (i : Int) : (List Int) := xs.getD i.toNat ([] : List Int)
structure S109 where
  f0 : (List Int)
  f1 : Int
  f2 : Int
  f3 : Int
  f4 : Int
def z109 : S109 := ⟨([] : List Int), (0 : Int), (0 : Int), (0 : Int), (0 : Int)⟩
def k109 : Kd S109 := Kd.iso (Kd.pair (Kd.slice 3 (Kd.int .i64)) (Kd.pair (Kd.int .i64) (Kd.pair (Kd.int .i64) (Kd.pair (Kd.int .i64) (Kd.int .i64))))) (fun x : S109 => (x.f0, x.f1, x.f2, x.f3, x.f4))
def rd_T109 (xs : List S109) (i : Int) : S109 := xs.getD i.toNat z109
structure S112 where
  f0 : Int
  f1 : Int
def z112 : S112 := ⟨(0 : Int), (0 : Int)⟩
def k112 : Kd S112 := Kd.iso (Kd.pair (Kd.int .i64) (Kd.int .i64)) (fun x : S112 => (x.f0, x.f1))
def rd_T112 (xs : List S112) (i : Int) : S112 := xs.getD i.toNat z112
structure S74 where
  f0 : Int
  f1 : Int
def z74 : S74 := ⟨(0 : Int), (0 : Int)⟩
def k74 : Kd S74 := Kd.iso (Kd.pair (Kd.int .i64) (Kd.int .i64)) (fun x : S74 => (x.f0, x.f1))
def rd_T74 (xs : List S74) (i : Int) : S74 := xs.getD i.toNat z74
structure S67 where
  f0 : (List Int)
  f1 : Int
  f2 : Int
  f3 : Int
  f4 : Int
def z67 : S67 := ⟨([] : List Int), (0 : Int), (0 : Int), (0 : Int), (0 : Int)⟩
def k67 : Kd S67 := Kd.iso (Kd.pair (Kd.slice 3 (Kd.int .i64)) (Kd.pair (Kd.int .i64) (Kd.pair (Kd.int .i64) (Kd.pair (Kd.int .i64) (Kd.int .i64))))) (fun x : S67 => (x.f0, x.f1, x.f2, x.f3, x.f4))
def rd_T67 (xs : List S67) (i : Int) : S67 := xs.getD i.toNat z67
structure S122 where
  f0 : Int
  f1 : Int
  f2 : Int
  f3 : Int
  f4 : (List S122)
  f5 : (List S122)
def z122 : S122 := ⟨(0 : Int), (0 : Int), (0 : Int), (0 : Int), ([] : List S122), ([] : List S122)⟩
def F122 (d : Kd S122) : Kd S122 := Kd.iso (Kd.pair (Kd.int .i64) (Kd.pair (Kd.int .i64) (Kd.pair (Kd.int .i64) (Kd.pair (Kd.int .i64) (Kd.pair (Kd.slice 122 d) (Kd.slice 122 d)))))) (fun x : S122 => (x.f0, x.f1, x.f2, x.f3, x.f4, x.f5))
theorem mono122 : Kd.Mono F122 := Kd.mono_iso _ (Kd.mono_pair (Kd.mono_const _) (Kd.mono_pair (Kd.mono_const _) (Kd.mono_pair (Kd.mono_const _) (Kd.mono_pair (Kd.mono_const _) (Kd.mono_pair (Kd.mono_slice 122 Kd.mono_id) (Kd.mono_slice 122 Kd.mono_id))))))
theorem sub122 : Kd.Sub F122 [122] := Kd.sub_iso _ (Kd.sub_pair (Kd.sub_const _ (by decide)) (Kd.sub_pair (Kd.sub_const _ (by decide)) (Kd.sub_pair (Kd.sub_const _ (by decide)) (Kd.sub_pair (Kd.sub_const _ (by decide)) (Kd.sub_pair (Kd.sub_slice 122 (by decide) Kd.sub_id) (Kd.sub_slice 122 (by decide) Kd.sub_id))))))
theorem sz122 : ∀ n, (Kd.upto F122 6 [122] n).sz = 6 := Kd.upto_sz (fun _ => rfl)
def k122 : Kd S122 := Kd.fix F122 6 [122] sz122 (Kd.upto_E sub122)
theorem k122_open {w : World} {x : S122} {cs : List Value} (h : k122.K w x cs) : ∃ A4 c4 A5 c5, cs = [.int .i64 x.f0, .int .i64 x.f1, .int .i64 x.f2, .int .i64 x.f3, .slice A4 x.f4.length c4, .slice A5 x.f5.length c5] ∧ x.f4.length ≤ c4 ∧ k122.C w A4 x.f4.length x.f4 ∧ x.f5.length ≤ c5 ∧ k122.C w A5 x.f5.length x.f5 := by
  obtain ⟨n, h⟩ := h
  cases n with
  | zero => exact h.elim
  | succ n =>
    obtain ⟨_, _, rfl, rfl, ⟨_, _, rfl, rfl, ⟨_, _, rfl, rfl, ⟨_, _, rfl, rfl, ⟨_, _, rfl, ⟨A4, c4, rfl, l4, g4⟩, ⟨A5, c5, rfl, l5, g5⟩⟩⟩⟩⟩⟩ := h
    exact ⟨A4, c4, A5, c5, rfl, l4, Kd.fix_C g4, l5, Kd.fix_C g5⟩
theorem k122_mk (w : World) (x : S122) {A4 : Option Addr} {c4 : Nat} (l4 : x.f4.length ≤ c4) (g4 : k122.C w A4 x.f4.length x.f4) {A5 : Option Addr} {c5 : Nat} (l5 : x.f5.length ≤ c5) (g5 : k122.C w A5 x.f5.length x.f5) : k122.K w x [.int .i64 x.f0, .int .i64 x.f1, .int .i64 x.f2, .int .i64 x.f3, .slice A4 x.f4.length c4, .slice A5 x.f5.length c5] := by
  obtain ⟨n4, q4⟩ := Kd.fix_C_back mono122 g4
  obtain ⟨n5, q5⟩ := Kd.fix_C_back mono122 g5
  have r4 := Kd.upto_C_le mono122 sz122 (show n4 ≤ (max n4 n5) by omega) q4
  have r5 := Kd.upto_C_le mono122 sz122 (show n5 ≤ (max n4 n5) by omega) q5
  exact ⟨(max n4 n5) + 1, ⟨[.int .i64 x.f0], [.int .i64 x.f1, .int .i64 x.f2, .int .i64 x.f3, .slice A4 x.f4.length c4, .slice A5 x.f5.length c5], rfl, rfl, ⟨[.int .i64 x.f1], [.int .i64 x.f2, .int .i64 x.f3, .slice A4 x.f4.length c4, .slice A5 x.f5.length c5], rfl, rfl, ⟨[.int .i64 x.f2], [.int .i64 x.f3, .slice A4 x.f4.length c4, .slice A5 x.f5.length c5], rfl, rfl, ⟨[.int .i64 x.f3], [.slice A4 x.f4.length c4, .slice A5 x.f5.length c5], rfl, rfl, ⟨[.slice A4 x.f4.length c4], [.slice A5 x.f5.length c5], rfl, ⟨A4, c4, rfl, l4, r4⟩, ⟨A5, c5, rfl, l5, r5⟩⟩⟩⟩⟩⟩⟩
def rd_T122 (xs : List S122) (i : Int) : S122 := xs.getD i.toNat z122
theorem at_T122 {w : World} {A : Option Addr} {n : Nat} {xs : List S122} (h : Kd.C k122 w A n xs) (i : Int) (h0 : 0 ≤ i) (h1 : i < n) : ∃ ad A4 c4 A5 c5, A = some ad ∧ w.cell? (ad.add (i.toNat * 6)) = some (.int .i64 (rd_T122 xs i).f0) ∧ w.cell? ⟨(ad.add (i.toNat * 6)).block, (ad.add (i.toNat * 6)).off + 1, none⟩ = some (.int .i64 (rd_T122 xs i).f1) ∧ w.cell? ⟨(ad.add (i.toNat * 6)).block, (ad.add (i.toNat * 6)).off + 2, none⟩ = some (.int .i64 (rd_T122 xs i).f2) ∧ w.cell? ⟨(ad.add (i.toNat * 6)).block, (ad.add (i.toNat * 6)).off + 3, none⟩ = some (.int .i64 (rd_T122 xs i).f3) ∧ w.cell? ⟨(ad.add (i.toNat * 6)).block, (ad.add (i.toNat * 6)).off + 4, none⟩ = some (.slice A4 (rd_T122 xs i).f4.length c4) ∧ w.cell? ⟨(ad.add (i.toNat * 6)).block, (ad.add (i.toNat * 6)).off + 5, none⟩ = some (.slice A5 (rd_T122 xs i).f5.length c5) ∧ (rd_T122 xs i).f4.length ≤ c4 ∧ k122.C w A4 (rd_T122 xs i).f4.length (rd_T122 xs i).f4 ∧ (rd_T122 xs i).f5.length ≤ c5 ∧ k122.C w A5 (rd_T122 xs i).f5.length (rd_T122 xs i).f5 := by
  obtain ⟨ad, c, e, _, hK, hc0⟩ := Kd.C_get h z122 i h0 h1
  have hc : ∀ j u, c[j]? = some u → w.cell? (ad.add (i.toNat * 6 + j)) = some u := hc0
  obtain ⟨A4, c4, A5, c5, rfl, l4, g4, l5, g5⟩ := k122_open hK
  exact ⟨ad, A4, c4, A5, c5, e, hc 0 _ rfl, by rw [← add_field _ _ 1 (by omega)]; exact hc 1 _ rfl, by rw [← add_field _ _ 2 (by omega)]; exact hc 2 _ rfl, by rw [← add_field _ _ 3 (by omega)]; exact hc 3 _ rfl, by rw [← add_field _ _ 4 (by omega)]; exact hc 4 _ rfl, by rw [← add_field _ _ 5 (by omega)]; exact hc 5 _ rfl, l4, g4, l5, g5⟩
def rd_L12 (xs : List (List S122)) (i : Int) : (List S122) := xs.getD i.toNat ([] : List S122)
theorem at_L12 {w : World} {A : Option Addr} {n : Nat} {xs : List (List S122)} (h : Kd.C (Kd.slice 122 k122) w A n xs) (i : Int) (h0 : 0 ≤ i) (h1 : i < n) : ∃ ad A0 c0, A = some ad ∧ w.cell? (ad.add i.toNat) = some (.slice A0 (rd_L12 xs i).length c0) ∧ (rd_L12 xs i).length ≤ c0 ∧ k122.C w A0 (rd_L12 xs i).length (rd_L12 xs i) := by
  obtain ⟨ad, c, e, _, hK, hc0⟩ := Kd.C_get h ([] : List S122) i h0 h1
  have hc : ∀ j u, c[j]? = some u → w.cell? (ad.add (i.toNat * 1 + j)) = some u := hc0
  obtain ⟨A0, c0, rfl, l0, g0⟩ := hK
  exact ⟨ad, A0, c0, e, by have hq := hc 0 _ rfl; rwa [Nat.mul_one, Nat.add_zero] at hq, l0, g0⟩
structure S117 where
  f0 : (List Int)
  f1 : (List S122)
  f2 : Int
  f3 : Int
  f4 : Int
def z117 : S117 := ⟨([] : List Int), ([] : List S122), (0 : Int), (0 : Int), (0 : Int)⟩
def k117 : Kd S117 := Kd.iso (Kd.pair (Kd.slice 3 (Kd.int .i64)) (Kd.pair (Kd.slice 122 k122) (Kd.pair (Kd.int .i64) (Kd.pair (Kd.int .i64) (Kd.int .i64))))) (fun x : S117 => (x.f0, x.f1, x.f2, x.f3, x.f4))
def rd_T117 (xs : List S117) (i : Int) : S117 := xs.getD i.toNat z117
structure S104 where
  f0 : Int
  f1 : Int
  f2 : Int
  f3 : Int
  f4 : (List S104)
  f5 : (List S104)
def z104 : S104 := ⟨(0 : Int), (0 : Int), (0 : Int), (0 : Int), ([] : List S104), ([] : List S104)⟩
def F104 (d : Kd S104) : Kd S104 := Kd.iso (Kd.pair (Kd.int .i64) (Kd.pair (Kd.int .i64) (Kd.pair (Kd.int .i64) (Kd.pair (Kd.int .i64) (Kd.pair (Kd.slice 104 d) (Kd.slice 104 d)))))) (fun x : S104 => (x.f0, x.f1, x.f2, x.f3, x.f4, x.f5))
theorem mono104 : Kd.Mono F104 := Kd.mono_iso _ (Kd.mono_pair (Kd.mono_const _) (Kd.mono_pair (Kd.mono_const _) (Kd.mono_pair (Kd.mono_const _) (Kd.mono_pair (Kd.mono_const _) (Kd.mono_pair (Kd.mono_slice 104 Kd.mono_id) (Kd.mono_slice 104 Kd.mono_id))))))
theorem sub104 : Kd.Sub F104 [104] := Kd.sub_iso _ (Kd.sub_pair (Kd.sub_const _ (by decide)) (Kd.sub_pair (Kd.sub_const _ (by decide)) (Kd.sub_pair (Kd.sub_const _ (by decide)) (Kd.sub_pair (Kd.sub_const _ (by decide)) (Kd.sub_pair (Kd.sub_slice 104 (by decide) Kd.sub_id) (Kd.sub_slice 104 (by decide) Kd.sub_id))))))
theorem sz104 : ∀ n, (Kd.upto F104 6 [104] n).sz = 6 := Kd.upto_sz (fun _ => rfl)
def k104 : Kd S104 := Kd.fix F104 6 [104] sz104 (Kd.upto_E sub104)
theorem k104_open {w : World} {x : S104} {cs : List Value} (h : k104.K w x cs) : ∃ A4 c4 A5 c5, cs = [.int .i64 x.f0, .int .i64 x.f1, .int .i64 x.f2, .int .i64 x.f3, .slice A4 x.f4.length c4, .slice A5 x.f5.length c5] ∧ x.f4.length ≤ c4 ∧ k104.C w A4 x.f4.length x.f4 ∧ x.f5.length ≤ c5 ∧ k104.C w A5 x.f5.length x.f5 := by
  obtain ⟨n, h⟩ := h
  cases n with
  | zero => exact h.elim
  | succ n =>
    obtain ⟨_, _, rfl, rfl, ⟨_, _, rfl, rfl, ⟨_, _, rfl, rfl, ⟨_, _, rfl, rfl, ⟨_, _, rfl, ⟨A4, c4, rfl, l4, g4⟩, ⟨A5, c5, rfl, l5, g5⟩⟩⟩⟩⟩⟩ := h
    exact ⟨A4, c4, A5, c5, rfl, l4, Kd.fix_C g4, l5, Kd.fix_C g5⟩
theorem k104_openM {w : World} {base : Nat} {ok : Nat → Prop} {x : S104} {cs : List Value} (h : k104.M w base ok x cs) : ∃ v4 v5, cs = [.int .i64 x.f0, .int .i64 x.f1, .int .i64 x.f2, .int .i64 x.f3, v4, v5] ∧ k104.R 104 w base ok v4 x.f4 ∧ k104.R 104 w base ok v5 x.f5 := by
  obtain ⟨n, h⟩ := h
  cases n with
  | zero => exact h.elim
  | succ n =>
    obtain ⟨_, _, rfl, rfl, ⟨_, _, rfl, rfl, ⟨_, _, rfl, rfl, ⟨_, _, rfl, rfl, ⟨_, _, rfl, ⟨v4, rfl, g4⟩, ⟨v5, rfl, g5⟩⟩⟩⟩⟩⟩ := h
    exact ⟨v4, v5, rfl, Kd.fix_R g4, Kd.fix_R g5⟩
theorem k104_mkM (w : World) (base : Nat) (ok : Nat → Prop) (x : S104) {v4 : Value} (g4 : k104.R 104 w base ok v4 x.f4) {v5 : Value} (g5 : k104.R 104 w base ok v5 x.f5) : k104.M w base ok x [.int .i64 x.f0, .int .i64 x.f1, .int .i64 x.f2, .int .i64 x.f3, v4, v5] := by
  obtain ⟨n4, q4⟩ := Kd.fix_R_back mono104 g4
  obtain ⟨n5, q5⟩ := Kd.fix_R_back mono104 g5
  have r4 := Kd.upto_R_le mono104 sz104 (show n4 ≤ (max n4 n5) by omega) q4
  have r5 := Kd.upto_R_le mono104 sz104 (show n5 ≤ (max n4 n5) by omega) q5
  exact ⟨(max n4 n5) + 1, ⟨[.int .i64 x.f0], [.int .i64 x.f1, .int .i64 x.f2, .int .i64 x.f3, v4, v5], rfl, rfl, ⟨[.int .i64 x.f1], [.int .i64 x.f2, .int .i64 x.f3, v4, v5], rfl, rfl, ⟨[.int .i64 x.f2], [.int .i64 x.f3, v4, v5], rfl, rfl, ⟨[.int .i64 x.f3], [v4, v5], rfl, rfl, ⟨[v4], [v5], rfl, ⟨v4, rfl, r4⟩, ⟨v5, rfl, r5⟩⟩⟩⟩⟩⟩⟩
def rd_T104 (xs : List S104) (i : Int) : S104 := xs.getD i.toNat z104
theorem at_T104 {w : World} {A : Option Addr} {n : Nat} {xs : List S104} (h : Kd.C k104 w A n xs) (i : Int) (h0 : 0 ≤ i) (h1 : i < n) : ∃ ad A4 c4 A5 c5, A = some ad ∧ w.cell? (ad.add (i.toNat * 6)) = some (.int .i64 (rd_T104 xs i).f0) ∧ w.cell? ⟨(ad.add (i.toNat * 6)).block, (ad.add (i.toNat * 6)).off + 1, none⟩ = some (.int .i64 (rd_T104 xs i).f1) ∧ w.cell? ⟨(ad.add (i.toNat * 6)).block, (ad.add (i.toNat * 6)).off + 2, none⟩ = some (.int .i64 (rd_T104 xs i).f2) ∧ w.cell? ⟨(ad.add (i.toNat * 6)).block, (ad.add (i.toNat * 6)).off + 3, none⟩ = some (.int .i64 (rd_T104 xs i).f3) ∧ w.cell? ⟨(ad.add (i.toNat * 6)).block, (ad.add (i.toNat * 6)).off + 4, none⟩ = some (.slice A4 (rd_T104 xs i).f4.length c4) ∧ w.cell? ⟨(ad.add (i.toNat * 6)).block, (ad.add (i.toNat * 6)).off + 5, none⟩ = some (.slice A5 (rd_T104 xs i).f5.length c5) ∧ (rd_T104 xs i).f4.length ≤ c4 ∧ k104.C w A4 (rd_T104 xs i).f4.length (rd_T104 xs i).f4 ∧ (rd_T104 xs i).f5.length ≤ c5 ∧ k104.C w A5 (rd_T104 xs i).f5.length (rd_T104 xs i).f5 := by
  obtain ⟨ad, c, e, _, hK, hc0⟩ := Kd.C_get h z104 i h0 h1
  have hc : ∀ j u, c[j]? = some u → w.cell? (ad.add (i.toNat * 6 + j)) = some u := hc0
  obtain ⟨A4, c4, A5, c5, rfl, l4, g4, l5, g5⟩ := k104_open hK
  exact ⟨ad, A4, c4, A5, c5, e, hc 0 _ rfl, by rw [← add_field _ _ 1 (by omega)]; exact hc 1 _ rfl, by rw [← add_field _ _ 2 (by omega)]; exact hc 2 _ rfl, by rw [← add_field _ _ 3 (by omega)]; exact hc 3 _ rfl, by rw [← add_field _ _ 4 (by omega)]; exact hc 4 _ rfl, by rw [← add_field _ _ 5 (by omega)]; exact hc 5 _ rfl, l4, g4, l5, g5⟩
def rd_L15 (xs : List (List S104)) (i : Int) : (List S104) := xs.getD i.toNat ([] : List S104)
theorem at_L15 {w : World} {A : Option Addr} {n : Nat} {xs : List (List S104)} (h : Kd.C (Kd.slice 104 k104) w A n xs) (i : Int) (h0 : 0 ≤ i) (h1 : i < n) : ∃ ad A0 c0, A = some ad ∧ w.cell? (ad.add i.toNat) = some (.slice A0 (rd_L15 xs i).length c0) ∧ (rd_L15 xs i).length ≤ c0 ∧ k104.C w A0 (rd_L15 xs i).length (rd_L15 xs i) := by
  obtain ⟨ad, c, e, _, hK, hc0⟩ := Kd.C_get h ([] : List S104) i h0 h1
  have hc : ∀ j u, c[j]? = some u → w.cell? (ad.add (i.toNat * 1 + j)) = some u := hc0
  obtain ⟨A0, c0, rfl, l0, g0⟩ := hK
  exact ⟨ad, A0, c0, e, by have hq := hc 0 _ rfl; rwa [Nat.mul_one, Nat.add_zero] at hq, l0, g0⟩
structure S84 where
  f0 : (List Int)
  f1 : (List S104)
  f2 : Int
  f3 : Int
  f4 : Int
def z84 : S84 := ⟨([] : List Int), ([] : List S104), (0 : Int), (0 : Int), (0 : Int)⟩
def k84 : Kd S84 := Kd.iso (Kd.pair (Kd.slice 3 (Kd.int .i64)) (Kd.pair (Kd.slice 104 k104) (Kd.pair (Kd.int .i64) (Kd.pair (Kd.int .i64) (Kd.int .i64))))) (fun x : S84 => (x.f0, x.f1, x.f2, x.f3, x.f4))
def rd_T84 (xs : List S84) (i : Int) : S84 := xs.getD i.toNat z84
structure S7 where
  f0 : Int
  f1 : Int
  f2 : Bool
  f3 : Int
def k7 : Kd S7 := Kd.iso (Kd.pair (Kd.int .i64) (Kd.pair (Kd.int .i64) (Kd.pair Kd.bool (Kd.int .u8)))) (fun x : S7 => (x.f0, x.f1, x.f2, x.f3))
structure S8 where
  f0 : Int
  f1 : Int
  f2 : Bool
  f3 : Int
def k8 : Kd S8 := Kd.iso (Kd.pair (Kd.int .i64) (Kd.pair (Kd.int .i64) (Kd.pair Kd.bool (Kd.int .u8)))) (fun x : S8 => (x.f0, x.f1, x.f2, x.f3))
structure S27 where
  f0 : (List S109)
  f1 : (List Int)
  f2 : (List Int)
  f3 : (List (List Int))
  f4 : (List (List Int))
  f5 : (List Int)
  f6 : Int
  f7 : Int
  f8 : (List S112)
  f9 : (List Int)
  f10 : (List Int)
def k27 : Kd S27 := Kd.iso (Kd.pair (Kd.slice 109 k109) (Kd.pair (Kd.slice 3 (Kd.int .i64)) (Kd.pair (Kd.slice 3 (Kd.int .i64)) (Kd.pair (Kd.slice 23 (Kd.slice 3 (Kd.int .i64))) (Kd.pair (Kd.slice 23 (Kd.slice 3 (Kd.int .i64))) (Kd.pair (Kd.slice 3 (Kd.int .i64)) (Kd.pair (Kd.int .i64) (Kd.pair (Kd.int .i64) (Kd.pair (Kd.slice 112 k112) (Kd.pair (Kd.slice 3 (Kd.int .i64)) (Kd.slice 3 (Kd.int .i64)))))))))))) (fun x : S27 => (x.f0, x.f1, x.f2, x.f3, x.f4, x.f5, x.f6, x.f7, x.f8, x.f9, x.f10))
structure S38 where
  f0 : (List S117)
  f1 : (List Int)
  f2 : (List Int)
  f3 : (List (List Int))
  f4 : (List S112)
def k38 : Kd S38 := Kd.iso (Kd.pair (Kd.slice 117 k117) (Kd.pair (Kd.slice 3 (Kd.int .i64)) (Kd.pair (Kd.slice 3 (Kd.int .i64)) (Kd.pair (Kd.slice 23 (Kd.slice 3 (Kd.int .i64))) (Kd.slice 112 k112))))) (fun x : S38 => (x.f0, x.f1, x.f2, x.f3, x.f4))
end Go.Proofs.Ythbflhimmmfonaa.P

namespace Go.Proofs.Ythbflhimmmfonaa.P
open Go.RowKit Go.Proofs.YthbflhimmmfonaaW.PrintWords Go.Proofs.YthbflhimmmfonaaW.PrintLast Go.Proofs.YthbflhimmmfonaaW.PrintMore
attribute [local go_sem] max2_int min2_int max_two min_two max_three min_three max_four min_four
set_option linter.unusedVariables false
set_option linter.unusedSimpArgs false
theorem goesM_ {P : Program} {ops : Array Oper} {Q : Exit → Act → World → Prop} {rest : List Oper} {oi : Oper} {a : Act} {w : World} (N : Option Tmp) {f : FuncId} {fn : Func} {as_ : Array Operand} {ts : Array TypeId} (hf : P.funcs[f]? = some fn) (args : Array Value) (h : Calls P f args w fun e w' => ∃ v, e = .returned v ∧ wpList P ops Q rest (a.put N v) w') (hd : oi.dst = N := by exact rfl) (hg : oi.guard = none := by exact rfl) (hname : (fn.name == "runtime.NumGoroutine") = false := by kernel_rfl) (hb : fn.body.isSome = true := by exact rfl) (hop : oi.op = .call { callee := .value (.func f), args := as_, argTypes := ts } := by exact rfl) (hargs : as_.map a.eval = args := by (try simp only [List.map_toArray, List.map_cons, List.map_nil]); first | done | rfl | (simp only [List.length_drop, List.length_take]; rfl)) : wpList P ops Q (oi :: rest) a w := goesL_ N hd hg hf hname hb args hop hargs h
theorem bz6_ {w : World} {g : Nat} {t : TypeId} {c0 c1 c2 c3 c4 c5 : Value} (h : Aside0 (w.heap[g]? = some (.cells #[c0, c1, c2, c3, c4, c5] t (0, 0)))) : w.cell? ⟨g, 0, none⟩ = some c0 ∧ w.cell? ⟨g, 1, none⟩ = some c1 ∧ w.cell? ⟨g, 2, none⟩ = some c2 ∧ w.cell? ⟨g, 3, none⟩ = some c3 ∧ w.cell? ⟨g, 4, none⟩ = some c4 ∧ w.cell? ⟨g, 5, none⟩ = some c5 ∧ w.frozen? ⟨g, 0, none⟩ = false ∧ w.frozen? ⟨g, 1, none⟩ = false ∧ w.frozen? ⟨g, 2, none⟩ = false ∧ w.frozen? ⟨g, 3, none⟩ = false ∧ w.frozen? ⟨g, 4, none⟩ = false ∧ w.frozen? ⟨g, 5, none⟩ = false := ⟨(blk_cell h.out 0).trans rfl, (blk_cell h.out 1).trans rfl, (blk_cell h.out 2).trans rfl, (blk_cell h.out 3).trans rfl, (blk_cell h.out 4).trans rfl, (blk_cell h.out 5).trans rfl, blk_frozen h.out 0, blk_frozen h.out 1, blk_frozen h.out 2, blk_frozen h.out 3, blk_frozen h.out 4, blk_frozen h.out 5⟩
theorem bp6_0_ {w : World} {g : Nat} {t : TypeId} {c0 c1 c2 c3 c4 c5 z : Value} (h : w.heap[g]? = some (.cells #[z, c1, c2, c3, c4, c5] t (0, 0))) : (w.setCell ⟨g, 0, none⟩ c0).heap[g]? = some (.cells #[c0, c1, c2, c3, c4, c5] t (0, 0)) := blk_put h 0 c0 rfl
theorem bp6_1_ {w : World} {g : Nat} {t : TypeId} {c0 c1 c2 c3 c4 c5 z : Value} (h : w.heap[g]? = some (.cells #[c0, z, c2, c3, c4, c5] t (0, 0))) : (w.setCell ⟨g, 1, none⟩ c1).heap[g]? = some (.cells #[c0, c1, c2, c3, c4, c5] t (0, 0)) := blk_put h 1 c1 rfl
theorem bp6_2_ {w : World} {g : Nat} {t : TypeId} {c0 c1 c2 c3 c4 c5 z : Value} (h : w.heap[g]? = some (.cells #[c0, c1, z, c3, c4, c5] t (0, 0))) : (w.setCell ⟨g, 2, none⟩ c2).heap[g]? = some (.cells #[c0, c1, c2, c3, c4, c5] t (0, 0)) := blk_put h 2 c2 rfl
theorem bp6_3_ {w : World} {g : Nat} {t : TypeId} {c0 c1 c2 c3 c4 c5 z : Value} (h : w.heap[g]? = some (.cells #[c0, c1, c2, z, c4, c5] t (0, 0))) : (w.setCell ⟨g, 3, none⟩ c3).heap[g]? = some (.cells #[c0, c1, c2, c3, c4, c5] t (0, 0)) := blk_put h 3 c3 rfl
theorem bp6_4_ {w : World} {g : Nat} {t : TypeId} {c0 c1 c2 c3 c4 c5 z : Value} (h : w.heap[g]? = some (.cells #[c0, c1, c2, c3, z, c5] t (0, 0))) : (w.setCell ⟨g, 4, none⟩ c4).heap[g]? = some (.cells #[c0, c1, c2, c3, c4, c5] t (0, 0)) := blk_put h 4 c4 rfl
theorem bp6_5_ {w : World} {g : Nat} {t : TypeId} {c0 c1 c2 c3 c4 c5 z : Value} (h : w.heap[g]? = some (.cells #[c0, c1, c2, c3, c4, z] t (0, 0))) : (w.setCell ⟨g, 5, none⟩ c5).heap[g]? = some (.cells #[c0, c1, c2, c3, c4, c5] t (0, 0)) := blk_put h 5 c5 rfl
theorem q0_ {A Z : Prop} (a0 : Aside0 A) (h : A → Z := by intro h0_; repeat (first | (with_reducible first | exact h0_ | apply below_alloc | apply pw_below_drewN | apply below_drew1) | exact h0_)) : Z := h a0.out
theorem q1_ {A Z : Prop} (a0 : Aside0 A) (h : A → Z := by intro h0_; (with_reducible repeat (first | refine blk_drewN ?_ _ | refine blk_drew ?_ | refine blk_alloc ?_ _)); exact h0_) : Z := h a0.out
theorem q2_ {A B Z : Prop} (a0 : Aside0 A) (a1 : Aside0 B) (h : A → B → Z := by intro h0_ h1_; repeat (first | (with_reducible first | exact h0_ | apply below_alloc | apply pw_below_drewN | apply below_drew1 | refine below_set ?_ h1_) | exact h0_)) : Z := h a0.out a1.out
theorem q3_ {A B C Z : Prop} (a0 : Aside0 A) (a1 : Aside0 B) (a2 : Aside0 C) (h : A → B → C → Z := by intro h0_ h1_ h2_; repeat (first | (with_reducible first | exact h0_ | apply below_alloc | apply pw_below_drewN | apply below_drew1 | refine below_set ?_ h1_ | refine below_set ?_ h2_) | exact h0_)) : Z := h a0.out a1.out a2.out
theorem q6_ {A B C D Z : Prop} (a0 : Aside0 A) (a1 : Aside0 B) (a2 : Aside0 C) (a3 : Aside0 D) (h : A → B → C → D → Z := by intro h0_ h1_ h2_ h3_; repeat (first | (with_reducible first | exact h0_ | apply below_alloc | apply pw_below_drewN | apply below_drew1 | refine below_set ?_ h1_ | refine below_set ?_ h2_ | refine below_set ?_ h3_) | exact h0_)) : Z := h a0.out a1.out a2.out a3.out
theorem q9_ {A Z : Prop} (a0 : Aside0 A) (h : A → Z := by intro h0_; (with_reducible repeat (first | apply Kd.R_alloc | apply Kd.R_drewN | apply Kd.R_drew)); exact h0_) : Z := h a0.out
theorem q10_ {A B Z : Prop} (a0 : Aside0 A) (a1 : Aside0 B) (h : A → B → Z := by intro h0_ h1_; (with_reducible repeat (first | refine blk_drewN ?_ _ | refine blk_drew ?_ | refine blk_alloc ?_ _)); refine blk_far ?_ h0_ _; (with_reducible repeat (first | refine blk_drewN ?_ _ | refine blk_drew ?_ | refine blk_alloc ?_ _)); exact h1_) : Z := h a0.out a1.out
theorem q11_ {A B Z : Prop} (a0 : Aside0 A) (a1 : Aside0 B) (h : A → B → Z := by intro h0_ h1_; (with_reducible repeat (first | refine blk_drewN ?_ _ | refine blk_drew ?_ | refine blk_alloc ?_ _)); refine blk_far ?_ h0_ _; (with_reducible repeat (first | refine blk_drewN ?_ _ | refine blk_drew ?_ | refine blk_alloc ?_ _)); refine blk_far ?_ h0_ _; (with_reducible repeat (first | refine blk_drewN ?_ _ | refine blk_drew ?_ | refine blk_alloc ?_ _)); refine blk_far ?_ h0_ _; (with_reducible repeat (first | refine blk_drewN ?_ _ | refine blk_drew ?_ | refine blk_alloc ?_ _)); refine blk_far ?_ h0_ _; (with_reducible repeat (first | refine blk_drewN ?_ _ | refine blk_drew ?_ | refine blk_alloc ?_ _)); exact h1_) : Z := h a0.out a1.out
theorem q12_ {A Z : Prop} (a0 : Aside0 A) (h : A → Z := by intro h0_; (with_reducible repeat (first | refine blk_drewN ?_ _ | refine blk_drew ?_ | refine blk_alloc ?_ _)); apply bp6_4_; (with_reducible repeat (first | refine blk_drewN ?_ _ | refine blk_drew ?_ | refine blk_alloc ?_ _)); exact h0_) : Z := h a0.out
mutual
def spec_l6Owns.l0 : Nat → List (S104) → List Int → Int → Int → Int → Option (Bool)
  | 0, _, _, _, _, _ => none
  | k + 1, x0, x1, x2, x3, x9 => if x9 < (x0.length : Int) then (spec_l6Owns.j1 k x0 x1 x2 x3 x9 (decide (x3 > 0))) else (spec_l6Owns.j1 k x0 x1 x2 x3 x9 false)
def spec_l6Owns.j1 : Nat → List (S104) → List Int → Int → Int → Int → Bool → Option (Bool)
  | 0, _, _, _, _, _, _ => none
  | k + 1, x0, x1, x2, x3, x9, x20 => if x20 = true then (if 0 ≤ x9 then (if x9 < (x0.length : Int) then (if ((rd_T104 x0 x9).f0) = 8 then (spec_l6Owns.j2 k x0 x1 x2 x3 x9 ((rd_T104 x0 x9).f1) (-1) ((rd_T104 x0 x9).f0) ((rd_T104 x0 x9).f1) ((rd_T104 x0 x9).f2) ((rd_T104 x0 x9).f3) ((rd_T104 x0 x9).f4) ((rd_T104 x0 x9).f5)) else (if ((rd_T104 x0 x9).f0) = 3 then (spec_l6Owns.j2 k x0 x1 x2 x3 x9 x2 ((rd_T104 x0 x9).f2) ((rd_T104 x0 x9).f0) ((rd_T104 x0 x9).f1) ((rd_T104 x0 x9).f2) ((rd_T104 x0 x9).f3) ((rd_T104 x0 x9).f4) ((rd_T104 x0 x9).f5)) else (if ((rd_T104 x0 x9).f0) = 4 then (spec_l6Owns.j2 k x0 x1 x2 x3 x9 x2 ((rd_T104 x0 x9).f1) ((rd_T104 x0 x9).f0) ((rd_T104 x0 x9).f1) ((rd_T104 x0 x9).f2) ((rd_T104 x0 x9).f3) ((rd_T104 x0 x9).f4) ((rd_T104 x0 x9).f5)) else (if ((rd_T104 x0 x9).f0) = 9 then (spec_l6Owns.j2 k x0 x1 x2 x3 x9 x2 (wrap64 (3 + ((rd_T104 x0 x9).f1))) ((rd_T104 x0 x9).f0) ((rd_T104 x0 x9).f1) ((rd_T104 x0 x9).f2) ((rd_T104 x0 x9).f3) ((rd_T104 x0 x9).f4) ((rd_T104 x0 x9).f5)) else (if ((rd_T104 x0 x9).f0) = 10 then (spec_l6Owns.j2 k x0 x1 x2 x3 x9 x2 (wrap64 (3 + ((rd_T104 x0 x9).f1))) ((rd_T104 x0 x9).f0) ((rd_T104 x0 x9).f1) ((rd_T104 x0 x9).f2) ((rd_T104 x0 x9).f3) ((rd_T104 x0 x9).f4) ((rd_T104 x0 x9).f5)) else (spec_l6Owns.j2 k x0 x1 x2 x3 x9 x2 (-1) ((rd_T104 x0 x9).f0) ((rd_T104 x0 x9).f1) ((rd_T104 x0 x9).f2) ((rd_T104 x0 x9).f3) ((rd_T104 x0 x9).f4) ((rd_T104 x0 x9).f5))))))) else (none)) else (none)) else (some true)
def spec_l6Owns.j2 : Nat → List (S104) → List Int → Int → Int → Int → Int → Int → Int → Int → Int → Int → List (S104) → List (S104) → Option (Bool)
  | 0, _, _, _, _, _, _, _, _, _, _, _, _, _ => none
  | k + 1, x0, x1, x2, x3, x9, x11, x12, x1170000, x1170001, x1170002, x1170003, x1170004, x1170005 => if x12 ≥ 0 then (if 0 ≤ x12 then (if x12 < (x1.length : Int) then (spec_l6Owns.j3 k x0 x1 x2 x3 x9 x11 ((rd x1 x12) != x2) x1170000 x1170001 x1170002 x1170003 x1170004 x1170005) else (none)) else (none)) else (spec_l6Owns.j3 k x0 x1 x2 x3 x9 x11 false x1170000 x1170001 x1170002 x1170003 x1170004 x1170005)
def spec_l6Owns.j3 : Nat → List (S104) → List Int → Int → Int → Int → Int → Bool → Int → Int → Int → Int → List (S104) → List (S104) → Option (Bool)
  | 0, _, _, _, _, _, _, _, _, _, _, _, _, _ => none
  | k + 1, x0, x1, x2, x3, x9, x11, x57, x1170000, x1170001, x1170002, x1170003, x1170004, x1170005 => if x57 = true then (some false) else ((spec_l6Owns.f k x1170004 x1 x11 (wrap64 (x3 - 1))).bind fun t1171 => (if t1171 = true then ((spec_l6Owns.f k x1170005 x1 x11 (wrap64 (x3 - 1))).bind fun t1172 => (if t1172 = true then (spec_l6Owns.l0 k x0 x1 x2 x3 (wrap64 (x9 + 1))) else (some false))) else (some false)))
def spec_l6Owns.f : Nat → List (S104) → List Int → Int → Int → Option (Bool)
  | 0, _, _, _, _ => none
  | k + 1, l0, l1, a2, a3 => spec_l6Owns.l0 k l0 l1 a2 a3 0
end
set_option maxHeartbeats 8000000 in
set_option maxRecDepth 100000 in
theorem spec_l6Owns.calls (k : Nat) : ∀ (A0 : Option Addr) (c0 : Nat) (l0 : List (S104)) (A1 : Option Addr) (c1 : Nat) (l1 : List Int) (a2 : Int) (a3 : Int) (r : Bool) (w : World) (hr0 : Kd.C k104 w A0 l0.length l0) (hc0 : l0.length ≤ c0) (hr1 : Kd.C (Kd.int .i64) w A1 l1.length l1) (hc1 : l1.length ≤ c1) (h : spec_l6Owns.f k l0 l1 a2 a3 = some r),
    Calls Try.prog 79 #[.slice A0 l0.length c0, .slice A1 l1.length c1, .int .i64 a2, .int .i64 a3] w fun e w' => e = .returned (.bool r) ∧ Below w.heap.size w w' := by
  induction k using Nat.strongRecOn with
  | _ k ih =>
  intro A0 c0 l0 A1 c1 l1 a2 a3 r w hr0 hc0 hr1 hc1 h
  cases k with
  | zero => exact absurd h (by simp [spec_l6Owns.f])
  | succ k =>
  simp only [spec_l6Owns.f] at h; have hu104 := Try.underlying104; have HR0 := Aside0.mk hr0; have HC0 := Aside0.mk hc0; clear hr0 hc0; have HR1 := Aside0.mk hr1; have HC1 := Aside0.mk hc1; clear hr1 hc1; have HB := Aside0.mk (Below.refl w.heap.size w); have H : (spec_l6Owns.l0 k l0 l1 a2 a3 0) = some r := h; clear h; have H' := Aside0.mk H; clear H; go_enter Try.func79, Try.ntmps79
  go_wp2
  go_loopg [9] k (fun kq v9 w' => ∃ (x9_1 : Int), v9 = .int .i64 x9_1 ∧ Aside0 (spec_l6Owns.l0 kq l0 l1 a2 a3 x9_1 = some r) ∧ Aside0 (kq ≤ k) ∧ Aside0 (Below w.heap.size w w'))
  case atStart => exact ⟨(0), (by first | rfl | (simp; done) | (simp [*]; done)), H', ⟨Nat.le_refl _⟩, ⟨by repeat (first | (with_reducible first | exact HB.out | apply below_alloc | apply pw_below_drewN | apply below_drew1) | exact HB.out)⟩⟩
  case round =>
    clear H'; (try clear c1); (try clear p2); obtain ⟨x9_1, rfl, HA, HK1, HB⟩ := hrel
    cases gk with
    | zero => exact absurd HA.out (by simp [spec_l6Owns.l0])
    | succ k1 =>
      have H := HA.out; clear HA; simp only [spec_l6Owns.l0] at H; have HC5 := Aside0.mk H; clear H
      go_upto_region 2 with (fail)
      go_cut [20] (fun v20 wc => ∃ (kq : Nat) (x20_4 : Bool), v20 = .bool x20_4 ∧ Aside0 (spec_l6Owns.j1 kq l0 l1 a2 a3 x9_1 x20_4 = some r) ∧ Aside0 (kq ≤ k1) ∧ Aside0 (Below w.heap.size w wc))
      case first =>
        have H := HC5.out; clear HC5
        by_cases c6 : x9_1 < (l0.length : Int)
        · rw [if_pos c6] at H; have c6b0 : decide (x9_1 < (l0.length : Int)) = true := decide_eq_true c6; clear c6
          (first | rw [c6b0] | (simp only [i64_w, i32_w]; rw [c6b0]) | skip)
          have H' := Aside0.mk H; clear H
          go_wp2
          go_meet
          case rel => exact ⟨_, (decide (a3 > 0)), (by first | rfl | (simp; done) | (simp [*]; done)), H', ⟨by have := HK1.out; first | omega | exact Nat.le_refl _⟩, ⟨by repeat (first | (with_reducible first | exact HB.out | apply below_alloc | apply pw_below_drewN | apply below_drew1) | exact HB.out)⟩⟩
        · rw [if_neg c6] at H; have c6b0 : decide (x9_1 < (l0.length : Int)) = false := decide_eq_false c6; clear c6
          (first | rw [c6b0] | (simp only [i64_w, i32_w]; rw [c6b0]) | skip)
          have H' := Aside0.mk H; clear H
          go_wp2
          go_meet
          case rel => exact ⟨_, (false), (by first | rfl | (simp; done) | (simp [*]; done)), H', ⟨by have := HK1.out; first | omega | exact Nat.le_refl _⟩, ⟨by repeat (first | (with_reducible first | exact HB.out | apply below_alloc | apply pw_below_drewN | apply below_drew1) | exact HB.out)⟩⟩
      case rest =>
        clear HC5; (try clear c1); (try clear p2); (try clear c6); (try clear c6b0); (try clear p2); obtain ⟨kq, x20_4, rfl, HA, HJ4, HB⟩ := hcut
        cases kq with
        | zero => exact absurd HA.out (by simp [spec_l6Owns.j1])
        | succ kj4 =>
          have H := HA.out; clear HA; simp only [spec_l6Owns.j1] at H
          by_cases c7 : x20_4 = true
          · subst c7
            have H1 : (if 0 ≤ x9_1 then (if x9_1 < (l0.length : Int) then (if ((rd_T104 l0 x9_1).f0) = 8 then (spec_l6Owns.j2 kj4 l0 l1 a2 a3 x9_1 ((rd_T104 l0 x9_1).f1) (-1) ((rd_T104 l0 x9_1).f0) ((rd_T104 l0 x9_1).f1) ((rd_T104 l0 x9_1).f2) ((rd_T104 l0 x9_1).f3) ((rd_T104 l0 x9_1).f4) ((rd_T104 l0 x9_1).f5)) else (if ((rd_T104 l0 x9_1).f0) = 3 then (spec_l6Owns.j2 kj4 l0 l1 a2 a3 x9_1 a2 ((rd_T104 l0 x9_1).f2) ((rd_T104 l0 x9_1).f0) ((rd_T104 l0 x9_1).f1) ((rd_T104 l0 x9_1).f2) ((rd_T104 l0 x9_1).f3) ((rd_T104 l0 x9_1).f4) ((rd_T104 l0 x9_1).f5)) else (if ((rd_T104 l0 x9_1).f0) = 4 then (spec_l6Owns.j2 kj4 l0 l1 a2 a3 x9_1 a2 ((rd_T104 l0 x9_1).f1) ((rd_T104 l0 x9_1).f0) ((rd_T104 l0 x9_1).f1) ((rd_T104 l0 x9_1).f2) ((rd_T104 l0 x9_1).f3) ((rd_T104 l0 x9_1).f4) ((rd_T104 l0 x9_1).f5)) else (if ((rd_T104 l0 x9_1).f0) = 9 then (spec_l6Owns.j2 kj4 l0 l1 a2 a3 x9_1 a2 (wrap64 (3 + ((rd_T104 l0 x9_1).f1))) ((rd_T104 l0 x9_1).f0) ((rd_T104 l0 x9_1).f1) ((rd_T104 l0 x9_1).f2) ((rd_T104 l0 x9_1).f3) ((rd_T104 l0 x9_1).f4) ((rd_T104 l0 x9_1).f5)) else (if ((rd_T104 l0 x9_1).f0) = 10 then (spec_l6Owns.j2 kj4 l0 l1 a2 a3 x9_1 a2 (wrap64 (3 + ((rd_T104 l0 x9_1).f1))) ((rd_T104 l0 x9_1).f0) ((rd_T104 l0 x9_1).f1) ((rd_T104 l0 x9_1).f2) ((rd_T104 l0 x9_1).f3) ((rd_T104 l0 x9_1).f4) ((rd_T104 l0 x9_1).f5)) else (spec_l6Owns.j2 kj4 l0 l1 a2 a3 x9_1 a2 (-1) ((rd_T104 l0 x9_1).f0) ((rd_T104 l0 x9_1).f1) ((rd_T104 l0 x9_1).f2) ((rd_T104 l0 x9_1).f3) ((rd_T104 l0 x9_1).f4) ((rd_T104 l0 x9_1).f5))))))) else (none)) else (none)) = some r := by rw [if_pos rfl] at H; exact H
            clear H; have H := H1; clear H1
            by_cases c8 : 0 ≤ x9_1
            · rw [if_pos c8] at H; have c8b0 : decide (0 ≤ x9_1) = true := decide_eq_true c8; clear c8
              by_cases c9 : x9_1 < (l0.length : Int)
              · rw [if_pos c9] at H; have c9b0 : decide (x9_1 < (l0.length : Int)) = true := decide_eq_true c9; clear c9; have HC10 := Aside0.mk H; clear H
                have p1168 : 0 ≤ (x9_1 : Int) := of_decide_eq_true (by first | (with_reducible assumption) | assumption)
                have q1168 : x9_1 < (l0.length : Int) := of_decide_eq_true (by first | (with_reducible assumption) | assumption)
                obtain ⟨ad1168, A1168_4, c1168_4, A1168_5, c1168_5, e1168, hx1168_0, hx1168_1, hx1168_2, hx1168_3, hx1168_4, hx1168_5, hl1168_4, hi1168_4, hl1168_5, hi1168_5⟩ := at_T104 HR0.out x9_1 p1168 q1168
                cases e1168
                replace hx1168_0 := (HB.out.cell (World.block_lt_of_cell? w _ hx1168_0)).trans hx1168_0; replace hx1168_1 := (HB.out.cell (World.block_lt_of_cell? w _ hx1168_1)).trans hx1168_1; replace hx1168_2 := (HB.out.cell (World.block_lt_of_cell? w _ hx1168_2)).trans hx1168_2; replace hx1168_3 := (HB.out.cell (World.block_lt_of_cell? w _ hx1168_3)).trans hx1168_3; replace hx1168_4 := (HB.out.cell (World.block_lt_of_cell? w _ hx1168_4)).trans hx1168_4; replace hx1168_5 := (HB.out.cell (World.block_lt_of_cell? w _ hx1168_5)).trans hx1168_5; have HR1168_4 := Aside0.mk hi1168_4; have HC1168_4 := Aside0.mk hl1168_4; clear hi1168_4 hl1168_4; have HR1168_5 := Aside0.mk hi1168_5; have HC1168_5 := Aside0.mk hl1168_5; clear hi1168_5 hl1168_5; replace p1168 := eq_true p1168; replace q1168 := eq_true q1168
                go_upto_block 2 with (first | ((with_reducible refine gate_dst (N := 10) rfl ?_); refine box_event ?hg (N := 10) ?hd (cs := #[.int .i64 0, .int .i64 0, .int .i64 0, .int .i64 0, .slice none 0 0, .slice none 0 0]) (t := 104) ?hr ?_; (case hd => rfl); (case hg => rfl); (case hr => first | (go_simp; done) | (go_simp; rfl)); intro gb1169 hg w11 hbox hb; have n0_ := Aside0.mk (below_step (q0_ HB) hb); have n1_ := Aside0.mk (hbox); have n2_ := Aside0.mk ((by rw [hg]; exact (below_size (q0_ HB)) : w.heap.size ≤ gb1169)); have n3_ := Aside0.mk ((by rw [hg]; exact (below_size (q0_ HB)) : w.heap.size ≤ gb1169)); clear HB; have HB := n0_; have BK1169 := n1_; have GW1169 := n2_; have GE1169 := n3_; clear n0_ n1_ n2_ n3_; clear hb hbox hg; have hcz12_0 : w11.cell? ⟨gb1169, 0, none⟩ = some (.int .i64 0) := (blk_cell BK1169.out 0).trans rfl; have hcz12_1 : w11.cell? ⟨gb1169, 1, none⟩ = some (.int .i64 0) := (blk_cell BK1169.out 1).trans rfl; have hcz12_2 : w11.cell? ⟨gb1169, 2, none⟩ = some (.int .i64 0) := (blk_cell BK1169.out 2).trans rfl; have hcz12_3 : w11.cell? ⟨gb1169, 3, none⟩ = some (.int .i64 0) := (blk_cell BK1169.out 3).trans rfl; have hcz12_4 : w11.cell? ⟨gb1169, 4, none⟩ = some (.slice none 0 0) := (blk_cell BK1169.out 4).trans rfl; have hcz12_5 : w11.cell? ⟨gb1169, 5, none⟩ = some (.slice none 0 0) := (blk_cell BK1169.out 5).trans rfl; have hfz12_0 := blk_frozen BK1169.out 0; have hfz12_1 := blk_frozen BK1169.out 1; have hfz12_2 := blk_frozen BK1169.out 2; have hfz12_3 := blk_frozen BK1169.out 3; have hfz12_4 := blk_frozen BK1169.out 4; have hfz12_5 := blk_frozen BK1169.out 5))
                (try simp only [Act.put, List.setIfInBounds_toArray, List.set_cons_zero, List.set_cons_succ])
                go_cut [11, 12] (fun v11 v12 wc => ∃ (kq : Nat) (x11_9 : Int) (x12_9 : Int), v11 = .int .i64 x11_9 ∧ v12 = .int .i64 x12_9 ∧ Aside0 (spec_l6Owns.j2 kq l0 l1 a2 a3 x9_1 x11_9 x12_9 ((rd_T104 l0 x9_1).f0) ((rd_T104 l0 x9_1).f1) ((rd_T104 l0 x9_1).f2) ((rd_T104 l0 x9_1).f3) ((rd_T104 l0 x9_1).f4) ((rd_T104 l0 x9_1).f5) = some r) ∧ Aside0 (kq ≤ kj4) ∧ Aside0 (wc.heap[gb1169]? = some (.cells #[.int .i64 ((rd_T104 l0 x9_1).f0), .int .i64 ((rd_T104 l0 x9_1).f1), .int .i64 ((rd_T104 l0 x9_1).f2), .int .i64 ((rd_T104 l0 x9_1).f3), (.slice A1168_4 ((rd_T104 l0 x9_1).f4).length c1168_4), (.slice A1168_5 ((rd_T104 l0 x9_1).f5).length c1168_5)] 104 (0, 0))) ∧ Aside0 (Below w.heap.size w wc))
                case first =>
                  have H := HC10.out; clear HC10
                  by_cases c13 : ((rd_T104 l0 x9_1).f0) = 8
                  · rw [if_pos c13] at H; have c13b0 : (((rd_T104 l0 x9_1).f0) == 8) = true := beq_iff_eq.mpr c13; have c13b1 : (((rd_T104 l0 x9_1).f0) != 8) = false := bne_eq_false_iff_eq.mpr c13; clear c13
                    (first | rw [c13b0] | (simp only [i64_w, i32_w]; rw [c13b0]) | skip)
                    have H' := Aside0.mk H; clear H; have hcz14_0 : w11.cell? ⟨gb1169, 0, none⟩ = some (.int .i64 0) := (blk_cell BK1169.out 0).trans rfl; have hcz14_1 : w11.cell? ⟨gb1169, 1, none⟩ = some (.int .i64 0) := (blk_cell BK1169.out 1).trans rfl; have hcz14_2 : w11.cell? ⟨gb1169, 2, none⟩ = some (.int .i64 0) := (blk_cell BK1169.out 2).trans rfl; have hcz14_3 : w11.cell? ⟨gb1169, 3, none⟩ = some (.int .i64 0) := (blk_cell BK1169.out 3).trans rfl; have hcz14_4 : w11.cell? ⟨gb1169, 4, none⟩ = some (.slice none 0 0) := (blk_cell BK1169.out 4).trans rfl; have hcz14_5 : w11.cell? ⟨gb1169, 5, none⟩ = some (.slice none 0 0) := (blk_cell BK1169.out 5).trans rfl; have hfz14_0 := blk_frozen BK1169.out 0; have hfz14_1 := blk_frozen BK1169.out 1; have hfz14_2 := blk_frozen BK1169.out 2; have hfz14_3 := blk_frozen BK1169.out 3; have hfz14_4 := blk_frozen BK1169.out 4; have hfz14_5 := blk_frozen BK1169.out 5
                    go_wp2
                    go_meet
                    case rel => exact ⟨_, ((rd_T104 l0 x9_1).f1), ((-1)), (by first | rfl | (simp; done) | (simp [*]; done)), (by first | rfl | (simp; done) | (simp [*]; done)), H', ⟨by have := HK1.out; have := HJ4.out; first | omega | exact Nat.le_refl _⟩, ⟨by (with_reducible repeat (first | refine blk_drewN ?_ _ | refine blk_drew ?_ | refine blk_alloc ?_ _)); apply bp6_5_; (with_reducible repeat (first | refine blk_drewN ?_ _ | refine blk_drew ?_ | refine blk_alloc ?_ _)); apply bp6_4_; (with_reducible repeat (first | refine blk_drewN ?_ _ | refine blk_drew ?_ | refine blk_alloc ?_ _)); apply bp6_3_; (with_reducible repeat (first | refine blk_drewN ?_ _ | refine blk_drew ?_ | refine blk_alloc ?_ _)); apply bp6_2_; (with_reducible repeat (first | refine blk_drewN ?_ _ | refine blk_drew ?_ | refine blk_alloc ?_ _)); apply bp6_1_; (with_reducible repeat (first | refine blk_drewN ?_ _ | refine blk_drew ?_ | refine blk_alloc ?_ _)); apply bp6_0_; (with_reducible repeat (first | refine blk_drewN ?_ _ | refine blk_drew ?_ | refine blk_alloc ?_ _)); exact BK1169.out⟩, ⟨by repeat (first | (with_reducible first | exact HB.out | apply below_alloc | apply pw_below_drewN | apply below_drew1 | refine below_set ?_ GE1169.out) | exact HB.out)⟩⟩
                  · rw [if_neg c13] at H; have c13b0 : (((rd_T104 l0 x9_1).f0) == 8) = false := beq_eq_false_iff_ne.mpr c13; have c13b1 : (((rd_T104 l0 x9_1).f0) != 8) = true := bne_iff_ne.mpr c13
                    (first | rw [c13b0] | (simp only [i64_w, i32_w]; rw [c13b0]) | skip)
                    by_cases c15 : ((rd_T104 l0 x9_1).f0) = 3
                    · rw [if_pos c15] at H; have c15b0 : (((rd_T104 l0 x9_1).f0) == 3) = true := beq_iff_eq.mpr c15; have c15b1 : (((rd_T104 l0 x9_1).f0) != 3) = false := bne_eq_false_iff_eq.mpr c15; clear c15; have H' := Aside0.mk H; clear H; have hcz16_0 : w11.cell? ⟨gb1169, 0, none⟩ = some (.int .i64 0) := (blk_cell BK1169.out 0).trans rfl; have hcz16_1 : w11.cell? ⟨gb1169, 1, none⟩ = some (.int .i64 0) := (blk_cell BK1169.out 1).trans rfl; have hcz16_2 : w11.cell? ⟨gb1169, 2, none⟩ = some (.int .i64 0) := (blk_cell BK1169.out 2).trans rfl; have hcz16_3 : w11.cell? ⟨gb1169, 3, none⟩ = some (.int .i64 0) := (blk_cell BK1169.out 3).trans rfl; have hcz16_4 : w11.cell? ⟨gb1169, 4, none⟩ = some (.slice none 0 0) := (blk_cell BK1169.out 4).trans rfl; have hcz16_5 : w11.cell? ⟨gb1169, 5, none⟩ = some (.slice none 0 0) := (blk_cell BK1169.out 5).trans rfl; have hfz16_0 := blk_frozen BK1169.out 0; have hfz16_1 := blk_frozen BK1169.out 1; have hfz16_2 := blk_frozen BK1169.out 2; have hfz16_3 := blk_frozen BK1169.out 3; have hfz16_4 := blk_frozen BK1169.out 4; have hfz16_5 := blk_frozen BK1169.out 5
                      go_wp2
                      go_meet
                      case rel => exact ⟨_, (a2), ((rd_T104 l0 x9_1).f2), (by first | rfl | (simp; done) | (simp [*]; done)), (by first | rfl | (simp; done) | (simp [*]; done)), H', ⟨by have := HK1.out; have := HJ4.out; first | omega | exact Nat.le_refl _⟩, ⟨by (with_reducible repeat (first | refine blk_drewN ?_ _ | refine blk_drew ?_ | refine blk_alloc ?_ _)); apply bp6_5_; (with_reducible repeat (first | refine blk_drewN ?_ _ | refine blk_drew ?_ | refine blk_alloc ?_ _)); apply bp6_4_; (with_reducible repeat (first | refine blk_drewN ?_ _ | refine blk_drew ?_ | refine blk_alloc ?_ _)); apply bp6_3_; (with_reducible repeat (first | refine blk_drewN ?_ _ | refine blk_drew ?_ | refine blk_alloc ?_ _)); apply bp6_2_; (with_reducible repeat (first | refine blk_drewN ?_ _ | refine blk_drew ?_ | refine blk_alloc ?_ _)); apply bp6_1_; (with_reducible repeat (first | refine blk_drewN ?_ _ | refine blk_drew ?_ | refine blk_alloc ?_ _)); apply bp6_0_; (with_reducible repeat (first | refine blk_drewN ?_ _ | refine blk_drew ?_ | refine blk_alloc ?_ _)); exact BK1169.out⟩, ⟨by repeat (first | (with_reducible first | exact HB.out | apply below_alloc | apply pw_below_drewN | apply below_drew1 | refine below_set ?_ GE1169.out) | exact HB.out)⟩⟩
                    · rw [if_neg c15] at H; have c15b0 : (((rd_T104 l0 x9_1).f0) == 3) = false := beq_eq_false_iff_ne.mpr c15; have c15b1 : (((rd_T104 l0 x9_1).f0) != 3) = true := bne_iff_ne.mpr c15
                      by_cases c17 : ((rd_T104 l0 x9_1).f0) = 4
                      · rw [if_pos c17] at H; have c17b0 : (((rd_T104 l0 x9_1).f0) == 4) = true := beq_iff_eq.mpr c17; have c17b1 : (((rd_T104 l0 x9_1).f0) != 4) = false := bne_eq_false_iff_eq.mpr c17; clear c17; have H' := Aside0.mk H; clear H; have hcz18_0 : w11.cell? ⟨gb1169, 0, none⟩ = some (.int .i64 0) := (blk_cell BK1169.out 0).trans rfl; have hcz18_1 : w11.cell? ⟨gb1169, 1, none⟩ = some (.int .i64 0) := (blk_cell BK1169.out 1).trans rfl; have hcz18_2 : w11.cell? ⟨gb1169, 2, none⟩ = some (.int .i64 0) := (blk_cell BK1169.out 2).trans rfl; have hcz18_3 : w11.cell? ⟨gb1169, 3, none⟩ = some (.int .i64 0) := (blk_cell BK1169.out 3).trans rfl; have hcz18_4 : w11.cell? ⟨gb1169, 4, none⟩ = some (.slice none 0 0) := (blk_cell BK1169.out 4).trans rfl; have hcz18_5 : w11.cell? ⟨gb1169, 5, none⟩ = some (.slice none 0 0) := (blk_cell BK1169.out 5).trans rfl; have hfz18_0 := blk_frozen BK1169.out 0; have hfz18_1 := blk_frozen BK1169.out 1; have hfz18_2 := blk_frozen BK1169.out 2; have hfz18_3 := blk_frozen BK1169.out 3; have hfz18_4 := blk_frozen BK1169.out 4; have hfz18_5 := blk_frozen BK1169.out 5
                        go_wp2
                        go_meet
                        case rel => exact ⟨_, (a2), ((rd_T104 l0 x9_1).f1), (by first | rfl | (simp; done) | (simp [*]; done)), (by first | rfl | (simp; done) | (simp [*]; done)), H', ⟨by have := HK1.out; have := HJ4.out; first | omega | exact Nat.le_refl _⟩, ⟨by (with_reducible repeat (first | refine blk_drewN ?_ _ | refine blk_drew ?_ | refine blk_alloc ?_ _)); apply bp6_5_; (with_reducible repeat (first | refine blk_drewN ?_ _ | refine blk_drew ?_ | refine blk_alloc ?_ _)); apply bp6_4_; (with_reducible repeat (first | refine blk_drewN ?_ _ | refine blk_drew ?_ | refine blk_alloc ?_ _)); apply bp6_3_; (with_reducible repeat (first | refine blk_drewN ?_ _ | refine blk_drew ?_ | refine blk_alloc ?_ _)); apply bp6_2_; (with_reducible repeat (first | refine blk_drewN ?_ _ | refine blk_drew ?_ | refine blk_alloc ?_ _)); apply bp6_1_; (with_reducible repeat (first | refine blk_drewN ?_ _ | refine blk_drew ?_ | refine blk_alloc ?_ _)); apply bp6_0_; (with_reducible repeat (first | refine blk_drewN ?_ _ | refine blk_drew ?_ | refine blk_alloc ?_ _)); exact BK1169.out⟩, ⟨by repeat (first | (with_reducible first | exact HB.out | apply below_alloc | apply pw_below_drewN | apply below_drew1 | refine below_set ?_ GE1169.out) | exact HB.out)⟩⟩
                      · rw [if_neg c17] at H; have c17b0 : (((rd_T104 l0 x9_1).f0) == 4) = false := beq_eq_false_iff_ne.mpr c17; have c17b1 : (((rd_T104 l0 x9_1).f0) != 4) = true := bne_iff_ne.mpr c17
                        by_cases c19 : ((rd_T104 l0 x9_1).f0) = 9
                        · rw [if_pos c19] at H; have c19b0 : (((rd_T104 l0 x9_1).f0) == 9) = true := beq_iff_eq.mpr c19; have c19b1 : (((rd_T104 l0 x9_1).f0) != 9) = false := bne_eq_false_iff_eq.mpr c19; clear c19; have H' := Aside0.mk H; clear H; have hcz20_0 : w11.cell? ⟨gb1169, 0, none⟩ = some (.int .i64 0) := (blk_cell BK1169.out 0).trans rfl; have hcz20_1 : w11.cell? ⟨gb1169, 1, none⟩ = some (.int .i64 0) := (blk_cell BK1169.out 1).trans rfl; have hcz20_2 : w11.cell? ⟨gb1169, 2, none⟩ = some (.int .i64 0) := (blk_cell BK1169.out 2).trans rfl; have hcz20_3 : w11.cell? ⟨gb1169, 3, none⟩ = some (.int .i64 0) := (blk_cell BK1169.out 3).trans rfl; have hcz20_4 : w11.cell? ⟨gb1169, 4, none⟩ = some (.slice none 0 0) := (blk_cell BK1169.out 4).trans rfl; have hcz20_5 : w11.cell? ⟨gb1169, 5, none⟩ = some (.slice none 0 0) := (blk_cell BK1169.out 5).trans rfl; have hfz20_0 := blk_frozen BK1169.out 0; have hfz20_1 := blk_frozen BK1169.out 1; have hfz20_2 := blk_frozen BK1169.out 2; have hfz20_3 := blk_frozen BK1169.out 3; have hfz20_4 := blk_frozen BK1169.out 4; have hfz20_5 := blk_frozen BK1169.out 5
                          go_wp2
                          go_meet
                          case rel => exact ⟨_, (a2), (wrap64 (3 + ((rd_T104 l0 x9_1).f1))), (by first | rfl | (simp; done) | (simp [*]; done)), (by first | rfl | (simp; done) | (simp [*]; done)), H', ⟨by have := HK1.out; have := HJ4.out; first | omega | exact Nat.le_refl _⟩, ⟨by (with_reducible repeat (first | refine blk_drewN ?_ _ | refine blk_drew ?_ | refine blk_alloc ?_ _)); apply bp6_5_; (with_reducible repeat (first | refine blk_drewN ?_ _ | refine blk_drew ?_ | refine blk_alloc ?_ _)); apply bp6_4_; (with_reducible repeat (first | refine blk_drewN ?_ _ | refine blk_drew ?_ | refine blk_alloc ?_ _)); apply bp6_3_; (with_reducible repeat (first | refine blk_drewN ?_ _ | refine blk_drew ?_ | refine blk_alloc ?_ _)); apply bp6_2_; (with_reducible repeat (first | refine blk_drewN ?_ _ | refine blk_drew ?_ | refine blk_alloc ?_ _)); apply bp6_1_; (with_reducible repeat (first | refine blk_drewN ?_ _ | refine blk_drew ?_ | refine blk_alloc ?_ _)); apply bp6_0_; (with_reducible repeat (first | refine blk_drewN ?_ _ | refine blk_drew ?_ | refine blk_alloc ?_ _)); exact BK1169.out⟩, ⟨by repeat (first | (with_reducible first | exact HB.out | apply below_alloc | apply pw_below_drewN | apply below_drew1 | refine below_set ?_ GE1169.out) | exact HB.out)⟩⟩
                        · rw [if_neg c19] at H; have c19b0 : (((rd_T104 l0 x9_1).f0) == 9) = false := beq_eq_false_iff_ne.mpr c19; have c19b1 : (((rd_T104 l0 x9_1).f0) != 9) = true := bne_iff_ne.mpr c19
                          by_cases c21 : ((rd_T104 l0 x9_1).f0) = 10
                          · rw [if_pos c21] at H; have c21b0 : (((rd_T104 l0 x9_1).f0) == 10) = true := beq_iff_eq.mpr c21; have c21b1 : (((rd_T104 l0 x9_1).f0) != 10) = false := bne_eq_false_iff_eq.mpr c21; clear c21; have H' := Aside0.mk H; clear H; have hcz22_0 : w11.cell? ⟨gb1169, 0, none⟩ = some (.int .i64 0) := (blk_cell BK1169.out 0).trans rfl; have hcz22_1 : w11.cell? ⟨gb1169, 1, none⟩ = some (.int .i64 0) := (blk_cell BK1169.out 1).trans rfl; have hcz22_2 : w11.cell? ⟨gb1169, 2, none⟩ = some (.int .i64 0) := (blk_cell BK1169.out 2).trans rfl; have hcz22_3 : w11.cell? ⟨gb1169, 3, none⟩ = some (.int .i64 0) := (blk_cell BK1169.out 3).trans rfl; have hcz22_4 : w11.cell? ⟨gb1169, 4, none⟩ = some (.slice none 0 0) := (blk_cell BK1169.out 4).trans rfl; have hcz22_5 : w11.cell? ⟨gb1169, 5, none⟩ = some (.slice none 0 0) := (blk_cell BK1169.out 5).trans rfl; have hfz22_0 := blk_frozen BK1169.out 0; have hfz22_1 := blk_frozen BK1169.out 1; have hfz22_2 := blk_frozen BK1169.out 2; have hfz22_3 := blk_frozen BK1169.out 3; have hfz22_4 := blk_frozen BK1169.out 4; have hfz22_5 := blk_frozen BK1169.out 5
                            go_wp2
                            go_meet
                            case rel => exact ⟨_, (a2), (wrap64 (3 + ((rd_T104 l0 x9_1).f1))), (by first | rfl | (simp; done) | (simp [*]; done)), (by first | rfl | (simp; done) | (simp [*]; done)), H', ⟨by have := HK1.out; have := HJ4.out; first | omega | exact Nat.le_refl _⟩, ⟨by (with_reducible repeat (first | refine blk_drewN ?_ _ | refine blk_drew ?_ | refine blk_alloc ?_ _)); apply bp6_5_; (with_reducible repeat (first | refine blk_drewN ?_ _ | refine blk_drew ?_ | refine blk_alloc ?_ _)); apply bp6_4_; (with_reducible repeat (first | refine blk_drewN ?_ _ | refine blk_drew ?_ | refine blk_alloc ?_ _)); apply bp6_3_; (with_reducible repeat (first | refine blk_drewN ?_ _ | refine blk_drew ?_ | refine blk_alloc ?_ _)); apply bp6_2_; (with_reducible repeat (first | refine blk_drewN ?_ _ | refine blk_drew ?_ | refine blk_alloc ?_ _)); apply bp6_1_; (with_reducible repeat (first | refine blk_drewN ?_ _ | refine blk_drew ?_ | refine blk_alloc ?_ _)); apply bp6_0_; (with_reducible repeat (first | refine blk_drewN ?_ _ | refine blk_drew ?_ | refine blk_alloc ?_ _)); exact BK1169.out⟩, ⟨by repeat (first | (with_reducible first | exact HB.out | apply below_alloc | apply pw_below_drewN | apply below_drew1 | refine below_set ?_ GE1169.out) | exact HB.out)⟩⟩
                          · rw [if_neg c21] at H; have c21b0 : (((rd_T104 l0 x9_1).f0) == 10) = false := beq_eq_false_iff_ne.mpr c21; have c21b1 : (((rd_T104 l0 x9_1).f0) != 10) = true := bne_iff_ne.mpr c21; have H' := Aside0.mk H; clear H
                            go_wp2
                            go_meet
                            case rel => exact ⟨_, (a2), ((-1)), (by first | rfl | (simp; done) | (simp [*]; done)), (by first | rfl | (simp; done) | (simp [*]; done)), H', ⟨by have := HK1.out; have := HJ4.out; first | omega | exact Nat.le_refl _⟩, ⟨by (with_reducible repeat (first | refine blk_drewN ?_ _ | refine blk_drew ?_ | refine blk_alloc ?_ _)); apply bp6_5_; (with_reducible repeat (first | refine blk_drewN ?_ _ | refine blk_drew ?_ | refine blk_alloc ?_ _)); apply bp6_4_; (with_reducible repeat (first | refine blk_drewN ?_ _ | refine blk_drew ?_ | refine blk_alloc ?_ _)); apply bp6_3_; (with_reducible repeat (first | refine blk_drewN ?_ _ | refine blk_drew ?_ | refine blk_alloc ?_ _)); apply bp6_2_; (with_reducible repeat (first | refine blk_drewN ?_ _ | refine blk_drew ?_ | refine blk_alloc ?_ _)); apply bp6_1_; (with_reducible repeat (first | refine blk_drewN ?_ _ | refine blk_drew ?_ | refine blk_alloc ?_ _)); apply bp6_0_; (with_reducible repeat (first | refine blk_drewN ?_ _ | refine blk_drew ?_ | refine blk_alloc ?_ _)); exact BK1169.out⟩, ⟨by repeat (first | (with_reducible first | exact HB.out | apply below_alloc | apply pw_below_drewN | apply below_drew1 | refine below_set ?_ GE1169.out) | exact HB.out)⟩⟩
                case rest =>
                  clear HC10; (try clear c1); (try clear p1); (try clear q1); (try clear hx1); (try clear c2); (try clear p2); (try clear c6); (try clear c6b0); (try clear p6); (try clear c7); (try clear c8); (try clear c8b0); (try clear c9); (try clear c9b0); (try clear c11); (try clear p11); (try clear q11); (try clear hx11); (try clear c13); (try clear c13b0); (try clear c13b1); (try clear c15); (try clear c15b0); (try clear c15b1); (try clear c17); (try clear c17b0); (try clear c17b1); (try clear c19); (try clear c19b0); (try clear c19b1); (try clear c21); (try clear c21b0); (try clear c21b1); (try clear hcz12_0); (try clear hcz12_1); (try clear hcz12_2); (try clear hcz12_3); (try clear hcz12_4); (try clear hcz12_5); (try clear hcz14_0); (try clear hcz14_1); (try clear hcz14_2); (try clear hcz14_3); (try clear hcz14_4); (try clear hcz14_5); (try clear hcz16_0); (try clear hcz16_1); (try clear hcz16_2); (try clear hcz16_3); (try clear hcz16_4); (try clear hcz16_5); (try clear hcz18_0); (try clear hcz18_1); (try clear hcz18_2); (try clear hcz18_3); (try clear hcz18_4); (try clear hcz18_5); (try clear hcz20_0); (try clear hcz20_1); (try clear hcz20_2); (try clear hcz20_3); (try clear hcz20_4); (try clear hcz20_5); (try clear hcz22_0); (try clear hcz22_1); (try clear hcz22_2); (try clear hcz22_3); (try clear hcz22_4); (try clear hcz22_5); (try clear hfz12_0); (try clear hfz12_1); (try clear hfz12_2); (try clear hfz12_3); (try clear hfz12_4); (try clear hfz12_5); (try clear hfz14_0); (try clear hfz14_1); (try clear hfz14_2); (try clear hfz14_3); (try clear hfz14_4); (try clear hfz14_5); (try clear hfz16_0); (try clear hfz16_1); (try clear hfz16_2); (try clear hfz16_3); (try clear hfz16_4); (try clear hfz16_5); (try clear hfz18_0); (try clear hfz18_1); (try clear hfz18_2); (try clear hfz18_3); (try clear hfz18_4); (try clear hfz18_5); (try clear hfz20_0); (try clear hfz20_1); (try clear hfz20_2); (try clear hfz20_3); (try clear hfz20_4); (try clear hfz20_5); (try clear hfz22_0); (try clear hfz22_1); (try clear hfz22_2); (try clear hfz22_3); (try clear hfz22_4); (try clear hfz22_5); (try clear hx1168_0); (try clear hx1168_1); (try clear hx1168_2); (try clear hx1168_3); (try clear hx1168_4); (try clear hx1168_5); (try clear p1168); (try clear p2); (try clear q1168); obtain ⟨kq, x11_9, x12_9, rfl, rfl, HA, HJ9, BK1169, HB⟩ := hcut
                  cases kq with
                  | zero => exact absurd HA.out (by simp [spec_l6Owns.j2])
                  | succ kj9 =>
                    have H := HA.out; clear HA; simp only [spec_l6Owns.j2] at H; have HC23 := Aside0.mk H; clear H
                    go_upto_region 17 with (fail)
                    go_cut [57] (fun v57 wc => ∃ (kq : Nat) (x57_22 : Bool), v57 = .bool x57_22 ∧ Aside0 (spec_l6Owns.j3 kq l0 l1 a2 a3 x9_1 x11_9 x57_22 ((rd_T104 l0 x9_1).f0) ((rd_T104 l0 x9_1).f1) ((rd_T104 l0 x9_1).f2) ((rd_T104 l0 x9_1).f3) ((rd_T104 l0 x9_1).f4) ((rd_T104 l0 x9_1).f5) = some r) ∧ Aside0 (kq ≤ kj9) ∧ Aside0 (wc.heap[gb1169]? = some (.cells #[.int .i64 ((rd_T104 l0 x9_1).f0), .int .i64 ((rd_T104 l0 x9_1).f1), .int .i64 ((rd_T104 l0 x9_1).f2), .int .i64 ((rd_T104 l0 x9_1).f3), (.slice A1168_4 ((rd_T104 l0 x9_1).f4).length c1168_4), (.slice A1168_5 ((rd_T104 l0 x9_1).f5).length c1168_5)] 104 (0, 0))) ∧ Aside0 (Below w.heap.size w wc))
                    case first =>
                      have H := HC23.out; clear HC23
                      by_cases c24 : x12_9 ≥ 0
                      · rw [if_pos c24] at H; have c24b0 : decide (0 ≤ x12_9) = true := decide_eq_true c24; clear c24
                        (first | rw [c24b0] | (simp only [i64_w, i32_w]; rw [c24b0]) | skip)
                        by_cases c25 : 0 ≤ x12_9
                        · rw [if_pos c25] at H; have c25b0 : decide (0 ≤ x12_9) = true := decide_eq_true c25; clear c25
                          by_cases c26 : x12_9 < (l1.length : Int)
                          · rw [if_pos c26] at H; have c26b0 : decide (x12_9 < (l1.length : Int)) = true := decide_eq_true c26; clear c26; have H' := Aside0.mk H; clear H
                            have p1170 : 0 ≤ (x12_9 : Int) := of_decide_eq_true (by first | (with_reducible assumption) | assumption)
                            have q1170 : x12_9 < (l1.length : Int) := of_decide_eq_true (by first | (with_reducible assumption) | assumption)
                            obtain ⟨ad1170, e1170, hx1170_0⟩ := Kd.at_int HR1.out x12_9 p1170 q1170
                            cases e1170
                            replace hx1170_0 := (HB.out.cell (World.block_lt_of_cell? w _ hx1170_0)).trans hx1170_0; replace p1170 := eq_true p1170; replace q1170 := eq_true q1170
                            go_wp2
                            go_meet
                            case rel => exact ⟨_, (((rd l1 x12_9) != a2)), (by first | rfl | (simp; done) | (simp [*]; done)), H', ⟨by have := HK1.out; have := HJ4.out; have := HJ9.out; first | omega | exact Nat.le_refl _⟩, ⟨by (with_reducible repeat (first | refine blk_drewN ?_ _ | refine blk_drew ?_ | refine blk_alloc ?_ _)); exact BK1169.out⟩, ⟨by repeat (first | (with_reducible first | exact HB.out | apply below_alloc | apply pw_below_drewN | apply below_drew1 | refine below_set ?_ GE1169.out) | exact HB.out)⟩⟩
                          · rw [if_neg c26] at H
                            exact absurd H (by simp)
                        · rw [if_neg c25] at H
                          exact absurd H (by simp)
                      · rw [if_neg c24] at H; have c24b0 : decide (0 ≤ x12_9) = false := decide_eq_false c24; clear c24
                        (first | rw [c24b0] | (simp only [i64_w, i32_w]; rw [c24b0]) | skip)
                        have H' := Aside0.mk H; clear H
                        go_wp2
                        go_meet
                        case rel => exact ⟨_, (false), (by first | rfl | (simp; done) | (simp [*]; done)), H', ⟨by have := HK1.out; have := HJ4.out; have := HJ9.out; first | omega | exact Nat.le_refl _⟩, ⟨by (with_reducible repeat (first | refine blk_drewN ?_ _ | refine blk_drew ?_ | refine blk_alloc ?_ _)); exact BK1169.out⟩, ⟨by repeat (first | (with_reducible first | exact HB.out | apply below_alloc | apply pw_below_drewN | apply below_drew1 | refine below_set ?_ GE1169.out) | exact HB.out)⟩⟩
                    case rest =>
                      clear HC23; (try clear c1); (try clear p1); (try clear q1); (try clear hx1); (try clear c2); (try clear p2); (try clear c6); (try clear c6b0); (try clear p6); (try clear c7); (try clear c8); (try clear c8b0); (try clear c9); (try clear c9b0); (try clear c11); (try clear p11); (try clear q11); (try clear hx11); (try clear c13); (try clear c13b0); (try clear c13b1); (try clear c15); (try clear c15b0); (try clear c15b1); (try clear c17); (try clear c17b0); (try clear c17b1); (try clear c19); (try clear c19b0); (try clear c19b1); (try clear c21); (try clear c21b0); (try clear c21b1); (try clear c24); (try clear c24b0); (try clear c25); (try clear c25b0); (try clear c26); (try clear c26b0); (try clear hcz12_0); (try clear hcz12_1); (try clear hcz12_2); (try clear hcz12_3); (try clear hcz12_4); (try clear hcz12_5); (try clear hcz14_0); (try clear hcz14_1); (try clear hcz14_2); (try clear hcz14_3); (try clear hcz14_4); (try clear hcz14_5); (try clear hcz16_0); (try clear hcz16_1); (try clear hcz16_2); (try clear hcz16_3); (try clear hcz16_4); (try clear hcz16_5); (try clear hcz18_0); (try clear hcz18_1); (try clear hcz18_2); (try clear hcz18_3); (try clear hcz18_4); (try clear hcz18_5); (try clear hcz20_0); (try clear hcz20_1); (try clear hcz20_2); (try clear hcz20_3); (try clear hcz20_4); (try clear hcz20_5); (try clear hcz22_0); (try clear hcz22_1); (try clear hcz22_2); (try clear hcz22_3); (try clear hcz22_4); (try clear hcz22_5); (try clear hfz12_0); (try clear hfz12_1); (try clear hfz12_2); (try clear hfz12_3); (try clear hfz12_4); (try clear hfz12_5); (try clear hfz14_0); (try clear hfz14_1); (try clear hfz14_2); (try clear hfz14_3); (try clear hfz14_4); (try clear hfz14_5); (try clear hfz16_0); (try clear hfz16_1); (try clear hfz16_2); (try clear hfz16_3); (try clear hfz16_4); (try clear hfz16_5); (try clear hfz18_0); (try clear hfz18_1); (try clear hfz18_2); (try clear hfz18_3); (try clear hfz18_4); (try clear hfz18_5); (try clear hfz20_0); (try clear hfz20_1); (try clear hfz20_2); (try clear hfz20_3); (try clear hfz20_4); (try clear hfz20_5); (try clear hfz22_0); (try clear hfz22_1); (try clear hfz22_2); (try clear hfz22_3); (try clear hfz22_4); (try clear hfz22_5); (try clear hx1168_0); (try clear hx1168_1); (try clear hx1168_2); (try clear hx1168_3); (try clear hx1168_4); (try clear hx1168_5); (try clear hx1170_0); (try clear p1); (try clear p11); (try clear p1168); (try clear p1170); (try clear p2); (try clear p6); (try clear q1); (try clear q11); (try clear q1168); (try clear q1170); obtain ⟨kq, x57_22, rfl, HA, HJ22, BK1169, HB⟩ := hcut
                      cases kq with
                      | zero => exact absurd HA.out (by simp [spec_l6Owns.j3])
                      | succ kj22 =>
                        have H := HA.out; clear HA; simp only [spec_l6Owns.j3] at H
                        by_cases c27 : x57_22 = true
                        · subst c27
                          have H1 : (some false) = some r := by rw [if_pos rfl] at H; exact H
                          clear H; have H := H1; clear H1; obtain rfl := Option.some.inj H
                          go_wp2
                          go_ret
                          exact ⟨by first | rfl | (simp [errW_none, errW_some] <;> rfl) | (simp [*, errW_none, errW_some] <;> rfl), by repeat (first | (with_reducible first | exact HB.out | apply below_alloc | apply pw_below_drewN | apply below_drew1 | refine below_set ?_ GE1169.out) | exact HB.out)⟩
                        · replace c27 := Bool.eq_false_iff.mpr c27; subst c27
                          have H1 : ((spec_l6Owns.f kj22 ((rd_T104 l0 x9_1).f4) l1 x11_9 (wrap64 (a3 - 1))).bind fun t1171 => (if t1171 = true then ((spec_l6Owns.f kj22 ((rd_T104 l0 x9_1).f5) l1 x11_9 (wrap64 (a3 - 1))).bind fun t1172 => (if t1172 = true then (spec_l6Owns.l0 kj22 l0 l1 a2 a3 (wrap64 (x9_1 + 1))) else (some false))) else (some false))) = some r := by rw [if_neg (show ¬ (false = true) by decide)] at H; exact H
                          clear H; have H := H1; clear H1; replace H := Option.bind_eq_some_iff.mp H; obtain ⟨t1171, A280, H⟩ := H; replace H : (if t1171 = true then ((spec_l6Owns.f kj22 ((rd_T104 l0 x9_1).f5) l1 x11_9 (wrap64 (a3 - 1))).bind fun t1172 => (if t1172 = true then (spec_l6Owns.l0 kj22 l0 l1 a2 a3 (wrap64 (x9_1 + 1))) else (some false))) else (some false)) = some r := H; have A28 := Aside0.mk A280; clear A280
                          by_cases c29 : t1171 = true
                          · subst c29
                            have H1 : ((spec_l6Owns.f kj22 ((rd_T104 l0 x9_1).f5) l1 x11_9 (wrap64 (a3 - 1))).bind fun t1172 => (if t1172 = true then (spec_l6Owns.l0 kj22 l0 l1 a2 a3 (wrap64 (x9_1 + 1))) else (some false))) = some r := by rw [if_pos rfl] at H; exact H
                            clear H; have H := H1; clear H1; replace H := Option.bind_eq_some_iff.mp H; obtain ⟨t1172, A300, H⟩ := H; replace H : (if t1172 = true then (spec_l6Owns.l0 kj22 l0 l1 a2 a3 (wrap64 (x9_1 + 1))) else (some false)) = some r := H; have A30 := Aside0.mk A300; clear A300
                            by_cases c31 : t1172 = true
                            · subst c31
                              have H1 : (spec_l6Owns.l0 kj22 l0 l1 a2 a3 (wrap64 (x9_1 + 1))) = some r := by rw [if_pos rfl] at H; exact H
                              clear H; have H := H1; clear H1; have H' := Aside0.mk H; clear H; have hcz32_0 : wc.cell? ⟨gb1169, 0, none⟩ = some (.int .i64 ((rd_T104 l0 x9_1).f0)) := (blk_cell BK1169.out 0).trans rfl; have hcz32_1 : wc.cell? ⟨gb1169, 1, none⟩ = some (.int .i64 ((rd_T104 l0 x9_1).f1)) := (blk_cell BK1169.out 1).trans rfl; have hcz32_2 : wc.cell? ⟨gb1169, 2, none⟩ = some (.int .i64 ((rd_T104 l0 x9_1).f2)) := (blk_cell BK1169.out 2).trans rfl; have hcz32_3 : wc.cell? ⟨gb1169, 3, none⟩ = some (.int .i64 ((rd_T104 l0 x9_1).f3)) := (blk_cell BK1169.out 3).trans rfl; have hcz32_4 : wc.cell? ⟨gb1169, 4, none⟩ = some (.slice A1168_4 ((rd_T104 l0 x9_1).f4).length c1168_4) := (blk_cell BK1169.out 4).trans rfl; have hcz32_5 : wc.cell? ⟨gb1169, 5, none⟩ = some (.slice A1168_5 ((rd_T104 l0 x9_1).f5).length c1168_5) := (blk_cell BK1169.out 5).trans rfl; have hfz32_0 := blk_frozen BK1169.out 0; have hfz32_1 := blk_frozen BK1169.out 1; have hfz32_2 := blk_frozen BK1169.out 2; have hfz32_3 := blk_frozen BK1169.out 3; have hfz32_4 := blk_frozen BK1169.out 4; have hfz32_5 := blk_frozen BK1169.out 5
                              go_wp2_with (first | ((with_reducible refine gate_callee (f := 79) rfl ?_); refine goesM_ (some 64) Try.func79 #[.slice A1168_4 ((rd_T104 l0 x9_1).f4).length c1168_4, .slice A1 l1.length c1, .int .i64 x11_9, .int .i64 (wrap64 (a3 - 1))] ?_; (with_reducible refine (ih kj22 (by have := HK1.out; have := HJ4.out; have := HJ9.out; have := HJ22.out; omega) _ _ ((rd_T104 l0 x9_1).f4) _ _ l1 x11_9 (wrap64 (a3 - 1)) true _ ?side1 ?side2 ?side3 ?side4 A28.out).mono ?_); (case side1 => repeat (first | exact (Kd.C_below HR1168_4.out HB.out) | (with_reducible refine Kd.C_alloc ?_ _) | (with_reducible refine Kd.C_drewN ?_ _) | (with_reducible refine Kd.C_drew ?_))); (case side2 => exact HC1168_4.out); (case side3 => repeat (first | exact (Kd.C_below HR1.out HB.out) | (with_reducible refine Kd.C_alloc ?_ _) | (with_reducible refine Kd.C_drewN ?_ _) | (with_reducible refine Kd.C_drew ?_))); (case side4 => exact HC1.out); rintro e w33 ⟨rfl, hb⟩; refine ⟨_, rfl, ?_⟩; have n0_ := Aside0.mk (blk_below (g := gb1169) (o := .cells #[.int .i64 ((rd_T104 l0 x9_1).f0), .int .i64 ((rd_T104 l0 x9_1).f1), .int .i64 ((rd_T104 l0 x9_1).f2), .int .i64 ((rd_T104 l0 x9_1).f3), .slice A1168_4 ((rd_T104 l0 x9_1).f4).length c1168_4, .slice A1168_5 ((rd_T104 l0 x9_1).f5).length c1168_5] 104 (0, 0)) (q1_ BK1169) hb); have n1_ := Aside0.mk (below_step (q2_ HB GE1169) hb); clear BK1169; clear HB; have BK1169 := n0_; have HB := n1_; clear n0_ n1_; (try clear hb); (try clear hb2); (try clear hk); (try clear hi); obtain ⟨hcz34_0, hcz34_1, hcz34_2, hcz34_3, hcz34_4, hcz34_5, hfz34_0, hfz34_1, hfz34_2, hfz34_3, hfz34_4, hfz34_5⟩ := bz6_ BK1169) | (go_at_call 79; (with_reducible refine (ih kj22 (by have := HK1.out; have := HJ4.out; have := HJ9.out; have := HJ22.out; omega) _ _ ((rd_T104 l0 x9_1).f5) _ _ l1 x11_9 (wrap64 (a3 - 1)) true _ ?side1 ?side2 ?side3 ?side4 A30.out).mono ?_); (case side1 => repeat (first | exact (Kd.C_below HR1168_5.out HB.out) | (with_reducible refine Kd.C_alloc ?_ _) | (with_reducible refine Kd.C_drewN ?_ _) | (with_reducible refine Kd.C_drew ?_))); (case side2 => exact HC1168_5.out); (case side3 => repeat (first | exact (Kd.C_below HR1.out HB.out) | (with_reducible refine Kd.C_alloc ?_ _) | (with_reducible refine Kd.C_drewN ?_ _) | (with_reducible refine Kd.C_drew ?_))); (case side4 => exact HC1.out); rintro e w35 ⟨rfl, hb⟩; have n0_ := Aside0.mk (blk_below (g := gb1169) (o := .cells #[.int .i64 ((rd_T104 l0 x9_1).f0), .int .i64 ((rd_T104 l0 x9_1).f1), .int .i64 ((rd_T104 l0 x9_1).f2), .int .i64 ((rd_T104 l0 x9_1).f3), .slice A1168_4 ((rd_T104 l0 x9_1).f4).length c1168_4, .slice A1168_5 ((rd_T104 l0 x9_1).f5).length c1168_5] 104 (0, 0)) (q1_ BK1169) hb); have n1_ := Aside0.mk (below_step (q2_ HB GE1169) hb); clear BK1169; clear HB; have BK1169 := n0_; have HB := n1_; clear n0_ n1_; (try clear hb); (try clear hb2); (try clear hk); (try clear hi)))
                              go_roundg kj22
                              case measure => have := HK1.out; have := HJ4.out; have := HJ9.out; have := HJ22.out; omega
                              case rel => exact ⟨(wrap64 (x9_1 + 1)), (by first | rfl | (simp; done) | (simp [*]; done)), H', ⟨by have := HK1.out; have := HJ4.out; have := HJ9.out; have := HJ22.out; omega⟩, ⟨by repeat (first | (with_reducible first | exact HB.out | apply below_alloc | apply pw_below_drewN | apply below_drew1 | refine below_set ?_ GE1169.out) | exact HB.out)⟩⟩
                            · replace c31 := Bool.eq_false_iff.mpr c31; subst c31
                              have H1 : (some false) = some r := by rw [if_neg (show ¬ (false = true) by decide)] at H; exact H
                              clear H; have H := H1; clear H1; obtain rfl := Option.some.inj H; have hcz36_0 : wc.cell? ⟨gb1169, 0, none⟩ = some (.int .i64 ((rd_T104 l0 x9_1).f0)) := (blk_cell BK1169.out 0).trans rfl; have hcz36_1 : wc.cell? ⟨gb1169, 1, none⟩ = some (.int .i64 ((rd_T104 l0 x9_1).f1)) := (blk_cell BK1169.out 1).trans rfl; have hcz36_2 : wc.cell? ⟨gb1169, 2, none⟩ = some (.int .i64 ((rd_T104 l0 x9_1).f2)) := (blk_cell BK1169.out 2).trans rfl; have hcz36_3 : wc.cell? ⟨gb1169, 3, none⟩ = some (.int .i64 ((rd_T104 l0 x9_1).f3)) := (blk_cell BK1169.out 3).trans rfl; have hcz36_4 : wc.cell? ⟨gb1169, 4, none⟩ = some (.slice A1168_4 ((rd_T104 l0 x9_1).f4).length c1168_4) := (blk_cell BK1169.out 4).trans rfl; have hcz36_5 : wc.cell? ⟨gb1169, 5, none⟩ = some (.slice A1168_5 ((rd_T104 l0 x9_1).f5).length c1168_5) := (blk_cell BK1169.out 5).trans rfl; have hfz36_0 := blk_frozen BK1169.out 0; have hfz36_1 := blk_frozen BK1169.out 1; have hfz36_2 := blk_frozen BK1169.out 2; have hfz36_3 := blk_frozen BK1169.out 3; have hfz36_4 := blk_frozen BK1169.out 4; have hfz36_5 := blk_frozen BK1169.out 5
                              go_wp2_with (first | ((with_reducible refine gate_callee (f := 79) rfl ?_); refine goesM_ (some 64) Try.func79 #[.slice A1168_4 ((rd_T104 l0 x9_1).f4).length c1168_4, .slice A1 l1.length c1, .int .i64 x11_9, .int .i64 (wrap64 (a3 - 1))] ?_; (with_reducible refine (ih kj22 (by have := HK1.out; have := HJ4.out; have := HJ9.out; have := HJ22.out; omega) _ _ ((rd_T104 l0 x9_1).f4) _ _ l1 x11_9 (wrap64 (a3 - 1)) true _ ?side1 ?side2 ?side3 ?side4 A28.out).mono ?_); (case side1 => repeat (first | exact (Kd.C_below HR1168_4.out HB.out) | (with_reducible refine Kd.C_alloc ?_ _) | (with_reducible refine Kd.C_drewN ?_ _) | (with_reducible refine Kd.C_drew ?_))); (case side2 => exact HC1168_4.out); (case side3 => repeat (first | exact (Kd.C_below HR1.out HB.out) | (with_reducible refine Kd.C_alloc ?_ _) | (with_reducible refine Kd.C_drewN ?_ _) | (with_reducible refine Kd.C_drew ?_))); (case side4 => exact HC1.out); rintro e w37 ⟨rfl, hb⟩; refine ⟨_, rfl, ?_⟩; have n0_ := Aside0.mk (blk_below (g := gb1169) (o := .cells #[.int .i64 ((rd_T104 l0 x9_1).f0), .int .i64 ((rd_T104 l0 x9_1).f1), .int .i64 ((rd_T104 l0 x9_1).f2), .int .i64 ((rd_T104 l0 x9_1).f3), .slice A1168_4 ((rd_T104 l0 x9_1).f4).length c1168_4, .slice A1168_5 ((rd_T104 l0 x9_1).f5).length c1168_5] 104 (0, 0)) (q1_ BK1169) hb); have n1_ := Aside0.mk (below_step (q2_ HB GE1169) hb); clear BK1169; clear HB; have BK1169 := n0_; have HB := n1_; clear n0_ n1_; (try clear hb); (try clear hb2); (try clear hk); (try clear hi); obtain ⟨hcz38_0, hcz38_1, hcz38_2, hcz38_3, hcz38_4, hcz38_5, hfz38_0, hfz38_1, hfz38_2, hfz38_3, hfz38_4, hfz38_5⟩ := bz6_ BK1169) | (go_at_call 79; (with_reducible refine (ih kj22 (by have := HK1.out; have := HJ4.out; have := HJ9.out; have := HJ22.out; omega) _ _ ((rd_T104 l0 x9_1).f5) _ _ l1 x11_9 (wrap64 (a3 - 1)) false _ ?side1 ?side2 ?side3 ?side4 A30.out).mono ?_); (case side1 => repeat (first | exact (Kd.C_below HR1168_5.out HB.out) | (with_reducible refine Kd.C_alloc ?_ _) | (with_reducible refine Kd.C_drewN ?_ _) | (with_reducible refine Kd.C_drew ?_))); (case side2 => exact HC1168_5.out); (case side3 => repeat (first | exact (Kd.C_below HR1.out HB.out) | (with_reducible refine Kd.C_alloc ?_ _) | (with_reducible refine Kd.C_drewN ?_ _) | (with_reducible refine Kd.C_drew ?_))); (case side4 => exact HC1.out); rintro e w39 ⟨rfl, hb⟩; have n0_ := Aside0.mk (blk_below (g := gb1169) (o := .cells #[.int .i64 ((rd_T104 l0 x9_1).f0), .int .i64 ((rd_T104 l0 x9_1).f1), .int .i64 ((rd_T104 l0 x9_1).f2), .int .i64 ((rd_T104 l0 x9_1).f3), .slice A1168_4 ((rd_T104 l0 x9_1).f4).length c1168_4, .slice A1168_5 ((rd_T104 l0 x9_1).f5).length c1168_5] 104 (0, 0)) (q1_ BK1169) hb); have n1_ := Aside0.mk (below_step (q2_ HB GE1169) hb); clear BK1169; clear HB; have BK1169 := n0_; have HB := n1_; clear n0_ n1_; (try clear hb); (try clear hb2); (try clear hk); (try clear hi)))
                              go_ret
                              exact ⟨by first | rfl | (simp [errW_none, errW_some] <;> rfl) | (simp [*, errW_none, errW_some] <;> rfl), by repeat (first | (with_reducible first | exact HB.out | apply below_alloc | apply pw_below_drewN | apply below_drew1 | refine below_set ?_ GE1169.out) | exact HB.out)⟩
                          · replace c29 := Bool.eq_false_iff.mpr c29; subst c29
                            have H1 : (some false) = some r := by rw [if_neg (show ¬ (false = true) by decide)] at H; exact H
                            clear H; have H := H1; clear H1; obtain rfl := Option.some.inj H; have hcz40_0 : wc.cell? ⟨gb1169, 0, none⟩ = some (.int .i64 ((rd_T104 l0 x9_1).f0)) := (blk_cell BK1169.out 0).trans rfl; have hcz40_1 : wc.cell? ⟨gb1169, 1, none⟩ = some (.int .i64 ((rd_T104 l0 x9_1).f1)) := (blk_cell BK1169.out 1).trans rfl; have hcz40_2 : wc.cell? ⟨gb1169, 2, none⟩ = some (.int .i64 ((rd_T104 l0 x9_1).f2)) := (blk_cell BK1169.out 2).trans rfl; have hcz40_3 : wc.cell? ⟨gb1169, 3, none⟩ = some (.int .i64 ((rd_T104 l0 x9_1).f3)) := (blk_cell BK1169.out 3).trans rfl; have hcz40_4 : wc.cell? ⟨gb1169, 4, none⟩ = some (.slice A1168_4 ((rd_T104 l0 x9_1).f4).length c1168_4) := (blk_cell BK1169.out 4).trans rfl; have hcz40_5 : wc.cell? ⟨gb1169, 5, none⟩ = some (.slice A1168_5 ((rd_T104 l0 x9_1).f5).length c1168_5) := (blk_cell BK1169.out 5).trans rfl; have hfz40_0 := blk_frozen BK1169.out 0; have hfz40_1 := blk_frozen BK1169.out 1; have hfz40_2 := blk_frozen BK1169.out 2; have hfz40_3 := blk_frozen BK1169.out 3; have hfz40_4 := blk_frozen BK1169.out 4; have hfz40_5 := blk_frozen BK1169.out 5
                            go_wp2_with (first | ((with_reducible refine gate_callee (f := 79) rfl ?_); refine goesM_ (some 64) Try.func79 #[.slice A1168_4 ((rd_T104 l0 x9_1).f4).length c1168_4, .slice A1 l1.length c1, .int .i64 x11_9, .int .i64 (wrap64 (a3 - 1))] ?_; (with_reducible refine (ih kj22 (by have := HK1.out; have := HJ4.out; have := HJ9.out; have := HJ22.out; omega) _ _ ((rd_T104 l0 x9_1).f4) _ _ l1 x11_9 (wrap64 (a3 - 1)) false _ ?side1 ?side2 ?side3 ?side4 A28.out).mono ?_); (case side1 => repeat (first | exact (Kd.C_below HR1168_4.out HB.out) | (with_reducible refine Kd.C_alloc ?_ _) | (with_reducible refine Kd.C_drewN ?_ _) | (with_reducible refine Kd.C_drew ?_))); (case side2 => exact HC1168_4.out); (case side3 => repeat (first | exact (Kd.C_below HR1.out HB.out) | (with_reducible refine Kd.C_alloc ?_ _) | (with_reducible refine Kd.C_drewN ?_ _) | (with_reducible refine Kd.C_drew ?_))); (case side4 => exact HC1.out); rintro e w41 ⟨rfl, hb⟩; refine ⟨_, rfl, ?_⟩; have n0_ := Aside0.mk (blk_below (g := gb1169) (o := .cells #[.int .i64 ((rd_T104 l0 x9_1).f0), .int .i64 ((rd_T104 l0 x9_1).f1), .int .i64 ((rd_T104 l0 x9_1).f2), .int .i64 ((rd_T104 l0 x9_1).f3), .slice A1168_4 ((rd_T104 l0 x9_1).f4).length c1168_4, .slice A1168_5 ((rd_T104 l0 x9_1).f5).length c1168_5] 104 (0, 0)) (q1_ BK1169) hb); have n1_ := Aside0.mk (below_step (q2_ HB GE1169) hb); clear BK1169; clear HB; have BK1169 := n0_; have HB := n1_; clear n0_ n1_; (try clear hb); (try clear hb2); (try clear hk); (try clear hi)))
                            go_ret
                            exact ⟨by first | rfl | (simp [errW_none, errW_some] <;> rfl) | (simp [*, errW_none, errW_some] <;> rfl), by repeat (first | (with_reducible first | exact HB.out | apply below_alloc | apply pw_below_drewN | apply below_drew1 | refine below_set ?_ GE1169.out) | exact HB.out)⟩
              · rw [if_neg c9] at H
                exact absurd H (by simp)
            · rw [if_neg c8] at H
              exact absurd H (by simp)
          · replace c7 := Bool.eq_false_iff.mpr c7; subst c7
            have H1 : (some true) = some r := by rw [if_neg (show ¬ (false = true) by decide)] at H; exact H
            clear H; have H := H1; clear H1; obtain rfl := Option.some.inj H
            go_wp2
            go_ret
            exact ⟨by first | rfl | (simp [errW_none, errW_some] <;> rfl) | (simp [*, errW_none, errW_some] <;> rfl), by repeat (first | (with_reducible first | exact HB.out | apply below_alloc | apply pw_below_drewN | apply below_drew1) | exact HB.out)⟩
end Go.Proofs.Ythbflhimmmfonaa.P
