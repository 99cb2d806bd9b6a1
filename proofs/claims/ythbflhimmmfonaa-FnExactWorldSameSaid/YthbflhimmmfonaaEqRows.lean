/- Comparison of two rows of rows of numbers by the library, by its contract; and impl.sameQueues; no condition beyond the reading of the lists. -/
import Derived.Test.YthbflhimmmfonaaSame
import Derived.Test.YthbflhimmmfonaaFSlicesEqualIntInt
namespace Go.Proofs.Ythbflhimmmfonaa.P
open Go.RowKit Go.Maps Go.Proofs.YthbflhimmmfonaaW.PrintWords Go.Proofs.YthbflhimmmfonaaW.PrintLast Go.Proofs.YthbflhimmmfonaaW.PrintMore
attribute [local go_sem] max2_int min2_int max_two min_two max_three min_three max_four min_four
set_option linter.unusedVariables false
set_option linter.unusedSimpArgs false
def eqM2 {α β : Type} (T : α → β → Option Bool) : List α → List β → Option Bool
  | [], _ => some true
  | x :: t, y :: u => (T x y).bind fun b => if b = true then eqM2 T t u else some false
  | _ :: _, [] => none
def eqL2 {α β : Type} (T : α → β → Option Bool) (a : List α) (b : List β) : Option Bool := if a.length = b.length then eqM2 T a b else some false
theorem eqM2_mono {α β : Type} {T T' : α → β → Option Bool} (h : ∀ x y, LeO (T x y) (T' x y)) : ∀ (a : List α) (b : List β), LeO (eqM2 T a b) (eqM2 T' a b)
  | [], _ => LeO.refl _
  | x :: t, y :: u => LeO.bind (h x y) fun b => LeO.ite (eqM2_mono h t u) (LeO.refl _)
  | _ :: _, [] => LeO.refl _
theorem eqL2_mono {α β : Type} {T T' : α → β → Option Bool} (h : ∀ x y, LeO (T x y) (T' x y)) (a : List α) (b : List β) : LeO (eqL2 T a b) (eqL2 T' a b) := LeO.ite (eqM2_mono h a b) (LeO.refl _)
theorem drawn_below {w w' : World} (h : Drawn0 w w') : Below w.heap.size w w' := by
  obtain ⟨n, rfl⟩ := h
  exact pw_below_drewN (Below.refl _ _) n
def SaysRow (T : List Int → List Int → Option Bool) : Prop := ∀ (x y : List Int) (A0 : Option Addr) (c0 : Nat) (B0 : Option Addr) (d0 : Nat) (r : Bool) (w : World),
    Kd.C (Kd.int .i64) w A0 x.length x → x.length ≤ c0 → Kd.C (Kd.int .i64) w B0 y.length y → y.length ≤ d0 → T x y = some r →
    Calls Try.prog 46 #[.slice A0 x.length c0, .slice B0 y.length d0] w fun e w' => e = .returned (.bool r) ∧ Below w.heap.size w w'
set_option maxHeartbeats 4000000 in
set_option maxRecDepth 100000 in
theorem rowEq_calls (T : (List Int) → (List Int) → Option Bool) (hT : SaysRow T) (A B : Option Addr) (c d : Nat) (a : List (List Int)) (b : List (List Int)) (r : Bool) (w : World) (ha : Kd.C (Kd.slice 3 (Kd.int .i64)) w A a.length a) (hb : Kd.C (Kd.slice 3 (Kd.int .i64)) w B b.length b) (h : eqL2 T a b = some r) :
    Calls Try.prog 87 #[.slice A a.length c, .slice B b.length d, .func (.func 46) #[] #[]] w fun e w' => e = .returned (.bool r) ∧ Below w.heap.size w w' := by
  have HT := Aside0.mk hT
  have HA := Aside0.mk ha
  have HB := Aside0.mk hb
  have H := Aside0.mk h
  have hla : a.length ≤ 9223372036854775807 := ha.2.1
  have hlb : b.length ≤ 9223372036854775807 := hb.2.1
  clear hT ha hb h
  by_cases hn : a.length = b.length
  · have hnz : ((a.length : Int) != (b.length : Int)) = false := bne_eq_false_iff_eq.mpr (by omega)
    have h0 := H.out
    unfold eqL2 at h0
    rw [if_pos hn] at h0
    have H0 := Aside0.mk h0
    have HNE := Aside0.mk hn
    clear h0 H hn
    go_enter Try.func87, Try.ntmps87
    go_wp2
    go_loopg [7, 8, 9, 17] a.length (fun gg _ _ _ p wr => ∃ kk : Nat, kk ≤ a.length ∧ a.length - kk ≤ gg ∧ p = .int .i64 kk ∧ Aside0 (eqM2 T (a.drop kk) (b.drop kk) = some r) ∧ Aside0 (Below w.heap.size w wr))
    case atStart => exact ⟨0, Nat.zero_le _, by omega, rfl, H0, ⟨Below.refl _ w⟩⟩
    case round =>
      obtain ⟨kk, hkk, hg, rfl, HE, HW⟩ := hrel
      clear H0
      by_cases hlt : kk < a.length
      · have hltz : decide ((kk : Int) < (a.length : Int)) = true := decide_eq_true (by omega)
        have p1 : 0 ≤ (kk : Int) := by omega
        have q1 : (kk : Int) < (a.length : Int) := by omega
        have q2 : (kk : Int) < (b.length : Int) := by have := HNE.out; omega
        obtain ⟨ad, A0, c0, e1, f0, hc0, HQ0⟩ := at_L1 (Kd.C_below HA.out HW.out) (kk : Int) p1 q1
        obtain ⟨bd, B0, d0, e2, g0, gc0, G0⟩ := at_L1 (Kd.C_below HB.out HW.out) (kk : Int) p1 q2
        cases e1
        cases e2
        rw [Int.toNat_natCast] at f0 g0
        have he := HE.out
        rw [show a.drop kk = rd_L1 a (kk : Int) :: a.drop (kk + 1) from by rw [List.drop_eq_getElem_cons hlt]; unfold rd_L1; rw [Int.toNat_natCast, List.getD_eq_getElem?_getD, List.getElem?_eq_getElem hlt]; rfl,
          show b.drop kk = rd_L1 b (kk : Int) :: b.drop (kk + 1) from by rw [List.drop_eq_getElem_cons (by have := HNE.out; omega)]; unfold rd_L1; rw [Int.toNat_natCast, List.getD_eq_getElem?_getD, List.getElem?_eq_getElem (by have := HNE.out; omega)]; rfl] at he
        clear HE
        obtain ⟨v, hv1, hv2⟩ := Option.bind_eq_some_iff.1 he
        clear he
        generalize rd_L1 a (kk : Int) = x at *
        generalize rd_L1 b (kk : Int) = y at *
        have HC := Aside0.mk (fun W h0 g0 => HT.out x y A0 c0 B0 d0 v W h0 hc0 g0 gc0 hv1)
        have HHx0 := Aside0.mk HQ0
        clear HQ0
        have HHy0 := Aside0.mk G0
        clear G0
        clear hv1
        replace p1 := eq_true p1
        replace q1 := eq_true q1
        replace q2 := eq_true q2
        cases v with
        | false =>
          obtain rfl := Option.some.inj (show some false = some r by simpa using hv2)
          clear hv2
          go_wp2_with (go_at_call 46; refine (HC.out _ HHx0.out HHy0.out).mono ?_; rintro e w' ⟨rfl, hb'⟩; have n2 := Aside0.mk (below_step HW.out hb'); clear HW HC hb' f0 g0; have HW := n2; clear n2)
          go_ret
          exact ⟨by first | rfl | (simp; done), (by repeat (first | exact HW.out | (with_reducible apply pw_below_drewN) | (with_reducible apply below_drew1) | (with_reducible apply below_alloc) | exact Below.refl _ _))⟩
        | true =>
          have HN := Aside0.mk (show eqM2 T (a.drop (kk + 1)) (b.drop (kk + 1)) = some r by simpa using hv2)
          clear hv2
          go_wp2_with (go_at_call 46; refine (HC.out _ HHx0.out HHy0.out).mono ?_; rintro e w' ⟨rfl, hb'⟩; have n2 := Aside0.mk (below_step HW.out hb'); clear HW HC hb' f0 g0; have HW := n2; clear n2)
          go_roundg (a.length - (kk + 1))
          case measure => omega
          case rel => exact ⟨kk + 1, by omega, by omega, by go_num, HN, ⟨(by repeat (first | exact HW.out | (with_reducible apply pw_below_drewN) | (with_reducible apply below_drew1) | (with_reducible apply below_alloc) | exact Below.refl _ _))⟩⟩
      · have hltz : decide ((kk : Int) < (a.length : Int)) = false := decide_eq_false (by omega)
        have he := HE.out
        rw [List.drop_of_length_le (by omega)] at he
        obtain rfl := Option.some.inj (show some true = some r from he)
        clear he HE
        go_wp2
        go_ret
        exact ⟨by first | rfl | (simp; done), (by repeat (first | exact HW.out | (with_reducible apply pw_below_drewN) | (with_reducible apply below_drew1) | (with_reducible apply below_alloc) | exact Below.refl _ _))⟩
  · have hnz : ((a.length : Int) != (b.length : Int)) = true := bne_iff_ne.mpr (by omega)
    have h0 := H.out
    unfold eqL2 at h0
    rw [if_neg hn] at h0
    obtain rfl := Option.some.inj h0
    clear h0 H
    go_enter Try.func87, Try.ntmps87
    go_wp2
    go_ret
    exact ⟨by first | rfl | (simp; done), (by repeat (first | (with_reducible apply pw_below_drewN) | (with_reducible apply below_drew1) | (with_reducible apply below_alloc) | exact Below.refl _ _))⟩
theorem rows_say (k : Nat) : SaysRow (slices_Equal_int_int.f k) := fun x y A0 c0 B0 d0 r w h hc g gc hv => (slices_Equal_int_int.calls k A0 c0 x B0 d0 y r w h hc g gc hv).mono (fun e w' q => ⟨q.1, drawn_below q.2⟩)
def impl_sameQueues.f (k : Nat) (l0 l1 : List (List Int)) : Option Bool := eqL2 (slices_Equal_int_int.f k) l0 l1
theorem impl_sameQueues.mono : ∀ a0 a1 k, LeO (impl_sameQueues.f k a0 a1) (impl_sameQueues.f (k + 1) a0 a1) := fun a0 a1 k => eqL2_mono (fun x y => slices_Equal_int_int.mono x y k) a0 a1
theorem impl_sameQueues.calls (k : Nat) (A0 : Option Addr) (c0 : Nat) (l0 : List (List Int)) (A1 : Option Addr) (c1 : Nat) (l1 : List (List Int)) (r : Bool) (w : World) (hr0 : Kd.C (Kd.slice 3 (Kd.int .i64)) w A0 l0.length l0) (hc0 : l0.length ≤ c0) (hr1 : Kd.C (Kd.slice 3 (Kd.int .i64)) w A1 l1.length l1) (hc1 : l1.length ≤ c1) (h : impl_sameQueues.f k l0 l1 = some r) :
    Calls Try.prog 48 #[.slice A0 l0.length c0, .slice A1 l1.length c1] w fun e w' => e = .returned (.bool r) ∧ Below w.heap.size w w' := by
  have HE := Aside0.mk (rowEq_calls _ (rows_say k) A0 A1 c0 c1 l0 l1 r w hr0 hr1 h)
  clear hr0 hr1 h hc0 hc1
  go_enter Try.func48, Try.ntmps48
  go_wp2_with (go_at_call 87; refine HE.out.mono ?_; rintro e w' ⟨rfl, hb'⟩; have HB := Aside0.mk hb'; clear HE hb')
  go_ret
  exact ⟨by first | rfl | (simp; done), (by repeat (first | exact HB.out | (with_reducible apply pw_below_drewN) | (with_reducible apply below_drew1) | (with_reducible apply below_alloc) | exact Below.refl _ _))⟩
end Go.Proofs.Ythbflhimmmfonaa.P
