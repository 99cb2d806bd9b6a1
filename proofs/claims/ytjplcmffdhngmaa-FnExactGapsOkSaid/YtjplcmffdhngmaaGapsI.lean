/- impl.GapsOk by its contract: its closure, the library's search with that closure, and the function; no condition beyond the reading of the list. -/
import Derived.Test.YtjplcmffdhngmaaK
namespace Go.Proofs.Ytjplcmffdhngmaa.P
open Go.RowKit Go.Proofs.YtjplcmffdhngmaaW.PrintWords Go.Proofs.YtjplcmffdhngmaaW.PrintLast Go.Proofs.YtjplcmffdhngmaaW.PrintMore
attribute [local go_sem] max2_int min2_int max_two min_two max_three min_three max_four min_four
set_option linter.unusedVariables false
set_option linter.unusedSimpArgs false

/-- What the program's closure asks of a gap. -/
def gapOff (n : Int) : Bool := decide (n < 1) || decide (12 < n)
theorem gapOff_calls (n : Int) (w : World) : Calls Try.prog 51 #[.int .i64 n] w fun e w' => e = .returned (.bool (gapOff n)) ∧ Drawn0 w w' := by
  unfold gapOff
  by_cases h : n < 1
  · have h0 : decide (n < 1) = true := decide_eq_true h
    rw [h0]
    go_enter Try.func51, Try.ntmps51
    go_wp2
    go_ret
    exact ⟨by simp, by repeat (first | exact Drawn0.refl _ | apply Drawn0.step)⟩
  · have h0 : decide (n < 1) = false := decide_eq_false h
    rw [h0]
    go_enter Try.func51, Try.ntmps51
    go_wp2
    go_ret
    exact ⟨by simp, by repeat (first | exact Drawn0.refl _ | apply Drawn0.step)⟩
set_option maxHeartbeats 2000000 in
theorem gapIdx_calls (A : Option Addr) (c : Nat) (l : List Int) (w : World) (hr : Kd.C (Kd.int .i64) w A l.length l) :
    Calls Try.prog 64 #[.slice A l.length c, .func (.func 51) #[] #[]] w fun e w' => (∃ i : Int, e = .returned (.int .i64 i) ∧ decide (0 ≤ i) = l.any gapOff) ∧ Drawn0 w w' := by
  have HR := Aside0.mk hr
  have hl : l.length ≤ 9223372036854775807 := hr.2.1
  clear hr
  go_enter Try.func64, Try.ntmps64
  go_wp2
  go_loopg [5, 8] l.length (fun gg _ s8 wr => ∃ kk : Nat, kk ≤ l.length ∧ l.length - kk ≤ gg ∧ s8 = .int .i64 kk ∧ Aside0 (∀ j, j < kk → gapOff (rd l (j : Int)) = false) ∧ Drawn0 w wr)
  case atStart => exact ⟨0, Nat.zero_le _, by omega, rfl, ⟨fun j hj => absurd hj (Nat.not_lt_zero _)⟩, by repeat (first | exact Drawn0.refl _ | apply Drawn0.step)⟩
  case round =>
    obtain ⟨kk, hkk, hg, rfl, HA, ⟨m1, rfl⟩⟩ := hrel
    by_cases hlt : kk < l.length
    · have hltz : decide ((kk : Int) < (l.length : Int)) = true := decide_eq_true (by omega)
      have p1 : 0 ≤ (kk : Int) := by omega
      have q1 : (kk : Int) < (l.length : Int) := by omega
      obtain ⟨ad, e1, hx⟩ := Kd.at_int HR.out (kk : Int) p1 q1
      cases e1
      rw [Int.toNat_natCast] at hx
      replace p1 := eq_true p1
      replace q1 := eq_true q1
      have hcall := fun W => gapOff_calls (rd l (kk : Int)) W
      cases hq : gapOff (rd l (kk : Int)) with
      | true =>
        rw [hq] at hcall
        go_wp2_with (go_at_call 51; refine (hcall _).mono ?_; rintro e w' ⟨rfl, ⟨nd, rfl⟩⟩)
        go_ret
        refine ⟨⟨(kk : Int), rfl, ?_⟩, by repeat (first | exact Drawn0.refl _ | apply Drawn0.step)⟩
        rw [decide_eq_true (by omega : (0 : Int) ≤ kk), eq_comm, List.any_eq_true]
        refine ⟨rd l (kk : Int), ?_, hq⟩
        unfold rd
        rw [Int.toNat_natCast, List.getD_eq_getElem?_getD, List.getElem?_eq_getElem hlt]
        exact List.getElem_mem hlt
      | false =>
        rw [hq] at hcall
        go_wp2_with (go_at_call 51; refine (hcall _).mono ?_; rintro e w' ⟨rfl, ⟨nd, rfl⟩⟩)
        go_roundg (l.length - (kk + 1))
        case measure => omega
        case rel =>
          refine ⟨kk + 1, by omega, by omega, by go_num, ⟨fun j hj => ?_⟩, by repeat (first | exact Drawn0.refl _ | apply Drawn0.step)⟩
          by_cases e : j = kk
          · subst e
            exact hq
          · exact HA.out j (by omega)
    · have hltz : decide ((kk : Int) < (l.length : Int)) = false := decide_eq_false (by omega)
      go_wp2
      go_ret
      refine ⟨⟨-1, rfl, ?_⟩, by repeat (first | exact Drawn0.refl _ | apply Drawn0.step)⟩
      rw [decide_eq_false (by omega), eq_comm, List.any_eq_false]
      intro x hx
      obtain ⟨i, hi, rfl⟩ := List.mem_iff_getElem.1 hx
      have := HA.out i (by omega)
      unfold rd at this
      rw [Int.toNat_natCast, List.getD_eq_getElem?_getD, List.getElem?_eq_getElem hi] at this
      simpa using this
theorem gapAny_calls (A : Option Addr) (c : Nat) (l : List Int) (w : World) (hr : Kd.C (Kd.int .i64) w A l.length l) :
    Calls Try.prog 50 #[.slice A l.length c, .func (.func 51) #[] #[]] w fun e w' => e = .returned (.bool (l.any gapOff)) ∧ Drawn0 w w' := by
  have HR := Aside0.mk hr
  clear hr
  go_enter Try.func50, Try.ntmps50
  go_wp2_with (go_at_call 64; refine (gapIdx_calls _ _ l _ HR.out).mono ?_; rintro e w' ⟨⟨i, rfl, hi⟩, ⟨nd, rfl⟩⟩)
  go_ret
  exact ⟨by first | rfl | rw [hi], by repeat (first | exact Drawn0.refl _ | apply Drawn0.step)⟩
def impl_GapsOk.f (l0 : List Int) : Option Bool := some (decide (1 ≤ (l0.length : Int)) && decide ((l0.length : Int) ≤ 20) && !(l0.any gapOff))
theorem impl_GapsOk.calls (A0 : Option Addr) (c0 : Nat) (l0 : List Int) (r : Bool) (w : World) (hr0 : Kd.C (Kd.int .i64) w A0 l0.length l0) (hc0 : l0.length ≤ c0) (h : impl_GapsOk.f l0 = some r) :
    Calls Try.prog 21 #[.slice A0 l0.length c0] w fun e w' => e = .returned (.bool r) ∧ Below w.heap.size w w' := by
  have HR := Aside0.mk hr0
  clear hr0
  obtain rfl := Option.some.inj h
  clear h
  by_cases h1 : 1 ≤ (l0.length : Int)
  · have b1 : decide (1 ≤ (l0.length : Int)) = true := decide_eq_true h1
    by_cases h2 : (l0.length : Int) ≤ 20
    · have b2 : decide ((l0.length : Int) ≤ 20) = true := decide_eq_true h2
      clear h1 h2
      rw [b1, b2]
      go_enter Try.func21, Try.ntmps21
      go_wp2_with (go_at_call 50; refine (gapAny_calls _ _ l0 _ HR.out).mono ?_; rintro e w' ⟨rfl, ⟨nd, rfl⟩⟩)
      go_ret
      exact ⟨by simp, by repeat (first | exact Below.refl _ _ | (with_reducible apply pw_below_drewN) | (with_reducible apply below_drew1))⟩
    · have b2 : decide ((l0.length : Int) ≤ 20) = false := decide_eq_false h2
      clear h1 h2
      rw [b1, b2]
      go_enter Try.func21, Try.ntmps21
      go_wp2
      go_ret
      exact ⟨by simp, by repeat (first | exact Below.refl _ _ | (with_reducible apply pw_below_drewN) | (with_reducible apply below_drew1))⟩
  · have b1 : decide (1 ≤ (l0.length : Int)) = false := decide_eq_false h1
    clear h1
    rw [b1]
    go_enter Try.func21, Try.ntmps21
    go_wp2
    go_ret
    exact ⟨by simp, by repeat (first | exact Below.refl _ _ | (with_reducible apply pw_below_drewN) | (with_reducible apply below_drew1))⟩
end Go.Proofs.Ytjplcmffdhngmaa.P
