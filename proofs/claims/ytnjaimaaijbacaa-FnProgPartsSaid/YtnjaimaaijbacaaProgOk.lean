/- impl.ProgOk by its contract: its closure, the library's search with that closure, and the function; no condition beyond the reading of the lists. -/
import Derived.Test.YtnjaimaaijbacaaAllOk
namespace Go.Proofs.Ytnjaimaaijbacaa.P
open Go.RowKit Go.Maps Go.Proofs.YtnjaimaaijbacaaW.PrintWords Go.Proofs.YtnjaimaaijbacaaW.PrintLast Go.Proofs.YtnjaimaaijbacaaW.PrintMore
attribute [local go_sem] max2_int min2_int max_two min_two max_three min_three max_four min_four
set_option linter.unusedVariables false
set_option linter.unusedSimpArgs false

/-- What a question asked of each of a list comes to: the first that fails ends it. -/
def listG {α : Type} (T : α → Option Bool) : List α → Option Bool
  | [] => some true
  | x :: t => (T x).bind fun b => if b = true then listG T t else some false
theorem listG_mono {α : Type} {T T' : α → Option Bool} (h : ∀ x, LeO (T x) (T' x)) : ∀ l, LeO (listG T l) (listG T' l)
  | [] => LeO.refl _
  | x :: t => LeO.bind (h x) fun b => LeO.ite (listG_mono h t) (LeO.refl _)
theorem progOk1_calls (k : Nat) (A : Option Addr) (c : Nat) (l : List S29) (r : Bool) (w : World) (hr : Kd.C k29 w A l.length l) (hc : l.length ≤ c) (h : impl_StmtsOk.f k l = some r) :
    Calls Try.prog 58 #[.slice A l.length c] w fun e w' => e = .returned (.bool (!r)) ∧ Below w.heap.size w w' := by
  have HI := Aside0.mk (impl_StmtsOk.calls k A c l r w hr hc h)
  clear hr h
  go_enter Try.func58, Try.ntmps58
  go_wp2_with (go_at_call 25; refine HI.out.mono ?_; rintro e w' ⟨rfl, hb⟩; have HB := Aside0.mk hb; clear hb)
  go_ret
  exact ⟨by first | rfl | (simp; done), (by repeat (first | exact HB.out | (with_reducible apply pw_below_drewN) | (with_reducible apply below_drew1) | (with_reducible apply below_alloc) | exact Below.refl _ _))⟩
set_option maxHeartbeats 4000000 in
theorem pgIdx_calls (k : Nat) (A : Option Addr) (c : Nat) (l : List (List S29)) (r : Bool) (w : World) (hr : Kd.C (Kd.slice 29 k29) w A l.length l) (h : listG (impl_StmtsOk.f k) l = some r) :
    Calls Try.prog 74 #[.slice A l.length c, .func (.func 58) #[] #[]] w fun e w' => (∃ i : Int, e = .returned (.int .i64 i) ∧ decide (0 ≤ i) = !r) ∧ Below w.heap.size w w' := by
  have HR := Aside0.mk hr
  have H := Aside0.mk h
  have hl : l.length ≤ 9223372036854775807 := hr.2.1
  clear hr h
  go_enter Try.func74, Try.ntmps74
  go_wp2
  go_loopg [5, 8] l.length (fun gg _ s8 wr => ∃ kk : Nat, kk ≤ l.length ∧ l.length - kk ≤ gg ∧ s8 = .int .i64 kk ∧ Aside0 (listG (impl_StmtsOk.f k) (l.drop kk) = some r) ∧ Aside0 (Below w.heap.size w wr))
  case atStart => exact ⟨0, Nat.zero_le _, by omega, rfl, H, ⟨Below.refl _ w⟩⟩
  case round =>
    obtain ⟨kk, hkk, hg, rfl, HA, HB⟩ := hrel
    clear H
    by_cases hlt : kk < l.length
    · have hltz : decide ((kk : Int) < (l.length : Int)) = true := decide_eq_true (by omega)
      have p1 : 0 ≤ (kk : Int) := by omega
      have q1 : (kk : Int) < (l.length : Int) := by omega
      obtain ⟨ad, cs, e1, _, hK, hc0⟩ := Kd.C_get (Kd.C_below HR.out HB.out) ([] : List S29) (kk : Int) p1 q1
      obtain ⟨A0, c0, rfl, hc0', H0⟩ := hK
      have hq : wr.cell? (ad.add ((kk : Int).toNat * 1 + 0)) = some (.slice A0 (l.getD (kk : Int).toNat []).length c0) := hc0 0 _ rfl
      rw [Nat.mul_one, Nat.add_zero, Int.toNat_natCast] at hq
      rw [Int.toNat_natCast] at hc0' H0
      clear hc0
      cases e1
      have ex : l.drop kk = l.getD kk [] :: l.drop (kk + 1) := by
        rw [List.drop_eq_getElem_cons hlt, List.getD_eq_getElem?_getD, List.getElem?_eq_getElem hlt]
        rfl
      have ha := HA.out
      rw [ex] at ha
      clear HA ex
      obtain ⟨b, hb1, hb2⟩ := Option.bind_eq_some_iff.1 ha
      clear ha
      generalize l.getD kk [] = x at *
      have HC := Aside0.mk (fun W h0 => progOk1_calls k A0 c0 x b W h0 hc0' hb1)
      have HH := Aside0.mk H0
      clear hb1 H0
      replace p1 := eq_true p1
      replace q1 := eq_true q1
      cases b with
      | false =>
        obtain rfl := Option.some.inj (show some false = some r by simpa using hb2)
        clear hb2
        go_wp2_with (go_at_call 58; refine (HC.out _ HH.out).mono ?_; rintro e w' ⟨rfl, hb'⟩; have n2 := Aside0.mk (below_step HB.out hb'); clear HB HC hb' hq; have HB := n2; clear n2)
        go_ret
        exact ⟨⟨(kk : Int), rfl, by rw [decide_eq_true (by omega : (0 : Int) ≤ kk)]; rfl⟩, (by repeat (first | exact HB.out | (with_reducible apply pw_below_drewN) | (with_reducible apply below_drew1) | (with_reducible apply below_alloc) | exact Below.refl _ _))⟩
      | true =>
        have HN := Aside0.mk (show listG (impl_StmtsOk.f k) (l.drop (kk + 1)) = some r by simpa using hb2)
        clear hb2
        go_wp2_with (go_at_call 58; refine (HC.out _ HH.out).mono ?_; rintro e w' ⟨rfl, hb'⟩; have n2 := Aside0.mk (below_step HB.out hb'); clear HB HC hb' hq; have HB := n2; clear n2)
        go_roundg (l.length - (kk + 1))
        case measure => omega
        case rel => exact ⟨kk + 1, by omega, by omega, by go_num, HN, ⟨(by repeat (first | exact HB.out | (with_reducible apply pw_below_drewN) | (with_reducible apply below_drew1) | (with_reducible apply below_alloc) | exact Below.refl _ _))⟩⟩
    · have hltz : decide ((kk : Int) < (l.length : Int)) = false := decide_eq_false (by omega)
      have ha := HA.out
      rw [List.drop_of_length_le (by omega)] at ha
      obtain rfl := Option.some.inj (show some true = some r from ha)
      clear ha HA
      go_wp2
      go_ret
      exact ⟨⟨-1, rfl, by rw [decide_eq_false (by omega)]; rfl⟩, (by repeat (first | exact HB.out | (with_reducible apply pw_below_drewN) | (with_reducible apply below_drew1) | (with_reducible apply below_alloc) | exact Below.refl _ _))⟩
theorem pgAny_calls (k : Nat) (A : Option Addr) (c : Nat) (l : List (List S29)) (r : Bool) (w : World) (hr : Kd.C (Kd.slice 29 k29) w A l.length l) (h : listG (impl_StmtsOk.f k) l = some r) :
    Calls Try.prog 57 #[.slice A l.length c, .func (.func 58) #[] #[]] w fun e w' => e = .returned (.bool (!r)) ∧ Below w.heap.size w w' := by
  have HI := Aside0.mk (pgIdx_calls k A c l r w hr h)
  clear hr h
  go_enter Try.func57, Try.ntmps57
  go_wp2_with (go_at_call 74; refine HI.out.mono ?_; rintro e w' ⟨⟨i, rfl, hi⟩, hb⟩; have HB := Aside0.mk hb; clear hb)
  go_ret
  exact ⟨by first | rfl | rw [hi], (by repeat (first | exact HB.out | (with_reducible apply pw_below_drewN) | (with_reducible apply below_drew1) | (with_reducible apply below_alloc) | exact Below.refl _ _))⟩
/-- What impl.ProgOk answers. -/
def impl_ProgOk.f (k : Nat) (l0 : List (List S29)) : Option Bool := if 1 ≤ (l0.length : Int) then if (l0.length : Int) ≤ 3 then listG (impl_StmtsOk.f k) l0 else some false else some false
theorem impl_ProgOk.mono : ∀ a0 k, LeO (impl_ProgOk.f k a0) (impl_ProgOk.f (k + 1) a0) := fun a0 k => LeO.ite (LeO.ite (listG_mono (fun x => impl_StmtsOk.mono x k) a0) (LeO.refl _)) (LeO.refl _)
set_option maxHeartbeats 2000000 in
theorem impl_ProgOk.calls (k : Nat) (A0 : Option Addr) (c0 : Nat) (l0 : List (List S29)) (r : Bool) (w : World) (hr0 : Kd.C (Kd.slice 29 k29) w A0 l0.length l0) (hc0 : l0.length ≤ c0) (h : impl_ProgOk.f k l0 = some r) :
    Calls Try.prog 33 #[.slice A0 l0.length c0] w fun e w' => e = .returned (.bool r) ∧ Below w.heap.size w w' := by
  have HR := Aside0.mk hr0
  clear hr0
  unfold impl_ProgOk.f at h
  by_cases h1 : 1 ≤ (l0.length : Int)
  · have b1 : decide (1 ≤ (l0.length : Int)) = true := decide_eq_true h1
    rw [if_pos h1] at h
    by_cases h2 : (l0.length : Int) ≤ 3
    · have b2 : decide ((l0.length : Int) ≤ 3) = true := decide_eq_true h2
      rw [if_pos h2] at h
      have HI := Aside0.mk (fun W hW => pgAny_calls k A0 c0 l0 r W hW h)
      clear h1 h2 h
      go_enter Try.func33, Try.ntmps33
      go_wp2_with (go_at_call 57; refine (HI.out _ HR.out).mono ?_; rintro e w' ⟨rfl, hb⟩; have HB := Aside0.mk hb; clear hb)
      go_ret
      exact ⟨by first | rfl | (simp; done), (by repeat (first | exact HB.out | (with_reducible apply pw_below_drewN) | (with_reducible apply below_drew1) | (with_reducible apply below_alloc) | exact Below.refl _ _))⟩
    · have b2 : decide ((l0.length : Int) ≤ 3) = false := decide_eq_false h2
      rw [if_neg h2] at h
      obtain rfl := Option.some.inj h
      clear h1 h2 h
      go_enter Try.func33, Try.ntmps33
      go_wp2
      go_ret
      exact ⟨by first | rfl | (simp; done), (by repeat (first | (with_reducible apply pw_below_drewN) | (with_reducible apply below_drew1) | (with_reducible apply below_alloc) | exact Below.refl _ _))⟩
  · have b1 : decide (1 ≤ (l0.length : Int)) = false := decide_eq_false h1
    rw [if_neg h1] at h
    obtain rfl := Option.some.inj h
    clear h1 h
    go_enter Try.func33, Try.ntmps33
    go_wp2
    go_ret
    exact ⟨by first | rfl | (simp; done), (by repeat (first | (with_reducible apply pw_below_drewN) | (with_reducible apply below_drew1) | (with_reducible apply below_alloc) | exact Below.refl _ _))⟩
end Go.Proofs.Ytnjaimaaijbacaa.P
