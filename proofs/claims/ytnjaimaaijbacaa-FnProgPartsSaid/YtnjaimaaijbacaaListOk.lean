/- impl.listOk and impl.stmtOk by their contracts, joined; no condition beyond the reading of the lists. -/
import Derived.Test.YtnjaimaaijbacaaStmtOkB
namespace Go.Proofs.Ytnjaimaaijbacaa.P
open Go.RowKit Go.Maps Go.Proofs.YtnjaimaaijbacaaW.PrintWords Go.Proofs.YtnjaimaaijbacaaW.PrintLast Go.Proofs.YtnjaimaaijbacaaW.PrintMore
attribute [local go_sem] max2_int min2_int max_two min_two max_three min_three max_four min_four
set_option linter.unusedVariables false
set_option linter.unusedSimpArgs false
def listM (T : S29 → Option Bool) : List S29 → Option Bool
  | [] => some true
  | x :: t => (T x).bind fun b => if b = true then listM T t else some false
def SaysT (T : S29 → Int → Int → Option Bool) : Prop := ∀ (x : S29) (A4 : Option Addr) (c4 : Nat) (A5 : Option Addr) (c5 : Nat) (deep room : Int) (r : Bool) (w : World), Kd.C k29 w A4 x.f4.length x.f4 → x.f4.length ≤ c4 → Kd.C k29 w A5 x.f5.length x.f5 → x.f5.length ≤ c5 → T x deep room = some r →
  Calls Try.prog 46 #[.agg #[.int .i64 x.f0, .int .i64 x.f1, .int .i64 x.f2, .int .i64 x.f3, .slice A4 x.f4.length c4, .slice A5 x.f5.length c5], .int .i64 deep, .int .i64 room] w fun e w' => e = .returned (.bool r) ∧ Below w.heap.size w w'
set_option maxHeartbeats 2000000 in
set_option maxRecDepth 100000 in
theorem listOk1_calls (T : S29 → Int → Int → Option Bool) (hT : SaysT T) (x : S29) (A4 : Option Addr) (c4 : Nat) (A5 : Option Addr) (c5 : Nat) (b1 b2 : Nat) (deep room : Int) (r : Bool) (w : World)
    (hd : w.cell? ⟨b1, 0, none⟩ = some (.int .i64 deep)) (hm : w.cell? ⟨b2, 0, none⟩ = some (.int .i64 room)) (h4 : Kd.C k29 w A4 x.f4.length x.f4) (hc4 : x.f4.length ≤ c4) (h5 : Kd.C k29 w A5 x.f5.length x.f5) (hc5 : x.f5.length ≤ c5) (h : T x deep room = some r) :
    Calls Try.prog 71 #[.agg #[.int .i64 x.f0, .int .i64 x.f1, .int .i64 x.f2, .int .i64 x.f3, .slice A4 x.f4.length c4, .slice A5 x.f5.length c5], .pointer (some ⟨b1, 0, none⟩), .pointer (some ⟨b2, 0, none⟩)] w fun e w' => e = .returned (.bool (!r)) ∧ Below w.heap.size w w' := by
  have HT := Aside0.mk hT
  have H4 := Aside0.mk h4
  have H5 := Aside0.mk h5
  have H := Aside0.mk h
  have l1 := World.block_lt_of_cell? w _ hd
  have l2 := World.block_lt_of_cell? w _ hm
  have m1 : ∀ o, (w.alloc o).cell? ⟨b1, 0, none⟩ = some (.int .i64 deep) := fun o => ((below_alloc (Below.refl _ w) o).cell l1).trans hd
  have m2 : ∀ o, (w.alloc o).cell? ⟨b2, 0, none⟩ = some (.int .i64 room) := fun o => ((below_alloc (Below.refl _ w) o).cell l2).trans hm
  have hu := Try.underlying29
  clear hT h4 h5 h
  go_enter Try.func71, Try.ntmps71
  go_wp2_with (go_at_call 46; refine (HT.out x A4 c4 A5 c5 deep room r _ (Kd.C_alloc H4.out _) hc4 (Kd.C_alloc H5.out _) hc5 H.out).mono ?_; rintro e w' ⟨rfl, hb⟩; have HB := Aside0.mk (below_step (below_alloc (Below.refl _ w) _) hb); clear hb)
  go_ret
  exact ⟨by first | rfl | (simp; done), (by repeat (first | exact HB.out | (with_reducible apply pw_below_drewN) | (with_reducible apply below_drew1) | (with_reducible apply below_alloc) | exact Below.refl _ _))⟩
set_option maxHeartbeats 4000000 in
theorem stIdx_calls (T : S29 → Int → Int → Option Bool) (hT : SaysT T) (A : Option Addr) (c : Nat) (l : List S29) (b1 b2 : Nat) (deep room : Int) (r : Bool) (w : World)
    (hd : w.cell? ⟨b1, 0, none⟩ = some (.int .i64 deep)) (hm : w.cell? ⟨b2, 0, none⟩ = some (.int .i64 room)) (hr : Kd.C k29 w A l.length l) (h : listM (fun x => T x deep room) l = some r) :
    Calls Try.prog 81 #[.slice A l.length c, .func (.func 71) #[] #[.pointer (some ⟨b1, 0, none⟩), .pointer (some ⟨b2, 0, none⟩)]] w fun e w' => (∃ i : Int, e = .returned (.int .i64 i) ∧ decide (0 ≤ i) = !r) ∧ Below w.heap.size w w' := by
  have HT := Aside0.mk hT
  have HR := Aside0.mk hr
  have H := Aside0.mk h
  have HD := Aside0.mk hd
  have HM := Aside0.mk hm
  have hl : l.length ≤ 9223372036854775807 := hr.2.1
  have l1 := World.block_lt_of_cell? w _ hd
  have l2 := World.block_lt_of_cell? w _ hm
  have hu := Try.underlying29
  clear hT hr h hd hm
  go_enter Try.func81, Try.ntmps81
  go_wp2
  go_loopg [5, 8] l.length (fun gg _ s8 wr => ∃ kk : Nat, kk ≤ l.length ∧ l.length - kk ≤ gg ∧ s8 = .int .i64 kk ∧ Aside0 (listM (fun x => T x deep room) (l.drop kk) = some r) ∧ Aside0 (Below w.heap.size w wr))
  case atStart => exact ⟨0, Nat.zero_le _, by omega, rfl, H, ⟨Below.refl _ w⟩⟩
  case round =>
    obtain ⟨kk, hkk, hg, rfl, HA, HB⟩ := hrel
    clear H
    by_cases hlt : kk < l.length
    · have hltz : decide ((kk : Int) < (l.length : Int)) = true := decide_eq_true (by omega)
      have p1 : 0 ≤ (kk : Int) := by omega
      have q1 : (kk : Int) < (l.length : Int) := by omega
      obtain ⟨ad, A4, c4, A5, c5, e1, g0, g1, g2, g3, g4, g5, hc4, H4, hc5, H5⟩ := at_T29 (Kd.C_below HR.out HB.out) (kk : Int) p1 q1
      cases e1
      rw [Int.toNat_natCast] at g0 g1 g2 g3 g4 g5
      have ex : l.drop kk = rd_T29 l (kk : Int) :: l.drop (kk + 1) := by
        rw [List.drop_eq_getElem_cons hlt]
        unfold rd_T29
        rw [Int.toNat_natCast, List.getD_eq_getElem?_getD, List.getElem?_eq_getElem hlt]
        rfl
      have ha := HA.out
      rw [ex] at ha
      clear HA ex
      obtain ⟨b, hb1, hb2⟩ := Option.bind_eq_some_iff.1 ha
      clear ha
      have hcall := fun W hD hM h4 h5 => listOk1_calls T HT.out (rd_T29 l (kk : Int)) A4 c4 A5 c5 b1 b2 deep room b W hD hM h4 hc4 h5 hc5 hb1
      have hcall2 := hcall _ ((HB.out.cell l1).trans HD.out) ((HB.out.cell l2).trans HM.out) H4 H5
      clear hcall hb1 H4 H5
      generalize rd_T29 l (kk : Int) = x at *
      replace p1 := eq_true p1
      replace q1 := eq_true q1
      have HC := Aside0.mk hcall2
      clear hcall2
      cases b with
      | false =>
        obtain rfl := Option.some.inj (show some false = some r by simpa using hb2)
        clear hb2
        go_wp2_with (go_at_call 71; refine HC.out.mono ?_; rintro e w' ⟨rfl, hb'⟩; have n2 := Aside0.mk (below_step HB.out hb'); clear HB HC hb' g0 g1 g2 g3 g4 g5; have HB := n2; clear n2)
        go_ret
        exact ⟨⟨(kk : Int), rfl, by rw [decide_eq_true (by omega : (0 : Int) ≤ kk)]; rfl⟩, (by repeat (first | exact HB.out | (with_reducible apply pw_below_drewN) | (with_reducible apply below_drew1) | (with_reducible apply below_alloc) | exact Below.refl _ _))⟩
      | true =>
        have HN := Aside0.mk (show listM (fun x => T x deep room) (l.drop (kk + 1)) = some r by simpa using hb2)
        clear hb2
        go_wp2_with (go_at_call 71; refine HC.out.mono ?_; rintro e w' ⟨rfl, hb'⟩; have n2 := Aside0.mk (below_step HB.out hb'); clear HB HC hb' g0 g1 g2 g3 g4 g5; have HB := n2; clear n2)
        go_roundg (l.length - (kk + 1))
        case measure => omega
        case rel => exact ⟨kk + 1, by omega, by omega, by go_num, HN, ⟨(by repeat (first | exact HB.out | (with_reducible apply pw_below_drewN) | (with_reducible apply below_drew1) | (with_reducible apply below_alloc) | exact Below.refl _ _))⟩⟩
    · have hltz : decide ((kk : Int) < (l.length : Int)) = false := decide_eq_false (by omega)
      have ha := HA.out
      rw [List.drop_of_length_le (by omega)] at ha
      obtain rfl := Option.some.inj (show some true = some r from ha)
      clear ha HA
      go_wp2
      go_ret
      exact ⟨⟨-1, rfl, by rw [decide_eq_false (by omega)]; rfl⟩, (by repeat (first | exact HB.out | (with_reducible apply pw_below_drewN) | (with_reducible apply below_drew1) | (with_reducible apply below_alloc) | exact Below.refl _ _))⟩
end Go.Proofs.Ytnjaimaaijbacaa.P
namespace Go.Proofs.Ytnjaimaaijbacaa.P
open Go.RowKit Go.Maps Go.Proofs.YtnjaimaaijbacaaW.PrintWords Go.Proofs.YtnjaimaaijbacaaW.PrintLast Go.Proofs.YtnjaimaaijbacaaW.PrintMore
attribute [local go_sem] max2_int min2_int max_two min_two max_three min_three max_four min_four
set_option linter.unusedVariables false
set_option linter.unusedSimpArgs false
theorem stAny_calls (T : S29 → Int → Int → Option Bool) (hT : SaysT T) (A : Option Addr) (c : Nat) (l : List S29) (b1 b2 : Nat) (deep room : Int) (r : Bool) (w : World)
    (hd : w.cell? ⟨b1, 0, none⟩ = some (.int .i64 deep)) (hm : w.cell? ⟨b2, 0, none⟩ = some (.int .i64 room)) (hr : Kd.C k29 w A l.length l) (h : listM (fun x => T x deep room) l = some r) :
    Calls Try.prog 70 #[.slice A l.length c, .func (.func 71) #[] #[.pointer (some ⟨b1, 0, none⟩), .pointer (some ⟨b2, 0, none⟩)]] w fun e w' => e = .returned (.bool (!r)) ∧ Below w.heap.size w w' := by
  have HI := Aside0.mk (stIdx_calls T hT A c l b1 b2 deep room r w hd hm hr h)
  clear hT hd hm hr h
  go_enter Try.func70, Try.ntmps70
  go_wp2_with (go_at_call 81; refine HI.out.mono ?_; rintro e w' ⟨⟨i, rfl, hi⟩, hb⟩; have HB := Aside0.mk hb; clear hb)
  go_ret
  exact ⟨by first | rfl | rw [hi], (by repeat (first | exact HB.out | (with_reducible apply pw_below_drewN) | (with_reducible apply below_drew1) | (with_reducible apply below_alloc) | exact Below.refl _ _))⟩
set_option maxHeartbeats 2000000 in
set_option maxRecDepth 100000 in
theorem listOk_walk (T : S29 → Int → Int → Option Bool) (hT : SaysT T) (A : Option Addr) (c : Nat) (l : List S29) (deep room : Int) (r : Bool) (w : World)
    (hr : Kd.C k29 w A l.length l) (hc : l.length ≤ c) (h : listM (fun x => T x deep room) l = some r) :
    Calls Try.prog 54 #[.slice A l.length c, .int .i64 deep, .int .i64 room] w fun e w' => e = .returned (.bool r) ∧ Below w.heap.size w w' := by
  have HT := Aside0.mk hT
  have HR := Aside0.mk hr
  have H := Aside0.mk h
  have hmf : ∀ (fn : Fn) (first cap : Array Value) (w : World), (Instr.makeFunc fn first cap).run Try.prog w = .ok (.func fn first cap) w := by
    intros
    rfl
  clear hT hr h
  go_enter Try.func54, Try.ntmps54
  go_wp2_with (go_at_call 70; refine (stAny_calls T HT.out A c l w.heap.size (w.heap.size + 1) deep room r _ (cell_of (blk_alloc (blk_new w _) _) 0 rfl) (cell_of (by rw [← size_alloc w]; exact blk_new _ _) 0 rfl) (Kd.C_alloc (Kd.C_alloc HR.out _) _) H.out).mono ?_; rintro e w' ⟨rfl, hb⟩; have HB := Aside0.mk (below_step (below_alloc (below_alloc (Below.refl _ w) _) _) hb); clear hb)
  go_ret
  exact ⟨by first | rfl | (simp; done), (by repeat (first | exact HB.out | (with_reducible apply pw_below_drewN) | (with_reducible apply below_drew1) | (with_reducible apply below_alloc) | exact Below.refl _ _))⟩
def stmtOkS : Nat → S29 → Int → Int → Option Bool
  | 0 => fun _ _ _ => none
  | k + 1 => fun s d m => stmtBody (fun l d m => listM (fun x => stmtOkS k x d m) l) s.f0 s.f1 s.f2 s.f3 s.f4 s.f5 d m
theorem stmtOkS_says : ∀ k, SaysT (stmtOkS k)
  | 0 => fun _ _ _ _ _ _ _ _ _ _ _ _ _ h => by cases h
  | k + 1 => fun x A4 c4 A5 c5 deep room r w h4 hc4 h5 hc5 h =>
    stmtOk_walk (fun l d m => listM (fun x => stmtOkS k x d m) l) (fun A c l d rm b W hC hc hl => listOk_walk (stmtOkS k) (stmtOkS_says k) A c l d rm b W hC hc hl) x.f0 x.f1 x.f2 x.f3 A4 c4 x.f4 A5 c5 x.f5 deep room r w h4 hc4 h5 hc5 h
theorem listM_mono {T T' : S29 → Option Bool} (h : ∀ x, LeO (T x) (T' x)) : ∀ l, LeO (listM T l) (listM T' l)
  | [] => LeO.refl _
  | x :: t => LeO.bind (h x) fun b => LeO.ite (listM_mono h t) (LeO.refl _)
theorem both_mono {L L' : List S29 → Int → Int → Option Bool} (h : ∀ l d m, LeO (L l d m) (L' l d m)) (l4 l5 : List S29) (d m : Int) : LeO (both L l4 l5 d m) (both L' l4 l5 d m) :=
  LeO.bind (h l4 d m) fun b => LeO.ite (h l5 d m) (LeO.refl _)
theorem stmtBody_mono {L L' : List S29 → Int → Int → Option Bool} (h : ∀ l d m, LeO (L l d m) (L' l d m)) (a0 a1 a2 a3 : Int) (l4 l5 : List S29) (d m : Int) : LeO (stmtBody L a0 a1 a2 a3 l4 l5 d m) (stmtBody L' a0 a1 a2 a3 l4 l5 d m) := by
  unfold stmtBody
  repeat' first
    | exact LeO.refl _
    | exact both_mono h _ _ _ _
    | refine LeO.ite ?_ ?_
    | refine LeO.bind (LeO.refl _) (fun _ => ?_)
theorem stmtOkS_mono : ∀ k s d m, LeO (stmtOkS k s d m) (stmtOkS (k + 1) s d m)
  | 0 => fun _ _ _ => LeO.none _
  | k + 1 => fun s d m => stmtBody_mono (fun l d m => listM_mono (fun x => stmtOkS_mono k x d m) l) _ _ _ _ _ _ _ _
def impl_listOk.f (k : Nat) (l0 : List S29) (a1 a2 : Int) : Option Bool := listM (fun x => stmtOkS k x a1 a2) l0
theorem impl_listOk.mono : ∀ a0 a1 a2 k, LeO (impl_listOk.f k a0 a1 a2) (impl_listOk.f (k + 1) a0 a1 a2) := fun a0 a1 a2 k => listM_mono (fun x => stmtOkS_mono k x a1 a2) a0
theorem impl_listOk.calls (k : Nat) (A0 : Option Addr) (c0 : Nat) (l0 : List S29) (a1 a2 : Int) (r : Bool) (w : World) (hr0 : Kd.C k29 w A0 l0.length l0) (hc0 : l0.length ≤ c0) (h : impl_listOk.f k l0 a1 a2 = some r) :
    Calls Try.prog 54 #[.slice A0 l0.length c0, .int .i64 a1, .int .i64 a2] w fun e w' => e = .returned (.bool r) ∧ Below w.heap.size w w' := listOk_walk (stmtOkS k) (stmtOkS_says k) A0 c0 l0 a1 a2 r w hr0 hc0 h
def impl_stmtOk.f (k : Nat) (a0_0 a0_1 a0_2 a0_3 : Int) (l0_4 l0_5 : List S29) (a1 a2 : Int) : Option Bool := stmtOkS k ⟨a0_0, a0_1, a0_2, a0_3, l0_4, l0_5⟩ a1 a2
theorem impl_stmtOk.mono : ∀ a0_0 a0_1 a0_2 a0_3 l0_4 l0_5 a1 a2 k, LeO (impl_stmtOk.f k a0_0 a0_1 a0_2 a0_3 l0_4 l0_5 a1 a2) (impl_stmtOk.f (k + 1) a0_0 a0_1 a0_2 a0_3 l0_4 l0_5 a1 a2) := fun _ _ _ _ _ _ a1 a2 k => stmtOkS_mono k _ a1 a2
theorem impl_stmtOk.calls (k : Nat) (a0_0 a0_1 a0_2 a0_3 : Int) (A0_4 : Option Addr) (c0_4 : Nat) (l0_4 : List S29) (A0_5 : Option Addr) (c0_5 : Nat) (l0_5 : List S29) (a1 a2 : Int) (r : Bool) (w : World)
    (hr0_4 : Kd.C k29 w A0_4 l0_4.length l0_4) (hc0_4 : l0_4.length ≤ c0_4) (hr0_5 : Kd.C k29 w A0_5 l0_5.length l0_5) (hc0_5 : l0_5.length ≤ c0_5) (h : impl_stmtOk.f k a0_0 a0_1 a0_2 a0_3 l0_4 l0_5 a1 a2 = some r) :
    Calls Try.prog 46 #[.agg #[.int .i64 a0_0, .int .i64 a0_1, .int .i64 a0_2, .int .i64 a0_3, .slice A0_4 l0_4.length c0_4, .slice A0_5 l0_5.length c0_5], .int .i64 a1, .int .i64 a2] w fun e w' => e = .returned (.bool r) ∧ Below w.heap.size w w' :=
  stmtOkS_says k ⟨a0_0, a0_1, a0_2, a0_3, l0_4, l0_5⟩ A0_4 c0_4 A0_5 c0_5 a1 a2 r w hr0_4 hc0_4 hr0_5 hc0_5 h
end Go.Proofs.Ytnjaimaaijbacaa.P
