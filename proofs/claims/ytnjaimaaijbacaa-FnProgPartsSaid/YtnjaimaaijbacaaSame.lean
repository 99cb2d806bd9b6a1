/- impl.sameStmts by its contract: its closure, the library's comparison with that closure, and the function; no condition beyond the reading of the lists. -/
import Derived.Test.YtnjaimaaijbacaaListOk
namespace Go.Proofs.Ytnjaimaaijbacaa.P
open Go.RowKit Go.Maps Go.Proofs.YtnjaimaaijbacaaW.PrintWords Go.Proofs.YtnjaimaaijbacaaW.PrintLast Go.Proofs.YtnjaimaaijbacaaW.PrintMore
attribute [local go_sem] max2_int min2_int max_two min_two max_three min_three max_four min_four
set_option linter.unusedVariables false
set_option linter.unusedSimpArgs false
def eqM {α : Type} (T : α → α → Option Bool) : List α → List α → Option Bool
  | [], _ => some true
  | x :: t, y :: u => (T x y).bind fun b => if b = true then eqM T t u else some false
  | _ :: _, [] => none
def eqL {α : Type} (T : α → α → Option Bool) (a b : List α) : Option Bool := if a.length = b.length then eqM T a b else some false
theorem eqM_mono {α : Type} {T T' : α → α → Option Bool} (h : ∀ x y, LeO (T x y) (T' x y)) : ∀ a b, LeO (eqM T a b) (eqM T' a b)
  | [], _ => LeO.refl _
  | x :: t, y :: u => LeO.bind (h x y) fun b => LeO.ite (eqM_mono h t u) (LeO.refl _)
  | _ :: _, [] => LeO.refl _
theorem eqL_mono {α : Type} {T T' : α → α → Option Bool} (h : ∀ x y, LeO (T x y) (T' x y)) (a b : List α) : LeO (eqL T a b) (eqL T' a b) := LeO.ite (eqM_mono h a b) (LeO.refl _)
def sameH (L : List S29 → List S29 → Option Bool) (x y : S29) : Option Bool :=
  if x.f0 = y.f0 then if x.f1 = y.f1 then if x.f2 = y.f2 then if x.f3 = y.f3 then (L x.f4 y.f4).bind fun b => if b = true then L x.f5 y.f5 else some false else some false else some false else some false else some false
def sameK : Nat → List S29 → List S29 → Option Bool
  | 0 => fun _ _ => none
  | k + 1 => fun a b => eqL (sameH (sameK k)) a b
theorem sameH_mono {L L' : List S29 → List S29 → Option Bool} (h : ∀ a b, LeO (L a b) (L' a b)) (x y : S29) : LeO (sameH L x y) (sameH L' x y) := by
  unfold sameH
  repeat' first
    | exact LeO.refl _
    | exact h _ _
    | refine LeO.ite ?_ ?_
    | exact LeO.bind (h _ _) (fun _ => LeO.ite (h _ _) (LeO.refl _))
theorem sameK_mono : ∀ k a b, LeO (sameK k a b) (sameK (k + 1) a b)
  | 0 => fun _ _ => LeO.none _
  | k + 1 => fun a b => eqL_mono (sameH_mono (sameK_mono k)) a b
def SaysQ (L : List S29 → List S29 → Option Bool) : Prop := ∀ (A B : Option Addr) (c d : Nat) (a b : List S29) (r : Bool) (w : World), Kd.C k29 w A a.length a → a.length ≤ c → Kd.C k29 w B b.length b → b.length ≤ d → L a b = some r →
  Calls Try.prog 61 #[.slice A a.length c, .slice B b.length d] w fun e w' => e = .returned (.bool r) ∧ Below w.heap.size w w'
set_option maxHeartbeats 4000000 in
set_option maxRecDepth 100000 in
theorem same1_calls (L : List S29 → List S29 → Option Bool) (hL : SaysQ L) (x y : S29) (A4 : Option Addr) (c4 : Nat) (A5 : Option Addr) (c5 : Nat) (B4 : Option Addr) (d4 : Nat) (B5 : Option Addr) (d5 : Nat) (r : Bool) (w : World)
    (h4 : Kd.C k29 w A4 x.f4.length x.f4) (hc4 : x.f4.length ≤ c4) (h5 : Kd.C k29 w A5 x.f5.length x.f5) (hc5 : x.f5.length ≤ c5)
    (g4 : Kd.C k29 w B4 y.f4.length y.f4) (gc4 : y.f4.length ≤ d4) (g5 : Kd.C k29 w B5 y.f5.length y.f5) (gc5 : y.f5.length ≤ d5) (h : sameH L x y = some r) :
    Calls Try.prog 77 #[.agg #[.int .i64 x.f0, .int .i64 x.f1, .int .i64 x.f2, .int .i64 x.f3, .slice A4 x.f4.length c4, .slice A5 x.f5.length c5], .agg #[.int .i64 y.f0, .int .i64 y.f1, .int .i64 y.f2, .int .i64 y.f3, .slice B4 y.f4.length d4, .slice B5 y.f5.length d5]] w fun e w' => e = .returned (.bool r) ∧ Below w.heap.size w w' := by
  have hu := Try.underlying29
  have b1 := blk_alloc (blk_new w (.cells #[.int .i64 x.f0, .int .i64 x.f1, .int .i64 x.f2, .int .i64 x.f3, .slice A4 x.f4.length c4, .slice A5 x.f5.length c5] 29)) (.cells #[.int .i64 y.f0, .int .i64 y.f1, .int .i64 y.f2, .int .i64 y.f3, .slice B4 y.f4.length d4, .slice B5 y.f5.length d5] 29)
  have b2 := blk_new (w.alloc (.cells #[.int .i64 x.f0, .int .i64 x.f1, .int .i64 x.f2, .int .i64 x.f3, .slice A4 x.f4.length c4, .slice A5 x.f5.length c5] 29)) (.cells #[.int .i64 y.f0, .int .i64 y.f1, .int .i64 y.f2, .int .i64 y.f3, .slice B4 y.f4.length d4, .slice B5 y.f5.length d5] 29)
  rw [size_alloc] at b2
  have HB1 := Aside0.mk b1
  have HB2 := Aside0.mk b2
  have HL := Aside0.mk hL
  have H4 := Aside0.mk h4
  have H5 := Aside0.mk h5
  have G4 := Aside0.mk g4
  have G5 := Aside0.mk g5
  clear b1 b2 hL h4 h5 g4 g5
  unfold sameH at h
  by_cases e0 : x.f0 = y.f0
  · rw [if_pos e0] at h
    have k0 : (x.f0 == y.f0) = true := by simpa using e0
    clear e0
    by_cases e1 : x.f1 = y.f1
    · rw [if_pos e1] at h
      have k1 : (x.f1 == y.f1) = true := by simpa using e1
      clear e1
      by_cases e2 : x.f2 = y.f2
      · rw [if_pos e2] at h
        have k2 : (x.f2 == y.f2) = true := by simpa using e2
        clear e2
        by_cases e3 : x.f3 = y.f3
        · rw [if_pos e3] at h
          have k3 : (x.f3 == y.f3) = true := by simpa using e3
          clear e3
          obtain ⟨b, hb, h⟩ := Option.bind_eq_some_iff.1 h
          have HF := Aside0.mk hb
          clear hb
          cases b with
          | false =>
            obtain rfl := Option.some.inj (show some false = some r by simpa using h)
            clear h
            go_enter Try.func77, Try.ntmps77
            go_wp2_with (go_at_call 61; refine (HL.out A4 B4 c4 d4 x.f4 y.f4 _ _ (Kd.C_alloc (Kd.C_alloc H4.out _) _) hc4 (Kd.C_alloc (Kd.C_alloc G4.out _) _) gc4 HF.out).mono ?_; rintro e w' ⟨rfl, hb⟩; have HB := Aside0.mk (below_step (below_alloc (below_alloc (Below.refl _ w) _) _) hb); clear hb HF)
            go_ret
            exact ⟨by first | rfl | (simp; done), (by repeat (first | exact HB.out | (with_reducible apply pw_below_drewN) | (with_reducible apply below_drew1) | (with_reducible apply below_alloc) | exact Below.refl _ _))⟩
          | true =>
            have HF2 := Aside0.mk (show L x.f5 y.f5 = some r by simpa using h)
            clear h
            go_enter Try.func77, Try.ntmps77
            go_wp2_with (first
              | (go_at_call 61; refine (HL.out A4 B4 c4 d4 x.f4 y.f4 _ _ (Kd.C_alloc (Kd.C_alloc H4.out _) _) hc4 (Kd.C_alloc (Kd.C_alloc G4.out _) _) gc4 HF.out).mono ?_; rintro e w' ⟨rfl, hb⟩; have HB := Aside0.mk (below_step (below_alloc (below_alloc (Below.refl _ w) _) _) hb); have c5' := cell_of (blk_below HB1.out hb) 5 rfl; have d5' := cell_of (blk_below HB2.out hb) 5 rfl; clear hb HF)
              | (go_at_call 61; refine (HL.out A5 B5 c5 d5 x.f5 y.f5 _ _ (Kd.C_below H5.out HB.out) hc5 (Kd.C_below G5.out HB.out) gc5 HF2.out).mono ?_; rintro e w' ⟨rfl, hb⟩; have n1 := Aside0.mk (below_step HB.out hb); clear HB hb HF2; have HB := n1; clear n1))
            go_ret
            exact ⟨by first | rfl | (simp; done), (by repeat (first | exact HB.out | (with_reducible apply pw_below_drewN) | (with_reducible apply below_drew1) | (with_reducible apply below_alloc) | exact Below.refl _ _))⟩
        · rw [if_neg e3] at h
          have k3 : (x.f3 == y.f3) = false := by simpa using e3
          obtain rfl := Option.some.inj h
          clear e3
          go_enter Try.func77, Try.ntmps77
          go_wp2
          go_ret
          exact ⟨by first | rfl | (simp; done), (by repeat (first | (with_reducible apply pw_below_drewN) | (with_reducible apply below_drew1) | (with_reducible apply below_alloc) | exact Below.refl _ _))⟩
      · rw [if_neg e2] at h
        have k2 : (x.f2 == y.f2) = false := by simpa using e2
        obtain rfl := Option.some.inj h
        clear e2
        go_enter Try.func77, Try.ntmps77
        go_wp2
        go_ret
        exact ⟨by first | rfl | (simp; done), (by repeat (first | (with_reducible apply pw_below_drewN) | (with_reducible apply below_drew1) | (with_reducible apply below_alloc) | exact Below.refl _ _))⟩
    · rw [if_neg e1] at h
      have k1 : (x.f1 == y.f1) = false := by simpa using e1
      obtain rfl := Option.some.inj h
      clear e1
      go_enter Try.func77, Try.ntmps77
      go_wp2
      go_ret
      exact ⟨by first | rfl | (simp; done), (by repeat (first | (with_reducible apply pw_below_drewN) | (with_reducible apply below_drew1) | (with_reducible apply below_alloc) | exact Below.refl _ _))⟩
  · rw [if_neg e0] at h
    have k0 : (x.f0 == y.f0) = false := by simpa using e0
    obtain rfl := Option.some.inj h
    clear e0
    go_enter Try.func77, Try.ntmps77
    go_wp2
    go_ret
    exact ⟨by first | rfl | (simp; done), (by repeat (first | (with_reducible apply pw_below_drewN) | (with_reducible apply below_drew1) | (with_reducible apply below_alloc) | exact Below.refl _ _))⟩
def SaysE (T : S29 → S29 → Option Bool) : Prop := ∀ (x y : S29) (A4 : Option Addr) (c4 : Nat) (A5 : Option Addr) (c5 : Nat) (B4 : Option Addr) (d4 : Nat) (B5 : Option Addr) (d5 : Nat) (r : Bool) (w : World),
    Kd.C k29 w A4 x.f4.length x.f4 → x.f4.length ≤ c4 → Kd.C k29 w A5 x.f5.length x.f5 → x.f5.length ≤ c5 → Kd.C k29 w B4 y.f4.length y.f4 → y.f4.length ≤ d4 → Kd.C k29 w B5 y.f5.length y.f5 → y.f5.length ≤ d5 → T x y = some r →
    Calls Try.prog 77 #[.agg #[.int .i64 x.f0, .int .i64 x.f1, .int .i64 x.f2, .int .i64 x.f3, .slice A4 x.f4.length c4, .slice A5 x.f5.length c5], .agg #[.int .i64 y.f0, .int .i64 y.f1, .int .i64 y.f2, .int .i64 y.f3, .slice B4 y.f4.length d4, .slice B5 y.f5.length d5]] w fun e w' => e = .returned (.bool r) ∧ Below w.heap.size w w'
theorem drop_rd (l : List S29) {i : Nat} (h : i < l.length) : l.drop i = rd_T29 l (i : Int) :: l.drop (i + 1) := by
  rw [List.drop_eq_getElem_cons h]
  unfold rd_T29
  rw [Int.toNat_natCast, List.getD_eq_getElem?_getD, List.getElem?_eq_getElem h]
  rfl
set_option maxHeartbeats 4000000 in
set_option maxRecDepth 100000 in
theorem stEq_calls (T : S29 → S29 → Option Bool) (hT : SaysE T) (A B : Option Addr) (c d : Nat) (a b : List S29) (r : Bool) (w : World) (ha : Kd.C k29 w A a.length a) (hb : Kd.C k29 w B b.length b) (h : eqL T a b = some r) :
    Calls Try.prog 76 #[.slice A a.length c, .slice B b.length d, .func (.func 77) #[] #[]] w fun e w' => e = .returned (.bool r) ∧ Below w.heap.size w w' := by
  have HT := Aside0.mk hT
  have HA := Aside0.mk ha
  have HB := Aside0.mk hb
  have H := Aside0.mk h
  have hla : a.length ≤ 9223372036854775807 := ha.2.1
  have hlb : b.length ≤ 9223372036854775807 := hb.2.1
  have hu := Try.underlying29
  clear hT ha hb h
  by_cases hn : a.length = b.length
  · have hnz : ((a.length : Int) != (b.length : Int)) = false := bne_eq_false_iff_eq.mpr (by omega)
    have h0 := H.out
    unfold eqL at h0
    rw [if_pos hn] at h0
    have H0 := Aside0.mk h0
    have HNE := Aside0.mk hn
    clear h0 H hn
    go_enter Try.func76, Try.ntmps76
    go_wp2
    go_loopg [7, 17] a.length (fun gg _ p wr => ∃ kk : Nat, kk ≤ a.length ∧ a.length - kk ≤ gg ∧ p = .int .i64 kk ∧ Aside0 (eqM T (a.drop kk) (b.drop kk) = some r) ∧ Aside0 (Below w.heap.size w wr))
    case atStart => exact ⟨0, Nat.zero_le _, by omega, rfl, H0, ⟨Below.refl _ w⟩⟩
    case round =>
      obtain ⟨kk, hkk, hg, rfl, HE, HW⟩ := hrel
      clear H0
      by_cases hlt : kk < a.length
      · have hltz : decide ((kk : Int) < (a.length : Int)) = true := decide_eq_true (by omega)
        have p1 : 0 ≤ (kk : Int) := by omega
        have q1 : (kk : Int) < (a.length : Int) := by omega
        have q2 : (kk : Int) < (b.length : Int) := by have := HNE.out; omega
        obtain ⟨ad, A4, c4, A5, c5, e1, f0, f1, f2, f3, f4, f5, hc4, H4, hc5, H5⟩ := at_T29 (Kd.C_below HA.out HW.out) (kk : Int) p1 q1
        obtain ⟨bd, B4, d4, B5, d5, e2, g0, g1, g2, g3, g4, g5, gc4, G4, gc5, G5⟩ := at_T29 (Kd.C_below HB.out HW.out) (kk : Int) p1 q2
        cases e1
        cases e2
        rw [Int.toNat_natCast] at f0 f1 f2 f3 f4 f5 g0 g1 g2 g3 g4 g5
        have he := HE.out
        rw [drop_rd a hlt, drop_rd b (by have := HNE.out; omega)] at he
        clear HE
        obtain ⟨v, hv1, hv2⟩ := Option.bind_eq_some_iff.1 he
        clear he
        generalize rd_T29 a (kk : Int) = x at *
        generalize rd_T29 b (kk : Int) = y at *
        have al : ∀ {p : Addr} {u : Value}, wr.cell? p = some u → ∀ o, (wr.alloc o).cell? p = some u := fun h o => ((below_alloc (Below.refl _ wr) o).cell (World.block_lt_of_cell? wr _ h)).trans h
        have i0 := al g0
        have i1 := al g1
        have i2 := al g2
        have i3 := al g3
        have i4 := al g4
        have i5 := al g5
        clear al g0 g1 g2 g3 g4 g5
        have HC := Aside0.mk (fun W h4 h5 g4 g5 => HT.out x y A4 c4 A5 c5 B4 d4 B5 d5 v W h4 hc4 h5 hc5 g4 gc4 g5 gc5 hv1)
        have HH := Aside0.mk (And.intro (And.intro H4 H5) (And.intro G4 G5))
        clear H4 H5 G4 G5 hv1
        replace p1 := eq_true p1
        replace q1 := eq_true q1
        replace q2 := eq_true q2
        cases v with
        | false =>
          obtain rfl := Option.some.inj (show some false = some r by simpa using hv2)
          clear hv2
          go_wp2_with (go_at_call 77; refine (HC.out _ (Kd.C_alloc (Kd.C_alloc HH.out.1.1 _) _) (Kd.C_alloc (Kd.C_alloc HH.out.1.2 _) _) (Kd.C_alloc (Kd.C_alloc HH.out.2.1 _) _) (Kd.C_alloc (Kd.C_alloc HH.out.2.2 _) _)).mono ?_; rintro e w' ⟨rfl, hb'⟩; have n2 := Aside0.mk (below_step (below_alloc (below_alloc HW.out _) _) hb'); clear HW HC hb' f0 f1 f2 f3 f4 f5 i0 i1 i2 i3 i4 i5; have HW := n2; clear n2)
          go_ret
          exact ⟨by first | rfl | (simp; done), (by repeat (first | exact HW.out | (with_reducible apply pw_below_drewN) | (with_reducible apply below_drew1) | (with_reducible apply below_alloc) | exact Below.refl _ _))⟩
        | true =>
          have HN := Aside0.mk (show eqM T (a.drop (kk + 1)) (b.drop (kk + 1)) = some r by simpa using hv2)
          clear hv2
          go_wp2_with (go_at_call 77; refine (HC.out _ (Kd.C_alloc (Kd.C_alloc HH.out.1.1 _) _) (Kd.C_alloc (Kd.C_alloc HH.out.1.2 _) _) (Kd.C_alloc (Kd.C_alloc HH.out.2.1 _) _) (Kd.C_alloc (Kd.C_alloc HH.out.2.2 _) _)).mono ?_; rintro e w' ⟨rfl, hb'⟩; have n2 := Aside0.mk (below_step (below_alloc (below_alloc HW.out _) _) hb'); clear HW HC hb' f0 f1 f2 f3 f4 f5 i0 i1 i2 i3 i4 i5; have HW := n2; clear n2)
          go_roundg (a.length - (kk + 1))
          case measure => omega
          case rel => exact ⟨kk + 1, by omega, by omega, by go_num, HN, ⟨(by repeat (first | exact HW.out | (with_reducible apply pw_below_drewN) | (with_reducible apply below_drew1) | (with_reducible apply below_alloc) | exact Below.refl _ _))⟩⟩
      · have hltz : decide ((kk : Int) < (a.length : Int)) = false := decide_eq_false (by omega)
        have he := HE.out
        rw [List.drop_of_length_le (by omega)] at he
        obtain rfl := Option.some.inj (show some true = some r from he)
        clear he HE
        go_wp2
        go_ret
        exact ⟨by first | rfl | (simp; done), (by repeat (first | exact HW.out | (with_reducible apply pw_below_drewN) | (with_reducible apply below_drew1) | (with_reducible apply below_alloc) | exact Below.refl _ _))⟩
  · have hnz : ((a.length : Int) != (b.length : Int)) = true := bne_iff_ne.mpr (by omega)
    have h0 := H.out
    unfold eqL at h0
    rw [if_neg hn] at h0
    obtain rfl := Option.some.inj h0
    clear h0 H
    go_enter Try.func76, Try.ntmps76
    go_wp2
    go_ret
    exact ⟨by first | rfl | (simp; done), (by repeat (first | (with_reducible apply pw_below_drewN) | (with_reducible apply below_drew1) | (with_reducible apply below_alloc) | exact Below.refl _ _))⟩
theorem same_walk (L : List S29 → List S29 → Option Bool) (hL : SaysQ L) : SaysQ (fun a b => eqL (sameH L) a b) := by
  intro A B c d a b r w ha hc hb hd h
  have HE := Aside0.mk (stEq_calls (sameH L) (fun x y A4 c4 A5 c5 B4 d4 B5 d5 r w h4 hc4 h5 hc5 g4 gc4 g5 gc5 h => same1_calls L hL x y A4 c4 A5 c5 B4 d4 B5 d5 r w h4 hc4 h5 hc5 g4 gc4 g5 gc5 h) A B c d a b r w ha hb h)
  clear hL ha hb h
  go_enter Try.func61, Try.ntmps61
  go_wp2_with (go_at_call 76; refine HE.out.mono ?_; rintro e w' ⟨rfl, hb⟩; have HB := Aside0.mk hb; clear hb)
  go_ret
  exact ⟨by first | rfl | (simp; done), (by repeat (first | exact HB.out | (with_reducible apply pw_below_drewN) | (with_reducible apply below_drew1) | (with_reducible apply below_alloc) | exact Below.refl _ _))⟩
theorem sameK_says : ∀ k, SaysQ (sameK k)
  | 0 => fun _ _ _ _ _ _ _ _ _ _ _ _ h => by cases h
  | k + 1 => same_walk (sameK k) (sameK_says k)
def impl_sameStmts.f (k : Nat) (l0 l1 : List S29) : Option Bool := sameK k l0 l1
theorem impl_sameStmts.mono : ∀ a0 a1 k, LeO (impl_sameStmts.f k a0 a1) (impl_sameStmts.f (k + 1) a0 a1) := fun a0 a1 k => sameK_mono k a0 a1
theorem impl_sameStmts.calls (k : Nat) (A0 : Option Addr) (c0 : Nat) (l0 : List S29) (A1 : Option Addr) (c1 : Nat) (l1 : List S29) (r : Bool) (w : World) (hr0 : Kd.C k29 w A0 l0.length l0) (hc0 : l0.length ≤ c0) (hr1 : Kd.C k29 w A1 l1.length l1) (hc1 : l1.length ≤ c1) (h : impl_sameStmts.f k l0 l1 = some r) :
    Calls Try.prog 61 #[.slice A0 l0.length c0, .slice A1 l1.length c1] w fun e w' => e = .returned (.bool r) ∧ Below w.heap.size w w' := sameK_says k A0 A1 c0 c1 l0 l1 r w hr0 hc0 hr1 hc1 h
end Go.Proofs.Ytnjaimaaijbacaa.P
